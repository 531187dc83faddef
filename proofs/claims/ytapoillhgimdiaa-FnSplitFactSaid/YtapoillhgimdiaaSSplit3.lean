/- Walks: an assertion divided by a fact: the reference. -/
import Derived.Test.YtapoillhgimdiaaSSplA
import Derived.Test.YtapoillhgimdiaaSAppF
import Derived.Test.YtapoillhgimdiaaSWeak
import Derived.Deep.CutRange
namespace Go.Proofs.Ytapoillhgimdiaa
open Go.RowKit

theorem two_at {W : World} {g : Nat} {f h : Fact} {T : TypeId} (hg : W.heap[g]? = some (.cells #[.bool f.1, .int .i64 f.2.1, .int .i64 f.2.2, .bool h.1, .int .i64 h.2.1, .int .i64 h.2.2] T (0, 0))) (k : Nat) (hk : k < 2) :
    W.cell? ⟨g, k * 3, none⟩ = some (.bool (gd [f, h] k).1) ∧ W.cell? ⟨g, k * 3 + 1, none⟩ = some (.int .i64 (gd [f, h] k).2.1) ∧ W.cell? ⟨g, k * 3 + 2, none⟩ = some (.int .i64 (gd [f, h] k).2.2) := by
  refine ⟨(cell_of_row W g _ _ _ _ hg).trans ?_, (cell_of_row W g _ _ _ _ hg).trans ?_, (cell_of_row W g _ _ _ _ hg).trans ?_⟩
  all_goals
    match k, hk with
    | 0, _ => simp [gd]
    | 1, _ => simp [gd]
theorem splitS_at {a : Asn} {f : Fact} {k : Nat} (hk : k < 2) : gd [withF a f, withF a (nF f)] k = withF a (gd [f, nF f] k) := by
  match k, hk with
  | 0, _ => rfl
  | 1, _ => rfl
set_option maxRecDepth 100000 in
set_option maxHeartbeats 6400000 in
theorem splitS_any {S1 S2 : Nat → Prop} (v1 v2 : Value) (a : Asn) (f : Fact) (w : World) (h1 : RL w S1 v1 a.1) (h2 : RL w S2 v2 a.2) :
    Calls Try.prog 66 #[.agg #[v1, v2], .agg #[.bool f.1, .int .i64 f.2.1, .int .i64 f.2.2]] w fun e w' => ∃ v, e = .returned (.tuple #[v, .bool (splitOk a f)]) ∧ RL w' (fun _ => True) v (splitR a f) ∧ Below w.heap.size w w' := by
  obtain ⟨p1, c1, rfl⟩ := h1.form
  obtain ⟨p2, c2, rfl⟩ := h2.form
  obtain ⟨w0, hw0⟩ : ∃ w0, w0 = (((w.alloc (.cells #[.slice p1 a.1.length c1, .slice p2 a.2.length c2] 33)).alloc (.cells #[.bool f.1, .int .i64 f.2.1, .int .i64 f.2.2] 83)).alloc (.cells #[] 33)) := ⟨_, rfl⟩
  have hc0 : w0.cell? ⟨w.heap.size, 0, none⟩ = some (.slice p1 a.1.length c1) := by rw [hw0]; simp [go_sem]
  have hc1 : w0.cell? ⟨w.heap.size, 1, none⟩ = some (.slice p2 a.2.length c2) := by rw [hw0]; simp [go_sem]
  have hf0 : w0.cell? ⟨w.heap.size + 1, 0, none⟩ = some (.bool f.1) := by rw [hw0]; simp [go_sem]
  have hf1 : w0.cell? ⟨w.heap.size + 1, 1, none⟩ = some (.int .i64 f.2.1) := by rw [hw0]; simp [go_sem]
  have hf2 : w0.cell? ⟨w.heap.size + 1, 2, none⟩ = some (.int .i64 f.2.2) := by rw [hw0]; simp [go_sem]
  have hz : w0.heap.size = w.heap.size + 3 := by rw [hw0]; simp
  have hW : Below w.heap.size w w0 := by rw [hw0]; exact ba (ba (below_alloc _ _) _) _
  have hE : TR w0 (w.heap.size + 2) 33 (.slice (some ⟨w.heap.size + 1 + 1, 0, none⟩) 0 0) (splitTo a f 0) := by
    have hh := own_emp ((w.alloc (.cells #[.slice p1 a.1.length c1, .slice p2 a.2.length c2] 33)).alloc (.cells #[.bool f.1, .int .i64 f.2.1, .int .i64 f.2.2] 83)) (w.heap.size + 2) 33 2 (by simp)
    rw [World.size_alloc, World.size_alloc, ← hw0] at hh
    exact TR.of hh
  have q1 := h1.keep hW
  have q2 := h2.keep hW
  have HZ := Lib.hid (And.intro hz hw0)
  clear hz hw0
  cases ha : asnB a
  · have hf : splitOk a f = false := by rw [splitOk, ha]; rfl
    have HF := Lib.hid (And.intro hf (And.intro (show splitR a f = [] by rw [splitR, hf]; rfl) ha))
    clear hf ha hE
    go_enter Try.func66, Try.ntmps66
    go_wp2_with fail
    rw [← HZ.out.2]
    refine (cb (asnValidS_any _ _ a _ q1 q2) HF.out.2.2).mono ?_
    rintro e w1 ⟨rfl, hb⟩
    go_wp2
    go_ret2
    exact ⟨_, by rw [HF.out.1]; rfl, by rw [HF.out.2.1]; exact .inl ⟨_, _, rfl, rfl, by decide, by simp⟩, bt hW hb⟩
  have HVA := Lib.hid ha
  cases hv : factB f
  · have hf : splitOk a f = false := by rw [splitOk, ha, hv]; rfl
    have HF := Lib.hid (And.intro hf (And.intro (show splitR a f = [] by rw [splitR, hf]; rfl) hv))
    clear hf ha hv hE
    go_enter Try.func66, Try.ntmps66
    go_wp2_with fail
    rw [← HZ.out.2]
    refine (cb (asnValidS_any _ _ a _ q1 q2) HVA.out).mono ?_
    rintro e w1 ⟨rfl, hb⟩
    replace hf0 := cell_keep hb hf0; replace hf1 := cell_keep hb hf1; replace hf2 := cell_keep hb hf2
    go_wp2_with fail
    refine (cb (factValidS_any f _) HF.out.2.2).mono ?_
    rintro e w2 ⟨rfl, hb2⟩
    go_wp2
    go_ret2
    exact ⟨_, by rw [HF.out.1]; rfl, by rw [HF.out.2.1]; exact .inl ⟨_, _, rfl, rfl, by decide, by simp⟩, bt hW (bt hb hb2)⟩
  have HVF := Lib.hid hv
  have hsz := asn_sz ha
  have h12 : a.1.length ≤ 12 := by simp only [asnB, factsB, Bool.and_eq_true, decide_eq_true_eq] at ha; exact ha.1.1
  by_cases hl : a.1.length = 12
  · have hf : splitOk a f = false := by rw [splitOk, ha, hv, hl]; rfl
    have HF := Lib.hid (And.intro hf (show splitR a f = [] by rw [splitR, hf]; rfl))
    have hli : (12 : Int) ≤ (a.1.length : Int) := by omega
    have HLI := Lib.hid hl
    clear hf ha hv hl hE
    go_enter Try.func66, Try.ntmps66
    go_wp2_with fail
    rw [← HZ.out.2]
    refine (cb (asnValidS_any _ _ a _ q1 q2) HVA.out).mono ?_
    rintro e w1 ⟨rfl, hb⟩
    replace hf0 := cell_keep hb hf0; replace hf1 := cell_keep hb hf1; replace hf2 := cell_keep hb hf2; replace hc0 := cell_keep hb hc0
    go_wp2_with fail
    refine (cb (factValidS_any f _) HVF.out).mono ?_
    rintro e w2 ⟨rfl, hb2⟩
    replace hc0 := cell_keep hb2 hc0
    go_wp2
    go_ret2
    exact ⟨_, by rw [HF.out.1]; rfl, by rw [HF.out.2]; exact .inl ⟨_, _, rfl, rfl, by decide, by simp⟩, bt hW (bt hb hb2)⟩
  have hok : splitOk a f = true := by rw [splitOk, ha, hv, decide_eq_false hl]; rfl
  have HOK := Lib.hid (And.intro hok (show splitR a f = splitTo a f 2 by rw [splitR, if_pos hok]))
  have hli : (a.1.length : Int) < 12 := by omega
  have HSZ := Lib.hid hsz
  clear hok ha hv hl hsz
  go_enter Try.func66, Try.ntmps66
  go_wp2_with fail
  rw [← HZ.out.2]
  refine (cb (asnValidS_any _ _ a _ q1 q2) HVA.out).mono ?_
  rintro e w1 ⟨rfl, hb⟩
  replace hf0 := cell_keep hb hf0; replace hf1 := cell_keep hb hf1; replace hf2 := cell_keep hb hf2; replace hc0 := cell_keep hb hc0; replace hc1 := cell_keep hb hc1
  replace hW := bt hW hb
  replace hE := hE.keep hb
  go_wp2_with fail
  refine (cb (factValidS_any f _) HVF.out).mono ?_
  rintro e w2 ⟨rfl, hb2⟩
  replace hf0 := cell_keep hb2 hf0; replace hf1 := cell_keep hb2 hf1; replace hf2 := cell_keep hb2 hf2; replace hc0 := cell_keep hb2 hc0; replace hc1 := cell_keep hb2 hc1
  replace hW := bt hW hb2
  replace hE := hE.keep hb2
  have hgw : w.heap.size ≤ w2.heap.size := hW.size
  obtain ⟨gT, hgT⟩ : ∃ g, g = w2.heap.size := ⟨_, rfl⟩
  have hlit : (w2.alloc (.cells #[.bool f.1, .int .i64 f.2.1, .int .i64 f.2.2, .bool (!f.1), .int .i64 f.2.1, .int .i64 f.2.2] 83)).heap[gT]? = some (.cells #[.bool f.1, .int .i64 f.2.1, .int .i64 f.2.2, .bool (nF f).1, .int .i64 (nF f).2.1, .int .i64 (nF f).2.2] 83 (0, 0)) := by rw [hgT]; exact heap_alloc_new w2 _
  have hbl := below_alloc w2 (.cells #[.bool f.1, .int .i64 f.2.1, .int .i64 f.2.2, .bool (!f.1), .int .i64 f.2.1, .int .i64 f.2.2] 83)
  have hgw2 : w.heap.size + 3 ≤ gT := by have := HZ.out.1; have := hb.size; have := hb2.size; omega
  have H0 := Lib.hid (And.intro (hE.keep hbl) (And.intro (And.intro (cell_keep hbl hc0) (cell_keep hbl hc1)) (And.intro hlit (bt hW hbl))))
  clear hb hb2 hE hlit hW hbl q1 q2
  go_wp2
  rw [← hgT]
  clear hgT
  go_loopg [6, 8] 2 (fun q x i wr => ∃ k : Nat, k + q = 2 ∧ i = .int .i64 k ∧ TR wr (w.heap.size + 2) 33 x (splitTo a f k) ∧ (wr.cell? ⟨w.heap.size, 0, none⟩ = some (.slice p1 a.1.length c1) ∧ wr.cell? ⟨w.heap.size, 1, none⟩ = some (.slice p2 a.2.length c2)) ∧
    wr.heap[gT]? = some (.cells #[.bool f.1, .int .i64 f.2.1, .int .i64 f.2.2, .bool (nF f).1, .int .i64 (nF f).2.1, .int .i64 (nF f).2.2] 83 (0, 0)) ∧ Below w.heap.size w wr)
  case atStart => exact ⟨0, by omega, rfl, H0.out⟩
  case round =>
    clear hc0 hc1 hf0 hf1 hf2 H0
    obtain ⟨k, hk, rfl, hT, ⟨hc0, hc1⟩, ht, hW⟩ := hrel
    have HK := Lib.hid hk
    have HT := Lib.hid hT
    have HTS := Lib.hid ht
    clear hk hT ht
    by_cases hk8 : k < 2
    · have hki : (k : Int) < 2 := by omega
      have hl2 := splitTo_len a f k
      obtain ⟨t0, t1, t2⟩ := two_at HTS.out k hk8
      obtain ⟨F, hF⟩ : ∃ F, gd [f, nF f] k = F := ⟨_, rfl⟩
      rw [hF] at t0 t1 t2
      have HF := Lib.hid (show gd [withF a f, withF a (nF f)] k = withF a F by rw [splitS_at hk8, hF])
      have hgr := World.block_lt_of_cell? wr _ t0
      have hwr := World.block_lt_of_cell? wr _ hc0
      simp only at hgr hwr
      obtain ⟨b, hcb⟩ : ∃ b, consB (withF a F) = b := ⟨_, rfl⟩
      have HCB := Lib.hid hcb
      obtain ⟨xa, xn, xc, rfl⟩ := HT.out.rl.forms
      clear hF hcb
      have rA : RL (wr.drew.alloc (.cells #[.bool F.1, .int .i64 F.2.1, .int .i64 F.2.2] 83)) _ (.slice (some ⟨wr.heap.size, 0, none⟩) 1 1) [F] := litF1 wr.drew wr.heap.size (by simp) F 83
      have rB : RL ((wr.drew.alloc (.cells #[.slice none 0 0, .slice none 0 0] 33)).alloc (.cells #[.bool F.1, .int .i64 F.2.1, .int .i64 F.2.2] 83)) _ (.slice (some ⟨wr.heap.size + 1, 0, none⟩) 1 1) [F] := litF1 (wr.drew.alloc (.cells #[.slice none 0 0, .slice none 0 0] 33)) (wr.heap.size + 1) (by simp) F 83
      go_upto_region 8 with fail
      go_cut [9] from 36 to 53 (fun pp wc => ∃ (g : Nat) (y1 y2 : Value), pp = .pointer (some ⟨g, 0, none⟩) ∧ (wc.cell? ⟨g, 0, none⟩ = some y1 ∧ wc.cell? ⟨g, 1, none⟩ = some y2) ∧ (RL wc (fun j => wr.heap.size ≤ j) y1 (withF a F).1 ∧ RL wc (fun j => wr.heap.size ≤ j) y2 (withF a F).2) ∧ Below wr.heap.size wr wc)
      case first =>
        go_region_held3 (fun w' => (w'.cell? ⟨w.heap.size, 0, none⟩ = some (.slice p1 a.1.length c1) ∧ w'.cell? ⟨w.heap.size, 1, none⟩ = some (.slice p2 a.2.length c2)) ∧ (w'.cell? ⟨gT, k * 3, none⟩ = some (.bool F.1) ∧ w'.cell? ⟨gT, k * 3 + 1, none⟩ = some (.int .i64 F.2.1) ∧ w'.cell? ⟨gT, k * 3 + 2, none⟩ = some (.int .i64 F.2.2)))
          (exact ⟨⟨cell_keep Bl hc0, cell_keep Bl hc1⟩, cell_keep Bl t0, cell_keep Bl t1, cell_keep Bl t2⟩)
          (first
            | (go_at_call 152; go_must (refine (l3Star_any (S3 := fun _ => True) _ _ _ _ a ([F], []) _ (h1.keep (bt hW Bl)) (h2.keep (bt hW Bl)) ?_ (RL.nil _ (fun _ => True)) HSZ.out.1 HSZ.out.2 (by simp) (by simp)).mono ?_; (focus (first | exact (rA.keep Bl).any | exact rB.any | fail)); rintro e w5 ⟨z1, z2, rfl, y1, y2, hb5'⟩; rw [List.append_nil] at y2; obtain ⟨za1, zn1, zc1, rfl⟩ := y1.forms; obtain ⟨za2, zn2, zc2, rfl⟩ := y2.forms; have hb5 : Below wr.heap.size wr w5 := bt Bl hb5'; have hz5 := hb5.size; (first | (have hT : w5.heap[wr.heap.size]? = some (.cells #[.slice none 0 0, .slice none 0 0] 33 (0, 0)) := box_keep (box_keep (heap_alloc_new wr.drew _) (below_alloc _ _)) hb5'; have ht0 := box0 hT; have ht1 := box1 hT; have htz := boxz hT; have htl := box_lt hT; clear hT) | (have hT : w5.heap[(wr.drew.alloc (.cells #[.bool F.1, .int .i64 F.2.1, .int .i64 F.2.2] 83)).heap.size]? = some (.cells #[.slice none 0 0, .slice none 0 0] 33 (0, 0)) := box_keep (heap_alloc_new (wr.drew.alloc (.cells #[.bool F.1, .int .i64 F.2.1, .int .i64 F.2.2] 83)) _) hb5'; rw [World.size_alloc, World.size_drew] at hT; have ht0 := box0 hT; have ht1 := box1 hT; have htz := boxz hT; have htl := box_lt hT; clear hT) | skip); simp only [World.size_alloc, World.size_drew] at y1 y2; clear hb5'))
            | fail)
        all_goals
          have HQ := Lib.hid (And.intro y1 y2)
          clear y1 y2 rA rB
          go_wp2
          go_meet
          case rel =>
            obtain ⟨y1, y2⟩ := HQ.out
            refine ⟨_, .slice za1 zn1 zc1, .slice za2 zn2 zc2, rfl, ⟨?_, ?_⟩, ⟨?_, ?_⟩, ?_⟩
            · first | exact (box_two _ _ ht0 ht1).1 | (simp; done) | (simp [go_sem]; done)
            · first | exact (box_two _ _ ht0 ht1).2 | (simp; done) | (simp [go_sem]; done)
            · first | exact (y1.set2 (by omega) _ _).more (fun j _ h => Nat.le_trans (by omega) h) | exact (y1.keep Bl).more fun j _ h => Nat.le_trans (by omega) h
            · first | exact (y2.set2 (by omega) _ _).more (fun j _ h => Nat.le_trans (by omega) h) | exact (y2.keep Bl).more fun j _ h => Nat.le_trans (by omega) h
            · first | (with_reducible refine Below.setCell (Below.setCell hb5 ?_ _) ?_ _ <;> first | omega | (simp; done) | (simp; omega)) | exact bt hb5 Bl
      case rest =>
        obtain ⟨gx, y1, y2, rfl, ⟨hx0, hx1⟩, ⟨r1, r2⟩, hb⟩ := hcut
        have hgx := World.block_lt_of_cell? wc _ hx0
        simp only at hgx
        obtain ⟨ya1, yc1, rfl⟩ := r1.form
        obtain ⟨ya2, yc2, rfl⟩ := r2.form
        replace hc0 := cell_keep hb hc0
        replace hc1 := cell_keep hb hc1
        have hsz := hb.size
        have HT2 := Lib.hid (HT.out.keep hb)
        have HTS2 := Lib.hid (box_keep HTS.out hb)
        replace hW := bt hW hb
        clear hb t0 t1 t2 rA rB
        go_wp2_with fail
        refine (cb (consistentS_any _ _ (withF a F) _ r1 r2) HCB.out).mono ?_
        rintro e w8 ⟨rfl, hb⟩
        have hz8 := hb.size
        replace hc0 := cell_keep hb hc0
        replace hc1 := cell_keep hb hc1
        replace hx0 := cell_keep hb hx0
        replace hx1 := cell_keep hb hx1
        have HTS3 := Lib.hid (box_keep HTS2.out hb)
        replace r1 := r1.keep hb
        replace r2 := r2.keep hb
        replace hW := bt hW hb
        cases b with
        | false =>
          have HN := Lib.hid (show TR w8 (w.heap.size + 2) 33 (.slice xa xn xc) (splitTo a f (k + 1)) by rw [splitTo_no hk8 (by rw [HF.out]; exact HCB.out)]; exact HT2.out.keep hb)
          clear hb r1 r2
          go_wp2
          go_roundg (gk - 1)
          case rel => exact ⟨k + 1, by have := HK.out; omega, by go_num, HN.out, ⟨hc0, hc1⟩, HTS3.out, hW⟩
          case measure => have := HK.out; omega
        | true =>
          have hbl := below_alloc w8 (.cells #[.slice ya1 (withF a F).1.length yc1, .slice ya2 (withF a F).2.length yc2] 33)
          have hvl := HT.out.lt
          obtain ⟨xs, hr, hx⟩ := (HT2.out.keep hb).keep hbl
          have hfo := HT2.out.rl.form
          have HX := Lib.hid (And.intro (And.intro (r1.keep hbl) (r2.keep hbl)) (And.intro hx hvl))
          have hWb := bt hW hbl
          have he0 := cell_keep hbl hc0
          have he1 := cell_keep hbl hc1
          have hxn : xn = (splitTo a f k).length := by
            obtain ⟨_, _, e⟩ := hfo
            injection e
          subst hxn
          have HBL := Lib.hid hbl
          clear hb hx r1 r2 hvl hfo hbl
          go_wp2_with (at_builtin; go_must (refine app_cells (n := (splitTo a f k).length) (m := 1) (news := [.slice ya1 (withF a F).1.length yc1, .slice ya2 (withF a F).2.length yc2]) rfl (.tmp 50) (.tmp 52) _ rfl (B := w.heap.size + 2) ti_asn rfl hr rfl rfl (news2g _ _ _ _ _ (by simp)) (one2 _ _ _ _ _ _) (by omega) (by simp; omega) ?_; intro v' w9 hr9 hf9 hl9))
          have hbn := hWb.trans (hf9.below (by simp; omega) fun j hj e => by have := (own_lt hr e).1; omega)
          have hbl2 := HBL.out
          have hTn := TR.app (m := [withF a F]) hr HX.out.2.1 hf9 hr9 hl9 (fun j hj => by
            obtain rfl : j = 0 := by simpa using hj
            refine rd_asn_mk (HX.out.1.1.more fun j _ hj => ⟨Nat.le_trans (by omega) hj, fun he => ?_⟩) (HX.out.1.2.more fun j _ hj => ⟨Nat.le_trans (by omega) hj, fun he => ?_⟩)
            · exact absurd (HX.out.2.2 j he) (Nat.not_lt.2 hj)
            · exact absurd (HX.out.2.2 j he) (Nat.not_lt.2 hj))
          have HN := Lib.hid (show TR w9 (w.heap.size + 2) 33 v' (splitTo a f (k + 1)) by rw [splitTo_yes hk8 (by rw [HF.out]; exact HCB.out), HF.out]; exact hTn)
          have hcc : ∀ {p : Addr} {u : Value}, p.block < w.heap.size + 2 → (w8.alloc (.cells #[.slice ya1 (withF a F).1.length yc1, .slice ya2 (withF a F).2.length yc2] 33)).cell? p = some u → w9.cell? p = some u := fun hp hc => hf9.cell (fun e => by have := (own_lt hr e).1; omega) hc
          have HT9 := Lib.hid (box_kept (box_keep HTS3.out hbl2) hf9 fun e => tf_ne (box_keep HTS3.out hbl2) (by decide) (row_tf hr _ e))
          clear hTn hr9 hf9 hl9 hr
          go_wp2
          go_roundg (gk - 1)
          case rel => exact ⟨k + 1, by have := HK.out; omega, by go_num, HN.out, ⟨hcc (by simp) he0, hcc (by simp) he1⟩, HT9.out, hbn⟩
          case measure => have := HK.out; omega
    · obtain rfl : k = 2 := by have := HK.out; omega
      have hT := HT.out
      obtain ⟨xa, xn, xc, rfl⟩ := hT.rl.forms
      have HN := Lib.hid hT.rl.any
      clear hT
      go_wp2
      go_ret2
      exact ⟨_, by rw [HOK.out.1]; rfl, by rw [HOK.out.2]; exact HN.out, hW⟩
end Go.Proofs.Ytapoillhgimdiaa
