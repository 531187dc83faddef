/- PEA: texts PE1, Grow, PE2 in one. -/
import Derived.Test.YtapoillhgimdiaaQPln1
import Derived.Test.YtapoillhgimdiaaQCaseD
import Derived.Test.YtapoillhgimdiaaQFam3
import Derived.Deep.CutRange
import Derived.Test.YtapoillhgimdiaaQMtcA
import Derived.Test.YtapoillhgimdiaaQImpA
import Derived.Test.YtapoillhgimdiaaQRndA
/- Walks: the proofs of all cases: the reference. -/
namespace Go.Proofs.Ytapoillhgimdiaa
open Go.RowKit

theorem RL.set2P {α : Type} [Dat α] {w : World} {B : Nat} {v : Value} {l : List α} (h : RL w (fun k => B ≤ k) v l) {R : Nat} (hR : R < B) (x y : Value) :
    RL ((w.setCell ⟨R, 0, none⟩ x).setCell ⟨R, 1, none⟩ y) (fun k => B ≤ k) v l :=
  (h.kept (fr_set w _ _) fun k _ h e => by have h2 : B ≤ k := h; have e2 : k = R := e; omega).kept (fr_set _ _ _) fun k _ h e => by have h2 : B ≤ k := h; have e2 : k = R := e; omega
theorem ti_cpf : TI 27 46 2 := ti_mk Try.underlying27 info_CaseProofS (by decide) rfl (by decide)
def provTo (a b : Asn) (k : Nat) : List CPf := ((casesL (bothM a b) a).take k).map (proveR a b)
theorem provTo_len (a b : Asn) (k : Nat) : (provTo a b k).length ≤ 100000000 := by
  rw [provTo, List.length_map, List.length_take]
  exact Nat.le_trans (Nat.min_le_right _ _) (cases_many a b)
theorem provTo_succ {a b : Asn} {cs : List (List Int)} (hcs : casesL (bothM a b) a = cs) {k : Nat} (hk : k < cs.length) : provTo a b (k + 1) = provTo a b k ++ [proveR a b (gd cs k)] := by
  subst hcs
  rw [provTo, take_gd hk, List.map_append]; rfl
set_option maxRecDepth 100000 in
set_option maxHeartbeats 6400000 in
theorem proveEntS_any {S1 S2 S3 S4 : Nat → Prop} (v1 v2 u1 u2 : Value) (a b : Asn) (w : World) (h1 : RL w S1 v1 a.1) (h2 : RL w S2 v2 a.2) (k1 : RL w S3 u1 b.1) (k2 : RL w S4 u2 b.2) :
    Calls Try.prog 19 #[.agg #[v1, v2], .agg #[u1, u2]] w fun e w' => ∃ y, e = .returned (.tuple #[y, .bool (entB a b)]) ∧ RL w' (fun k => w.heap.size ≤ k) y (provE a b) ∧ Below w.heap.size w w' := by
  obtain ⟨xa1, xc1, rfl⟩ := h1.form
  obtain ⟨xa2, xc2, rfl⟩ := h2.form
  obtain ⟨ya1, yc1, rfl⟩ := k1.form
  obtain ⟨ya2, yc2, rfl⟩ := k2.form
  obtain ⟨W, hWe⟩ : ∃ W, W = ((w.alloc (.cells #[.slice xa1 a.1.length xc1, .slice xa2 a.2.length xc2] 33)).alloc (.cells #[.slice ya1 b.1.length yc1, .slice ya2 b.2.length yc2] 33)).alloc (.cells #[] 46) := ⟨_, rfl⟩
  have hW : Below w.heap.size w W := by rw [hWe]; exact Bl
  have hc0 : W.cell? ⟨w.heap.size, 0, none⟩ = some (.slice xa1 a.1.length xc1) := by rw [hWe]; simp [go_sem]
  have hc1 : W.cell? ⟨w.heap.size, 1, none⟩ = some (.slice xa2 a.2.length xc2) := by rw [hWe]; simp [go_sem]
  have hd0 : W.cell? ⟨w.heap.size + 1, 0, none⟩ = some (.slice ya1 b.1.length yc1) := by rw [hWe]; simp [go_sem]
  have hd1 : W.cell? ⟨w.heap.size + 1, 1, none⟩ = some (.slice ya2 b.2.length yc2) := by rw [hWe]; simp [go_sem]
  have hT0 : TR W (w.heap.size + 2) 46 (.slice (some ⟨w.heap.size + 2, 0, none⟩) 0 0) (provTo a b 0) := by
    rw [hWe]
    have := own_emp ((w.alloc (.cells #[.slice xa1 a.1.length xc1, .slice xa2 a.2.length xc2] 33)).alloc (.cells #[.slice ya1 b.1.length yc1, .slice ya2 b.2.length yc2] 33)) (w.heap.size + 2) 46 2 (by simp)
    simp only [World.size_alloc] at this
    rw [show provTo a b 0 = [] by simp [provTo]]
    exact TR.of this
  have HWE := Lib.hid hWe
  have HX := Lib.hid (And.intro (And.intro hc0 hc1) (And.intro (And.intro hd0 hd1) (And.intro hW hT0)))
  clear hWe hc0 hc1 hd0 hd1 hW hT0
  cases he : entB a b with
  | false =>
    have HV := Lib.hid he
    have HR := Lib.hid (show provE a b = [] by rw [provE, he]; rfl)
    clear he
    go_enter Try.func19, Try.ntmps19
    go_upto_region 2 with fail
    rw [← HWE.out]
    obtain ⟨⟨hc0, hc1⟩, ⟨hd0, hd1⟩, hW, hT0⟩ := HX.out
    go_wp2_with fail
    refine (cb (entailsS_any _ _ _ _ a b _ (h1.keep hW) (h2.keep hW) (k1.keep hW) (k2.keep hW)) HV.out).mono ?_
    rintro e w1 ⟨rfl, hb⟩
    go_wp2
    go_ret2
    exact ⟨_, rfl, by rw [HR.out]; exact .inl ⟨_, _, rfl, rfl, by decide, by simp⟩, bt hW hb⟩
  | true =>
    obtain ⟨ha, hb0⟩ := ent_valid he
    obtain ⟨cs, hcs⟩ : ∃ cs, casesL (bothM a b) a = cs := ⟨_, rfl⟩
    have HCS := Lib.hid hcs
    have HV := Lib.hid (And.intro he (And.intro ha hb0))
    have HR := Lib.hid (show provE a b = provTo a b cs.length by rw [provE, if_pos he, provTo, hcs, List.take_length])
    clear he ha hb0 hcs
    go_enter Try.func19, Try.ntmps19
    go_upto_region 2 with fail
    rw [← HWE.out]
    obtain ⟨⟨hc0, hc1⟩, ⟨hd0, hd1⟩, hW, hT0⟩ := HX.out
    go_wp2_with fail
    refine (cb (entailsS_any _ _ _ _ a b _ (h1.keep hW) (h2.keep hW) (k1.keep hW) (k2.keep hW)) HV.out.1).mono ?_
    rintro e w1 ⟨rfl, hb⟩
    replace hT0 := hT0.keep hb
    replace hc0 := cell_keep hb hc0; replace hc1 := cell_keep hb hc1; replace hd0 := cell_keep hb hd0; replace hd1 := cell_keep hb hd1; replace hW := bt hW hb; clear hb
    have HT0 := Lib.hid hT0
    clear hT0
    go_wp2
    go_region_held3 (fun w' => (w'.cell? ⟨w.heap.size, 0, none⟩ = some (.slice xa1 a.1.length xc1) ∧ w'.cell? ⟨w.heap.size, 1, none⟩ = some (.slice xa2 a.2.length xc2)) ∧ (w'.cell? ⟨w.heap.size + 1, 0, none⟩ = some (.slice ya1 b.1.length yc1) ∧ w'.cell? ⟨w.heap.size + 1, 1, none⟩ = some (.slice ya2 b.2.length yc2)))
      (exact ⟨⟨cell_keep Bl hc0, cell_keep Bl hc1⟩, ⟨cell_keep Bl hd0, cell_keep Bl hd1⟩⟩)
      (first
        | (go_at_call 88; go_must ((with_reducible refine (l6Both_any _ _ _ _ a b _ (h1.keep (bt hW Bl)) (h2.keep (bt hW Bl)) (k1.keep (bt hW Bl)) (k2.keep (bt hW Bl)) HV.out.2.1 HV.out.2.2).mono ?_); rintro e w2 ⟨vT, rfl, hT, hbT'⟩; have hbT : Below w1.heap.size w1 w2 := bt Bl hbT'; have HT := Lib.hid hT; clear hT))
        | (go_at_call 87; go_must ((with_reducible refine (l5All_any _ _ _ (bothM a b) _ _ a _ (h1.keep (bt hW (bt hbT Bl))) (h2.keep (bt hW (bt hbT Bl))) (own_keep HT.out Bl) HV.out.2.1 (cov_both a b) (both_zero a b) (fun j hj => both_pos hj)).mono ?_); rintro e w3 ⟨vC, rfl, hC, hbC'⟩; have hbC : Below w1.heap.size w1 w3 := bt (bt hbT Bl) hbC')))
    all_goals
      rw [HCS.out] at hC
      obtain ⟨ca, cc, rfl⟩ := hC.form
      have hCr := hC.read
      have hcm := hCr.len
      unfold maxLen at hcm
      replace hc0 := cell_keep hbC hc0
      replace hc1 := cell_keep hbC hc1
      replace hd0 := cell_keep hbC hd0
      replace hd1 := cell_keep hbC hd1
      replace hW := bt hW hbC
      have hTC := HT0.out.keep hbC
      have hz1 : w.heap.size + 2 < w1.heap.size := (HT0.out.lt (w.heap.size + 2) rfl)
      have hCs := hCr.more (S' := fun k => w1.heap.size ≤ k ∧ k < w3.heap.size) fun k hk h => ⟨by have := hbT.size; first | omega | (simp at h; omega), hk⟩
      have hz3 := hbC.size
      have HC := Lib.hid (And.intro hCs (And.intro (And.intro (And.intro hc0 hc1) (And.intro hd0 hd1)) (And.intro hW hTC)))
      clear hbT hbT' hbC hbC' hC hCr hc0 hc1 hd0 hd1 hW HT HT0 hTC hCs
      go_wp2
      go_loopg [6, 8] cs.length (fun q x i wr => ∃ k : Nat, k + q = cs.length ∧ i = .int .i64 k ∧ TR wr (w.heap.size + 2) 46 x (provTo a b k) ∧ (∀ j, some j = x.ownBlock → j = w.heap.size + 2 ∨ w3.heap.size ≤ j) ∧ RL wr (fun k => w1.heap.size ≤ k ∧ k < w3.heap.size) (.slice ca cs.length cc) cs ∧ ((wr.cell? ⟨w.heap.size, 0, none⟩ = some (.slice xa1 a.1.length xc1) ∧ wr.cell? ⟨w.heap.size, 1, none⟩ = some (.slice xa2 a.2.length xc2)) ∧ (wr.cell? ⟨w.heap.size + 1, 0, none⟩ = some (.slice ya1 b.1.length yc1) ∧ wr.cell? ⟨w.heap.size + 1, 1, none⟩ = some (.slice ya2 b.2.length yc2))) ∧ Below w.heap.size w wr ∧ w3.heap.size ≤ wr.heap.size)
      case atStart => exact ⟨0, by omega, rfl, HC.out.2.2.2, fun j hj => .inl (Option.some.inj hj), HC.out.1, HC.out.2.1, HC.out.2.2.1, Nat.le_refl _⟩
      case round =>
        obtain ⟨k, hk, rfl, hT, hne, hcl, ⟨⟨hc0, hc1⟩, ⟨hd0, hd1⟩⟩, hW, hz⟩ := hrel
        have HK := Lib.hid hk
        have HT := Lib.hid hT
        have HNE := Lib.hid hne
        have HCL := Lib.hid hcl
        clear hk hT hne hcl
        obtain ⟨xa, xn, xc, rfl⟩ := HT.out.rl.forms
        by_cases hk8 : k < cs.length
        · have i1 : (k : Int) < (cs.length : Int) := by omega
          have hl2 := provTo_len a b k
          obtain ⟨ca', cc', hce, _, _, hcf⟩ := HCL.out.listAt
          simp only [Value.slice.injEq] at hce
          obtain ⟨rfl, _, rfl⟩ := hce
          obtain ⟨b2, o2, x3, rfl, _, hz2, hp3, r3⟩ := hcf k hk8
          obtain ⟨x3a, x3c, rfl⟩ := r3.form
          clear hcf
          have HTK := Lib.hid (provTo_succ HCS.out hk8)
          obtain ⟨p, hp⟩ : ∃ p, proveR a b (gd cs k) = p := ⟨_, rfl⟩
          have HP := Lib.hid hp
          clear hp
          have q1 := h1.keep hW
          have q2 := h2.keep hW
          have q3 := k1.keep hW
          have q4 := k2.keep hW
          go_upto_region 8 with fail
          go_cut [9] from 22 to 41 (fun pp wc => ∃ (g : Nat) (y1 y2 : Value), pp = .pointer (some ⟨g, 0, none⟩) ∧ (wc.cell? ⟨g, 0, none⟩ = some y1 ∧ wc.cell? ⟨g, 1, none⟩ = some y2) ∧ (RL wc (fun j => wr.heap.size ≤ j) y1 p.1 ∧ RL wc (fun j => wr.heap.size ≤ j) y2 p.2) ∧ Below wr.heap.size wr wc)
          case first =>
            go_region_held3 (fun w' => ((w'.cell? ⟨w.heap.size, 0, none⟩ = some (.slice xa1 a.1.length xc1) ∧ w'.cell? ⟨w.heap.size, 1, none⟩ = some (.slice xa2 a.2.length xc2)) ∧ (w'.cell? ⟨w.heap.size + 1, 0, none⟩ = some (.slice ya1 b.1.length yc1) ∧ w'.cell? ⟨w.heap.size + 1, 1, none⟩ = some (.slice ya2 b.2.length yc2))) ∧ w'.cell? ⟨b2, o2 + k, none⟩ = some (.slice x3a (gd cs k).length x3c))
              (exact ⟨⟨⟨cell_keep Bl hc0, cell_keep Bl hc1⟩, ⟨cell_keep Bl hd0, cell_keep Bl hd1⟩⟩, cell_keep Bl hp3⟩)
              (first
                | (go_at_call 29; go_must (refine (proveS_any _ _ _ _ _ a b (gd cs k) _ (q1.keep Bl) (q2.keep Bl) (q3.keep Bl) (q4.keep Bl) (r3.keep Bl)).mono ?_; rw [HP.out]; rintro e w5 ⟨y1, y2, rfl, ⟨t1, t2⟩, hb5'⟩; obtain ⟨za1, zc1, rfl⟩ := t1.form; obtain ⟨za2, zc2, rfl⟩ := t2.form; have hb5 : Below wr.heap.size wr w5 := bt Bl hb5'; have hz5 := hb5.size; (first | (have hTT : w5.heap[wr.heap.size]? = some (.cells #[.slice none 0 0, .slice none 0 0] 46 (0, 0)) := box_keep (heap_alloc_new wr.drew _) hb5'; have ht0 := box0 hTT; have ht1 := box1 hTT; have htz := boxz hTT; have htl := box_lt hTT; clear hTT) | skip); (try simp only [World.size_alloc, World.size_drew] at t1 t2); clear hb5'))
                | fail)
            all_goals
              have HQ := Lib.hid (And.intro t1 t2)
              clear t1 t2
              go_wp2
              go_meet
              case rel =>
                obtain ⟨t1, t2⟩ := HQ.out
                refine ⟨_, .slice za1 p.1.length zc1, .slice za2 p.2.length zc2, rfl, ⟨?_, ?_⟩, ⟨?_, ?_⟩, ?_⟩
                · first | exact (box_two _ _ ht0 ht1).1 | (simp; done) | (simp [go_sem]; done)
                · first | exact (box_two _ _ ht0 ht1).2 | (simp; done) | (simp [go_sem]; done)
                · first | exact (t1.set2P (by omega) _ _).more (fun j _ h => Nat.le_trans (by omega) h) | exact (t1.keep Bl).more fun j _ h => Nat.le_trans (by omega) h
                · first | exact (t2.set2P (by omega) _ _).more (fun j _ h => Nat.le_trans (by omega) h) | exact (t2.keep Bl).more fun j _ h => Nat.le_trans (by omega) h
                · first | (with_reducible refine Below.setCell (Below.setCell hb5 ?_ _) ?_ _ <;> first | omega | (simp; done) | (simp; omega)) | exact bt hb5 Bl
          case rest =>
            obtain ⟨gx, y1, y2, rfl, ⟨hx0, hx1⟩, ⟨r1, r2⟩, hb⟩ := hcut
            have hgx := World.block_lt_of_cell? wc _ hx0
            simp only at hgx
            obtain ⟨ya1', yc1', rfl⟩ := r1.form
            obtain ⟨ya2', yc2', rfl⟩ := r2.form
            have hsz := hb.size
            have hvl := HT.out.lt
            have hbl := below_alloc wc (.cells #[.slice ya1' p.1.length yc1', .slice ya2' p.2.length yc2'] 46)
            have hbb := bt hb hbl
            obtain ⟨xs, hr, hx⟩ := HT.out.keep hbb
            have hfo := HT.out.rl.form
            have hxn : xn = (provTo a b k).length := by
              obtain ⟨_, _, e⟩ := hfo
              injection e
            subst hxn
            have HX2 := Lib.hid (And.intro (And.intro (r1.keep hbl) (r2.keep hbl)) (And.intro hx hvl))
            have HB2 := Lib.hid (And.intro (cell_keep hbb hc0) (And.intro (cell_keep hbb hc1) (And.intro (cell_keep hbb hd0) (And.intro (cell_keep hbb hd1) (And.intro (HCL.out.keep hbb) (bt hW hbb))))))
            clear hb r1 r2 hvl hfo hbl hbb hx q1 q2 q3 q4 hc0 hc1 hd0 hd1 hp3 r3 hW
            go_wp2_with (at_builtin; go_must (refine app_cells (n := (provTo a b k).length) (m := 1) (news := [.slice ya1' p.1.length yc1', .slice ya2' p.2.length yc2']) rfl (.tmp 38) (.tmp 40) _ rfl (B := w.heap.size + 2) ti_cpf rfl hr rfl rfl (news2g _ _ _ _ _ (by simp)) (one2 _ _ _ _ _ _) (by omega) (by simp; omega) ?_; intro v' w9 hr9 hf9 hl9))
            obtain ⟨e0, e1, e2, e3, e4, e5⟩ := HB2.out
            have hbn := e5.trans (hf9.below (by simp; omega) fun j hj e => by have := (own_lt hr e).1; omega)
            have hTn := TR.app (m := [p]) hr HX2.out.2.1 hf9 hr9 hl9 (fun j hj => by
              obtain rfl : j = 0 := by simpa using hj
              refine rd_cpf_mk (HX2.out.1.1.more fun j _ hj => ⟨Nat.le_trans (by omega) hj, fun he => ?_⟩) (HX2.out.1.2.more fun j _ hj => ⟨Nat.le_trans (by omega) hj, fun he => ?_⟩)
              · exact absurd (HX2.out.2.2 j he) (Nat.not_lt.2 hj)
              · exact absurd (HX2.out.2.2 j he) (Nat.not_lt.2 hj))
            have HN := Lib.hid (show TR w9 (w.heap.size + 2) 46 v' (provTo a b (k + 1)) by rw [HTK.out, HP.out]; exact hTn)
            have hlo := fun j (e : some j = (Value.slice xa (provTo a b k).length xc).ownBlock) => HNE.out j e
            have hcc : ∀ {p : Addr} {u : Value}, p.block < w.heap.size + 2 → (wc.alloc (.cells #[.slice ya1' (_ : List Int).length yc1', .slice ya2' (_ : List (List Int)).length yc2'] 46)).cell? p = some u → w9.cell? p = some u := fun hp hc => hf9.cell (fun e => by have := (own_lt hr e).1; omega) hc
            have HE := Lib.hid (And.intro (And.intro (And.intro (hcc (by simp) e0) (hcc (by simp) e1)) (And.intro (hcc (by simp) e2) (hcc (by simp) e3))) (And.intro (e4.kept hf9 (fun j _ hj e => by have := hlo j e; omega)) (And.intro hbn (And.intro (show ∀ j, some j = v'.ownBlock → j = w.heap.size + 2 ∨ w3.heap.size ≤ j from fun j hj => by
              rcases hl9 with h | h
              · exact hlo j (hj.trans h)
              · rw [h] at hj
                have := Option.some.inj hj
                simp at this
                omega) (show w3.heap.size ≤ w9.heap.size by have := hf9.size; simp at this; omega)))))
            clear hTn hr9 hf9 hl9 hr hcc hlo e0 e1 e2 e3 e4 e5 hbn
            go_wp2
            go_roundg (gk - 1)
            case rel => exact ⟨k + 1, by have := HK.out; omega, by go_num, HN.out, HE.out.2.2.2.1, HE.out.2.1, HE.out.1, HE.out.2.2.1, HE.out.2.2.2.2⟩
            case measure => have := HK.out; omega
        · obtain rfl : k = cs.length := by have := HK.out; omega
          have HN := Lib.hid (HT.out.rl.more (S' := fun k => w.heap.size ≤ k) fun j _ h => by omega)
          go_wp2
          go_ret2
          exact ⟨_, rfl, by rw [HR.out]; exact HN.out, hW⟩
end Go.Proofs.Ytapoillhgimdiaa
/- An owned list has grown by one: where its blocks lie. -/
namespace Go.Proofs.Ytapoillhgimdiaa
open Go.RowKit

theorem OL.grow {α : Type} [Own α] [Tid α] {w0 w2 : World} {B : Nat} {v : Value} {l : List α} {f : List Nat} {T : Nat → Prop} (h : OL w0 B v l f) (hn : f.Nodup) (hf0 : Fr T w0 w2) (hT : ∀ k ∈ f, ¬ T k) (hB : B ≤ w0.heap.size) :
    ∃ xs, w2.ownsRow B (Tid.tid α) (Dat.sz α) v l.length xs ∧ ∀ (x : α) (cs : List Value) (fx : List Nat) (v' : Value) (w3 : World), Own.own w2 w0.heap.size x cs fx → fx.Nodup → Fr (fun k => some k = v.ownBlock) w2 w3 →
      w3.ownsRow B (Tid.tid α) (Dat.sz α) v' (l.length + 1) (xs ++ cs) → (v'.ownBlock = v.ownBlock ∨ v'.ownBlock = some w2.heap.size) → ∃ f', OL w3 B v' (l ++ [x]) f' ∧ f'.Nodup ∧ ∀ k ∈ f', k ∈ f ∨ w0.heap.size ≤ k := by
  obtain ⟨xs, fps, hr, hfl, rfl, ho⟩ := h
  have hr2 := own_kept hr hf0 (fun k hk => hT k (List.mem_append_left _ (mem_ownBlock.2 hk)))
  refine ⟨xs, hr2, fun x cs fx v' w3 hx hfx hf hr3 hlie => ?_⟩
  have ho2 : ∀ i, i < l.length → Own.own w2 B (gd l i) (nth (Dat.sz α) xs i) (gd fps i) := fun i hi => Own.okept (ho i hi) hf0 fun k hk => hT k (List.mem_append_right _ (mem_flat (by omega) hk))
  have hlt1 : ∀ k ∈ fps.flatten, k < w0.heap.size := fun k hk => by
    obtain ⟨i, hi, hm⟩ := flat_mem hk
    exact (Own.lt (ho i (by omega)) k hm).2
  have hlt2 : ∀ k ∈ fx, w0.heap.size ≤ k ∧ k < w2.heap.size := fun k hk => Own.lt hx k hk
  have hn0 := List.nodup_append.1 hn
  have hz := hf0.size
  have hvl : ∀ k, some k = v.ownBlock → k < w0.heap.size := fun k hk => (own_lt hr hk).2
  refine ⟨v'.ownBlock.toList ++ (fps ++ [fx]).flatten, ⟨xs ++ cs, fps ++ [fx], by rw [List.length_append]; exact hr3, by simp [hfl], rfl, fun i hi => ?_⟩, ?_, ?_⟩
  · rw [List.length_append, List.length_singleton] at hi
    by_cases hlt : i < l.length
    · rw [gd_app1 hlt, gd_app1 (by omega), nth_app1 hr.1 hlt]
      refine Own.okept (ho2 i hlt) hf fun k hk e => ?_
      exact hn0.2.2 k (mem_ownBlock.2 e) k (mem_flat (by omega) hk) rfl
    · obtain rfl : i = l.length := by omega
      rw [gd_snoc, nth_app2 hr.1 (Dat.len (Own.read hx)), ← hfl, gd_snoc]
      exact Own.mono (Own.okept hx hf fun k hk e => by have := hvl k e; have := (hlt2 k hk).1; omega) hB
  · rw [List.flatten_append, List.flatten_cons, List.flatten_nil, List.append_nil]
    refine List.nodup_append.2 ⟨nodup_own v', List.nodup_append.2 ⟨hn0.2.1, hfx, fun a ha b hb e => by
      have := hlt1 a ha
      have := (hlt2 b hb).1
      omega⟩, fun a ha b hb2 e => ?_⟩
    subst e
    have ha' := mem_ownBlock.1 ha
    rcases hlie with h | h
    · rw [h] at ha'
      rcases List.mem_append.1 hb2 with hm | hm
      · exact hn0.2.2 a (mem_ownBlock.2 ha') a hm rfl
      · have := hvl a ha'
        have := (hlt2 a hm).1
        omega
    · rw [h] at ha'
      injection ha' with ha'
      rcases List.mem_append.1 hb2 with hm | hm
      · have := hlt1 a hm; omega
      · have := (hlt2 a hm).2; omega
  · intro k hk
    rw [List.flatten_append, List.flatten_cons, List.flatten_nil, List.append_nil] at hk
    rcases List.mem_append.1 hk with hk | hk
    · have hk' := mem_ownBlock.1 hk
      rcases hlie with h | h
      · rw [h] at hk'
        exact .inl (List.mem_append_left _ (mem_ownBlock.2 hk'))
      · rw [h] at hk'
        injection hk' with hk'
        right; omega
    · rcases List.mem_append.1 hk with hk | hk
      · exact .inl (List.mem_append_right _ hk)
      · exact .inr (hlt2 k hk).1
end Go.Proofs.Ytapoillhgimdiaa
/- Walks: the proofs of all cases: the program. -/
namespace Go.Proofs.Ytapoillhgimdiaa
open Go Go.RowKit

theorem load_cpfs {W : World} {g : Nat} {a : Option Addr} {n c : Nat} (h : W.cell? ⟨g, 0, none⟩ = some (.slice a n c)) : (loadVar 27 ⟨g, 0, none⟩).run Try.prog W = .ok (.slice a n c) W := by
  simp [go_sem, h]
attribute [local go_sem] Oper.semAt_some
/-- The two result variables behind a loop: a list of proofs, a bool. -/
theorem res_cpfs {P : Program} {fn : Func} {p q : Tmp} (h : fn.results = #[.cell p 27, .cell q 4]) {tmps : Array Value} {W : World} {D g1 g2 : Nat} {a : Option Addr} {n c : Nat} {b : Bool} (hP : P = Try.prog)
    (hp : tmps.getD p undef = .pointer (some ⟨g1, 0, none⟩)) (hq : tmps.getD q undef = .pointer (some ⟨g2, 0, none⟩)) (h1 : W.cell? ⟨g1, 0, none⟩ = some (.slice a n c)) (h2 : W.cell? ⟨g2, 0, none⟩ = some (.bool b)) (d1 : ¬ g1 = D) (d2 : ¬ g2 = D) :
    (results fn tmps).run P (W.putObj D (.deferred none)) = .ok (.tuple #[.slice a n c, .bool b]) (W.putObj D (.deferred none)) := by
  subst hP
  exact results_cells2 h hp hq (load_cpfs ((fr_put W D _).cell d1 h1)) (load_bool ((fr_put W D _).cell d2 h2))
set_option linter.unusedSimpArgs false in
set_option maxRecDepth 100000 in
set_option maxHeartbeats 6400000 in
theorem proveEntI_any {S1 S2 S3 S4 : Nat → Prop} (v1 v2 u1 u2 : Value) (a b : Asn) (w : World) (h1 : RL w S1 v1 a.1) (h2 : RL w S2 v2 a.2) (k1 : RL w S3 u1 b.1) (k2 : RL w S4 u2 b.2) :
    Calls Try.prog 21 #[.agg #[v1, v2], .agg #[u1, u2]] w fun e w' => ∃ y, e = .returned (.tuple #[y, .bool (entB a b)]) ∧ OO w' w.heap.size y (provE a b) ∧ Below w.heap.size w w' := by
  obtain ⟨xa1, xc1, rfl⟩ := h1.form
  obtain ⟨xa2, xc2, rfl⟩ := h2.form
  obtain ⟨ya1, yc1, rfl⟩ := k1.form
  obtain ⟨ya2, yc2, rfl⟩ := k2.form
  obtain ⟨w0, hw0⟩ : ∃ w0, w0 = ((((w.alloc (.cells #[.slice xa1 a.1.length xc1, .slice xa2 a.2.length xc2] 33)).alloc (.cells #[.slice ya1 b.1.length yc1, .slice ya2 b.2.length yc2] 33)).alloc (.cells #[.slice none 0 0] 27)).alloc (.cells #[.bool false] 4)) := ⟨_, rfl⟩
  have hc0 : w0.cell? ⟨w.heap.size, 0, none⟩ = some (.slice xa1 a.1.length xc1) := by rw [hw0]; simp [go_sem]
  have hc1 : w0.cell? ⟨w.heap.size, 1, none⟩ = some (.slice xa2 a.2.length xc2) := by rw [hw0]; simp [go_sem]
  have hd0 : w0.cell? ⟨w.heap.size + 1, 0, none⟩ = some (.slice ya1 b.1.length yc1) := by rw [hw0]; simp [go_sem]
  have hd1 : w0.cell? ⟨w.heap.size + 1, 1, none⟩ = some (.slice ya2 b.2.length yc2) := by rw [hw0]; simp [go_sem]
  have hr1 : w0.heap[w.heap.size + 1 + 1]? = some (.cells #[.slice none 0 0] 27 (0, 0)) := by
    rw [hw0]
    have := heap_alloc_new ((w.alloc (.cells #[.slice xa1 a.1.length xc1, .slice xa2 a.2.length xc2] 33)).alloc (.cells #[.slice ya1 b.1.length yc1, .slice ya2 b.2.length yc2] 33)) (.cells #[.slice none 0 0] 27)
    simp only [World.size_alloc] at this
    exact box_keep this (below_alloc _ _)
  have hr2 : w0.heap[w.heap.size + 1 + 1 + 1]? = some (.cells #[.bool false] 4 (0, 0)) := by
    rw [hw0]
    have := heap_alloc_new (((w.alloc (.cells #[.slice xa1 a.1.length xc1, .slice xa2 a.2.length xc2] 33)).alloc (.cells #[.slice ya1 b.1.length yc1, .slice ya2 b.2.length yc2] 33)).alloc (.cells #[.slice none 0 0] 27)) (.cells #[.bool false] 4)
    simpa only [World.size_alloc] using this
  have hz : w0.heap.size = w.heap.size + 4 := by rw [hw0]; simp
  have hW : Below w.heap.size w w0 := by rw [hw0]; exact ba (ba (ba (below_alloc _ _) _) _) _
  have q1 := h1.keep hW
  have q2 := h2.keep hW
  have q3 := k1.keep hW
  have q4 := k2.keep hW
  have HZ := Lib.hid (And.intro hz hw0)
  clear hz hw0
  have HEND : ∀ {W : World}, entB a b = false → Below w.heap.size w W → ∃ y, Ending.returned (.tuple #[.slice none 0 0, .bool false]) = .returned (.tuple #[y, .bool (entB a b)]) ∧ OO ((W.setCell ⟨w.heap.size + 1 + 1, 0, none⟩ (.slice none 0 0)).setCell ⟨w.heap.size + 1 + 1 + 1, 0, none⟩ (.bool false)) w.heap.size y (provE a b) ∧ Below w.heap.size w ((W.setCell ⟨w.heap.size + 1 + 1, 0, none⟩ (.slice none 0 0)).setCell ⟨w.heap.size + 1 + 1 + 1, 0, none⟩ (.bool false)) := fun he hb =>
    ⟨_, by rw [he], by rw [provE, he]; exact OO.nil _ _, (hb.setCell (by simp; omega) _).setCell (by simp; omega) _⟩
  cases ha : asnB a
  · have HF := Lib.hid (And.intro (show entB a b = false by rw [entB, ha]; rfl) ha)
    clear ha
    go_enter Try.func21, Try.ntmps21
    go_wp2_with fail
    rw [← HZ.out.2]
    refine (cb (asnValidI_any _ _ a _ q1 q2) HF.out.2).mono ?_
    rintro e w1 ⟨rfl, hb⟩
    have hg1 := box_keep hr1 hb
    have hg2 := box_keep hr2 hb
    have c0 := cell_of_row _ _ 0 _ _ _ hg1
    have cz := frozen_of_row _ _ 0 _ _ hg1
    have cl := box_lt hg1
    have d0 := cell_of_row _ _ 0 _ _ _ hg2
    have dz := frozen_of_row _ _ 0 _ _ hg2
    have dl := box_lt hg2
    clear hg1 hg2
    go_wp2
    refine bodyPost_ret (v := .tuple #[.slice none 0 0, .bool false]) (by simp [results, Try.results21, go_sem, c0, d0]) rfl ?_
    exact HEND HF.out.1 (bt hW hb)
  have HVA := Lib.hid ha
  cases hv : asnB b
  · have HF := Lib.hid (And.intro (show entB a b = false by rw [entB, ha, hv]; rfl) hv)
    clear ha hv
    go_enter Try.func21, Try.ntmps21
    go_wp2_with fail
    rw [← HZ.out.2]
    refine (cb (asnValidI_any _ _ a _ q1 q2) HVA.out).mono ?_
    rintro e w1 ⟨rfl, hb⟩
    replace hd0 := cell_keep hb hd0; replace hd1 := cell_keep hb hd1
    go_wp2_with fail
    refine (cb (asnValidI_any _ _ b _ (q3.keep hb) (q4.keep hb)) HF.out.2).mono ?_
    rintro e w2 ⟨rfl, hb2⟩
    have hg1 := box_keep (box_keep hr1 hb) hb2
    have hg2 := box_keep (box_keep hr2 hb) hb2
    have c0 := cell_of_row _ _ 0 _ _ _ hg1
    have cz := frozen_of_row _ _ 0 _ _ hg1
    have cl := box_lt hg1
    have d0 := cell_of_row _ _ 0 _ _ _ hg2
    have dz := frozen_of_row _ _ 0 _ _ hg2
    have dl := box_lt hg2
    clear hg1 hg2
    go_wp2
    refine bodyPost_ret (v := .tuple #[.slice none 0 0, .bool false]) (by simp [results, Try.results21, go_sem, c0, d0]) rfl ?_
    exact HEND HF.out.1 (bt hW (bt hb hb2))
  have HVB := Lib.hid hv
  clear HEND
  have htm := termsM_lt b
  obtain ⟨r, hr⟩ : ∃ r, entB a b = r := ⟨_, rfl⟩
  rw [hr]
  have HR := Lib.hid hr
  clear ha hv hr
  refine calls_of_marks Try.func21 rfl ?_
  simp only [Try.ntmps21, List.size_toArray, List.length_cons, List.length_nil, Nat.reduceAdd, Nat.reduceSub, Array.replicate_succ, Array.replicate_zero, List.push_toArray, List.append_toArray, List.nil_append, List.cons_append]
  go_wp2_with fail
  rw [← HZ.out.2]
  refine (cb (asnValidI_any _ _ a _ q1 q2) HVA.out).mono ?_
  rintro e w1 ⟨rfl, hb⟩
  replace hc0 := cell_keep hb hc0; replace hc1 := cell_keep hb hc1; replace hd0 := cell_keep hb hd0; replace hd1 := cell_keep hb hd1
  replace hr1 := box_keep hr1 hb
  replace hr2 := box_keep hr2 hb
  replace hW := bt hW hb
  replace q3 := q3.keep hb; replace q4 := q4.keep hb
  go_wp2_with fail
  refine (cb (asnValidI_any _ _ b _ q3 q4) HVB.out).mono ?_
  rintro e w2 ⟨rfl, hb2⟩
  replace hc0 := cell_keep hb2 hc0; replace hc1 := cell_keep hb2 hc1; replace hd0 := cell_keep hb2 hd0; replace hd1 := cell_keep hb2 hd1
  replace hr1 := box_keep hr1 hb2
  replace hr2 := box_keep hr2 hb2
  replace hW := bt hW hb2
  have hz2 : w.heap.size + 4 ≤ w2.heap.size := by have := HZ.out.1; have := hb.size; have := hb2.size; omega
  clear hb hb2 q1 q2 q3 q4
  go_upto_region 4 with fail
  have hgn := heap_alloc_new w2 (.cells #[.slice none 0 0] 27)
  have hbn := below_alloc w2 (.cells #[.slice none 0 0] 27)
  have hzn : (w2.alloc (.cells #[.slice none 0 0] 27)).heap.size = w2.heap.size + 1 := by simp
  generalize w2.alloc (.cells #[.slice none 0 0] 27) = wN at hgn hbn hzn ⊢
  replace hc0 := cell_keep hbn hc0; replace hc1 := cell_keep hbn hc1; replace hd0 := cell_keep hbn hd0; replace hd1 := cell_keep hbn hd1
  replace hr1 := box_keep hr1 hbn
  replace hr2 := box_keep hr2 hbn
  replace hW := bt hW hbn
  obtain ⟨nx, hnx⟩ : ∃ nx, w2.heap.size = nx := ⟨_, rfl⟩
  rw [hnx] at hgn hzn hz2 ⊢
  clear hbn hnx
  go_region_held3 (fun w' => (w'.cell? ⟨w.heap.size, 0, none⟩ = some (.slice xa1 a.1.length xc1) ∧ w'.cell? ⟨w.heap.size, 1, none⟩ = some (.slice xa2 a.2.length xc2)) ∧ (w'.cell? ⟨w.heap.size + 1, 0, none⟩ = some (.slice ya1 b.1.length yc1) ∧ w'.cell? ⟨w.heap.size + 1, 1, none⟩ = some (.slice ya2 b.2.length yc2)))
    (exact ⟨⟨cell_keep Bl hc0, cell_keep Bl hc1⟩, cell_keep Bl hd0, cell_keep Bl hd1⟩)
    (first
      | (go_at_call 92; (with_reducible refine (termsIn_any _ _ b _ (k1.keep (bt hW Bl)) (k2.keep (bt hW Bl))).mono ?_); rintro e w5 ⟨rfl, hb5'⟩; have hb5 : Below wN.heap.size wN w5 := bt Bl hb5')
      | (go_at_call 91; go_must (refine (possibleCases_any _ _ a (termsM b) _ (h1.keep (bt hW (bt hb5 Bl))) (h2.keep (bt hW (bt hb5 Bl))) htm).mono ?_; rintro e w3 ⟨b1, b2, rfl, hb1, hb2x, c0, c1, c2, hb⟩; have hb3 : Below wN.heap.size wN w3 := bt (bt hb5 Bl) hb)))
  have hz3 : wN.heap.size ≤ w3.heap.size := hb3.size
  have hzz5 := hb5.size
  have hb1' : nx + 1 ≤ b1 := by first | omega | (simp at hb1; omega)
  have hb2' : nx + 1 ≤ b2 := by first | omega | (simp at hb2x; omega)
  have HC := Lib.hid (And.intro c0 (And.intro c1 c2))
  have HY := Lib.hid (And.intro (And.intro (cell_keep hb3 hc0) (cell_keep hb3 hc1)) (And.intro (cell_keep hb3 hd0) (cell_keep hb3 hd1)))
  have HW := Lib.hid (And.intro (bt hW hb3) (And.intro (box_keep hr1 hb3) (And.intro (box_keep hr2 hb3) (box_keep hgn hb3))))
  clear c0 c1 c2 hb hb1 hb2x hc0 hc1 hd0 hd1 hr1 hr2 hgn hW hb3 hb5 hb5'
  go_wp2
  have hR' : ∀ k : Nat, k < w.heap.size → k < w3.heap.size ∧ k ≠ w.heap.size + 1 + 1 ∧ k ≠ w.heap.size + 1 + 1 + 1 ∧ k ≠ nx := fun k hk => ⟨by omega, by omega, by omega, by omega⟩
  have HR' := Lib.hid hR'
  refine wp_rangeW (xs := casesL (bothM a b) a) (R := fun k => k < w3.heap.size ∧ k ≠ w.heap.size + 1 + 1 ∧ k ≠ w.heap.size + 1 + 1 + 1 ∧ k ≠ nx) (w0 := w3) rfl (enters_of Try.func174 (by kernel_rfl) rfl)
    (cases_seq b1 b2 _ _ a _ w3 HC.out.1 HC.out.2.1 HC.out.2.2 ((h1.lt.keep HW.out.1).more fun k _ hk => HR'.out k hk) ((h2.lt.keep HW.out.1).more fun k _ hk => HR'.out k hk)
      (fun k hk => hk.1) HVA.out (Nat.or_lt_two_pow (n := 16) (termM_lt (termsM_lt a)) htm) (cov_both a b)) (Below.refl _ _) (fun k hk => hk.1) (fun _ => rfl)
    (fun X pre W => (∀ x ∈ pre, provB a b x = true) ∧ (∀ k, X k → w3.heap.size ≤ k) ∧ ((W.cell? ⟨w.heap.size, 0, none⟩ = some (.slice xa1 a.1.length xc1) ∧ W.cell? ⟨w.heap.size, 1, none⟩ = some (.slice xa2 a.2.length xc2)) ∧ (W.cell? ⟨w.heap.size + 1, 0, none⟩ = some (.slice ya1 b.1.length yc1) ∧ W.cell? ⟨w.heap.size + 1, 1, none⟩ = some (.slice ya2 b.2.length yc2))) ∧
      (W.heap[w.heap.size + 1 + 1]? = some (.cells #[.slice none 0 0] 27 (0, 0)) ∧ W.heap[w.heap.size + 1 + 1 + 1]? = some (.cells #[.bool false] 4 (0, 0))) ∧
      (∃ (va : Option Addr) (vc : Nat) (f : List Nat), W.heap[nx]? = some (.cells #[.slice va (pre.map (proveR a b)).length vc] 27 (0, 0)) ∧ OL W (w3.heap.size + 2) (.slice va (pre.map (proveR a b)).length vc) (pre.map (proveR a b)) f ∧ f.Nodup ∧ ∀ k ∈ f, ¬ X k) ∧ Below w.heap.size w W)
    (fun c pre W => ∃ q x, c = .ret ∧ pre = q ++ [x] ∧ provB a b x = false ∧ (W.cell? ⟨w.heap.size + 1 + 1, 0, none⟩ = some (.slice none 0 0) ∧ W.cell? ⟨w.heap.size + 1 + 1 + 1, 0, none⟩ = some (.bool false)) ∧ Below w.heap.size w W)
    ?hI ?hIx ⟨fun _ h => (by cases h), fun _ h => h.elim, ⟨HY.out.1, HY.out.2⟩, ⟨HW.out.2.1, HW.out.2.2.1⟩, ⟨none, 0, [], HW.out.2.2.2, OL.nil _ _, List.nodup_nil, fun _ h => (by cases h)⟩, HW.out.1⟩ ?hround ?hdone ?hstop
  case hI =>
    rintro X X' pre A B ⟨hp, hX, ⟨⟨e0, e1⟩, ⟨e2, e3⟩⟩, ⟨h1, h2⟩, ⟨va, vc, f, h3, h4, h5, h6⟩, hb⟩ hf hz' hX'
    have hn : ∀ k, k < w3.heap.size → ¬ (X k ∨ k = w3.heap.size ∨ k = w3.heap.size + 1) := fun k hk e => by
      rcases e with h | h | h
      · have := hX _ h; omega
      · omega
      · omega
    have hlt := h4.lt
    refine ⟨hp, fun k hk => ?_, ⟨⟨hf.cell (hn _ (by simp; omega)) e0, hf.cell (hn _ (by simp; omega)) e1⟩, ⟨hf.cell (hn _ (by simp; omega)) e2, hf.cell (hn _ (by simp; omega)) e3⟩⟩, ⟨box_kept h1 hf (hn _ (by omega)), box_kept h2 hf (hn _ (by omega))⟩, ⟨va, vc, f, box_kept h3 hf (hn _ (by omega)), h4.okept hf (fun k hk e => ?_), h5, fun k hk e => ?_⟩, hb.trans (hf.below hb.size fun k hk => hn k (by omega))⟩
    · rcases hX' k hk with h | h
      · exact hX k h
      · omega
    · have := hlt k hk
      rcases e with h | h | h
      · exact h6 k hk h
      · omega
      · omega
    · rcases hX' k e with h | h
      · exact h6 k hk h
      · have := hlt k hk; omega
  case hIx =>
    rintro c pre A B ⟨q, x, rfl, rfl, hx, ⟨h2, h3⟩, hb⟩ hf
    refine ⟨q, x, rfl, rfl, hx, ⟨hf.cell ?_ h2, hf.cell ?_ h3⟩, hb.trans (hf.below hb.size fun k hk e => ?_)⟩
    · rintro (h | h) <;> (simp only at h; omega)
    · rintro (h | h) <;> (simp only at h; omega)
    · rcases e with h | h <;> omega
  case hround =>
    rintro m X pre x W hzW hX hpre ⟨hp, hX2, ⟨⟨y0, y1⟩, ⟨y2, y3⟩⟩, ⟨hg1, hg2⟩, ⟨va, vc, f, hg3, ho, hn, hnX⟩, hb⟩
    obtain ⟨x0, x1, x2, x3, x4, x5, x6, x7, x8, rfl⟩ := len9 (cases_len (pre_mem hpre))
    obtain ⟨n, hnn⟩ : ∃ n, (pre.map (proveR a b)).length = n := ⟨_, rfl⟩
    have hnb : n ≤ 100000000 := by
      have h2 := hpre.length_le
      have h3 := cases_many a b
      rw [List.length_append, List.length_singleton] at h2
      rw [List.length_map] at hnn
      omega
    rw [hnn] at hg3 ho
    have HG := Lib.hid (And.intro hg1 (And.intro hg2 (And.intro hb (And.intro hX (And.intro hp (And.intro hX2 hg3))))))
    have HO := Lib.hid (And.intro ho (And.intro hn (And.intro hnX hnn)))
    have HY2 := Lib.hid (And.intro (And.intro y0 y1) (And.intro y2 y3))
    have HPRE := Lib.hid hpre
    clear hpre hX hX2 hg1 hg2 hg3 ho hn hnX hnn hb y0 y1 y2 y3 hp
    gi_wp2
    refine ⟨(fr_al _ _).mono fun _ _ h => h.elim, fun w4 hf4 => ?_⟩
    have hfw : Fr (fun k => k = w3.heap.size + 1) W w4 := ((fr_al W (.cells #[.int .i64 x0, .int .i64 x1, .int .i64 x2, .int .i64 x3, .int .i64 x4, .int .i64 x5, .int .i64 x6, .int .i64 x7, .int .i64 x8] 116)).mono fun _ _ h => h.elim).trans hf4
    have hx := box_kept (heap_alloc_new W (.cells #[.int .i64 x0, .int .i64 x1, .int .i64 x2, .int .i64 x3, .int .i64 x4, .int .i64 x5, .int .i64 x6, .int .i64 x7, .int .i64 x8] 116)) hf4 (by omega)
    have hq1 := box_kept HG.out.1 hfw (by omega)
    have hq2 := box_kept HG.out.2.1 hfw (by omega)
    have hq3 := box_kept HG.out.2.2.2.2.2.2 hfw (by omega)
    have y0 := hfw.cell (by show ¬ w.heap.size = _; omega) HY2.out.1.1
    have y1 := hfw.cell (by show ¬ w.heap.size = _; omega) HY2.out.1.2
    have y2 := hfw.cell (by show ¬ w.heap.size + 1 = _; omega) HY2.out.2.1
    have y3 := hfw.cell (by show ¬ w.heap.size + 1 = _; omega) HY2.out.2.2
    have hb4 := HG.out.2.2.1.trans (hfw.below HG.out.2.2.1.size fun k hk e => by omega)
    have HH := Lib.hid (And.intro hq1 (And.intro hq2 (And.intro hq3 (And.intro hb4 (And.intro (And.intro (And.intro y0 y1) (And.intro y2 y3)) (And.intro hfw hx))))))
    obtain ⟨⟨d0, d1, d2, d3, d4, d5, d6, d7, d8⟩, _⟩ := cells9 hx
    have zx := box_lt hx
    have zy := World.block_lt_of_cell? w4 _ y0
    have zy1 := World.block_lt_of_cell? w4 _ y2
    simp only at zy zy1
    obtain ⟨rm, hrm⟩ : ∃ r, matchC a b [x0, x1, x2, x3, x4, x5, x6, x7, x8] = r := ⟨_, rfl⟩
    have hmc := matchCase_any _ _ _ _ a b [x0, x1, x2, x3, x4, x5, x6, x7, x8] rm w4 (h1.keep hb4) (h2.keep hb4) (k1.keep hb4) (k2.keep hb4) HVA.out HVB.out rfl hrm
    have hpv : provC a b [x0, x1, x2, x3, x4, x5, x6, x7, x8] = rm := by rw [provC, if_pos ⟨HVA.out, HVB.out, case_read (pre_mem HPRE.out)⟩, hrm]
    have HPV := Lib.hid hpv
    clear hx hq1 hq2 hq3 hfw hf4 hb4 hrm hpv
    have HM := Lib.hid hmc
    clear hmc
    cases rm with
    | none =>
      have HF := Lib.hid (show provB a b [x0, x1, x2, x3, x4, x5, x6, x7, x8] = false by rw [provB, HPV.out]; rfl)
      gi_wp2_with (refine ⟨trivial, fun h => (by cases h), ?_⟩; gi_at_call 93; refine (CallsIn.inRound _ (callsIn_wide.2 HM.out)).mono ?_; rintro e w5 ⟨vu, rfl, hU, hb5⟩; have hq1 := box_keep HH.out.1 hb5; have hq2 := box_keep HH.out.2.1 hb5; have q0 := cell_of_row _ _ 0 _ _ _ hq1; have qz := frozen_of_row _ _ 0 _ _ hq1; have p0 := cell_of_row _ _ 0 _ _ _ hq2; have pz := frozen_of_row _ _ 0 _ _ hq2; have ql := box_lt hq1; have pl := box_lt hq2; have H5 := Lib.hid (And.intro hq1 (And.intro hq2 hb5)); clear hq1 hq2 hb5 hU)
      have hb5 := bt HH.out.2.2.2.1 H5.out.2.2
      refine ⟨?_, pre, [x0, x1, x2, x3, x4, x5, x6, x7, x8], rfl, rfl, HF.out, ⟨?_, ?_⟩, ?_⟩
      · exact (((Below.fr H5.out.2.2).mono fun _ _ h => h.elim).trans ((fr_set _ _ _).mono (S' := fun k => k ≠ w3.heap.size ∧ k ≠ w3.heap.size + 1) fun k _ e => by simp at e; omega)).trans ((fr_set _ _ _).mono fun k _ e => by simp at e; omega)
      · exact cell_set_other (World.cell?_setCell_same' _ _ _ (Option.isSome_iff_exists.2 ⟨_, q0⟩)) (by simp)
      · refine World.cell?_setCell_same' _ _ _ (Option.isSome_iff_exists.2 ⟨_, cell_set_other p0 (by simp)⟩)
      · exact (hb5.setCell (p := ⟨w.heap.size + 1 + 1, 0, none⟩) (by simp; omega) _).setCell (p := ⟨w.heap.size + 1 + 1 + 1, 0, none⟩) (by simp; omega) _
    | some us =>
      have HF := Lib.hid (And.intro (show provB a b [x0, x1, x2, x3, x4, x5, x6, x7, x8] = true by rw [provB, HPV.out]; rfl) (show proveR a b [x0, x1, x2, x3, x4, x5, x6, x7, x8] = ([x0, x1, x2, x3, x4, x5, x6, x7, x8], us) by rw [proveR, HPV.out]))
      gi_wp2_with (refine ⟨trivial, fun h => (by cases h), ?_⟩; gi_at_call 93; refine (CallsIn.inRound _ (callsIn_wide.2 HM.out)).mono ?_; rintro e w5 ⟨vu, rfl, hU, hb5⟩; have hO := hU us rfl; obtain ⟨ua, uc, rfl⟩ := hO.form; have H5 := Lib.hid (And.intro hO hb5); clear hO hU hb5)
      have hb5 := H5.out.2
      have hq3 := box_keep HH.out.2.2.1 hb5
      have n0 := cell_of_row _ _ 0 _ _ _ hq3
      have nz := frozen_of_row _ _ 0 _ _ hq3
      have nl := box_lt hq3
      have hx5 := box_keep HH.out.2.2.2.2.2.2 hb5
      obtain ⟨⟨d0, d1, d2, d3, d4, d5, d6, d7, d8⟩, _⟩ := cells9 hx5
      have xl := box_lt hx5
      have HQ3 := Lib.hid (And.intro hq3 hb5)
      clear hq3 hx5 hb5
      refine wpIn_region_lateR (S := fun w' => w'.cell? ⟨nx, 0, none⟩ = some (.slice va n vc)) (dep := [6, 7]) (by kernel_rfl) (by kernel_rfl) (by rintro ⟨_, _, h⟩; exact h) (cell_keep (below_drew _) n0) (fun hHeld => ?_)
      refine wpAnyD_free (i := 3) (oi := _) (v := ?_) rfl (by kernel_rfl) (by kernel_rfl) (by kernel_rfl) (by kernel_rfl) (fun _ _ _ h => h) (Or.inl ⟨by rfl, ?_⟩) hHeld (fun hHeld => ?_)
      rotate_left
      · (intro w _; first | (go_simp; done) | (go_simp; with_reducible rfl))
      try simp only [Act.put, List.setIfInBounds_toArray, List.set_cons_zero, List.set_cons_succ]
      refine wpAnyD_take (i := 0) (oi := _) (v := ?_) rfl (by kernel_rfl) (by kernel_rfl) (by kernel_rfl) (by kernel_rfl) (by kernel_rfl) (fun _ _ _ h => h) (Or.inl ⟨by rfl, ?_⟩) (hHeld (early_of (by kernel_rfl))) ?_
      rotate_left
      · (intro w hSw; (try dsimp only at hSw); first | (go_simp; done) | (go_simp; with_reducible rfl))
      try simp only [Act.put, List.setIfInBounds_toArray, List.set_cons_zero, List.set_cons_succ]
      replace hHeld := fun (he : Early _ _) => hHeld (Early.of_set (i := 0) he (by decide))
      refine wpAnyD_ready (rs := [1]) (by kernel_rfl) (by simp) ?_
      refine (AllReadyD.cons (o := _) rfl (fun K hK => ?_) AllReadyD.nil)
      clear hHeld
      go_simp
      refine hK.out _ _ ?_ (fun hHeld => ?_)
      · exact fun _ => cell_keep (below_drew _) n0
      clear hK K
      try simp only [Act.put, List.setIfInBounds_toArray, List.set_cons_zero, List.set_cons_succ]
      refine wpAnyD_ready (rs := [2]) (by kernel_rfl) (by simp) ?_
      refine (AllReadyD.cons (o := _) rfl (fun K hK => ?_) AllReadyD.nil)
      clear hHeld
      go_simp
      go_at_call 94
      refine (listC_any [x0, x1, x2, x3, x4, x5, x6, x7, x8] _ rfl).mono ?_
      rintro e w6 ⟨vl, rfl, hown, hb6⟩
      obtain ⟨la, lc, rfl, _⟩ := own_form hown
      have hb6' : Below w5.heap.size w5 w6 := bt (below_drew _) hb6
      have m0 := cell_keep hb6' n0
      have mz := (hb6'.frozen (p := ⟨nx, 0, none⟩) nl).trans nz
      have hs6 := hb6'.size
      have HOW := Lib.hid hown
      clear hown hb6
      go_wp2_with fail
      refine hK.out _ _ ?_ (fun hHeld => ?_)
      · exact fun _ => m0
      clear hK K
      try simp only [Act.put, List.setIfInBounds_toArray, List.set_cons_zero, List.set_cons_succ]
      refine wpAnyD_ready (rs := [4]) (by kernel_rfl) (by simp) ?_
      refine (AllReadyD.cons (o := _) rfl (fun K hK => ?_) AllReadyD.nil)
      clear hHeld
      go_simp
      refine hK.out _ _ ?_ (fun hHeld => ?_)
      · exact fun _ => m0
      clear hK K
      try simp only [Act.put, List.setIfInBounds_toArray, List.set_cons_zero, List.set_cons_succ]
      refine wpAnyD_ready (rs := [5]) (by kernel_rfl) (by simp) ?_
      refine (AllReadyD.cons (o := _) rfl (fun K hK => ?_) AllReadyD.nil)
      clear hHeld
      go_simp
      refine hK.out _ _ ?_ (fun hHeld => ?_)
      · exact fun _ => cell_keep (below_alloc _ _) m0
      clear hK K
      try simp only [Act.put, List.setIfInBounds_toArray, List.set_cons_zero, List.set_cons_succ]
      refine wpAnyD_ready (rs := [6]) (by kernel_rfl) (by simp) ?_
      refine (AllReadyD.cons (o := _) rfl (fun K hK => ?_) AllReadyD.nil)
      clear hHeld
      have hbl := below_alloc w6 (.cells #[.slice la 9 lc, .slice ua us.length uc] 46)
      have hbA := bt HQ3.out.2 (bt hb6' hbl)
      obtain ⟨f2, hL2, hn2⟩ := H5.out.1
      have hlt2 := hL2.lt
      have h4W : W.heap.size ≤ w4.heap.size := HH.out.2.2.2.2.2.1.size
      have h45 := HQ3.out.2.size
      obtain ⟨xs, hr, hgrow⟩ := OL.grow HO.out.1 HO.out.2.1 (HH.out.2.2.2.2.2.1.thenB hbA) (fun k hk e => by have := (HO.out.1.lt k hk).1; omega) (by omega)
      rw [HO.out.2.2.2] at hr hgrow
      have hbx := box_keep HQ3.out.1 (bt hb6' hbl)
      have hOw : Own.own (w6.alloc (.cells #[.slice la 9 lc, .slice ua us.length uc] 46)) W.heap.size (([x0, x1, x2, x3, x4, x5, x6, x7, x8], us) : CPf) [.slice la 9 lc, .slice ua us.length uc] (_ ++ f2) :=
        ⟨[_], [_], _, f2, rfl, rfl, ⟨_, rfl, ((ints_OL HOW.out).keep hbl).mono (by show W.heap.size ≤ w5.heap.size; omega)⟩, ⟨_, rfl, (hL2.keep (bt hb6' hbl)).mono h4W⟩⟩
      have hNd : (_ ++ f2).Nodup := List.nodup_append.2 ⟨nodup_own (.slice la 9 lc), hn2, fun k hk j hj e => by
        have h1 : w5.heap.size ≤ k := (own_lt HOW.out (mem_ownBlock.1 hk)).1
        have h2 := (hlt2 j hj).2
        omega⟩
      have HGR := Lib.hid (And.intro hgrow (And.intro hOw hNd))
      have hzo := fun k (hk : some k = (Value.slice va n vc).ownBlock) => own_lt hr hk
      have m0' := cell_keep hbl m0
      have mz' := (hbl.frozen (p := ⟨nx, 0, none⟩) (by show nx < w6.heap.size; omega)).trans mz
      have HBA := Lib.hid hbA
      clear hgrow hOw hNd hbl hlt2 hL2 hbA
      refine step_cells (n := n) (m := 1) (news := [.slice la 9 lc, .slice ua us.length uc]) rfl (.tmp 32) (.tmp 37) _ rfl (B := w3.heap.size + 2) ti_cpf rfl hr rfl rfl (news2g _ _ _ _ _ (by simp)) (one2 _ _ _ _ _ _) (by omega) (by simp; omega) ?_
      intro v' w7 hr7 hf7 hl7
      obtain ⟨a7, c7, rfl, _⟩ := row_form hr7
      have hnb : ¬ some nx = (Value.slice va n vc).ownBlock := fun e => by have := (hzo nx e).1; omega
      have hbx7 := box_kept hbx hf7 hnb
      have p0 := cell_of_row _ _ 0 _ _ _ hbx7
      have pz := frozen_of_row _ _ 0 _ _ hbx7
      have pl := box_lt hbx7
      have H7 := Lib.hid (And.intro hr7 (And.intro hf7 (And.intro hl7 (And.intro hzo hbx7))))
      clear hr7 hf7 hl7 hr hzo hbx hbx7
      refine hK.out _ _ ?_ (fun hHeld => ?_)
      · exact late_none (by kernel_rfl)
      clear hK K
      try simp only [Act.put, List.setIfInBounds_toArray, List.set_cons_zero, List.set_cons_succ]
      refine wpAnyD_ready (rs := [7]) (by kernel_rfl) (by simp) ?_
      refine (AllReadyD.cons (o := _) rfl (fun K hK => ?_) AllReadyD.nil)
      clear hHeld
      go_simp
      refine hK.out _ _ ?_ (fun hHeld => ?_)
      · exact late_none (by kernel_rfl)
      clear hK K
      try simp only [Act.put, List.setIfInBounds_toArray, List.set_cons_zero, List.set_cons_succ]
      refine wpAnyD_done (by kernel_rfl) ?_ _
      clear hHeld
      have hfs := fr_set w7 ⟨nx, 0, none⟩ (.slice a7 (n + 1) c7)
      have hF : Fr (fun k => some k = (Value.slice va n vc).ownBlock ∨ k = nx) w4 (w7.setCell ⟨nx, 0, none⟩ (.slice a7 (n + 1) c7)) :=
        (((Below.fr HBA.out).mono (S' := fun k => some k = (Value.slice va n vc).ownBlock ∨ k = nx) fun _ _ h => h.elim).then H7.out.2.1 (fun j _ e => .inl e)).then hfs (fun j _ e => .inr e)
      have hmem : ∀ j, some j = (Value.slice va n vc).ownBlock → j ∈ f := fun j e => by
        obtain ⟨_, _, _, _, rfl, _⟩ := HO.out.1
        exact List.mem_append_left _ (mem_ownBlock.2 e)
      have hlo : ∀ j, some j = (Value.slice va n vc).ownBlock → w3.heap.size + 2 ≤ j := fun j e => (HO.out.1.lt j (hmem j e)).1
      have hn : ∀ k, k < w3.heap.size → k ≠ nx → ¬ (some k = (Value.slice va n vc).ownBlock ∨ k = nx) := fun k hk hk2 e => by
        rcases e with e | e
        · have := hlo k e; omega
        · exact hk2 e
      have hml : (pre ++ [[x0, x1, x2, x3, x4, x5, x6, x7, x8]]).map (proveR a b) = pre.map (proveR a b) ++ [([x0, x1, x2, x3, x4, x5, x6, x7, x8], us)] := by rw [List.map_append, List.map_singleton, HF.out.2]
      have hll : (pre.map (proveR a b) ++ [(([x0, x1, x2, x3, x4, x5, x6, x7, x8], us) : CPf)]).length = n + 1 := by rw [List.length_append, HO.out.2.2.2]; rfl
      obtain ⟨f', g1, g2, g3⟩ := HGR.out.1 _ _ _ _ _ HGR.out.2.1 HGR.out.2.2 H7.out.2.1 H7.out.1 H7.out.2.2.1
      have glt := g1.lt
      refine (show Fr (fun k => ¬ X k ∧ ¬ (k < w3.heap.size ∧ k ≠ w.heap.size + 1 + 1 ∧ k ≠ w.heap.size + 1 + 1 + 1 ∧ k ≠ nx) ∧ k ≠ w3.heap.size ∧ k ≠ w3.heap.size + 1) w4 _ ∧ _ from ⟨hF.mono fun j _ e => ?_, ?_, HG.out.2.2.2.2.2.1, ⟨⟨hF.cell (hn _ (by simp; omega) (by simp; omega)) HH.out.2.2.2.2.1.1.1, hF.cell (hn _ (by simp; omega) (by simp; omega)) HH.out.2.2.2.2.1.1.2⟩, ⟨hF.cell (hn _ (by simp; omega) (by simp; omega)) HH.out.2.2.2.2.1.2.1, hF.cell (hn _ (by simp; omega) (by simp; omega)) HH.out.2.2.2.2.1.2.2⟩⟩, ⟨box_kept HH.out.1 hF (hn _ (by omega) (by omega)), box_kept HH.out.2.1 hF (hn _ (by omega) (by omega))⟩, ?_, HH.out.2.2.2.1.trans (hF.below HH.out.2.2.2.1.size fun k hk => hn k (by omega) (by omega))⟩)
      · rcases e with e | e
        · have h1 := hlo j e
          exact ⟨HO.out.2.2.1 j (hmem j e), fun h => by omega, by omega, by omega⟩
        · subst e
          exact ⟨fun h => by have := (HG.out.2.2.2.1 _ h).1; omega, fun h => h.2.2.2 rfl, by omega, by omega⟩
      · intro y hy
        rcases List.mem_append.1 hy with h | h
        · exact HG.out.2.2.2.2.1 y h
        · rw [List.mem_singleton.1 h]; exact HF.out.1
      · rw [hml, hll]
        refine ⟨a7, c7, f', ?_, g1.okept hfs (fun k hk e => by have := (glt k hk).1; have e2 : k = nx := e; omega), g2, fun k hk e => ?_⟩
        · rw [heap_setCell_same w7 nx 0 _ _ _ H7.out.2.2.2.2]
          rfl
        · rcases g3 k hk with h | h
          · exact HO.out.2.2.1 k h e
          · have := (HG.out.2.2.2.1 _ e).2; omega
  case hdone =>
    rintro W ⟨hp, _, _, ⟨hg1, hg2⟩, ⟨va, vc, f, hg3, ho, hn, _⟩, hb⟩ hK
    have he : r = true := by
      rw [← HR.out, entB, HVA.out, HVB.out, Bool.true_and, Bool.true_and, Option.isNone_iff_eq_none, failO, List.find?_eq_none]
      intro cl hc
      have h2 := hp cl hc
      rw [provB, provC] at h2
      split at h2
      · rw [failC]
        cases hm : matchC a b cl with
        | none => rw [hm] at h2; cases h2
        | some us => simp
      · cases h2
    have hpe : provE a b = (casesL (bothM a b) a).map (proveR a b) := by rw [provE, HR.out, he]; rfl
    have HN := Lib.hid (And.intro he hpe)
    obtain ⟨n, hnn⟩ : ∃ n, ((casesL (bothM a b) a).map (proveR a b)).length = n := ⟨_, rfl⟩
    rw [hnn] at hg3 ho
    have HO := Lib.hid ho
    have HH := Lib.hid (And.intro hg1 (And.intro hb (And.intro hK (And.intro hg2 hn))))
    have q0 := cell_of_row _ _ 0 _ _ _ hg1
    have qz := frozen_of_row _ _ 0 _ _ hg1
    have n0 := cell_of_row _ _ 0 _ _ _ hg2
    have nz := frozen_of_row _ _ 0 _ _ hg2
    have m0 := cell_of_row _ _ 0 _ _ _ hg3
    have ml := box_lt hg3
    have rz := box_lt hg1
    have rz2 := box_lt hg2
    clear hg1 hg2 hg3 hb hK hp hn hnn ho he hpe
    go_wp2
    have hff := ((fr_set W ⟨w.heap.size + 1 + 1, 0, none⟩ (.slice va n vc)).mono (S' := fun k => k = w.heap.size + 1 + 1 ∨ k = w.heap.size + 1 + 1 + 1) fun _ _ e => .inl e).then (fr_set _ ⟨w.heap.size + 1 + 1 + 1, 0, none⟩ (.bool true)) fun i _ e => .inr e
    have hlt := HO.out.lt
    refine marks_ret rfl (fr_blk hff HH.out.2.2.1 (by omega)) (res_cpfs rfl rfl rfl rfl (cell_set_other (World.cell?_setCell_same' _ _ _ (Option.isSome_iff_exists.2 ⟨_, q0⟩)) (by simp)) (World.cell?_setCell_same' _ _ _ (Option.isSome_iff_exists.2 ⟨_, cell_set_other n0 (by simp)⟩)) (by omega) (by omega)) ?_
    refine ⟨_, by rw [HN.out.1], by rw [HN.out.2]; exact ⟨f, ((HO.out.okept hff (fun k hk e => by have := (hlt k hk).1; omega)).okept (fr_put _ _ _) (fun k hk e => by have := (hlt k hk).1; omega)).mono (by omega), HH.out.2.2.2.2⟩, ?_⟩
    exact (HH.out.2.1.trans (hff.below HH.out.2.1.size fun k hk e => by omega)).trans ((fr_put _ _ _).below (by have := hff.size; have := HH.out.2.1.size; omega) fun k hk e => by omega)
  case hstop =>
    rintro c pre W hpre ⟨q, x, rfl, rfl, hx, ⟨hc1, hc2⟩, hb⟩ hK
    refine wp_ret ?_
    have he : r = false := by
      rw [← HR.out]
      cases h : entB a b with
      | false => rfl
      | true =>
        have := case_prov h (pre_mem hpre)
        rw [hx] at this; cases this
    have hpe : provE a b = [] := by rw [provE, HR.out, he]; rfl
    have HN := Lib.hid (And.intro he hpe)
    clear he hpe
    refine marks_ret rfl hK (res_cpfs rfl rfl rfl rfl hc1 hc2 (by omega) (by omega)) ?_
    exact ⟨_, by rw [HN.out.1], by rw [HN.out.2]; exact OO.nil _ _, hb.trans ((fr_put W _ _).below hb.size fun k hk e => by omega)⟩
end Go.Proofs.Ytapoillhgimdiaa
