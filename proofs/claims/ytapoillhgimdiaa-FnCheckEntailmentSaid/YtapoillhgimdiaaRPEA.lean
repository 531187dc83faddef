/- PEA: texts PE1, Grow, PE2 in one. -/
import Derived.Test.YtapoillhgimdiaaRImpA
import Derived.Deep.CutRange
import Derived.Test.YtapoillhgimdiaaRMtcA
import Derived.Test.YtapoillhgimdiaaRRndA
/- Walks: the proofs of all cases: the reference. -/
namespace Go.Proofs.Ytapoillhgimdiaa
open Go.RowKit

theorem RL.set2P {α : Type} [Dat α] {w : World} {B : Nat} {v : Value} {l : List α} (h : RL w (fun k => B ≤ k) v l) {R : Nat} (hR : R < B) (x y : Value) :
    RL ((w.setCell ⟨R, 0, none⟩ x).setCell ⟨R, 1, none⟩ y) (fun k => B ≤ k) v l :=
  (h.kept (fr_set w _ _) fun k _ h e => by have h2 : B ≤ k := h; have e2 : k = R := e; omega).kept (fr_set _ _ _) fun k _ h e => by have h2 : B ≤ k := h; have e2 : k = R := e; omega
theorem ti_cpf : TI 27 46 2 := ti_mk Try.underlying27 info_CaseProofS (by decide) rfl (by decide)
def provTo (a b : Asn) (k : Nat) : List CPf := ((casesL (bothM a b) a).take k).map (proveR a b)
theorem provTo_len (a b : Asn) (k : Nat) : (provTo a b k).length ≤ 100000000 := by
  rw [provTo, List.length_map, List.length_take]
  exact Nat.le_trans (Nat.min_le_right _ _) (cases_many a b)
theorem provTo_succ {a b : Asn} {cs : List (List Int)} (hcs : casesL (bothM a b) a = cs) {k : Nat} (hk : k < cs.length) : provTo a b (k + 1) = provTo a b k ++ [proveR a b (gd cs k)] := by
  subst hcs
  rw [provTo, take_gd hk, List.map_append]; rfl
set_option maxRecDepth 100000 in
set_option maxHeartbeats 6400000 in
theorem proveEntS_any {S1 S2 S3 S4 : Nat → Prop} (v1 v2 u1 u2 : Value) (a b : Asn) (w : World) (h1 : RL w S1 v1 a.1) (h2 : RL w S2 v2 a.2) (k1 : RL w S3 u1 b.1) (k2 : RL w S4 u2 b.2) :
    Calls Try.prog 19 #[.agg #[v1, v2], .agg #[u1, u2]] w fun e w' => ∃ y, e = .returned (.tuple #[y, .bool (entB a b)]) ∧ RL w' (fun k => w.heap.size ≤ k) y (provE a b) ∧ Below w.heap.size w w' := by
  obtain ⟨xa1, xc1, rfl⟩ := h1.form
  obtain ⟨xa2, xc2, rfl⟩ := h2.form
  obtain ⟨ya1, yc1, rfl⟩ := k1.form
  obtain ⟨ya2, yc2, rfl⟩ := k2.form
  obtain ⟨W, hWe⟩ : ∃ W, W = ((w.alloc (.cells #[.slice xa1 a.1.length xc1, .slice xa2 a.2.length xc2] 33)).alloc (.cells #[.slice ya1 b.1.length yc1, .slice ya2 b.2.length yc2] 33)).alloc (.cells #[] 46) := ⟨_, rfl⟩
  have hW : Below w.heap.size w W := by rw [hWe]; exact Bl
  have hc0 : W.cell? ⟨w.heap.size, 0, none⟩ = some (.slice xa1 a.1.length xc1) := by rw [hWe]; simp [go_sem]
  have hc1 : W.cell? ⟨w.heap.size, 1, none⟩ = some (.slice xa2 a.2.length xc2) := by rw [hWe]; simp [go_sem]
  have hd0 : W.cell? ⟨w.heap.size + 1, 0, none⟩ = some (.slice ya1 b.1.length yc1) := by rw [hWe]; simp [go_sem]
  have hd1 : W.cell? ⟨w.heap.size + 1, 1, none⟩ = some (.slice ya2 b.2.length yc2) := by rw [hWe]; simp [go_sem]
  have hT0 : TR W (w.heap.size + 2) 46 (.slice (some ⟨w.heap.size + 2, 0, none⟩) 0 0) (provTo a b 0) := by
    rw [hWe]
    have := own_emp ((w.alloc (.cells #[.slice xa1 a.1.length xc1, .slice xa2 a.2.length xc2] 33)).alloc (.cells #[.slice ya1 b.1.length yc1, .slice ya2 b.2.length yc2] 33)) (w.heap.size + 2) 46 2 (by simp)
    simp only [World.size_alloc] at this
    rw [show provTo a b 0 = [] by simp [provTo]]
    exact TR.of this
  have HWE := Lib.hid hWe
  have HX := Lib.hid (And.intro (And.intro hc0 hc1) (And.intro (And.intro hd0 hd1) (And.intro hW hT0)))
  clear hWe hc0 hc1 hd0 hd1 hW hT0
  cases he : entB a b with
  | false =>
    have HV := Lib.hid he
    have HR := Lib.hid (show provE a b = [] by rw [provE, he]; rfl)
    clear he
    go_enter Try.func19, Try.ntmps19
    go_upto_region 2 with fail
    rw [← HWE.out]
    obtain ⟨⟨hc0, hc1⟩, ⟨hd0, hd1⟩, hW, hT0⟩ := HX.out
    go_wp2_with fail
    refine (cb (entailsS_any _ _ _ _ a b _ (h1.keep hW) (h2.keep hW) (k1.keep hW) (k2.keep hW)) HV.out).mono ?_
    rintro e w1 ⟨rfl, hb⟩
    go_wp2
    go_ret2
    exact ⟨_, rfl, by rw [HR.out]; exact .inl ⟨_, _, rfl, rfl, by decide, by simp⟩, bt hW hb⟩
  | true =>
    obtain ⟨ha, hb0⟩ := ent_valid he
    obtain ⟨cs, hcs⟩ : ∃ cs, casesL (bothM a b) a = cs := ⟨_, rfl⟩
    have HCS := Lib.hid hcs
    have HV := Lib.hid (And.intro he (And.intro ha hb0))
    have HR := Lib.hid (show provE a b = provTo a b cs.length by rw [provE, if_pos he, provTo, hcs, List.take_length])
    clear he ha hb0 hcs
    go_enter Try.func19, Try.ntmps19
    go_upto_region 2 with fail
    rw [← HWE.out]
    obtain ⟨⟨hc0, hc1⟩, ⟨hd0, hd1⟩, hW, hT0⟩ := HX.out
    go_wp2_with fail
    refine (cb (entailsS_any _ _ _ _ a b _ (h1.keep hW) (h2.keep hW) (k1.keep hW) (k2.keep hW)) HV.out.1).mono ?_
    rintro e w1 ⟨rfl, hb⟩
    replace hT0 := hT0.keep hb
    replace hc0 := cell_keep hb hc0; replace hc1 := cell_keep hb hc1; replace hd0 := cell_keep hb hd0; replace hd1 := cell_keep hb hd1; replace hW := bt hW hb; clear hb
    have HT0 := Lib.hid hT0
    clear hT0
    go_wp2
    go_region_held3 (fun w' => (w'.cell? ⟨w.heap.size, 0, none⟩ = some (.slice xa1 a.1.length xc1) ∧ w'.cell? ⟨w.heap.size, 1, none⟩ = some (.slice xa2 a.2.length xc2)) ∧ (w'.cell? ⟨w.heap.size + 1, 0, none⟩ = some (.slice ya1 b.1.length yc1) ∧ w'.cell? ⟨w.heap.size + 1, 1, none⟩ = some (.slice ya2 b.2.length yc2)))
      (exact ⟨⟨cell_keep Bl hc0, cell_keep Bl hc1⟩, ⟨cell_keep Bl hd0, cell_keep Bl hd1⟩⟩)
      (first
        | (go_at_call 88; go_must ((with_reducible refine (l6Both_any _ _ _ _ a b _ (h1.keep (bt hW Bl)) (h2.keep (bt hW Bl)) (k1.keep (bt hW Bl)) (k2.keep (bt hW Bl)) HV.out.2.1 HV.out.2.2).mono ?_); rintro e w2 ⟨vT, rfl, hT, hbT'⟩; have hbT : Below w1.heap.size w1 w2 := bt Bl hbT'; have HT := Lib.hid hT; clear hT))
        | (go_at_call 87; go_must ((with_reducible refine (l5All_any _ _ _ (bothM a b) _ _ a _ (h1.keep (bt hW (bt hbT Bl))) (h2.keep (bt hW (bt hbT Bl))) (own_keep HT.out Bl) HV.out.2.1 (cov_both a b) (both_zero a b) (fun j hj => both_pos hj)).mono ?_); rintro e w3 ⟨vC, rfl, hC, hbC'⟩; have hbC : Below w1.heap.size w1 w3 := bt (bt hbT Bl) hbC')))
    all_goals
      rw [HCS.out] at hC
      obtain ⟨ca, cc, rfl⟩ := hC.form
      have hCr := hC.read
      have hcm := hCr.len
      unfold maxLen at hcm
      replace hc0 := cell_keep hbC hc0
      replace hc1 := cell_keep hbC hc1
      replace hd0 := cell_keep hbC hd0
      replace hd1 := cell_keep hbC hd1
      replace hW := bt hW hbC
      have hTC := HT0.out.keep hbC
      have hz1 : w.heap.size + 2 < w1.heap.size := (HT0.out.lt (w.heap.size + 2) rfl)
      have hCs := hCr.more (S' := fun k => w1.heap.size ≤ k ∧ k < w3.heap.size) fun k hk h => ⟨by have := hbT.size; first | omega | (simp at h; omega), hk⟩
      have hz3 := hbC.size
      have HC := Lib.hid (And.intro hCs (And.intro (And.intro (And.intro hc0 hc1) (And.intro hd0 hd1)) (And.intro hW hTC)))
      clear hbT hbT' hbC hbC' hC hCr hc0 hc1 hd0 hd1 hW HT HT0 hTC hCs
      go_wp2
      go_loopg [6, 8] cs.length (fun q x i wr => ∃ k : Nat, k + q = cs.length ∧ i = .int .i64 k ∧ TR wr (w.heap.size + 2) 46 x (provTo a b k) ∧ (∀ j, some j = x.ownBlock → j = w.heap.size + 2 ∨ w3.heap.size ≤ j) ∧ RL wr (fun k => w1.heap.size ≤ k ∧ k < w3.heap.size) (.slice ca cs.length cc) cs ∧ ((wr.cell? ⟨w.heap.size, 0, none⟩ = some (.slice xa1 a.1.length xc1) ∧ wr.cell? ⟨w.heap.size, 1, none⟩ = some (.slice xa2 a.2.length xc2)) ∧ (wr.cell? ⟨w.heap.size + 1, 0, none⟩ = some (.slice ya1 b.1.length yc1) ∧ wr.cell? ⟨w.heap.size + 1, 1, none⟩ = some (.slice ya2 b.2.length yc2))) ∧ Below w.heap.size w wr ∧ w3.heap.size ≤ wr.heap.size)
      case atStart => exact ⟨0, by omega, rfl, HC.out.2.2.2, fun j hj => .inl (Option.some.inj hj), HC.out.1, HC.out.2.1, HC.out.2.2.1, Nat.le_refl _⟩
      case round =>
        obtain ⟨k, hk, rfl, hT, hne, hcl, ⟨⟨hc0, hc1⟩, ⟨hd0, hd1⟩⟩, hW, hz⟩ := hrel
        have HK := Lib.hid hk
        have HT := Lib.hid hT
        have HNE := Lib.hid hne
        have HCL := Lib.hid hcl
        clear hk hT hne hcl
        obtain ⟨xa, xn, xc, rfl⟩ := HT.out.rl.forms
        by_cases hk8 : k < cs.length
        · have i1 : (k : Int) < (cs.length : Int) := by omega
          have hl2 := provTo_len a b k
          obtain ⟨ca', cc', hce, _, _, hcf⟩ := HCL.out.listAt
          simp only [Value.slice.injEq] at hce
          obtain ⟨rfl, _, rfl⟩ := hce
          obtain ⟨b2, o2, x3, rfl, _, hz2, hp3, r3⟩ := hcf k hk8
          obtain ⟨x3a, x3c, rfl⟩ := r3.form
          clear hcf
          have HTK := Lib.hid (provTo_succ HCS.out hk8)
          obtain ⟨p, hp⟩ : ∃ p, proveR a b (gd cs k) = p := ⟨_, rfl⟩
          have HP := Lib.hid hp
          clear hp
          have q1 := h1.keep hW
          have q2 := h2.keep hW
          have q3 := k1.keep hW
          have q4 := k2.keep hW
          go_upto_region 8 with fail
          go_cut [9] from 22 to 41 (fun pp wc => ∃ (g : Nat) (y1 y2 : Value), pp = .pointer (some ⟨g, 0, none⟩) ∧ (wc.cell? ⟨g, 0, none⟩ = some y1 ∧ wc.cell? ⟨g, 1, none⟩ = some y2) ∧ (RL wc (fun j => wr.heap.size ≤ j) y1 p.1 ∧ RL wc (fun j => wr.heap.size ≤ j) y2 p.2) ∧ Below wr.heap.size wr wc)
          case first =>
            go_region_held3 (fun w' => ((w'.cell? ⟨w.heap.size, 0, none⟩ = some (.slice xa1 a.1.length xc1) ∧ w'.cell? ⟨w.heap.size, 1, none⟩ = some (.slice xa2 a.2.length xc2)) ∧ (w'.cell? ⟨w.heap.size + 1, 0, none⟩ = some (.slice ya1 b.1.length yc1) ∧ w'.cell? ⟨w.heap.size + 1, 1, none⟩ = some (.slice ya2 b.2.length yc2))) ∧ w'.cell? ⟨b2, o2 + k, none⟩ = some (.slice x3a (gd cs k).length x3c))
              (exact ⟨⟨⟨cell_keep Bl hc0, cell_keep Bl hc1⟩, ⟨cell_keep Bl hd0, cell_keep Bl hd1⟩⟩, cell_keep Bl hp3⟩)
              (first
                | (go_at_call 29; go_must (refine (proveS_any _ _ _ _ _ a b (gd cs k) _ (q1.keep Bl) (q2.keep Bl) (q3.keep Bl) (q4.keep Bl) (r3.keep Bl)).mono ?_; rw [HP.out]; rintro e w5 ⟨y1, y2, rfl, ⟨t1, t2⟩, hb5'⟩; obtain ⟨za1, zc1, rfl⟩ := t1.form; obtain ⟨za2, zc2, rfl⟩ := t2.form; have hb5 : Below wr.heap.size wr w5 := bt Bl hb5'; have hz5 := hb5.size; (first | (have hTT : w5.heap[wr.heap.size]? = some (.cells #[.slice none 0 0, .slice none 0 0] 46 (0, 0)) := box_keep (heap_alloc_new wr.drew _) hb5'; have ht0 := box0 hTT; have ht1 := box1 hTT; have htz := boxz hTT; have htl := box_lt hTT; clear hTT) | skip); (try simp only [World.size_alloc, World.size_drew] at t1 t2); clear hb5'))
                | fail)
            all_goals
              have HQ := Lib.hid (And.intro t1 t2)
              clear t1 t2
              go_wp2
              go_meet
              case rel =>
                obtain ⟨t1, t2⟩ := HQ.out
                refine ⟨_, .slice za1 p.1.length zc1, .slice za2 p.2.length zc2, rfl, ⟨?_, ?_⟩, ⟨?_, ?_⟩, ?_⟩
                · first | exact (box_two _ _ ht0 ht1).1 | (simp; done) | (simp [go_sem]; done)
                · first | exact (box_two _ _ ht0 ht1).2 | (simp; done) | (simp [go_sem]; done)
                · first | exact (t1.set2P (by omega) _ _).more (fun j _ h => Nat.le_trans (by omega) h) | exact (t1.keep Bl).more fun j _ h => Nat.le_trans (by omega) h
                · first | exact (t2.set2P (by omega) _ _).more (fun j _ h => Nat.le_trans (by omega) h) | exact (t2.keep Bl).more fun j _ h => Nat.le_trans (by omega) h
                · first | (with_reducible refine Below.setCell (Below.setCell hb5 ?_ _) ?_ _ <;> first | omega | (simp; done) | (simp; omega)) | exact bt hb5 Bl
          case rest =>
            obtain ⟨gx, y1, y2, rfl, ⟨hx0, hx1⟩, ⟨r1, r2⟩, hb⟩ := hcut
            have hgx := World.block_lt_of_cell? wc _ hx0
            simp only at hgx
            obtain ⟨ya1', yc1', rfl⟩ := r1.form
            obtain ⟨ya2', yc2', rfl⟩ := r2.form
            have hsz := hb.size
            have hvl := HT.out.lt
            have hbl := below_alloc wc (.cells #[.slice ya1' p.1.length yc1', .slice ya2' p.2.length yc2'] 46)
            have hbb := bt hb hbl
            obtain ⟨xs, hr, hx⟩ := HT.out.keep hbb
            have hfo := HT.out.rl.form
            have hxn : xn = (provTo a b k).length := by
              obtain ⟨_, _, e⟩ := hfo
              injection e
            subst hxn
            have HX2 := Lib.hid (And.intro (And.intro (r1.keep hbl) (r2.keep hbl)) (And.intro hx hvl))
            have HB2 := Lib.hid (And.intro (cell_keep hbb hc0) (And.intro (cell_keep hbb hc1) (And.intro (cell_keep hbb hd0) (And.intro (cell_keep hbb hd1) (And.intro (HCL.out.keep hbb) (bt hW hbb))))))
            clear hb r1 r2 hvl hfo hbl hbb hx q1 q2 q3 q4 hc0 hc1 hd0 hd1 hp3 r3 hW
            go_wp2_with (at_builtin; go_must (refine app_cells (n := (provTo a b k).length) (m := 1) (news := [.slice ya1' p.1.length yc1', .slice ya2' p.2.length yc2']) rfl (.tmp 38) (.tmp 40) _ rfl (B := w.heap.size + 2) ti_cpf rfl hr rfl rfl (news2g _ _ _ _ _ (by simp)) (one2 _ _ _ _ _ _) (by omega) (by simp; omega) ?_; intro v' w9 hr9 hf9 hl9))
            obtain ⟨e0, e1, e2, e3, e4, e5⟩ := HB2.out
            have hbn := e5.trans (hf9.below (by simp; omega) fun j hj e => by have := (own_lt hr e).1; omega)
            have hTn := TR.app (m := [p]) hr HX2.out.2.1 hf9 hr9 hl9 (fun j hj => by
              obtain rfl : j = 0 := by simpa using hj
              refine rd_cpf_mk (HX2.out.1.1.more fun j _ hj => ⟨Nat.le_trans (by omega) hj, fun he => ?_⟩) (HX2.out.1.2.more fun j _ hj => ⟨Nat.le_trans (by omega) hj, fun he => ?_⟩)
              · exact absurd (HX2.out.2.2 j he) (Nat.not_lt.2 hj)
              · exact absurd (HX2.out.2.2 j he) (Nat.not_lt.2 hj))
            have HN := Lib.hid (show TR w9 (w.heap.size + 2) 46 v' (provTo a b (k + 1)) by rw [HTK.out, HP.out]; exact hTn)
            have hlo := fun j (e : some j = (Value.slice xa (provTo a b k).length xc).ownBlock) => HNE.out j e
            have hcc : ∀ {p : Addr} {u : Value}, p.block < w.heap.size + 2 → (wc.alloc (.cells #[.slice ya1' (_ : List Int).length yc1', .slice ya2' (_ : List (List Int)).length yc2'] 46)).cell? p = some u → w9.cell? p = some u := fun hp hc => hf9.cell (fun e => by have := (own_lt hr e).1; omega) hc
            have HE := Lib.hid (And.intro (And.intro (And.intro (hcc (by simp) e0) (hcc (by simp) e1)) (And.intro (hcc (by simp) e2) (hcc (by simp) e3))) (And.intro (e4.kept hf9 (fun j _ hj e => by have := hlo j e; omega)) (And.intro hbn (And.intro (show ∀ j, some j = v'.ownBlock → j = w.heap.size + 2 ∨ w3.heap.size ≤ j from fun j hj => by
              rcases hl9 with h | h
              · exact hlo j (hj.trans h)
              · rw [h] at hj
                have := Option.some.inj hj
                simp at this
                omega) (show w3.heap.size ≤ w9.heap.size by have := hf9.size; simp at this; omega)))))
            clear hTn hr9 hf9 hl9 hr hcc hlo e0 e1 e2 e3 e4 e5 hbn
            go_wp2
            go_roundg (gk - 1)
            case rel => exact ⟨k + 1, by have := HK.out; omega, by go_num, HN.out, HE.out.2.2.2.1, HE.out.2.1, HE.out.1, HE.out.2.2.1, HE.out.2.2.2.2⟩
            case measure => have := HK.out; omega
        · obtain rfl : k = cs.length := by have := HK.out; omega
          have HN := Lib.hid (HT.out.rl.more (S' := fun k => w.heap.size ≤ k) fun j _ h => by omega)
          go_wp2
          go_ret2
          exact ⟨_, rfl, by rw [HR.out]; exact HN.out, hW⟩
end Go.Proofs.Ytapoillhgimdiaa
/- An owned list has grown by one: where its blocks lie. -/
namespace Go.Proofs.Ytapoillhgimdiaa
open Go.RowKit

theorem OL.grow {α : Type} [Own α] [Tid α] {w0 w2 : World} {B : Nat} {v : Value} {l : List α} {f : List Nat} {T : Nat → Prop} (h : OL w0 B v l f) (hn : f.Nodup) (hf0 : Fr T w0 w2) (hT : ∀ k ∈ f, ¬ T k) (hB : B ≤ w0.heap.size) :
    ∃ xs, w2.ownsRow B (Tid.tid α) (Dat.sz α) v l.length xs ∧ ∀ (x : α) (cs : List Value) (fx : List Nat) (v' : Value) (w3 : World), Own.own w2 w0.heap.size x cs fx → fx.Nodup → Fr (fun k => some k = v.ownBlock) w2 w3 →
      w3.ownsRow B (Tid.tid α) (Dat.sz α) v' (l.length + 1) (xs ++ cs) → (v'.ownBlock = v.ownBlock ∨ v'.ownBlock = some w2.heap.size) → ∃ f', OL w3 B v' (l ++ [x]) f' ∧ f'.Nodup ∧ ∀ k ∈ f', k ∈ f ∨ w0.heap.size ≤ k := by
  obtain ⟨xs, fps, hr, hfl, rfl, ho⟩ := h
  have hr2 := own_kept hr hf0 (fun k hk => hT k (List.mem_append_left _ (mem_ownBlock.2 hk)))
  refine ⟨xs, hr2, fun x cs fx v' w3 hx hfx hf hr3 hlie => ?_⟩
  have ho2 : ∀ i, i < l.length → Own.own w2 B (gd l i) (nth (Dat.sz α) xs i) (gd fps i) := fun i hi => Own.okept (ho i hi) hf0 fun k hk => hT k (List.mem_append_right _ (mem_flat (by omega) hk))
  have hlt1 : ∀ k ∈ fps.flatten, k < w0.heap.size := fun k hk => by
    obtain ⟨i, hi, hm⟩ := flat_mem hk
    exact (Own.lt (ho i (by omega)) k hm).2
  have hlt2 : ∀ k ∈ fx, w0.heap.size ≤ k ∧ k < w2.heap.size := fun k hk => Own.lt hx k hk
  have hn0 := List.nodup_append.1 hn
  have hz := hf0.size
  have hvl : ∀ k, some k = v.ownBlock → k < w0.heap.size := fun k hk => (own_lt hr hk).2
  refine ⟨v'.ownBlock.toList ++ (fps ++ [fx]).flatten, ⟨xs ++ cs, fps ++ [fx], by rw [List.length_append]; exact hr3, by simp [hfl], rfl, fun i hi => ?_⟩, ?_, ?_⟩
  · rw [List.length_append, List.length_singleton] at hi
    by_cases hlt : i < l.length
    · rw [gd_app1 hlt, gd_app1 (by omega), nth_app1 hr.1 hlt]
      refine Own.okept (ho2 i hlt) hf fun k hk e => ?_
      exact hn0.2.2 k (mem_ownBlock.2 e) k (mem_flat (by omega) hk) rfl
    · obtain rfl : i = l.length := by omega
      rw [gd_snoc, nth_app2 hr.1 (Dat.len (Own.read hx)), ← hfl, gd_snoc]
      exact Own.mono (Own.okept hx hf fun k hk e => by have := hvl k e; have := (hlt2 k hk).1; omega) hB
  · rw [List.flatten_append, List.flatten_cons, List.flatten_nil, List.append_nil]
    refine List.nodup_append.2 ⟨nodup_own v', List.nodup_append.2 ⟨hn0.2.1, hfx, fun a ha b hb e => by
      have := hlt1 a ha
      have := (hlt2 b hb).1
      omega⟩, fun a ha b hb2 e => ?_⟩
    subst e
    have ha' := mem_ownBlock.1 ha
    rcases hlie with h | h
    · rw [h] at ha'
      rcases List.mem_append.1 hb2 with hm | hm
      · exact hn0.2.2 a (mem_ownBlock.2 ha') a hm rfl
      · have := hvl a ha'
        have := (hlt2 a hm).1
        omega
    · rw [h] at ha'
      injection ha' with ha'
      rcases List.mem_append.1 hb2 with hm | hm
      · have := hlt1 a hm; omega
      · have := (hlt2 a hm).2; omega
  · intro k hk
    rw [List.flatten_append, List.flatten_cons, List.flatten_nil, List.append_nil] at hk
    rcases List.mem_append.1 hk with hk | hk
    · have hk' := mem_ownBlock.1 hk
      rcases hlie with h | h
      · rw [h] at hk'
        exact .inl (List.mem_append_left _ (mem_ownBlock.2 hk'))
      · rw [h] at hk'
        injection hk' with hk'
        right; omega
    · rcases List.mem_append.1 hk with hk | hk
      · exact .inl (List.mem_append_right _ hk)
      · exact .inr (hlt2 k hk).1
end Go.Proofs.Ytapoillhgimdiaa
/- Walks: the proofs of all cases: the program. -/
namespace Go.Proofs.Ytapoillhgimdiaa
open Go Go.RowKit

attribute [local go_sem] Oper.semAt_some
end Go.Proofs.Ytapoillhgimdiaa
