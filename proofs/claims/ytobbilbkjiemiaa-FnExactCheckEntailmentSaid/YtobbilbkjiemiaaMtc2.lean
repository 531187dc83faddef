/- Walks: the matching of a case: the program's matchCase. -/
import Derived.Test.YtobbilbkjiemiaaMtc1
import Derived.Test.YtobbilbkjiemiaaData2
namespace Go.Proofs.Ytobbilbkjiemiaa
open Go.RowKit

section
variable {α : Type} [Own α] [Tid α] {w0 w2 : World} {B : Nat} {v : Value} {l : List α} {T : Nat → Prop}
/-- An owned list is carried over a frame; then one element is appended. -/
theorem PL.grow (h : PL w0 B v l.length l l.length) (hf0 : Fr T w0 w2) (hT : ∀ k, B ≤ k → k < w0.heap.size → ¬ T k) (hB : B ≤ w0.heap.size) :
    ∃ xs, w2.ownsRow B (Tid.tid α) (Dat.sz α) v l.length xs ∧ ∀ (x : α) (cs : List Value) (fx : List Nat) (v' : Value) (w3 : World), Own.own w2 w0.heap.size x cs fx → fx.Nodup → Fr (fun k => some k = v.ownBlock) w2 w3 →
      w3.ownsRow B (Tid.tid α) (Dat.sz α) v' (l.length + 1) (xs ++ cs) → (v'.ownBlock = v.ownBlock ∨ v'.ownBlock = some w2.heap.size) → PL w3 B v' (l ++ [x]).length (l ++ [x]) (l ++ [x]).length := by
  obtain ⟨xs, fps, hr, hfl, hn, ho⟩ := h
  have hr2 := own_kept hr hf0 (fun k hk => hT k (own_lt hr hk).1 (own_lt hr hk).2)
  refine ⟨xs, hr2, fun x cs fx v' w3 hx hfx hf hr3 hlie => ?_⟩
  have ho2 : ∀ i, i < l.length → Own.own w2 B (gd l i) (nth (Dat.sz α) xs i) (gd fps i) := fun i hi => Own.okept (ho i hi) hf0 fun k hk => hT k (Own.lt (ho i hi) k hk).1 (Own.lt (ho i hi) k hk).2
  have hlt1 : ∀ k ∈ fps.flatten, k < w0.heap.size := fun k hk => by
    obtain ⟨i, hi, hm⟩ := flat_mem hk
    exact (Own.lt (ho i (by omega)) k hm).2
  have hlt2 : ∀ k ∈ fx, w0.heap.size ≤ k ∧ k < w2.heap.size := fun k hk => Own.lt hx k hk
  have hn0 := List.nodup_append.1 hn
  have hz := hf0.size
  have hvl : ∀ k, some k = v.ownBlock → k < w0.heap.size := fun k hk => (own_lt hr hk).2
  refine ⟨xs ++ cs, fps ++ [fx], by rw [List.length_append]; exact hr3, by simp [hfl], ?_, fun i hi => ?_⟩
  · rw [List.flatten_append, List.flatten_cons, List.flatten_nil, List.append_nil]
    refine List.nodup_append.2 ⟨nodup_own v', List.nodup_append.2 ⟨hn0.2.1, hfx, fun a ha b hb e => by
      have := hlt1 a ha
      have := (hlt2 b hb).1
      omega⟩, fun a ha b hb2 e => ?_⟩
    subst e
    have ha' := mem_ownBlock.1 ha
    rcases hlie with h | h
    · rw [h] at ha'
      rcases List.mem_append.1 hb2 with hm | hm
      · exact hn0.2.2 a (mem_ownBlock.2 ha') a hm rfl
      · have := hvl a ha'
        have := (hlt2 a hm).1
        omega
    · rw [h] at ha'
      injection ha' with ha'
      rcases List.mem_append.1 hb2 with hm | hm
      · have := hlt1 a hm; omega
      · have := (hlt2 a hm).2; omega
  · rw [List.length_append, List.length_singleton] at hi
    by_cases hlt : i < l.length
    · rw [gd_app1 hlt, gd_app1 (by omega), nth_app1 hr.1 hlt]
      refine Own.okept (ho2 i hlt) hf fun k hk e => ?_
      exact hn0.2.2 k (mem_ownBlock.2 e) k (mem_flat (by omega) hk) rfl
    · obtain rfl : i = l.length := by omega
      rw [gd_snoc, nth_app2 hr.1 (Dat.len (Own.read hx)), ← hfl, gd_snoc]
      exact Own.mono (Own.okept hx hf fun k hk e => by have := hvl k e; have := (hlt2 k hk).1; omega) hB
theorem OO.pl (h : OO w0 B v l) : PL w0 B v l.length l l.length := by
  obtain ⟨fp, ⟨xs, fps, hr, hl, rfl, ho⟩, hn⟩ := h
  exact ⟨xs, fps, hr, hl, hn, ho⟩
theorem OO.nil (w : World) (B : Nat) : OO w B (.slice none 0 0) ([] : List α) := ⟨[], OL.nil _ _, List.nodup_nil⟩
end
theorem ti_ints : TI 49 46 1 := ti_mk Try.underlying49 info_IntSS (by decide) rfl (by decide)
/-- A new block that holds a slice. -/
theorem news1 (w : World) (u : Value) (e : TypeId) : 0 < 1 → ∃ b o, some (⟨w.heap.size, 0, none⟩ : Addr) = some ⟨b, o, none⟩ ∧ ∀ j x, [u][j]? = some x → (w.alloc (.cells #[u] e)).cell? ⟨b, o + j, none⟩ = some x := fun _ =>
  ⟨w.heap.size, 0, rfl, fun j x hj => by
    match j, hj with
    | 0, hj => simp at hj; subst hj; simp⟩
theorem one1 (a : Option Addr) (n c : Nat) : ∀ u ∈ [Value.slice a n c], u.oneCell' = true := fun u hu => by
  simp at hu; subst hu; rfl
theorem asn_all' {a : Asn} (h : asnB a = true) : (a.1.all factB = true ∧ a.2.all atomB = true) ∧ a.2.length ≤ 6 := by
  simp only [asnB, factsB, Bool.and_eq_true, decide_eq_true_eq] at h
  exact ⟨⟨h.1.2, h.2.2⟩, h.2.1⟩
theorem rarr_row' {W : World} {g : Nat} {q : List Int} {T : TypeId} (h : W.heap[g]? = some (.cells (iarr q) T (0, 0))) (hq : q.length = 9) : RArr W g q :=
  ⟨hq, box_lt h, fun i hi => iarr_at h i (by omega)⟩
theorem cm_new (w : World) (v : Value) (n : Nat) : CM (w.alloc (.cells #[v, .bool false, .bool false, .bool false, .bool false, .bool false, .bool false, .int .i64 0] 178)) w.heap.size v 0 (cntM n 0) := by
  unfold CM
  rw [cntM_zero, heap_alloc_new]
  rfl
theorem goal_shape {left : List Atom} {m : Nat} {x : Atom} : goalU left m x = if x.1 = 1 then cellU left m x else chainU left x.2.2 (clsdB left x.2.2) (left.length - cntM left.length m) m x.2.1 := rfl
set_option maxRecDepth 100000 in
set_option maxHeartbeats 6400000 in
theorem matchCase_any {S1 S2 S3 S4 : Nat → Prop} (v1 v2 u1 u2 : Value) (a b : Asn) (cl : List Int) (r : Option (List (List Int))) (w : World) (h1 : RL w S1 v1 a.1) (h2 : RL w S2 v2 a.2) (k1 : RL w S3 u1 b.1) (k2 : RL w S4 u2 b.2)
    (ha : asnB a = true) (hb : asnB b = true) (hc : cl.length = 9) (hr : matchC a b cl = r) :
    Calls Try.prog 89 #[.agg #[v1, v2], .agg #[u1, u2], .agg (iarr cl)] w fun e w' => ∃ v', e = .returned (.tuple #[v', .bool r.isSome]) ∧ (∀ us, r = some us → OO w' w.heap.size v' us) ∧ Below w.heap.size w w' := by
  obtain ⟨xa1, xc1, rfl⟩ := h1.form
  obtain ⟨xa2, xc2, rfl⟩ := h2.form
  obtain ⟨ya1, yc1, rfl⟩ := k1.form
  obtain ⟨ya2, yc2, rfl⟩ := k2.form
  have fa := asn_all' ha
  have fb := asn_all' hb
  obtain ⟨fbb, hfb⟩ : ∃ r, b.1.all (factC cl) = r := ⟨_, rfl⟩
  obtain ⟨left, hleft⟩ : ∃ l, filledL cl a.2 = l := ⟨_, rfl⟩
  obtain ⟨right, hright⟩ : ∃ l, filledL cl b.2 = l := ⟨_, rfl⟩
  have hr2 : r = if fbb = true then mtchF left right else none := by rw [← hr, matchC, hfb, hleft, hright]
  have h6 : left.length ≤ 6 := by rw [← hleft]; exact Nat.le_trans (filledL_len _ _) fa.2
  have hr6 : right.length ≤ 6 := by rw [← hright]; exact Nat.le_trans (filledL_len _ _) fb.2
  have HR := Lib.hid hr2
  have HFB := Lib.hid hfb
  have HL := Lib.hid (And.intro hleft hright)
  have HC := Lib.hid hc
  have FA := Lib.hid fa
  have FB := Lib.hid fb
  clear hr hr2 hfb hleft hright hc ha hb fa fb
  have hrow := heap_alloc_new ((w.alloc (.cells #[.slice xa1 a.1.length xc1, .slice xa2 a.2.length xc2] 33)).alloc (.cells #[.slice ya1 b.1.length yc1, .slice ya2 b.2.length yc2] 33)) (.cells (iarr cl) 109)
  simp only [World.size_alloc] at hrow
  have hc1 : (((w.alloc (.cells #[.slice xa1 a.1.length xc1, .slice xa2 a.2.length xc2] 33)).alloc (.cells #[.slice ya1 b.1.length yc1, .slice ya2 b.2.length yc2] 33)).alloc (.cells (iarr cl) 109)).cell? ⟨w.heap.size, 1, none⟩ = some (.slice xa2 a.2.length xc2) := by simp [go_sem]
  have hd0 : (((w.alloc (.cells #[.slice xa1 a.1.length xc1, .slice xa2 a.2.length xc2] 33)).alloc (.cells #[.slice ya1 b.1.length yc1, .slice ya2 b.2.length yc2] 33)).alloc (.cells (iarr cl) 109)).cell? ⟨w.heap.size + 1, 0, none⟩ = some (.slice ya1 b.1.length yc1) := by simp [go_sem]
  have hd1 : (((w.alloc (.cells #[.slice xa1 a.1.length xc1, .slice xa2 a.2.length xc2] 33)).alloc (.cells #[.slice ya1 b.1.length yc1, .slice ya2 b.2.length yc2] 33)).alloc (.cells (iarr cl) 109)).cell? ⟨w.heap.size + 1, 1, none⟩ = some (.slice ya2 b.2.length yc2) := by simp [go_sem]
  have hW : Below w.heap.size w (((w.alloc (.cells #[.slice xa1 a.1.length xc1, .slice xa2 a.2.length xc2] 33)).alloc (.cells #[.slice ya1 b.1.length yc1, .slice ya2 b.2.length yc2] 33)).alloc (.cells (iarr cl) 109)) := ba (ba (below_alloc _ _) _) _
  have HX := Lib.hid (And.intro hrow (And.intro hc1 (And.intro (And.intro hd0 hd1) hW)))
  clear hrow hc1 hd0 hd1 hW
  go_enter Try.func89, Try.ntmps89
  go_wp2_with fail
  generalize ((w.alloc (.cells #[.slice xa1 a.1.length xc1, .slice xa2 a.2.length xc2] 33)).alloc (.cells #[.slice ya1 b.1.length yc1, .slice ya2 b.2.length yc2] 33)).alloc (.cells (iarr cl) 109) = w0 at HX ⊢
  have hA := rarr_row' HX.out.1 HC.out
  have hc1 := HX.out.2.1
  have hd1 := HX.out.2.2.1.2
  have hW := HX.out.2.2.2
  refine (cb (factsHoldC_any (w.heap.size + 1 + 1) cl _ b.1 _ hA (k1.keep hW) FB.out.1.1) HFB.out).mono ?_
  rintro e w1 ⟨rfl, hb1⟩
  replace hA := hA.keep hb1
  replace hc1 := cell_keep hb1 hc1; replace hd1 := cell_keep hb1 hd1; replace hW := bt hW hb1; clear hb1
  cases fbb with
  | false =>
    have HN := Lib.hid (show r = none by rw [HR.out]; rfl)
    go_wp2
    go_returns
    exact ⟨.slice none 0 0, by rw [HN.out]; rfl, fun us e => (by rw [HN.out] at e; cases e), hW⟩
  | true =>
    have HM := Lib.hid (show r = mtchF left right by rw [HR.out]; rfl)
    go_wp2_with fail
    refine (filledC_any (w.heap.size + 1 + 1) cl _ a.2 _ hA (h2.keep hW) FA.out.1.2 (by have := FA.out.2; omega)).mono ?_
    rintro e w2 ⟨vL, rfl, hL, hb2⟩
    rw [HL.out.1] at hL
    have hLr := hL.rl
    obtain ⟨la, lc, rfl⟩ := hLr.form
    replace hA := hA.keep hb2
    have hz1 := hW.size
    replace hc1 := cell_keep hb2 hc1; replace hd1 := cell_keep hb2 hd1; replace hW := bt hW hb2; clear hb2
    have hCM := cm_new w2 (.slice la left.length lc) left.length
    have HCM := Lib.hid hCM
    have hz2 := hW.size
    have hzd : w.heap.size + 1 < w2.heap.size := World.block_lt_of_cell? w2 _ hd1
    have HZ := Lib.hid hz2
    have HL2 := Lib.hid (And.intro hLr hA)
    have hb3 := below_alloc w2 (.cells #[.slice la left.length lc, .bool false, .bool false, .bool false, .bool false, .bool false, .bool false, .int .i64 0] 178)
    have HB3 := Lib.hid hb3
    clear hCM hL hLr hA hb3
    go_wp2_with fail
    refine (filledC_any (w.heap.size + 1 + 1) cl _ b.2 _ (HL2.out.2.keep (below_alloc _ _)) (k2.keep (bt hW (below_alloc _ _))) FB.out.1.2 (by have := FB.out.2; omega)).mono ?_
    rintro e w3 ⟨vR, rfl, hR, hb4⟩
    rw [HL.out.2] at hR
    have hRr := hR.rl
    obtain ⟨ra, rc, rfl⟩ := hRr.form
    have HW3 := Lib.hid (bt (bt hW HB3.out) hb4)
    have hC3 := HCM.out.keep hb4
    have HL3 := Lib.hid (HL2.out.1.lt.keep (bt HB3.out hb4))
    have hz4 := hb4.size
    simp only [World.size_alloc] at hz4
    have HR3 := Lib.hid (And.intro (hRr.more (S' := fun j => w2.heap.size + 1 ≤ j) fun j _ hj => by have hj' : _ ≤ j := hj; simpa using hj') hC3)
    clear hR hRr hb4 hc1 hd1 hW hC3
    go_wp2
    go_loopg [9, 26] right.length (fun q res i wr => ∃ (k m : Nat) (us : List (List Int)), k + q = right.length ∧ i = .int .i64 k ∧ goalsU left (right.take k) 0 = some (m, us) ∧ us.length = k ∧ PL wr w3.heap.size res us.length us us.length ∧ CM wr w2.heap.size (.slice la left.length lc) m (cntM left.length m) ∧ Fr (fun k => k = w2.heap.size) w3 wr)
    case atStart => exact ⟨0, 0, [], by omega, rfl, rfl, rfl, (OO.nil _ _).pl, HR3.out.2, Fr.refl _ _⟩
    case round =>
      obtain ⟨k, m, us, hk, rfl, hgo, hlk, hP, hC, hf⟩ := hrel
      have HK := Lib.hid hk
      have HP := Lib.hid hP
      have HF := Lib.hid hf
      have HLK := Lib.hid hlk
      have HZ3 := Lib.hid hz4
      have hq := HL3.out.kept hf (fun j _ hj e => by have : j < w2.heap.size := hj; omega)
      have HC := Lib.hid hC
      clear hk hP
      by_cases hk8 : k < right.length
      · have hki : (k : Int) < (right.length : Int) := by omega
        have hus6 : us.length ≤ 6 := by omega
        obtain ⟨ra', rc', hre, _, _, hrf⟩ := (HR3.out.1.kept hf (fun j _ hj e => by have hj' : w2.heap.size + 1 ≤ j := hj; omega)).atomAt
        simp only [Value.slice.injEq] at hre
        obtain ⟨rfl, _, rfl⟩ := hre
        obtain ⟨b1, o1, rfl, _, hzc, hp1, hp2, hp3⟩ := hrf k hk8
        have hgt := goals_take hk8 hgo
        obtain ⟨x, hxe⟩ : ∃ x, gd right k = x := ⟨_, rfl⟩
        obtain ⟨x1, x2, x3⟩ := x
        rw [hxe] at hp1 hp2 hp3 hgt
        obtain ⟨rU, hrU⟩ : ∃ r, goalU left m (x1, x2, x3) = r := ⟨_, rfl⟩
        rw [hrU] at hgt
        have HGT := Lib.hid hgt
        rw [goal_shape] at hrU
        simp only at hrU hp1 hp2 hp3
        clear hrf hgo hgt hxe hC hlk hf
        have hz4' := HZ3.out
        have hzw := HF.out.size
        clear hz4
        by_cases hx1 : x1 = 1
        · have hxb : (x1 == 1) = true := by simp [hx1]
          rw [if_pos hx1] at hrU
          have HGO := Lib.hid hrU
          clear hx1 hrU
          cases rU with
          | none =>
            have HN := Lib.hid (show r = none by rw [HM.out, mtchF, goals_stop (k := k + 1) (by rw [HGT.out]; rfl)])
            go_wp2_with fail
            refine (useCell_any w2.heap.size _ left m (x1, x2, x3) none _ (HC.out.keep (below_alloc _ _)) (hq.keep (below_alloc _ _)) h6 HGO.out).mono ?_
            rintro e w5 ⟨vu, rfl, hU, hf5⟩
            have HU := Lib.hid (And.intro hU (((Below.fr (below_alloc wr (.cells #[.int .i64 x1, .int .i64 x2, .int .i64 x3] 124))).mono (S' := fun k => k = w2.heap.size) fun _ _ h => h.elim).trans hf5))
            clear hU hf5
            go_wp2
            go_returns
            exact ⟨.slice none 0 0, by rw [HN.out]; rfl, fun us e => (by rw [HN.out] at e; cases e), HW3.out.trans ((HF.out.trans HU.out.2).below HW3.out.size fun j hj e => by have := HZ.out; omega)⟩
          | some p =>
            obtain ⟨m', us'⟩ := p
            have HN := Lib.hid (show goalsU left (right.take (k + 1)) 0 = some (m', us ++ [us']) by rw [HGT.out]; rfl)
            go_wp2_with fail
            refine (useCell_any w2.heap.size _ left m (x1, x2, x3) (some (m', us')) _ (HC.out.keep (below_alloc _ _)) (hq.keep (below_alloc _ _)) h6 HGO.out).mono ?_
            rintro e w5 ⟨vu, rfl, hU, hf5⟩
            have HU := Lib.hid (And.intro hU (((Below.fr (below_alloc wr (.cells #[.int .i64 x1, .int .i64 x2, .int .i64 x3] 124))).mono (S' := fun k => k = w2.heap.size) fun _ _ h => h.elim).trans hf5))
            clear hU hf5
            obtain ⟨hC5, hO5⟩ := HU.out.1 m' us' rfl
            obtain ⟨ua, uc, rfl⟩ := hO5.form
            obtain ⟨fx, hOL, hfx⟩ := hO5
            have hx : Own.own (w5.alloc (.cells #[.slice ua us'.length uc] 46)) wr.heap.size us' [.slice ua us'.length uc] fx := ⟨_, rfl, (hOL.keep (below_alloc _ _)).mono (by simp)⟩
            obtain ⟨xs, hown, hgrow⟩ := HP.out.grow (HU.out.2.thenB (below_alloc w5 (.cells #[.slice ua us'.length uc] 46))) (fun j hj _ e => by have := HZ3.out; omega) HF.out.size
            have HG := Lib.hid (fun v' w7 hf7 hr7 hl7 => hgrow us' _ fx v' w7 hx hfx hf7 hr7 hl7)
            have HC5 := Lib.hid hC5
            have hz5 := Nat.le_trans HF.out.size HU.out.2.size
            clear hx hgrow hOL hfx hC5
            go_wp2_with (at_builtin; go_must (refine app_cells (n := us.length) (m := 1) (news := [.slice ua us'.length uc]) rfl (.tmp 45) (.tmp 47) _ rfl (B := w3.heap.size) ti_ints rfl hown rfl rfl (news1 _ _ _) (one1 _ _ _) (by omega) (by simp; omega) ?_; intro v' w7 hr7 hf7 hl7))
            have hP7 := HG.out v' w7 hf7 hr7 hl7
            have hn7 := fun (j : Nat) (hj : j < w3.heap.size) (e : some j = _) => Nat.not_le.2 hj (own_lt hown e).1
            have hC7 : CM w7 w2.heap.size _ _ _ := box_kept (HC5.out.keep (below_alloc w5 (.cells #[.slice ua us'.length uc] 46))) hf7 (hn7 _ (by have := HZ3.out; omega))
            have F7 := Lib.hid (((HF.out.trans HU.out.2).thenB (below_alloc w5 (.cells #[.slice ua us'.length uc] 46))).then hf7 (fun j hj e => absurd e (hn7 j hj)))
            go_wp2
            go_roundg (gk - 1)
            case rel => exact ⟨k + 1, m', us ++ [us'], by have := HK.out; omega, by go_num, HN.out, by rw [List.length_append, HLK.out]; rfl, hP7, hC7, F7.out⟩
            case measure => have := HK.out; omega
        · have hxb : (x1 == 1) = false := by simp [hx1]
          rw [if_neg hx1] at hrU
          have HGO := Lib.hid hrU
          clear hx1 hrU
          cases rU with
          | none =>
            have HN := Lib.hid (show r = none by rw [HM.out, mtchF, goals_stop (k := k + 1) (by rw [HGT.out]; rfl)])
            go_wp2_with fail
            refine (useChain_any w2.heap.size _ left m (x1, x2, x3) none _ (HC.out.keep (below_alloc _ _)) (hq.keep (below_alloc _ _)) (fun j hj e => by have : j < w2.heap.size := hj; omega) h6 HGO.out).mono ?_
            rintro e w5 ⟨vu, rfl, hU, hf5⟩
            have HU := Lib.hid (And.intro hU (((Below.fr (below_alloc wr (.cells #[.int .i64 x1, .int .i64 x2, .int .i64 x3] 124))).mono (S' := fun k => k = w2.heap.size) fun _ _ h => h.elim).trans hf5))
            clear hU hf5
            go_wp2
            go_returns
            exact ⟨.slice none 0 0, by rw [HN.out]; rfl, fun us e => (by rw [HN.out] at e; cases e), HW3.out.trans ((HF.out.trans HU.out.2).below HW3.out.size fun j hj e => by have := HZ.out; omega)⟩
          | some p =>
            obtain ⟨m', us'⟩ := p
            have HN := Lib.hid (show goalsU left (right.take (k + 1)) 0 = some (m', us ++ [us']) by rw [HGT.out]; rfl)
            go_wp2_with fail
            refine (useChain_any w2.heap.size _ left m (x1, x2, x3) (some (m', us')) _ (HC.out.keep (below_alloc _ _)) (hq.keep (below_alloc _ _)) (fun j hj e => by have : j < w2.heap.size := hj; omega) h6 HGO.out).mono ?_
            rintro e w5 ⟨vu, rfl, hU, hf5⟩
            have HU := Lib.hid (And.intro hU (((Below.fr (below_alloc wr (.cells #[.int .i64 x1, .int .i64 x2, .int .i64 x3] 124))).mono (S' := fun k => k = w2.heap.size) fun _ _ h => h.elim).trans hf5))
            clear hU hf5
            obtain ⟨hC5, hO5⟩ := HU.out.1 m' us' rfl
            obtain ⟨ua, uc, rfl⟩ := hO5.form
            obtain ⟨fx, hOL, hfx⟩ := hO5
            have hx : Own.own (w5.alloc (.cells #[.slice ua us'.length uc] 46)) wr.heap.size us' [.slice ua us'.length uc] fx := ⟨_, rfl, (hOL.keep (below_alloc _ _)).mono (by simp)⟩
            obtain ⟨xs, hown, hgrow⟩ := HP.out.grow (HU.out.2.thenB (below_alloc w5 (.cells #[.slice ua us'.length uc] 46))) (fun j hj _ e => by have := HZ3.out; omega) HF.out.size
            have HG := Lib.hid (fun v' w7 hf7 hr7 hl7 => hgrow us' _ fx v' w7 hx hfx hf7 hr7 hl7)
            have HC5 := Lib.hid hC5
            have hz5 := Nat.le_trans HF.out.size HU.out.2.size
            clear hx hgrow hOL hfx hC5
            go_wp2_with (at_builtin; go_must (refine app_cells (n := us.length) (m := 1) (news := [.slice ua us'.length uc]) rfl (.tmp 45) (.tmp 47) _ rfl (B := w3.heap.size) ti_ints rfl hown rfl rfl (news1 _ _ _) (one1 _ _ _) (by omega) (by simp; omega) ?_; intro v' w7 hr7 hf7 hl7))
            have hP7 := HG.out v' w7 hf7 hr7 hl7
            have hn7 := fun (j : Nat) (hj : j < w3.heap.size) (e : some j = _) => Nat.not_le.2 hj (own_lt hown e).1
            have hC7 : CM w7 w2.heap.size _ _ _ := box_kept (HC5.out.keep (below_alloc w5 (.cells #[.slice ua us'.length uc] 46))) hf7 (hn7 _ (by have := HZ3.out; omega))
            have F7 := Lib.hid (((HF.out.trans HU.out.2).thenB (below_alloc w5 (.cells #[.slice ua us'.length uc] 46))).then hf7 (fun j hj e => absurd e (hn7 j hj)))
            go_wp2
            go_roundg (gk - 1)
            case rel => exact ⟨k + 1, m', us ++ [us'], by have := HK.out; omega, by go_num, HN.out, by rw [List.length_append, HLK.out]; rfl, hP7, hC7, F7.out⟩
            case measure => have := HK.out; omega
      · obtain rfl : k = right.length := by have := HK.out; omega
        rw [List.take_length] at hgo
        have hc0 := hC.c0
        have hc7 := hC.c7
        obtain ⟨cb, hcb⟩ : ∃ q, (cntM left.length m == left.length) = q := ⟨_, rfl⟩
        have hE : r = if cb = true then some us else none := by rw [HM.out, mtchF, hgo, ← hcb, ← all_bits_cnt]
        have HE := Lib.hid hE
        have HFF := Lib.hid hf
        clear hgo hE hC hf hlk
        cases cb with
        | true =>
          have hnb : ((cntM left.length m : Int) != (left.length : Int)) = false := by rw [beq_iff_eq] at hcb; simp [hcb]
          clear hcb
          go_wp2
          go_returns
          refine ⟨_, by rw [HE.out]; rfl, fun us' e => ?_, HW3.out.trans (HFF.out.below HW3.out.size fun j hj e => by have := HZ.out; omega)⟩
          rw [HE.out] at e
          simp only [if_true, Option.some.injEq] at e
          subst e
          exact HP.out.done.mono HW3.out.size
        | false =>
          have hnb : ((cntM left.length m : Int) != (left.length : Int)) = true := by rw [beq_eq_false_iff_ne] at hcb; simp; omega
          clear hcb
          go_wp2
          go_returns
          exact ⟨.slice none 0 0, by rw [HE.out]; rfl, fun us e => (by rw [HE.out] at e; cases e), HW3.out.trans (HFF.out.below HW3.out.size fun j hj e => by have := HZ.out; omega)⟩
end Go.Proofs.Ytobbilbkjiemiaa
