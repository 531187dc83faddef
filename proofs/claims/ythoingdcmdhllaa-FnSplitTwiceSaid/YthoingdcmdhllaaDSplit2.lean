/- The walk of the law FnSplitTwice. -/
import Derived.Test.YthoingdcmdhllaaDImp
import Derived.Test.YthoingdcmdhllaaImpI
import Derived.Test.YthoingdcmdhllaaSam
import Derived.Test.YthoingdcmdhllaaSplit3
import Derived.Test.YthoingdcmdhllaaItrB
namespace Go.Proofs.Ythoingdcmdhllaa
open Go.RowKit

set_option maxRecDepth 100000 in
set_option maxHeartbeats 3200000 in
theorem specDrawSplitFact_any (v : Value) (n : Nat) (w : World) (h : RBytes w v n) :
    Calls Try.prog 23 #[v] w fun e w' => ∃ (u1 u2 : Value) (a : Asn) (f : Fact), e = .returned (.tuple #[.agg #[u1, u2], .agg #[.bool f.1, .int .i64 f.2.1, .int .i64 f.2.2]]) ∧ (a.1.length ≤ 26 ∧ a.2.length ≤ 13) ∧ RL w' (fun _ => True) u1 a.1 ∧ RL w' (fun _ => True) u2 a.2 ∧ Below w.heap.size w w' := by
  go_enter Try.func23, Try.ntmps23
  go_wp2_with fail
  refine (specDrawImplies_any v n _ ((h.keep (below_alloc _ _)).keep (below_alloc _ _))).mono ?_
  rintro e w1 ⟨u1, u2, a, f, rfl, hl, r1, r2, hb⟩
  have hA := box_keep (box_keep (heap_alloc_new w (.cells #[.slice none 0 0, .slice none 0 0] 34)) (below_alloc _ (.cells #[.bool false, .int .i64 0, .int .i64 0] 41))) hb
  have hB := box_keep (heap_alloc_new (w.alloc (.cells #[.slice none 0 0, .slice none 0 0] 34)) (.cells #[.bool false, .int .i64 0, .int .i64 0] 41)) hb
  simp only [World.size_alloc] at hB
  obtain ⟨a1, c1, rfl⟩ := r1.form
  obtain ⟨a2, c2, rfl⟩ := r2.form
  have hW := bt (ba (below_alloc w (.cells #[.slice none 0 0, .slice none 0 0] 34)) (.cells #[.bool false, .int .i64 0, .int .i64 0] 41)) hb
  have HQ := Lib.hid (And.intro hl (And.intro r1 (And.intro r2 hW)))
  have A0 := box0 hA
  have A1 := box1 hA
  have Az := boxz hA
  have Al := box_lt hA
  have B0 := c30 hB
  have B1 := c31 hB
  have B2 := c32 hB
  have Bz := c3z hB
  have Bl := box_lt hB
  clear hA hB hl r1 r2 hb hW
  go_wp2
  refine bodyPost_ret (v := .tuple #[.agg #[.slice a1 a.1.length c1, .slice a2 a.2.length c2], .agg #[.bool f.1, .int .i64 f.2.1, .int .i64 f.2.2]]) (by simp [results, Try.results23, go_sem, A0, A1, B0, B1, B2]) rfl ?_
  refine ⟨_, _, a, f, rfl, HQ.out.1, (HQ.out.2.1.kept (T := fun k => k = w.heap.size ∨ k = w.heap.size + 1) ?_ fun k _ h e => by simp only [World.size_alloc] at h; omega).any, (HQ.out.2.2.1.kept (T := fun k => k = w.heap.size ∨ k = w.heap.size + 1) ?_ fun k _ h e => by simp only [World.size_alloc] at h; omega).any, ?_⟩
  · exact fr_res5n _ _ _ _ _ _ _
  · exact fr_res5n _ _ _ _ _ _ _
  · exact HQ.out.2.2.2.trans ((fr_res5n _ w.heap.size _ _ _ _ _).below HQ.out.2.2.2.size fun k hk e => by omega)
set_option maxRecDepth 100000 in
set_option maxHeartbeats 6400000 in
theorem fnSplitTwice_walk (v : Value) (n : Nat) (w : World) (h : RBytes w v n) :
    Calls Try.prog 4 #[v] w fun e w' => e = .returned (.bool true) ∧ Below w.heap.size w w' := by
  obtain ⟨a, cap, rfl⟩ := bytes_form h
  by_cases hn : n ≤ 1048576
  rotate_left
  · go_enter Try.func4, Try.ntmps4
    go_wp2
    go_ret
    exact ⟨rfl, Below.refl _ _⟩
  go_enter Try.func4, Try.ntmps4
  go_wp2_with fail
  refine (specDrawSplitFact_any _ n _ h).mono ?_
  rintro e w1 ⟨u1, u2, A, f, rfl, hl, r1, r2, hW⟩
  obtain ⟨a1, c1, rfl⟩ := r1.form
  obtain ⟨a2, c2, rfl⟩ := r2.form
  have s1 := r1.lt
  have s2 := r2.lt
  clear r1 r2
  obtain ⟨ok, hok⟩ : ∃ ok, ok = splitOk A f := ⟨_, rfl⟩
  obtain ⟨D, hD⟩ : ∃ D, D = splitR A f := ⟨_, rfl⟩
  have hbn : (ok != ok) = false := by cases ok <;> rfl
  have hbe : (ok == ok) = true := by cases ok <;> rfl
  have HX := Lib.hid (And.intro hok hD)
  clear hok hD hl
  obtain ⟨W, hWe⟩ : ∃ W, W = (w1.alloc (.cells #[.slice a1 A.1.length c1, .slice a2 A.2.length c2] 34)).alloc (.cells #[.bool f.1, .int .i64 f.2.1, .int .i64 f.2.2] 41) := ⟨_, rfl⟩
  have hbW : Below w1.heap.size w1 W := by rw [hWe]; exact (by repeat (first | exact Below.refl _ _ | with_reducible assumption | exact below_alloc _ _ | (refine Below.setCell ?_ (by first | (simp; done) | (simp; omega) | omega) _) | apply bd | apply ba | apply be))
  have hc0 : W.cell? ⟨w1.heap.size, 0, none⟩ = some (.slice a1 A.1.length c1) := by rw [hWe]; simp
  have hc1 : W.cell? ⟨w1.heap.size, 1, none⟩ = some (.slice a2 A.2.length c2) := by rw [hWe]; simp
  have hf0 : W.cell? ⟨w1.heap.size + 1, 0, none⟩ = some (.bool f.1) := by rw [hWe]; simp
  have hf1 : W.cell? ⟨w1.heap.size + 1, 1, none⟩ = some (.int .i64 f.2.1) := by rw [hWe]; simp
  have hf2 : W.cell? ⟨w1.heap.size + 1, 2, none⟩ = some (.int .i64 f.2.2) := by rw [hWe]; simp
  have HWE := Lib.hid hWe
  clear hWe
  replace s1 := s1.keep hbW
  replace s2 := s2.keep hbW
  replace hW := bt hW hbW
  have hz1 : w1.heap.size + 1 < W.heap.size := by have := World.block_lt_of_cell? W _ hf0; simpa using this
  clear hbW
  go_wp2_with fail
  rw [← HWE.out]
  refine (splitI_any _ _ A f _ s1 s2).mono ?_
  rw [← HX.out.1, ← HX.out.2]
  rintro e w2 ⟨x, rfl, hx, hb⟩
  have rx := hx.read
  clear hx
  obtain ⟨xa, xc, rfl⟩ := rx.form
  have hz2 := hb.size
  replace hc0 := cell_keep hb hc0; replace hc1 := cell_keep hb hc1; replace hf0 := cell_keep hb hf0; replace hf1 := cell_keep hb hf1; replace hf2 := cell_keep hb hf2; replace hW := bt hW hb; replace s1 := s1.keep hb; replace s2 := s2.keep hb; clear hb
  go_wp2_with fail
  refine (splitS_any _ _ A f _ s1 s2).mono ?_
  rw [← HX.out.1, ← HX.out.2]
  rintro e w3 ⟨y, rfl, ry, hb⟩
  obtain ⟨ya, yc, rfl⟩ := ry.form
  have hz3 := hb.size
  replace hc0 := cell_keep hb hc0; replace hc1 := cell_keep hb hc1; replace hf0 := cell_keep hb hf0; replace hf1 := cell_keep hb hf1; replace hf2 := cell_keep hb hf2; replace hW := bt hW hb; replace s1 := s1.keep hb; replace s2 := s2.keep hb; replace rx := rx.keep hb; clear hb
  go_wp2_with fail
  refine (slAsns_any _ _ D _ rx ry).mono ?_
  rintro e w4 ⟨rfl, hb⟩
  have hz4 := hb.size
  replace hc0 := cell_keep hb hc0; replace hc1 := cell_keep hb hc1; replace hf0 := cell_keep hb hf0; replace hf1 := cell_keep hb hf1; replace hf2 := cell_keep hb hf2; replace hW := bt hW hb; replace s1 := s1.keep hb; replace s2 := s2.keep hb; replace rx := rx.keep hb; replace ry := ry.keep hb; clear hb
  cases ok with
  | false =>
    go_wp2_with fail
    refine (slAsns_any _ _ D _ rx ry).mono ?_
    rintro e w5 ⟨rfl, hb⟩
    go_wp2
    go_ret
    exact ⟨rfl, bt hW hb⟩
  | true =>
    have hso : splitOk A f = true := HX.out.1.symm
    obtain ⟨cc, hcc⟩ : ∃ cc, consB A = cc := ⟨_, rfl⟩
    have HCC := Lib.hid (And.intro hcc hso)
    clear hcc hso
    go_wp2_with fail
    refine (cb (consistentI_any _ _ A _ s1 s2) HCC.out.1).mono ?_
    rintro e w5 ⟨rfl, hb⟩
    have hz5 := hb.size
    replace hc0 := cell_keep hb hc0; replace hc1 := cell_keep hb hc1; replace hf0 := cell_keep hb hf0; replace hf1 := cell_keep hb hf1; replace hf2 := cell_keep hb hf2; replace hW := bt hW hb; replace s1 := s1.keep hb; replace s2 := s2.keep hb; replace rx := rx.keep hb; replace ry := ry.keep hb; clear hb
    cases cc with
    | false =>
      go_wp2_with fail
      refine (slAsns_any _ _ D _ rx ry).mono ?_
      rintro e w6 ⟨rfl, hb⟩
      go_wp2
      go_ret
      exact ⟨rfl, bt hW hb⟩
    | true =>
      obtain ⟨ys, hys⟩ : ∃ b, impB A f = b := ⟨_, rfl⟩
      obtain ⟨no, hno⟩ : ∃ b, impB A (nF f) = b := ⟨_, rfl⟩
      have HY := Lib.hid (And.intro hys hno)
      have HLEN := Lib.hid (show D = (if no = true then [] else [withF A f]) ++ (if ys = true then [] else [withF A (nF f)]) by rw [HX.out.2, split_two HCC.out.2, hys, hno])
      have HNN := Lib.hid (show ys = true → no = false from fun h => by rw [← hno]; exact imp_not HCC.out.1 (by rw [hys, h]))
      clear hys hno
      go_wp2_with fail
      refine (cb (impliesI_any _ _ A f _ s1 s2) HY.out.1).mono ?_
      rintro e w6 ⟨rfl, hb⟩
      have hz6 := hb.size
      replace hc0 := cell_keep hb hc0; replace hc1 := cell_keep hb hc1; replace hf0 := cell_keep hb hf0; replace hf1 := cell_keep hb hf1; replace hf2 := cell_keep hb hf2; replace hW := bt hW hb; replace s1 := s1.keep hb; replace s2 := s2.keep hb; clear hb
      go_wp2_with fail
      refine (cb (impliesI_any _ _ A (nF f) _ s1 s2) HY.out.2).mono ?_
      rintro e w7 ⟨rfl, hb⟩
      have hWn := bt hW hb
      cases ys with
      | true =>
        obtain rfl : no = false := HNN.out rfl
        have hlD : D.length = 1 := by rw [HLEN.out]; rfl
        have hl1 : ((D.length : Int) == 1) = true := by rw [hlD]; rfl
        have HD := Lib.hid hlD
        clear hlD
        go_wp2
        go_ret
        exact ⟨rfl, hWn⟩
      | false =>
        cases no with
        | true =>
          have hlD : D.length = 1 := by rw [HLEN.out]; rfl
          have hl1 : ((D.length : Int) == 1) = true := by rw [hlD]; rfl
          have HD := Lib.hid hlD
          clear hlD
          go_wp2
          go_ret
          exact ⟨rfl, hWn⟩
        | false =>
          have hlD : D.length = 2 := by rw [HLEN.out]; rfl
          have hl1 : ((D.length : Int) == 1) = false := by rw [hlD]; rfl
          have hl2 : ((D.length : Int) == 2) = true := by rw [hlD]; rfl
          have HD := Lib.hid hlD
          clear hlD
          go_wp2
          go_ret
          exact ⟨rfl, hWn⟩
end Go.Proofs.Ythoingdcmdhllaa
