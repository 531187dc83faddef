/- The walk of the law FnExactParseCase. -/
import Derived.Test.YtdjfdopgjlbloaaDoorPrsM
import Derived.Test.YtdjfdopgjlbloaaDoorPrsN
namespace Go.Proofs.YtdjfdopgjlbloaaDoor
open Go.RowKit

set_option maxRecDepth 100000 in
set_option maxHeartbeats 12800000 in
theorem fnExactParseCase_walk (t : List UInt8) (mx : Int) (w : World) (hm : w.cell? ⟨1, 0, none⟩ = some (.int .i64 mx)) :
    Calls Tryd.prog 4 #[.string (btx t)] w fun e w' => e = .returned (.bool true) ∧ Below w.heap.size w w' := by
  obtain ⟨n, hn⟩ : ∃ n, t.length = n := ⟨_, rfl⟩
  have hsz : (btx t).size = n := hn
  have HNN := Lib.hid hn
  clear hn
  by_cases h20 : n ≤ 1048576
  rotate_left
  · have hd : decide (1048576 < (n : Int)) = true := by simp; omega
    clear h20
    go_enter Tryd.func4, Tryd.ntmps4
    go_wp2
    go_ret
    exact ⟨rfl, Bl⟩
  have hd : decide (1048576 < (n : Int)) = false := by simp; omega
  have hl : t.length ≤ 1048576 := by rw [HNN.out]; exact h20
  obtain ⟨D, hD⟩ : ∃ D, parseR t = D := ⟨_, rfl⟩
  have hsD : Mk.size (parseR t) ≤ 1048576 := parseR_size t
  rw [hD] at hsD
  obtain ⟨ok, hok⟩ : ∃ ok, parseB t = ok := ⟨_, rfl⟩
  have hbne : (ok != ok) = false := by cases ok <;> rfl
  have hbeq : (ok == ok) = true := by cases ok <;> rfl
  have HD := Lib.hid (And.intro hD hok)
  have HL := Lib.hid hl
  clear hD hok h20 hl
  go_enter Tryd.func4, Tryd.ntmps4
  go_wp2_with fail
  refine (parseCaseS_any t _ HL.out).mono ?_
  rw [HD.out.1, HD.out.2]
  rintro e w1 ⟨u1, u2, rfl, ⟨ru1, ru2⟩, hW⟩
  obtain ⟨ua1, uc1, rfl⟩ := ru1.form
  obtain ⟨ua2, uc2, rfl⟩ := ru2.form
  replace ru1 := ru1.lt
  replace ru2 := ru2.lt
  obtain ⟨s0, hs0e⟩ : ∃ s, s = w1.heap.size := ⟨_, rfl⟩
  rw [← hs0e] at ru1 ru2
  have HS0 := Lib.hid hs0e
  have HSZ := Lib.hid hW.size
  have hm1 := cell_keep (bt hW (below_alloc w1 (.cells #[.slice ua1 D.1.length uc1, .slice ua2 D.2.length uc2] 28))) hm
  clear hs0e
  go_wp2_with fail
  refine (parseCaseI_any t mx _ HL.out hm1).mono ?_
  rw [HD.out.1, HD.out.2]
  rintro e gW ⟨g1, g2, rfl, ⟨fg1, fg2, og1, og2, ng⟩, hb⟩
  obtain ⟨ga1, gc1, rfl⟩ := og1.read.form
  obtain ⟨ga2, gc2, rfl⟩ := og2.read.form
  have hx1 := cell_keep hb (p := ⟨w1.heap.size, 0, none⟩) (v := .slice ua1 D.1.length uc1) (by simp)
  have hx2 := cell_keep hb (p := ⟨w1.heap.size, 1, none⟩) (v := .slice ua2 D.2.length uc2) (by simp)
  have lg : ∀ k, k ∈ fg1 ++ fg2 → s0 + 1 ≤ k ∧ k < gW.heap.size := fun k hk => by
    have := HS0.out
    rcases List.mem_append.1 hk with h | h
    · have := og1.lt k h; simp at this; omega
    · have := og2.lt k h; simp at this; omega
  replace og1 := og1.mono (Nat.zero_le _)
  replace og2 := og2.mono (Nat.zero_le _)
  replace hb : Below w1.heap.size w1 gW := bt (below_alloc _ _) hb
  have hwl : w1.heap.size < gW.heap.size := World.block_lt_of_cell? gW _ hx1
  replace ru1 := ru1.keep hb
  replace ru2 := ru2.keep hb
  replace hW := bt hW hb
  clear hb hm1
  go_wp2_with fail
  refine (cb (b := true) (eqCaseProof_rl _ _ _ _ D D _ (by exact og1.read.keep Bl) (by exact og2.read.keep Bl) (by exact ru1.keep Bl) (by exact ru2.keep Bl)) (by simp)).mono ?_
  rintro e e0 ⟨rfl, hb⟩
  have hg1 := cell_keep hb (p := ⟨gW.heap.size, 0, none⟩) (v := .slice ga1 D.1.length gc1) (by simp)
  have hg2 := cell_keep hb (p := ⟨gW.heap.size, 1, none⟩) (v := .slice ga2 D.2.length gc2) (by simp)
  replace hb : Below gW.heap.size gW e0 := bt Bl hb
  replace hx1 := cell_keep hb hx1
  replace hx2 := cell_keep hb hx2
  replace ru1 := ru1.keep hb
  replace ru2 := ru2.keep hb
  replace og1 := og1.keep hb
  replace og2 := og2.keep hb
  replace hW := bt hW hb
  clear hb
  go_wp2_with fail
  refine (markCaseProof_rl 0 _ _ D fg1 fg2 1 _ og1 og2 ng (by omega) (by omega) hsD).mono ?_
  rintro e mW ⟨rfl, om1, om2, hf⟩
  replace hW := hW.trans (hf.below hW.size fun k hk hm => by have := (lg k hm).1; have := HS0.out; have := HSZ.out; omega)
  replace ru1 := ru1.kept hf (fun k _ h hm => by have := (lg k hm).1; have h2 : k < s0 := h; omega)
  replace ru2 := ru2.kept hf (fun k _ h hm => by have := (lg k hm).1; have h2 : k < s0 := h; omega)
  replace hx1 := hf.cell (fun hm => by have := lg (w1.heap.size) hm; have := HS0.out; omega) hx1
  replace hx2 := hf.cell (fun hm => by have := lg (w1.heap.size) hm; have := HS0.out; omega) hx2
  replace hg1 := hf.cell (fun hm => by have := lg (gW.heap.size) hm; omega) hg1
  replace hg2 := hf.cell (fun hm => by have := lg (gW.heap.size) hm; omega) hg2
  clear hf og1 og2
  have hcD := Mk.le D
  have hk1 : ¬ 1 + ((Mk.cnt D : Nat) : Int) < 0 := by omega
  go_wp2_with fail
  refine (heldCaseProof_rl _ _ D 1 _ om1.read om2.read (by omega) (by omega) hsD).mono ?_
  rintro e h0W ⟨rfl, hb⟩
  replace hx1 := cell_keep hb hx1
  replace hx2 := cell_keep hb hx2
  replace hg1 := cell_keep hb hg1
  replace hg2 := cell_keep hb hg2
  replace ru1 := ru1.keep hb
  replace ru2 := ru2.keep hb
  replace om1 := om1.keep hb
  replace om2 := om2.keep hb
  replace hW := bt hW hb
  clear hb
  have hm2 := cell_keep hW hm
  go_wp2_with fail
  refine (parseCaseI_any t mx _ HL.out hm2).mono ?_
  rw [HD.out.1, HD.out.2]
  rintro e h1W ⟨y1, y2, rfl, ⟨fy1, fy2, oy1, oy2, _⟩, hb⟩
  have ry1 := oy1.read
  have ry2 := oy2.read
  obtain ⟨ya1, yc1, rfl⟩ := ry1.form
  obtain ⟨ya2, yc2, rfl⟩ := ry2.form
  replace hx1 := cell_keep hb hx1
  replace hx2 := cell_keep hb hx2
  replace hg1 := cell_keep hb hg1
  replace hg2 := cell_keep hb hg2
  replace ru1 := ru1.keep hb
  replace ru2 := ru2.keep hb
  replace om1 := om1.keep hb
  replace om2 := om2.keep hb
  replace hW := bt hW hb
  clear hb hm2 oy1 oy2
  have hgl1 : gW.heap.size < h1W.heap.size := World.block_lt_of_cell? h1W _ hg1
  have hwl1 : w1.heap.size < h1W.heap.size := World.block_lt_of_cell? h1W _ hx1
  go_wp2_with fail
  refine (cb (b := true) (eqCaseProof_rl _ _ _ _ D D _ (by exact ry1.keep Bl) (by exact ry2.keep Bl) (by exact ru1.keep Bl) (by exact ru2.keep Bl)) (by simp)).mono ?_
  rintro e e1 ⟨rfl, hb⟩
  replace hb : Below h1W.heap.size h1W e1 := bt Bl hb
  replace hg1 := cell_keep hb hg1
  replace hg2 := cell_keep hb hg2
  replace om1 := om1.keep hb
  replace om2 := om2.keep hb
  replace hW := bt hW hb
  clear hb
  go_wp2_with fail
  refine (heldCaseProof_rl _ _ D 1 _ om1.read om2.read (by omega) (by omega) hsD).mono ?_
  rintro e h2W ⟨rfl, hb⟩
  replace hW := bt hW hb
  go_wp2
  go_ret
  exact ⟨rfl, hW⟩
end Go.Proofs.YtdjfdopgjlbloaaDoor
