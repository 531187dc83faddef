/- Walks: drawn arguments of the laws on families. -/
import Derived.Test.YtapoillhgimdiaaTDFam
set_option linter.unusedSimpArgs false
set_option linter.unusedVariables false
namespace Go.Proofs.Ytapoillhgimdiaa
open Go.RowKit

set_option maxRecDepth 100000 in
set_option maxHeartbeats 6400000 in
theorem specDrawFamJoin_any (v : Value) (n : Nat) (w : World) (h : RBytes w v n) :
    Calls Try.prog 60 #[v] w fun e w' => ∃ (u1 u2 : Value) (A B : List Asn), e = .returned (.tuple #[u1, u2]) ∧ ((A.length ≤ 1013 ∧ fmB 1042 A) ∧ (B.length ≤ 1013 ∧ fmB 1042 B)) ∧ RL w' (fun _ => True) u1 A ∧ RL w' (fun _ => True) u2 B ∧ Below w.heap.size w w' := by
  obtain ⟨ca, cc, rfl⟩ := bytes_form h
  go_enter Try.func60, Try.ntmps60
  go_wp2_with fail
  refine (l18Open_any _ n _ h).mono ?_
  rintro e w1 ⟨rfl, hr1, hb1⟩
  obtain ⟨g, hg⟩ : ∃ g, w.heap.size = g := ⟨_, rfl⟩
  have HB := Lib.hid (And.intro hg hb1)
  rw [hg] at hr1 ⊢
  have hg1 := hr1.lt
  clear hg hb1 h
  go_wp2_with fail
  refine (l13Draw_any g 0 _ hr1 (by omega)).mono ?_
  rintro e w2 ⟨va, la, rfl, ⟨hla, hva⟩, D1⟩
  obtain ⟨aa, ac, rfl⟩ := D1.row.form
  have hz1 := D1.fr.size
  have r1 := D1.row.rl
  go_wp2_with fail
  refine (l13Mutate_any g _ _ la _ D1.rdr (by omega) r1 (by omega) ((fmB.val hva).more (by omega))).mono ?_
  rintro e w3 ⟨u1, A, rfl, hA, D2⟩
  obtain ⟨ua, uc, rfl⟩ := D2.row.form
  have hz2 := D2.fr.size
  go_wp2_with fail
  refine (l13Draw_any g _ _ D2.rdr (by omega)).mono ?_
  rintro e w4 ⟨vd, ld, rfl, ⟨hld, hvd⟩, D3⟩
  obtain ⟨da, dc, rfl⟩ := D3.row.form
  have hz3 := D3.fr.size
  have r3 := D3.row.rl
  go_wp2_with fail
  refine (l13Mutate_any g _ _ ld _ D3.rdr (by omega) r3 (by omega) ((fmB.val hvd).more (by omega))).mono ?_
  rintro e w5 ⟨u2, B, rfl, hB, D4⟩
  have hU := ((D2.row.kept D3.fr fun k hk e => by have e2 : k = g := e; omega).kept D4.fr fun k hk e => by have e2 : k = g := e; omega).rl.any
  have hF := ((D1.fr.trans D2.fr).trans D3.fr).trans D4.fr
  have HE := Lib.hid (And.intro (And.intro hA hB) (And.intro hU (And.intro D4.row.rl.any (HB.out.2.trans (hF.below HB.out.2.size fun k hk e => by have e2 : k = g := e; have := HB.out.1; omega)))))
  clear hU hF D1 D2 D3 D4 r1 r3 hA hB
  go_wp2
  go_returns
  exact ⟨_, _, A, B, rfl, HE.out⟩
end Go.Proofs.Ytapoillhgimdiaa
