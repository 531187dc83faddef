/- The walk of the law FnFamilyStar. (Printed by a program over lawgen.py.) -/
import Derived.Test.YtapoillhgimdiaaTDFam2
import Derived.Test.YtapoillhgimdiaaTMdl3
import Derived.Test.YtapoillhgimdiaaTHold8
import Derived.Test.YtapoillhgimdiaaTCs7
import Derived.Test.YtapoillhgimdiaaTSam
import Derived.Test.YtapoillhgimdiaaTStar
import Derived.Test.YtapoillhgimdiaaTPart
import Derived.Test.YtapoillhgimdiaaTFam3
import Derived.Deep.Cut
import Derived.Handy
import Derived.Deep.RegionHeld3
namespace Go.Proofs.Ytapoillhgimdiaa
open Go.RowKit

theorem any_more {p : Asn → Bool} {l : List Asn} {k : Nat} (h : k < l.length) : (l.take (k + 1)).any p = ((l.take k).any p || p (gd l k)) := by
  rw [take_gd h, List.any_append]; simp
/-- An assertion holds in a part, the family in the rest. -/
def starHit (vl hs : List Int) (B : List Asn) (x : Asn) : Bool :=
  (partO vl hs x).isSome && ((chosO vl hs (partL vl hs x)).isSome && famHoldsB (dropO vl hs (partL vl hs x)).1 (dropO vl hs (partL vl hs x)).2 B)
theorem prod_yes {A B : List Asn} (h : prodOk A B = true) : prodR A B = prodL A B ∧ (famB A = true ∧ famB B = true) ∧ famB (prodL A B) = true := by
  refine ⟨by rw [prodR, if_pos h], ?_⟩
  rw [prodOk, Bool.and_eq_true, Bool.and_eq_true] at h
  exact ⟨⟨h.1, h.2.1⟩, h.2.2⟩
theorem fam_le {A : List Asn} (h : famB A = true) : A.length ≤ 12 := by
  rw [famB, Bool.and_eq_true, decide_eq_true_eq] at h; exact h.1
theorem star_hit {A B : List Asn} {x : Asn} {vl hs : List Int} (hA : famB A = true) (hB : famB B = true) (hx : x ∈ prodL A B) (hh : holdsB vl hs x = true) : A.any (starHit vl hs B) = true := by
  obtain ⟨a, ha, hx⟩ := List.mem_flatMap.1 hx
  obtain ⟨b, hb, rfl⟩ := List.mem_map.1 hx
  obtain ⟨m, h1, h2, h3⟩ := star_split (fam_mem hA ha) (fam_mem hB hb) hh
  rw [List.any_eq_true]
  refine ⟨a, ha, ?_⟩
  have e : partL vl hs a = maskL m := by rw [partL, h1]; rfl
  have e2 : dropO vl hs (maskL m) = (vl, wTo hs (65535 ^^^ m) 8) := by rw [dropO, h2]; rfl
  rw [starHit, e, h1, h2, e2, famHoldsB, (holds_iff.1 h3).valid, hB, List.any_eq_true.2 ⟨b, hb, h3⟩]
  rfl
set_option maxRecDepth 100000 in
set_option maxHeartbeats 1600000 in
theorem specDrawFamStar_any (v : Value) (n : Nat) (w : World) (h : RBytes w v n) :
    Calls Try.prog 69 #[v] w fun e w' => ∃ (u1 u2 : Value) (A B : List Asn), e = .returned (.tuple #[u1, u2]) ∧ ((A.length ≤ 1013 ∧ fmB 1042 A) ∧ (B.length ≤ 1013 ∧ fmB 1042 B)) ∧ RL w' (fun _ => True) u1 A ∧ RL w' (fun _ => True) u2 B ∧ Below w.heap.size w w' := by
  obtain ⟨ca, cc, rfl⟩ := bytes_form h
  go_enter Try.func69, Try.ntmps69
  go_wp2_with fail
  refine (specDrawFamJoin_any _ n _ h).mono ?_
  rintro e w1 ⟨u1, u2, A, B, rfl, hAB, r1, r2, hb⟩
  obtain ⟨aa, ac, rfl⟩ := r1.form
  obtain ⟨ba, bc, rfl⟩ := r2.form
  have HE := Lib.hid (And.intro hAB (And.intro r1 (And.intro r2 hb)))
  clear hAB r1 r2 hb
  go_wp2
  go_returns
  exact ⟨_, _, A, B, rfl, HE.out⟩
set_option maxRecDepth 100000 in
set_option maxHeartbeats 12800000 in
theorem fnFamilyStar_walk (v : Value) (n : Nat) (w : World) (h : RBytes w v n) :
    Calls Try.prog 13 #[v] w fun e w' => e = .returned (.bool true) ∧ Below w.heap.size w w' := by
  obtain ⟨a, cap, rfl⟩ := bytes_form h
  by_cases hn : n ≤ 1048576
  rotate_left
  · go_enter Try.func13, Try.ntmps13
    go_wp2
    go_ret
    exact ⟨rfl, Below.refl _ _⟩
  go_enter Try.func13, Try.ntmps13
  go_wp2_with fail
  refine (specDrawFamStar_any _ n _ h).mono ?_
  rintro e w1 ⟨u1, u2, A, B, rfl, hAB, r1, r2, hb⟩
  have hW := hb
  clear hb
  have r_A := r1
  obtain ⟨Aa, Ac, rfl⟩ := r_A.form
  have r_B := r2
  obtain ⟨Ba, Bc, rfl⟩ := r_B.form
  clear r1 r2 hAB h
  obtain ⟨ok, hok⟩ : ∃ ok, ok = prodOk A B := ⟨_, rfl⟩
  obtain ⟨X, hX⟩ : ∃ X, X = prodR A B := ⟨_, rfl⟩
  have hbn : (ok != ok) = false := by cases ok <;> rfl
  have hbe : (ok == ok) = true := by cases ok <;> rfl
  have HX := Lib.hid (And.intro hok hX)
  clear hok hX
  go_wp2_with fail
  refine (familyStarI_any _ _ A B _ (r_A.keep Bl) (r_B.keep Bl)).mono ?_
  rw [← HX.out.1, ← HX.out.2]
  rintro e w2 ⟨x, rfl, hx, hb⟩
  replace r_A := r_A.keep hb
  replace r_B := r_B.keep hb
  replace hW := bt hW hb
  clear hb
  have r_X := hx.read.any
  obtain ⟨Xa, Xc, rfl⟩ := r_X.form
  clear hx
  go_wp2_with fail
  refine (familyStarS_any _ _ A B _ (r_A.keep Bl) (r_B.keep Bl)).mono ?_
  rw [← HX.out.1, ← HX.out.2]
  rintro e w3 ⟨x, rfl, hx, hb⟩
  replace r_A := r_A.keep hb
  replace r_B := r_B.keep hb
  replace r_X := r_X.keep hb
  replace hW := bt hW hb
  clear hb
  have r_W := hx
  obtain ⟨Wa, Wc, rfl⟩ := r_W.form
  clear hx
  go_wp2_with fail
  refine (slAsns_any _ _ X _ (r_X.keep Bl) (r_W.keep Bl)).mono ?_
  rintro e w4 ⟨rfl, hb⟩
  replace r_A := r_A.keep hb
  replace r_B := r_B.keep hb
  replace r_X := r_X.keep hb
  replace r_W := r_W.keep hb
  replace hW := bt hW hb
  clear hb
  cases ok with
  | false =>
    go_wp2_with fail
    refine (slAsns_any _ _ X _ (r_X.keep Bl) (r_W.keep Bl)).mono ?_
    rintro e w5 ⟨rfl, hb⟩
    replace r_A := r_A.keep hb
    replace r_B := r_B.keep hb
    replace r_X := r_X.keep hb
    replace r_W := r_W.keep hb
    replace hW := bt hW hb
    clear hb
    go_wp2
    go_ret
    exact ⟨rfl, hW⟩
  | true =>
    clear r_W
    obtain ⟨hXe, ⟨fA, fB⟩, fX⟩ := prod_yes HX.out.1.symm
    have hXp : X = prodL A B := HX.out.2.trans hXe
    rw [← hXp] at fX
    have hXn : X.length = A.length * B.length := by rw [hXp, prodL_len]
    have hXl : (X.length : Int) ≤ 12 := by have := fam_le fX; omega
    have hAl : (A.length : Int) ≤ 12 := by have := fam_le fA; omega
    have hBl : (B.length : Int) ≤ 12 := by have := fam_le fB; omega
    have HL := Lib.hid (And.intro hXp (And.intro (And.intro fA fB) hXn))
    clear hXe fA fB fX hXp hXn
    go_wp2
    go_loopg [9] X.length (fun q i wr => ∃ k : Nat, k + q = X.length ∧ i = .int .i64 k ∧ Below w4.heap.size w4 wr)
    case atStart => exact ⟨0, by omega, rfl, Below.refl _ _⟩
    case round =>
      obtain ⟨k, hk, rfl, hb⟩ := hrel
      have HK := Lib.hid (And.intro hk hb)
      clear hk
      replace r_A := r_A.keep hb
      replace r_B := r_B.keep hb
      replace r_X := r_X.keep hb
      replace hW := bt hW hb
      clear hb
      by_cases hk8 : k < X.length
      · have hki : (k : Int) < (X.length : Int) := by omega
        obtain ⟨_, _, hre, _, _, hrf⟩ := r_X.asnAt
        simp only [Value.slice.injEq] at hre
        obtain ⟨rfl, _, rfl⟩ := hre
        obtain ⟨gb, ob, u1, u2, rfl, _, hzb, hp1, hp2, q1, q2⟩ := hrf k hk8
        obtain ⟨ua1, uc1, rfl⟩ := q1.form
        obtain ⟨ua2, uc2, rfl⟩ := q2.form
        clear hrf
        obtain ⟨f, hf⟩ : ∃ f, f = consB (gd X k) := ⟨_, rfl⟩
        go_wp2_with fail
        refine (modelOf_any _ _ (gd X k) _ (q1.keep Bl) (q2.keep Bl)).mono ?_
        rw [← hf]
        rintro e w5 ⟨u1, u2, m1, m2, rfl, hm, ⟨i1, i2⟩, hb⟩
        replace r_A := r_A.keep hb
        replace r_B := r_B.keep hb
        replace r_X := r_X.keep hb
        replace hW := bt hW hb
        have hQ := hb
        clear hb
        have r_S1 := i1
        have r_S2 := i2
        obtain ⟨Sa1, Sc1, rfl⟩ := r_S1.form
        obtain ⟨Sa2, Sc2, rfl⟩ := r_S2.form
        have HM := Lib.hid (And.intro (gd_mem hk8) hm)
        clear hm i1 i2 hf q1 q2 hp1 hp2 hzb
        cases f with
        | false =>
          go_wp2
          go_roundg (gk - 1)
          case rel => exact ⟨k + 1, by have := HK.out.1; omega, by go_num, bt HK.out.2 (bt hQ Bl)⟩
          case measure => have := HK.out.1; omega
        | true =>
          have HC := Lib.hid (star_hit HL.out.2.1.1 HL.out.2.1.2 (by rw [← HL.out.1]; exact HM.out.1) (HM.out.2 (by trivial)))
          go_wp2
          obtain ⟨gm, hgm⟩ : ∃ gm, gm = gk - 1 := ⟨_, rfl⟩
          go_loopg [12, 13] A.length (fun q c i wr => ∃ (j : Nat) (o : Bool), j + q = A.length ∧ i = .int .i64 j ∧ c = .bool o ∧ o = (A.take j).any (starHit m1 m2 B) ∧ Below (w5.alloc (.cells #[.slice Sa1 m1.length Sc1, .slice Sa2 m2.length Sc2] 77)).heap.size (w5.alloc (.cells #[.slice Sa1 m1.length Sc1, .slice Sa2 m2.length Sc2] 77)) wr)
          case atStart => exact ⟨0, false, by omega, rfl, rfl, by simp, Below.refl _ _⟩
          case round =>
            obtain ⟨j, o, hj, rfl, rfl, ho, hb⟩ := hrel
            have HJ := Lib.hid (And.intro (And.intro hj ho) hb)
            clear hj ho
            have c_S1 := cell_keep hb (p := ⟨w5.heap.size, 0, none⟩) (v := .slice Sa1 m1.length Sc1) (by simp)
            have c_S2 := cell_keep hb (p := ⟨w5.heap.size, 1, none⟩) (v := .slice Sa2 m2.length Sc2) (by simp)
            replace hb : Below w5.heap.size w5 wr := bt Bl hb
            replace r_A := r_A.keep hb
            replace r_B := r_B.keep hb
            replace r_X := r_X.keep hb
            replace r_S1 := r_S1.keep hb
            replace r_S2 := r_S2.keep hb
            replace hW := bt hW hb
            replace hQ := bt hQ hb
            clear hb
            have z_S : w5.heap.size < wr.heap.size := World.block_lt_of_cell? wr _ c_S1
            by_cases hj8 : j < A.length
            · have hji : (j : Int) < (A.length : Int) := by omega
              obtain ⟨_, _, hre, _, _, hrf⟩ := r_A.asnAt
              simp only [Value.slice.injEq] at hre
              obtain ⟨rfl, _, rfl⟩ := hre
              obtain ⟨gb, ob, u1, u2, rfl, _, hzb, hp1, hp2, q1, q2⟩ := hrf j hj8
              obtain ⟨ua1, uc1, rfl⟩ := q1.form
              obtain ⟨ua2, uc2, rfl⟩ := q2.form
              clear hrf
              obtain ⟨o1, ho1⟩ : ∃ o1, o1 = (partO m1 m2 (gd A j)).isSome := ⟨_, rfl⟩
              obtain ⟨P, hP⟩ : ∃ P, P = partL m1 m2 (gd A j) := ⟨_, rfl⟩
              obtain ⟨o2, ho2⟩ : ∃ o2, o2 = (chosO m1 m2 P).isSome := ⟨_, rfl⟩
              obtain ⟨d1, hd1⟩ : ∃ d1, d1 = (dropO m1 m2 P).1 := ⟨_, rfl⟩
              obtain ⟨d2, hd2⟩ : ∃ d2, d2 = (dropO m1 m2 P).2 := ⟨_, rfl⟩
              obtain ⟨o3, ho3⟩ : ∃ o3, famHoldsB d1 d2 B = o3 := ⟨_, rfl⟩
              have hnext : (A.take (j + 1)).any (starHit m1 m2 B) = (o || (o1 && (o2 && o3))) := by
                rw [any_more hj8, ← HJ.out.1.2, starHit, ← ho1, ← hP, ← ho2, ← hd1, ← hd2, ho3]
              have HP := Lib.hid (And.intro (And.intro ho1 hP) (And.intro ho2 (And.intro (And.intro hd1 hd2) (And.intro ho3 hnext))))
              clear ho1 hP ho2 hd1 hd2 ho3 hnext
              go_wp2
              go_region_held3 (fun w' => (w'.cell? ⟨w5.heap.size, 0, none⟩ = some (.slice Sa1 m1.length Sc1) ∧ w'.cell? ⟨w5.heap.size, 1, none⟩ = some (.slice Sa2 m2.length Sc2)) ∧ (w'.cell? ⟨gb, ob + j * 2, none⟩ = some (.slice ua1 (gd A j).1.length uc1) ∧ w'.cell? ⟨gb, ob + j * 2 + 1, none⟩ = some (.slice ua2 (gd A j).2.length uc2)))
                (first | exact ⟨⟨e1', e2'⟩, ⟨e3', e4'⟩⟩ | exact ⟨⟨(by repeat (first | with_reducible exact c_S1 | (with_reducible refine (fr_set _ _ _).cell (by first | (simp; done) | (simp; omega) | omega) ?_) | exact cell_keep Bl c_S1)), (by repeat (first | with_reducible exact c_S2 | (with_reducible refine (fr_set _ _ _).cell (by first | (simp; done) | (simp; omega) | omega) ?_) | exact cell_keep Bl c_S2))⟩, ⟨(by repeat (first | with_reducible exact hp1 | (with_reducible refine (fr_set _ _ _).cell (by first | (simp; done) | (simp; omega) | omega) ?_) | exact cell_keep Bl hp1)), (by repeat (first | with_reducible exact hp2 | (with_reducible refine (fr_set _ _ _).cell (by first | (simp; done) | (simp; omega) | omega) ?_) | exact cell_keep Bl hp2))⟩⟩)
                ((go_at_call 72; go_must (refine (holdsPart_any _ _ _ _ m1 m2 (gd A j) _ (r_S1.keep Bl).ints (r_S2.keep Bl).ints (q1.keep Bl) (q2.keep Bl)).mono ?_; rw [← HP.out.1.1, ← HP.out.1.2]; rintro e wp ⟨x, rfl, rp, hb'⟩; obtain ⟨Pa, Pc, rfl⟩ := rp.form; have hb : Below wr.heap.size wr wp := bt Bl hb'; have hzp := hb.size; have e1' := cell_keep hb c_S1; have e2' := cell_keep hb c_S2; have e3' := cell_keep hb hp1; have e4' := cell_keep hb hp2; clear hb')))
              clear e1' e2' e3' e4' hp1 hp2 q1 q2 hzb
              replace c_S1 := cell_keep hb c_S1
              replace c_S2 := cell_keep hb c_S2
              replace r_A := r_A.keep hb
              replace r_B := r_B.keep hb
              replace r_X := r_X.keep hb
              replace r_S1 := r_S1.keep hb
              replace r_S2 := r_S2.keep hb
              replace hW := bt hW hb
              have hI := hb
              replace hQ := bt hQ hb
              clear hb
              clear z_S
              have z_S : w5.heap.size < wp.heap.size := World.block_lt_of_cell? wp _ c_S1
              have r_P := rp
              clear rp
              go_wp2_with fail
              refine (dropCells_any _ _ _ m1 m2 P _ (r_S1.keep Bl).ints (r_S2.keep Bl).ints (r_P.keep Bl).ints).mono ?_
              rw [← HP.out.2.1, ← HP.out.2.2.1.1, ← HP.out.2.2.1.2]
              rintro e w6 ⟨t1, t2, rfl, ⟨i1, i2⟩, hb⟩
              replace c_S1 := cell_keep hb c_S1
              replace c_S2 := cell_keep hb c_S2
              replace r_A := r_A.keep hb
              replace r_B := r_B.keep hb
              replace r_X := r_X.keep hb
              replace r_S1 := r_S1.keep hb
              replace r_S2 := r_S2.keep hb
              replace r_P := r_P.keep hb
              replace hW := bt hW hb
              replace hI := bt hI hb
              replace hQ := bt hQ hb
              clear hb
              clear z_S
              have z_S : w5.heap.size < w6.heap.size := World.block_lt_of_cell? w6 _ c_S1
              have r_D1 := i1
              have r_D2 := i2
              obtain ⟨Da1, Dc1, rfl⟩ := r_D1.form
              obtain ⟨Da2, Dc2, rfl⟩ := r_D2.form
              clear i1 i2
              cases o with
              | true =>
                go_wp2
                go_roundg (gk - 1)
                case rel => exact ⟨j + 1, true, by have := HJ.out.1.1; omega, by go_num, rfl, by rw [HP.out.2.2.2.2]; first | rfl | (cases o2 <;> rfl) | (cases o1 <;> cases o2 <;> rfl), bt HJ.out.2 (bt hI Bl)⟩
                case measure => have := HJ.out.1.1; omega
              | false =>
                cases o1 with
                | false =>
                  go_wp2
                  go_roundg (gk - 1)
                  case rel => exact ⟨j + 1, false, by have := HJ.out.1.1; omega, by go_num, rfl, by rw [HP.out.2.2.2.2]; first | rfl | (cases o2 <;> rfl) | (cases o1 <;> cases o2 <;> rfl), bt HJ.out.2 (bt hI Bl)⟩
                  case measure => have := HJ.out.1.1; omega
                | true =>
                  cases o2 with
                  | false =>
                    go_wp2
                    go_roundg (gk - 1)
                    case rel => exact ⟨j + 1, false, by have := HJ.out.1.1; omega, by go_num, rfl, by rw [HP.out.2.2.2.2]; first | rfl | (cases o2 <;> rfl) | (cases o1 <;> cases o2 <;> rfl), bt HJ.out.2 (bt hI Bl)⟩
                    case measure => have := HJ.out.1.1; omega
                  | true =>
                    go_wp2_with fail
                    refine (cb (famHoldsI_any _ _ _ d1 d2 B _ (r_D1.keep Bl).ints (r_D2.keep Bl).ints (r_B.keep Bl)) HP.out.2.2.2.1).mono ?_
                    rintro e w7 ⟨rfl, hb⟩
                    have c_D1 := cell_keep hb (p := ⟨w6.heap.size, 0, none⟩) (v := .slice Da1 d1.length Dc1) (by simp)
                    have c_D2 := cell_keep hb (p := ⟨w6.heap.size, 1, none⟩) (v := .slice Da2 d2.length Dc2) (by simp)
                    replace hb : Below w6.heap.size w6 w7 := bt Bl hb
                    replace c_S1 := cell_keep hb c_S1
                    replace c_S2 := cell_keep hb c_S2
                    replace r_A := r_A.keep hb
                    replace r_B := r_B.keep hb
                    replace r_X := r_X.keep hb
                    replace r_S1 := r_S1.keep hb
                    replace r_S2 := r_S2.keep hb
                    replace r_P := r_P.keep hb
                    replace r_D1 := r_D1.keep hb
                    replace r_D2 := r_D2.keep hb
                    replace hW := bt hW hb
                    replace hI := bt hI hb
                    replace hQ := bt hQ hb
                    clear hb
                    clear z_S
                    have z_S : w5.heap.size < w7.heap.size := World.block_lt_of_cell? w7 _ c_S1
                    have z_D : w6.heap.size < w7.heap.size := World.block_lt_of_cell? w7 _ c_D1
                    go_wp2
                    go_roundg (gk - 1)
                    case rel => exact ⟨j + 1, o3, by have := HJ.out.1.1; omega, by go_num, rfl, by rw [HP.out.2.2.2.2]; first | rfl | (cases o2 <;> rfl) | (cases o1 <;> cases o2 <;> rfl), bt HJ.out.2 hI⟩
                    case measure => have := HJ.out.1.1; omega
            · obtain rfl : j = A.length := by have := HJ.out.1.1; omega
              have ho : o = true := by rw [HJ.out.1.2, List.take_length]; exact HC.out
              subst ho
              go_wp2
              go_roundg gm
              case rel => exact ⟨k + 1, by have := HK.out.1; omega, by go_num, bt HK.out.2 hQ⟩
              case measure => have := HK.out.1; omega
      · obtain rfl : k = X.length := by have := HK.out.1; omega
        have hmn : (X.length : Int) = (A.length : Int) * (B.length : Int) := by rw [HL.out.2.2, Int.natCast_mul]
        have hmw : IntKind.i64.wrap ((A.length : Int) * (B.length : Int)) = (X.length : Int) := by rw [IntKind.wrap_i64, ← hmn]; omega
        go_wp2
        go_ret
        exact ⟨by first | rfl | simp, hW⟩
end Go.Proofs.Ytapoillhgimdiaa
