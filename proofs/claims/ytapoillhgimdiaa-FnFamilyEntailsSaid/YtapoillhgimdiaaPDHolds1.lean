/- Walks: drawn arguments of the laws on families. -/
import Derived.Test.YtapoillhgimdiaaPDFam
import Derived.Test.YtapoillhgimdiaaPBase3
import Derived.Test.YtapoillhgimdiaaPData1
set_option linter.unusedSimpArgs false
set_option linter.unusedVariables false
namespace Go.Proofs.Ytapoillhgimdiaa
open Go.RowKit

set_option maxRecDepth 100000 in
set_option maxHeartbeats 12800000 in
theorem specDrawFamEnt_any (v : Value) (n : Nat) (w : World) (h : RBytes w v n) :
    Calls Try.prog 46 #[v] w fun e w' => ∃ (u1 u2 : Value) (A B : List Asn), e = .returned (.tuple #[u1, u2]) ∧ ((A.length ≤ 1013 ∧ fmB 1042 A) ∧ (B.length ≤ 1013 ∧ fmB 1042 B)) ∧ RL w' (fun _ => True) u1 A ∧ RL w' (fun _ => True) u2 B ∧ Below w.heap.size w w' := by
  obtain ⟨ca, cc, rfl⟩ := bytes_form h
  go_enter Try.func46, Try.ntmps46
  go_wp2_with fail
  refine (l18Open_any _ n _ h).mono ?_
  rintro e w1 ⟨rfl, hr1, hb1⟩
  obtain ⟨g, hg⟩ : ∃ g, w.heap.size = g := ⟨_, rfl⟩
  have HB := Lib.hid (And.intro hg hb1)
  rw [hg] at hr1 ⊢
  clear hg hb1 h
  go_wp2_with fail
  refine (l13Draw_any g 0 _ hr1 (by omega)).mono ?_
  rintro e w2 ⟨va, la, rfl, ⟨hla, hva⟩, D1⟩
  obtain ⟨aa, ac, rfl⟩ := D1.row.form
  have hg1 := hr1.lt
  have hg2 := D1.rdr.lt
  have H1 := Lib.hid (And.intro hva D1)
  have D0 := Lib.hid (show FD w2 (w2.alloc (.cells #[] 33)) g 100 (.slice (some ⟨w2.heap.size, 0, none⟩) 0 0) [] from
    ⟨TR.of (own_emp w2 _ _ _ (Nat.le_refl _)), D1.rdr.keep (below_alloc _ _), (Below.fr (below_alloc _ _)).mono fun _ _ h => h.elim⟩)
  have hz1 := D1.fr.size
  clear D1 hva hr1
  go_wp2
  go_loopg [6, 7] la.length (fun q x i wr => ∃ (k : Nat) (lb : List Asn), k + q = la.length ∧ i = .int .i64 k ∧ lb.length = k ∧ lb.all asnB = true ∧ FD w2 wr g (100 + 5 * k) x lb)
  case atStart => exact ⟨0, [], by omega, rfl, rfl, rfl, D0.out⟩
  case round =>
    clear D0
    obtain ⟨k, lb, hk, rfl, hlb, hall, D⟩ := hrel
    obtain ⟨ba, bc, rfl⟩ := D.row.form
    have HK := Lib.hid (And.intro hk (And.intro hlb hall))
    have hlb4 : lb.length ≤ 4 := by omega
    have hfa := H1.out.2.row.kept D.fr (fun k hk e => by have e2 : k = g := e; omega)
    have hDs := D.fr.size
    have hgr := D.rdr.lt
    have hlt := D.row.lt
    have HLT := Lib.hid hlt
    by_cases hk8 : k < la.length
    · have hki : (k : Int) < (la.length : Int) := by omega
      have hva := (List.all_eq_true.1 H1.out.1) _ (gd_mem hk8)
      obtain ⟨_, _, hre, _, _, hrf⟩ := hfa.rl.asnAt
      simp only [Value.slice.injEq] at hre
      obtain ⟨rfl, _, rfl⟩ := hre
      obtain ⟨gb, ob, u1, u2, rfl, _, hzb, hp1, hp2, q1, q2⟩ := hrf k hk8
      obtain ⟨ua1, uc1, rfl⟩ := q1.form
      obtain ⟨ua2, uc2, rfl⟩ := q2.form
      have HD := Lib.hid D
      have hk4 : k ≤ 4 := by omega
      clear D hk hlb hall hfa hrf hlt
      go_wp2_with fail
      refine (l6WeakV_any g _ _ _ (gd la k) _ HD.out.rdr (by omega) q1 q2 (by have := asn_len2 hva; omega)).mono ?_
      rintro e w5 ⟨z1, z2, b2, rfl, hwb, t1, t2, hr5, hf5⟩
      obtain ⟨za1, zn1, zc1, rfl⟩ := t1.forms
      obtain ⟨za2, zn2, zc2, rfl⟩ := t2.forms
      have D5 := HD.out.drawn hr5 hf5 hg2
      have hz5 := hf5.size
      obtain ⟨xs, hrow, hx⟩ := D5.row.keep (below_alloc w5 (.cells #[.slice za1 zn1 zc1, .slice za2 zn2 zc2] 33))
      have HR := Lib.hid (And.intro (And.intro t1 t2) (And.intro hx D5))
      have HV := Lib.hid (hwb.2 hva)
      clear t1 t2 hx D5 hr5 hf5 hwb q1 q2 HD
      go_wp2_with (at_builtin; refine app_cells (n := lb.length) (m := 1) (news := [.slice za1 zn1 zc1, .slice za2 zn2 zc2]) rfl (.tmp 19) (.tmp 26) _ rfl (B := w2.heap.size) ti_asn rfl hrow rfl rfl (news2 _ _ _ _) (one2 _ _ _ _ _ _) (by omega) (by simp; omega) ?_; intro v' w7 hr7 hf7 hl7)
      have hTn := TR.app (m := [b2]) hrow HR.out.2.1 hf7 hr7 hl7 (fun i hi => by
        obtain rfl : i = 0 := by simpa using hi
        refine rd_asn_mk ((HR.out.1.1.alloc _).more fun j _ hj => ⟨?_, fun he => ?_⟩) ((HR.out.1.2.alloc _).more fun j _ hj => ⟨?_, fun he => ?_⟩)
        · have h2 : wr.heap.size ≤ j := hj; omega
        · have h2 : wr.heap.size ≤ j := hj; have := HLT.out j he; omega
        · have h2 : wr.heap.size ≤ j := hj; omega
        · have h2 : wr.heap.size ≤ j := hj; have := HLT.out j he; omega)
      have hD := HR.out.2.2.keep (below_alloc w5 (.cells #[.slice za1 zn1 zc1, .slice za2 zn2 zc2] 33))
      have HN := Lib.hid (show FD w2 w7 g (100 + 5 * (k + 1)) v' (lb ++ [b2]) from
        ⟨hTn, (hD.rdr.kept hf7 fun k hk e => by have := (own_lt hrow e).1; omega).more (by omega), hD.fr.then hf7 fun i hi e => by have := (own_lt hrow e).1; omega⟩)
      clear hTn hD hr7 hf7 hl7 hrow
      go_wp2
      go_roundg (gk - 1)
      case rel => exact ⟨k + 1, lb ++ [b2], by have := HK.out.1; omega, by go_num, by have := HK.out.2.1; simp; omega, by rw [List.all_append, HK.out.2.2]; simp [HV.out], HN.out⟩
      case measure => have := HK.out.1; omega
    · have hki : ¬ (k : Int) < (la.length : Int) := by omega
      have ra := hfa.rl
      have HD := Lib.hid (And.intro D hfa)
      have hk4 : k ≤ 4 := by omega
      clear D hk hlb hall hfa hlt
      go_wp2_with fail
      refine (l13Mutate_any g _ _ la _ HD.out.1.rdr (by omega) ra (by omega) ((fmB.val H1.out.1).more (by omega))).mono ?_
      rintro e w5 ⟨u1, A, rfl, hA, D5⟩
      obtain ⟨ua, uc, rfl⟩ := D5.row.form
      go_wp2_with fail
      refine (l13Draw_any g _ _ D5.rdr (by omega)).mono ?_
      rintro e w6 ⟨vd, ld, rfl, ⟨hld, hvd⟩, D6⟩
      obtain ⟨da, dc, rfl⟩ := D6.row.form
      have hz5 := D5.fr.size
      have hz6 := D6.fr.size
      have hT := (HD.out.1.row.kept D5.fr (fun k hk e => by have e2 : k = g := e; omega)).kept D6.fr (fun k hk e => by have e2 : k = g := e; omega)
      obtain ⟨xs, hrow, hx⟩ := hT
      have rd := D6.row.rl
      have HX := Lib.hid (And.intro hx (And.intro D5 D6))
      clear hx
      go_wp2_with (at_builtin; refine app_rl (l := ld) (n := lb.length) rfl (.tmp 32) (.tmp 34) _ rfl (B := w2.heap.size) ti_asn rfl hrow rfl rd (by omega) (by omega) ?_; intro v' w7 ys hr7 hyl hy hf7 hl7)
      have hTn := TR.app (m := ld) hrow HX.out.1 hf7 hr7 hl7 (fun i hi => Dat.more (hy i hi) fun j _ h1 => ⟨by have h3 : w5.heap.size ≤ j := h1; omega, fun h2 => by have h3 : w5.heap.size ≤ j := h1; have := HLT.out j h2; omega⟩)
      have hown := fun k (e : some k = (Value.slice ba lb.length bc).ownBlock) => (own_lt hrow e).1
      have hrd7 := D6.rdr.kept hf7 fun k hk e => by have := hown k e; omega
      have HN := Lib.hid (And.intro (And.intro hA (D5.row.kept D6.fr fun k hk e => by have e2 : k = g := e; omega)) (And.intro D5.fr (And.intro D6.fr hf7)))
      have hz7 := hf7.size
      have rn := hTn.rl
      have hbl : (lb ++ ld).length ≤ 8 := by simp; omega
      have hbv : fmB 12 (lb ++ ld) := fmB.val (by rw [List.all_append, HK.out.2.2, hvd]; rfl)
      obtain ⟨ea, ec, rfl⟩ := hTn.form
      clear hTn hr7 hf7 hl7 hrow hy D5 D6 rd ra
      go_wp2_with fail
      refine (l13Mutate_any g _ _ (lb ++ ld) _ hrd7 (by omega) rn (by omega) (hbv.more (by omega))).mono ?_
      rintro e w8 ⟨u2, B, rfl, hB, D8⟩
      have hown2 := fun k (e : some k = (Value.slice ba lb.length bc).ownBlock) => HLT.out k e
      have hU := ((HN.out.1.2.kept HN.out.2.2.2 fun k hk e => by have := hown2 k e; omega).kept D8.fr fun k hk e => by have e2 : k = g := e; omega).rl.any
      have hF := ((((H1.out.2.fr.trans HD.out.1.fr).trans HN.out.2.1).trans HN.out.2.2.1).then HN.out.2.2.2 fun i hi e => by have := hown i e; omega).trans D8.fr
      have HE := Lib.hid (And.intro (And.intro HN.out.1.1 hB) (And.intro hU (And.intro D8.row.rl.any (HB.out.2.trans (hF.below HB.out.2.size fun k hk e => by have e2 : k = g := e; have := HB.out.1; omega)))))
      clear hU hF D8 hB
      go_wp2
      go_returns
      exact ⟨_, _, A, B, rfl, HE.out⟩
set_option maxRecDepth 100000 in
set_option maxHeartbeats 6400000 in
theorem specDrawFamJoin_any (v : Value) (n : Nat) (w : World) (h : RBytes w v n) :
    Calls Try.prog 60 #[v] w fun e w' => ∃ (u1 u2 : Value) (A B : List Asn), e = .returned (.tuple #[u1, u2]) ∧ ((A.length ≤ 1013 ∧ fmB 1042 A) ∧ (B.length ≤ 1013 ∧ fmB 1042 B)) ∧ RL w' (fun _ => True) u1 A ∧ RL w' (fun _ => True) u2 B ∧ Below w.heap.size w w' := by
  obtain ⟨ca, cc, rfl⟩ := bytes_form h
  go_enter Try.func60, Try.ntmps60
  go_wp2_with fail
  refine (l18Open_any _ n _ h).mono ?_
  rintro e w1 ⟨rfl, hr1, hb1⟩
  obtain ⟨g, hg⟩ : ∃ g, w.heap.size = g := ⟨_, rfl⟩
  have HB := Lib.hid (And.intro hg hb1)
  rw [hg] at hr1 ⊢
  have hg1 := hr1.lt
  clear hg hb1 h
  go_wp2_with fail
  refine (l13Draw_any g 0 _ hr1 (by omega)).mono ?_
  rintro e w2 ⟨va, la, rfl, ⟨hla, hva⟩, D1⟩
  obtain ⟨aa, ac, rfl⟩ := D1.row.form
  have hz1 := D1.fr.size
  have r1 := D1.row.rl
  go_wp2_with fail
  refine (l13Mutate_any g _ _ la _ D1.rdr (by omega) r1 (by omega) ((fmB.val hva).more (by omega))).mono ?_
  rintro e w3 ⟨u1, A, rfl, hA, D2⟩
  obtain ⟨ua, uc, rfl⟩ := D2.row.form
  have hz2 := D2.fr.size
  go_wp2_with fail
  refine (l13Draw_any g _ _ D2.rdr (by omega)).mono ?_
  rintro e w4 ⟨vd, ld, rfl, ⟨hld, hvd⟩, D3⟩
  obtain ⟨da, dc, rfl⟩ := D3.row.form
  have hz3 := D3.fr.size
  have r3 := D3.row.rl
  go_wp2_with fail
  refine (l13Mutate_any g _ _ ld _ D3.rdr (by omega) r3 (by omega) ((fmB.val hvd).more (by omega))).mono ?_
  rintro e w5 ⟨u2, B, rfl, hB, D4⟩
  have hU := ((D2.row.kept D3.fr fun k hk e => by have e2 : k = g := e; omega).kept D4.fr fun k hk e => by have e2 : k = g := e; omega).rl.any
  have hF := ((D1.fr.trans D2.fr).trans D3.fr).trans D4.fr
  have HE := Lib.hid (And.intro (And.intro hA hB) (And.intro hU (And.intro D4.row.rl.any (HB.out.2.trans (hF.below HB.out.2.size fun k hk e => by have e2 : k = g := e; have := HB.out.1; omega)))))
  clear hU hF D1 D2 D3 D4 r1 r3 hA hB
  go_wp2
  go_returns
  exact ⟨_, _, A, B, rfl, HE.out⟩
end Go.Proofs.Ytapoillhgimdiaa
/- Walks: draws of a state and an assertion that often holds in it: small parts. -/
namespace Go.Proofs.Ytapoillhgimdiaa
open Go.RowKit

set_option maxHeartbeats 1600000 in
theorem l4Known_any (vs hv : Value) (vl : List Int) (n : Int) (w : World) (h : RInts w vs vl) :
    Calls Try.prog 205 #[.agg #[vs, hv], .int .i64 n] w fun e w' => ∃ b : Bool, e = .returned (.bool b) ∧ Below w.heap.size w w' := by
  have hm := h.len
  unfold maxLen at hm
  obtain ⟨va, vc, rfl⟩ := h.form
  go_enter Try.func205, Try.ntmps205
  go_wp2
  go_loopg [5] vl.length (fun q i wr => ∃ k : Nat, k + q = vl.length ∧ i = .int .i64 k ∧ wr.cell? ⟨w.heap.size, 0, none⟩ = some (.slice va vl.length vc) ∧ Below w.heap.size w wr)
  case atStart => exact ⟨0, by omega, rfl, by simp, below_alloc _ _⟩
  case round =>
    obtain ⟨k, hk, rfl, hc0, hb⟩ := hrel
    have HK := Lib.hid hk
    clear hk
    by_cases hk8 : k < vl.length
    · have hki : (k : Int) < (vl.length : Int) := by omega
      obtain ⟨gb, go_, gc, hfe, _, _, hcell⟩ := (h.keep hb).ne (by omega)
      simp only [Value.slice.injEq] at hfe
      obtain ⟨rfl, hh, rfl⟩ := hfe
      clear hh
      have hck := hcell k hk8
      obtain ⟨X, hX⟩ : ∃ x, gi vl k = x := ⟨_, rfl⟩
      rw [hX] at hck
      clear hcell hX
      by_cases hp : X = n
      · have hpb : (X == n) = true := by simp [hp]
        clear hp
        go_wp2
        go_ret
        exact ⟨true, rfl, hb⟩
      · have hpb : (X == n) = false := by simp [hp]
        clear hp
        go_wp2
        go_roundg (gk - 1)
        case rel => exact ⟨k + 1, by have := HK.out; omega, by go_num, hc0, hb⟩
        case measure => have := HK.out; omega
    · obtain rfl : k = vl.length := by have := HK.out; omega
      go_wp2
      go_ret
      exact ⟨false, rfl, hb⟩
end Go.Proofs.Ytapoillhgimdiaa
