/- The walk of the law FnSplitFact. (Printed by a program over lawgen.py.) -/
import Derived.Test.YtapoillhgimdiaaSDSplit2
import Derived.Test.YtapoillhgimdiaaSMdl3
import Derived.Test.YtapoillhgimdiaaSHold8
import Derived.Test.YtapoillhgimdiaaSCs7
import Derived.Test.YtapoillhgimdiaaSSam
import Derived.Test.YtapoillhgimdiaaSDHolds5
import Derived.Test.YtapoillhgimdiaaSEnt1
import Derived.Deep.Cut
import Derived.Handy
namespace Go.Proofs.Ytapoillhgimdiaa
open Go.RowKit

theorem holds_with {vl hs : List Int} {a : Asn} {g : Fact} (ha : asnB a = true) (hg : factB g = true) (hl : ¬ a.1.length = 12) : holdsB vl hs (withF a g) = (holdsB vl hs a && factV (tv vl) g) := by
  rw [Bool.eq_iff_iff, Bool.and_eq_true, holds_iff, holds_iff]
  constructor
  · intro h
    exact ⟨⟨h.valid, ha, fun x hx => h.facts x (List.mem_append_left _ hx), h.cells, h.nd, h.mem⟩, h.facts g (List.mem_append_right _ (List.mem_singleton.2 rfl))⟩
  · rintro ⟨h, hv⟩
    refine ⟨h.valid, asn_with ha hg hl, fun x hx => ?_, h.cells, h.nd, h.mem⟩
    rcases List.mem_append.1 hx with hx | hx
    · exact h.facts x hx
    · rw [List.mem_singleton.1 hx]; exact hv
theorem holds_cons {vl hs : List Int} {a : Asn} (h : holdsB vl hs a = true) : consB a = true :=
  (cons_iff (holds_iff.1 h).asn).2 ⟨_, tv_zero vl, (holds_iff.1 h).poss⟩
theorem split_mem {a : Asn} {f : Fact} (h : splitOk a f = true) {x : Asn} (hx : x ∈ splitR a f) : ∃ g, factB g = true ∧ x = withF a g ∧ consB x = true := by
  obtain ⟨ha, hf, hl⟩ := split_ok h
  rw [splitR, if_pos h, splitTo, List.mem_filter] at hx
  obtain ⟨hm, hc⟩ := hx
  have hm2 : x ∈ [withF a f, withF a (nF f)] := List.mem_of_mem_take hm
  simp only [List.mem_cons, List.not_mem_nil, or_false] at hm2
  rcases hm2 with rfl | rfl
  · exact ⟨f, hf, rfl, hc⟩
  · exact ⟨nF f, nF_ok hf, rfl, hc⟩
theorem split_ent {a : Asn} {f : Fact} (h : splitOk a f = true) {x : Asn} (hx : x ∈ splitR a f) : entB x a = true := by
  obtain ⟨ha, hf, hl⟩ := split_ok h
  obtain ⟨g, hg, rfl, _⟩ := split_mem h hx
  refine (ent_iff (asn_with ha hg hl) ha).2 fun v v0 hp => ?_
  have hp2 := (poss_with.1 hp).1
  exact ⟨hp2.facts, _, shares_refl _⟩
theorem split_count {vl hs : List Int} {a : Asn} {f : Fact} (h : splitOk a f = true) : (splitR a f).countP (holdsB vl hs) = if holdsB vl hs a = true then 1 else 0 := by
  obtain ⟨ha, hf, hl⟩ := split_ok h
  rw [splitR, if_pos h, splitTo, List.countP_filter]
  have e : ∀ x : Asn, (holdsB vl hs x && consB x) = holdsB vl hs x := fun x => by
    cases hx : holdsB vl hs x with
    | false => rfl
    | true => rw [holds_cons hx]; rfl
  simp only [e]
  show List.countP (holdsB vl hs) [withF a f, withF a (nF f)] = _
  rw [List.countP_cons, List.countP_cons, List.countP_nil, holds_with ha hf hl, holds_with ha (nF_ok hf) hl, fact_not]
  cases holdsB vl hs a <;> cases factV (tv vl) f <;> rfl
theorem split_any {vl hs : List Int} {a : Asn} {f : Fact} (h : splitOk a f = true) : (splitR a f).any (holdsB vl hs) = holdsB vl hs a := by
  have hc := split_count (vl := vl) (hs := hs) h
  cases ha : holdsB vl hs a with
  | true =>
    rw [ha, if_pos rfl] at hc
    have : 0 < (splitR a f).countP (holdsB vl hs) := by omega
    rw [List.countP_pos_iff] at this
    exact List.any_eq_true.2 this
  | false =>
    rw [ha, if_neg (by decide), List.countP_eq_zero] at hc
    rw [List.any_eq_false]
    exact hc
theorem split_len {a : Asn} {f : Fact} (h : splitOk a f = true) : decide (0 < (splitR a f).length) = consB a := by
  obtain ⟨ha, hf, hl⟩ := split_ok h
  rw [Bool.eq_iff_iff, decide_eq_true_eq]
  constructor
  · intro hp
    obtain ⟨x, hx⟩ := List.exists_mem_of_length_pos hp
    obtain ⟨g, hg, rfl, hc⟩ := split_mem h hx
    obtain ⟨v, v0, hv⟩ := (cons_iff (asn_with ha hg hl)).1 hc
    exact (cons_iff ha).2 ⟨v, v0, (poss_with.1 hv).1⟩
  · intro hc
    obtain ⟨v, v0, hv⟩ := (cons_iff ha).1 hc
    have key : ∀ g, factB g = true → factV v g = true → consB (withF a g) = true := fun g hg hgv => (cons_iff (asn_with ha hg hl)).2 ⟨v, v0, poss_with.2 ⟨hv, hgv⟩⟩
    rw [splitR, if_pos h, splitTo]
    show 0 < (([withF a f, withF a (nF f)]).filter consB).length
    cases hfv : factV v f with
    | true => exact List.length_pos_of_mem (List.mem_filter.2 ⟨List.mem_cons_self, key f hf hfv⟩)
    | false => exact List.length_pos_of_mem (List.mem_filter.2 ⟨List.mem_cons_of_mem _ List.mem_cons_self, key (nF f) (nF_ok hf) (by rw [fact_not, hfv]; rfl)⟩)
theorem split_famh {vl hs : List Int} {a : Asn} {f : Fact} (h : splitOk a f = true) : famHoldsB vl hs (splitR a f) = holdsB vl hs a := by
  obtain ⟨ha, hf, hl⟩ := split_ok h
  have hfm : famB (splitR a f) = true := by
    rw [famB, Bool.and_eq_true, decide_eq_true_eq, List.all_eq_true]
    refine ⟨?_, fun x hx => ?_⟩
    · rw [splitR, if_pos h]; have := splitTo_len a f 2; omega
    · obtain ⟨g, hg, rfl, _⟩ := split_mem h hx
      exact asn_with ha hg hl
  rw [famHoldsB, hfm, Bool.true_and, split_any h]
  cases hh : holdsB vl hs a with
  | false => rw [Bool.and_false]
  | true => rw [(holds_iff.1 hh).valid]; rfl
theorem count_more {p : Asn → Bool} {l : List Asn} {k : Nat} (h : k < l.length) : (l.take (k + 1)).countP p = (l.take k).countP p + (if p (gd l k) = true then 1 else 0) := by
  rw [take_gd h, List.countP_append, List.countP_cons, List.countP_nil]; omega
set_option maxRecDepth 100000 in
set_option maxHeartbeats 12800000 in
theorem fnSplitFact_walk (v u : Value) (n m : Nat) (w : World) (h : RBytes w v n) (h' : RBytes w u m) :
    Calls Try.prog 12 #[v, u] w fun e w' => e = .returned (.bool true) ∧ Below w.heap.size w w' := by
  obtain ⟨a, cap, rfl⟩ := bytes_form h
  obtain ⟨a', cap', rfl⟩ := bytes_form h'
  by_cases hn : n ≤ 1048576
  rotate_left
  · go_enter Try.func12, Try.ntmps12
    go_wp2
    go_ret
    exact ⟨rfl, Below.refl _ _⟩
  by_cases hm : m ≤ 1048576
  rotate_left
  · go_enter Try.func12, Try.ntmps12
    go_wp2
    go_ret
    exact ⟨rfl, Below.refl _ _⟩
  go_enter Try.func12, Try.ntmps12
  go_wp2_with fail
  refine (specDrawSplitFact_any _ n _ h).mono ?_
  rintro e w1 ⟨u1, u2, A, f, rfl, hl, r1, r2, hb⟩
  have hW := hb
  clear hb
  have r_A1 := r1
  have r_A2 := r2
  obtain ⟨Aa1, Ac1, rfl⟩ := r_A1.form
  obtain ⟨Aa2, Ac2, rfl⟩ := r_A2.form
  clear r1 r2 hl h
  obtain ⟨ok, hok⟩ : ∃ ok, ok = splitOk A f := ⟨_, rfl⟩
  obtain ⟨X, hX⟩ : ∃ X, X = splitR A f := ⟨_, rfl⟩
  have hbn : (ok != ok) = false := by cases ok <;> rfl
  have hbe : (ok == ok) = true := by cases ok <;> rfl
  have HX := Lib.hid (And.intro hok hX)
  clear hok hX
  go_wp2_with fail
  refine (splitI_any _ _ A f _ (r_A1.keep Bl) (r_A2.keep Bl)).mono ?_
  rw [← HX.out.1, ← HX.out.2]
  rintro e w2 ⟨x, rfl, hx, hb⟩
  have c_A1 := cell_keep hb (p := ⟨w1.heap.size, 0, none⟩) (v := .slice Aa1 A.1.length Ac1) (by simp)
  have c_A2 := cell_keep hb (p := ⟨w1.heap.size, 1, none⟩) (v := .slice Aa2 A.2.length Ac2) (by simp)
  have c_f1 := cell_keep hb (p := ⟨w1.heap.size + 1, 0, none⟩) (v := .bool f.1) (by simp)
  have c_f2 := cell_keep hb (p := ⟨w1.heap.size + 1, 1, none⟩) (v := .int .i64 f.2.1) (by simp)
  have c_f3 := cell_keep hb (p := ⟨w1.heap.size + 1, 2, none⟩) (v := .int .i64 f.2.2) (by simp)
  replace hb : Below w1.heap.size w1 w2 := bt Bl hb
  replace r_A1 := r_A1.keep hb
  replace r_A2 := r_A2.keep hb
  replace hW := bt hW hb
  clear hb
  have z_A : w1.heap.size < w2.heap.size := World.block_lt_of_cell? w2 _ c_A1
  have z_f : w1.heap.size + 1 < w2.heap.size := World.block_lt_of_cell? w2 _ c_f1
  have r_X := hx.read.any
  obtain ⟨Xa, Xc, rfl⟩ := r_X.form
  clear hx
  go_wp2_with fail
  refine (splitS_any _ _ A f _ (r_A1.keep Bl) (r_A2.keep Bl)).mono ?_
  rw [← HX.out.1, ← HX.out.2]
  rintro e w3 ⟨y, rfl, hy, hb⟩
  replace c_A1 := cell_keep hb c_A1
  replace c_A2 := cell_keep hb c_A2
  replace c_f1 := cell_keep hb c_f1
  replace c_f2 := cell_keep hb c_f2
  replace c_f3 := cell_keep hb c_f3
  replace r_A1 := r_A1.keep hb
  replace r_A2 := r_A2.keep hb
  replace r_X := r_X.keep hb
  replace hW := bt hW hb
  clear hb
  clear z_A
  have z_A : w1.heap.size < w3.heap.size := World.block_lt_of_cell? w3 _ c_A1
  clear z_f
  have z_f : w1.heap.size + 1 < w3.heap.size := World.block_lt_of_cell? w3 _ c_f1
  have r_W := hy
  obtain ⟨Wa, Wc, rfl⟩ := r_W.form
  clear hy
  go_wp2_with fail
  refine (slAsns_any _ _ X _ (r_X.keep Bl) (r_W.keep Bl)).mono ?_
  rintro e w4 ⟨rfl, hb⟩
  replace c_A1 := cell_keep hb c_A1
  replace c_A2 := cell_keep hb c_A2
  replace c_f1 := cell_keep hb c_f1
  replace c_f2 := cell_keep hb c_f2
  replace c_f3 := cell_keep hb c_f3
  replace r_A1 := r_A1.keep hb
  replace r_A2 := r_A2.keep hb
  replace r_X := r_X.keep hb
  replace r_W := r_W.keep hb
  replace hW := bt hW hb
  clear hb
  clear z_A
  have z_A : w1.heap.size < w4.heap.size := World.block_lt_of_cell? w4 _ c_A1
  clear z_f
  have z_f : w1.heap.size + 1 < w4.heap.size := World.block_lt_of_cell? w4 _ c_f1
  cases ok with
  | false =>
    go_wp2_with fail
    refine (slAsns_any _ _ X _ (r_X.keep Bl) (r_W.keep Bl)).mono ?_
    rintro e w5 ⟨rfl, hb⟩
    replace c_A1 := cell_keep hb c_A1
    replace c_A2 := cell_keep hb c_A2
    replace c_f1 := cell_keep hb c_f1
    replace c_f2 := cell_keep hb c_f2
    replace c_f3 := cell_keep hb c_f3
    replace r_A1 := r_A1.keep hb
    replace r_A2 := r_A2.keep hb
    replace r_X := r_X.keep hb
    replace r_W := r_W.keep hb
    replace hW := bt hW hb
    clear hb
    clear z_A
    have z_A : w1.heap.size < w5.heap.size := World.block_lt_of_cell? w5 _ c_A1
    clear z_f
    have z_f : w1.heap.size + 1 < w5.heap.size := World.block_lt_of_cell? w5 _ c_f1
    go_wp2
    go_ret
    exact ⟨rfl, hW⟩
  | true =>
    clear r_W c_f1 c_f2 c_f3 z_f
    go_wp2_with fail
    refine (specDrawHolds_any _ m _ (h'.keep hW)).mono ?_
    rintro e w5 ⟨u1, u2, x1, x2, s1, s2, Z, rfl, hs, hz, ⟨i1, i2⟩, ⟨z1, z2⟩, hb⟩
    replace c_A1 := cell_keep hb c_A1
    replace c_A2 := cell_keep hb c_A2
    replace r_A1 := r_A1.keep hb
    replace r_A2 := r_A2.keep hb
    replace r_X := r_X.keep hb
    replace hW := bt hW hb
    clear hb
    clear z_A
    have z_A : w1.heap.size < w5.heap.size := World.block_lt_of_cell? w5 _ c_A1
    have r_S1 := i1.any
    have r_S2 := i2.any
    obtain ⟨Sa1, Sc1, rfl⟩ := r_S1.form
    obtain ⟨Sa2, Sc2, rfl⟩ := r_S2.form
    have r_Z1 := z1.any
    have r_Z2 := z2.any
    obtain ⟨Za1, Zc1, rfl⟩ := r_Z1.form
    obtain ⟨Za2, Zc2, rfl⟩ := r_Z2.form
    clear i1 i2 z1 z2 hs hz h'
    obtain ⟨cA, hcA⟩ : ∃ c, c = consB A := ⟨_, rfl⟩
    go_wp2_with fail
    refine (modelOf_any _ _ A _ (r_A1.keep Bl) (r_A2.keep Bl)).mono ?_
    rw [← hcA]
    rintro e w6 ⟨u1, u2, m1, m2, rfl, hm, ⟨i1, i2⟩, hb⟩
    have c_S1 := cell_keep hb (p := ⟨w5.heap.size, 0, none⟩) (v := .slice Sa1 s1.length Sc1) (by simp)
    have c_S2 := cell_keep hb (p := ⟨w5.heap.size, 1, none⟩) (v := .slice Sa2 s2.length Sc2) (by simp)
    have c_Z1 := cell_keep hb (p := ⟨w5.heap.size + 1, 0, none⟩) (v := .slice Za1 Z.1.length Zc1) (by simp)
    have c_Z2 := cell_keep hb (p := ⟨w5.heap.size + 1, 1, none⟩) (v := .slice Za2 Z.2.length Zc2) (by simp)
    replace hb : Below w5.heap.size w5 w6 := bt Bl hb
    replace c_A1 := cell_keep hb c_A1
    replace c_A2 := cell_keep hb c_A2
    replace r_A1 := r_A1.keep hb
    replace r_A2 := r_A2.keep hb
    replace r_X := r_X.keep hb
    replace r_S1 := r_S1.keep hb
    replace r_S2 := r_S2.keep hb
    replace r_Z1 := r_Z1.keep hb
    replace r_Z2 := r_Z2.keep hb
    replace hW := bt hW hb
    clear hb
    clear z_A
    have z_A : w1.heap.size < w6.heap.size := World.block_lt_of_cell? w6 _ c_A1
    have z_S : w5.heap.size < w6.heap.size := World.block_lt_of_cell? w6 _ c_S1
    have z_Z : w5.heap.size + 1 < w6.heap.size := World.block_lt_of_cell? w6 _ c_Z1
    have r_M1 := i1
    have r_M2 := i2
    obtain ⟨Ma1, Mc1, rfl⟩ := r_M1.form
    obtain ⟨Ma2, Mc2, rfl⟩ := r_M2.form
    clear r_Z1 r_Z2 c_Z1 c_Z2 z_Z
    have hln := split_len HX.out.1.symm
    have hct := split_count (vl := m1) (hs := m2) HX.out.1.symm
    have hfh := split_famh (vl := s1) (hs := s2) HX.out.1.symm
    have hen := fun (x : Asn) (hx : x ∈ X) => split_ent HX.out.1.symm (by rw [← HX.out.2]; exact hx)
    rw [← HX.out.2, ← hcA] at hln
    rw [← HX.out.2] at hct hfh
    obtain ⟨t, ht⟩ : ∃ t, t = holdsB s1 s2 A := ⟨_, rfl⟩
    rw [← ht] at hfh
    have hX2 : (X.length : Int) ≤ 2 := by
      have := splitTo_len A f 2
      rw [HX.out.2, splitR, if_pos HX.out.1.symm]; omega
    have hte : (t == t) = true := by cases t <;> rfl
    have hce : (cA == cA) = true := by cases cA <;> rfl
    have HL := Lib.hid (And.intro (And.intro hcA hm) (And.intro hct (And.intro hfh (And.intro hen ht))))
    have HN := Lib.hid hln
    clear hcA hm hct hfh hen ht hln i1 i2
    go_wp2
    have hPM : Below w6.heap.size w6 (w6.alloc (.cells #[.slice Ma1 m1.length Mc1, .slice Ma2 m2.length Mc2] 77)) := below_alloc _ _
    go_loopg [15] X.length (fun q i wr => ∃ k : Nat, k + q = X.length ∧ i = .int .i64 k ∧ Below (w6.alloc (.cells #[.slice Ma1 m1.length Mc1, .slice Ma2 m2.length Mc2] 77)).heap.size (w6.alloc (.cells #[.slice Ma1 m1.length Mc1, .slice Ma2 m2.length Mc2] 77)) wr)
    case atStart => exact ⟨0, by omega, rfl, Below.refl _ _⟩
    case round =>
      clear hPM
      obtain ⟨k, hk, rfl, hb⟩ := hrel
      have HK := Lib.hid (And.intro hk hb)
      clear hk
      have c_M1 := cell_keep hb (p := ⟨w6.heap.size, 0, none⟩) (v := .slice Ma1 m1.length Mc1) (by simp)
      have c_M2 := cell_keep hb (p := ⟨w6.heap.size, 1, none⟩) (v := .slice Ma2 m2.length Mc2) (by simp)
      replace hb : Below w6.heap.size w6 wr := bt Bl hb
      replace c_A1 := cell_keep hb c_A1
      replace c_A2 := cell_keep hb c_A2
      replace c_S1 := cell_keep hb c_S1
      replace c_S2 := cell_keep hb c_S2
      replace r_A1 := r_A1.keep hb
      replace r_A2 := r_A2.keep hb
      replace r_X := r_X.keep hb
      replace r_S1 := r_S1.keep hb
      replace r_S2 := r_S2.keep hb
      replace r_M1 := r_M1.keep hb
      replace r_M2 := r_M2.keep hb
      replace hW := bt hW hb
      clear hb
      clear z_A
      have z_A : w1.heap.size < wr.heap.size := World.block_lt_of_cell? wr _ c_A1
      clear z_S
      have z_S : w5.heap.size < wr.heap.size := World.block_lt_of_cell? wr _ c_S1
      have z_M : w6.heap.size < wr.heap.size := World.block_lt_of_cell? wr _ c_M1
      by_cases hk8 : k < X.length
      · have hki : (k : Int) < (X.length : Int) := by omega
        obtain ⟨_, _, hre, _, _, hrf⟩ := r_X.asnAt
        simp only [Value.slice.injEq] at hre
        obtain ⟨rfl, _, rfl⟩ := hre
        obtain ⟨gb, ob, u1, u2, rfl, _, hzb, hp1, hp2, q1, q2⟩ := hrf k hk8
        obtain ⟨ua1, uc1, rfl⟩ := q1.form
        obtain ⟨ua2, uc2, rfl⟩ := q2.form
        clear hrf
        have HS := Lib.hid (HL.out.2.2.2.1 _ (gd_mem hk8))
        go_wp2
        refine wp_region_ext (by kernel_rfl) (by kernel_rfl) ?_
        repeat (go_big_quiet_step ((go_at_call 38; with_reducible exact ext_c (cb (entailsI_any _ _ _ _ (gd X k) A _ (q1.keep (ext_below _ _)) (q2.keep (ext_below _ _)) (r_A1.keep (ext_below _ _)) (r_A2.keep (ext_below _ _))) HS.out))))
        refine wpQuiet_nil ?_
        intro w9 hb9
        have HB9 := Lib.hid (bt HK.out.2 hb9)
        clear hb9
        go_wp2
        go_roundg (gk - 1)
        case rel => exact ⟨k + 1, by have := HK.out.1; omega, by go_num, HB9.out⟩
        case measure => have := HK.out.1; omega
      · obtain rfl : k = X.length := by have := HK.out.1; omega
        obtain ⟨wo, rfl⟩ : ∃ wo : World, wo = wr := ⟨_, rfl⟩
        go_wp2
        go_loopg [16, 17] X.length (fun q n i wr => ∃ (k c : Nat), k + q = X.length ∧ i = .int .i64 k ∧ n = .int .i64 c ∧ (c = (X.take k).countP (holdsB m1 m2) ∧ c ≤ k) ∧ Below wo.heap.size wo wr)
        case atStart => exact ⟨0, 0, by omega, rfl, rfl, ⟨by simp, by omega⟩, Below.refl _ _⟩
        case round =>
          clear hk8 HK
          obtain ⟨k, c, hk, rfl, rfl, ⟨hc, hck⟩, hb⟩ := hrel
          have HK := Lib.hid (And.intro (And.intro hk hc) hb)
          clear hk hc
          replace c_A1 := cell_keep hb c_A1
          replace c_A2 := cell_keep hb c_A2
          replace c_S1 := cell_keep hb c_S1
          replace c_S2 := cell_keep hb c_S2
          replace c_M1 := cell_keep hb c_M1
          replace c_M2 := cell_keep hb c_M2
          replace r_A1 := r_A1.keep hb
          replace r_A2 := r_A2.keep hb
          replace r_X := r_X.keep hb
          replace r_S1 := r_S1.keep hb
          replace r_S2 := r_S2.keep hb
          replace r_M1 := r_M1.keep hb
          replace r_M2 := r_M2.keep hb
          replace hW := bt hW hb
          clear hb
          clear z_A
          have z_A : w1.heap.size < wr.heap.size := World.block_lt_of_cell? wr _ c_A1
          clear z_S
          have z_S : w5.heap.size < wr.heap.size := World.block_lt_of_cell? wr _ c_S1
          clear z_M
          have z_M : w6.heap.size < wr.heap.size := World.block_lt_of_cell? wr _ c_M1
          by_cases hk8 : k < X.length
          · have hki : (k : Int) < (X.length : Int) := by omega
            obtain ⟨_, _, hre, _, _, hrf⟩ := r_X.asnAt
            simp only [Value.slice.injEq] at hre
            obtain ⟨rfl, _, rfl⟩ := hre
            obtain ⟨gb, ob, u1, u2, rfl, _, hzb, hp1, hp2, q1, q2⟩ := hrf k hk8
            obtain ⟨ua1, uc1, rfl⟩ := q1.form
            obtain ⟨ua2, uc2, rfl⟩ := q2.form
            clear hrf
            obtain ⟨e1, he1⟩ : ∃ x, holdsB m1 m2 (gd X k) = x := ⟨_, rfl⟩
            have HS := Lib.hid (And.intro he1 (show (X.take (k + 1)).countP (holdsB m1 m2) = c + (if e1 = true then 1 else 0) by rw [count_more hk8, ← HK.out.1.2, he1]))
            have hc2 : (c : Int) ≤ 2 := by omega
            clear he1
            go_wp2
            refine wp_region_ext (by kernel_rfl) (by kernel_rfl) ?_
            repeat (go_big_quiet_step ((go_at_call 63; with_reducible exact ext_c (cb (holdsI_any _ _ _ _ m1 m2 (gd X k) _ (r_M1.ints.keep (ext_below _ _)) (r_M2.ints.keep (ext_below _ _)) (q1.keep (ext_below _ _)) (q2.keep (ext_below _ _))) HS.out.1))))
            refine wpQuiet_nil ?_
            intro w9 hb9
            have HB9 := Lib.hid (bt HK.out.2 hb9)
            clear hb9
            cases e1 with
            | false =>
              go_wp2
              go_roundg (gk - 1)
              case rel => exact ⟨k + 1, c, by have := HK.out.1.1; omega, by go_num, rfl, ⟨HS.out.2.symm, by omega⟩, HB9.out⟩
              case measure => have := HK.out.1.1; omega
            | true =>
              go_wp2
              go_roundg (gk - 1)
              case rel => exact ⟨k + 1, c + 1, by have := HK.out.1.1; omega, by go_num, by go_num, ⟨HS.out.2.symm, by omega⟩, HB9.out⟩
              case measure => have := HK.out.1.1; omega
          · obtain rfl : k = X.length := by have := HK.out.1.1; omega
            have hcv : c = if holdsB m1 m2 A = true then 1 else 0 := by rw [HK.out.1.2, List.take_length]; exact HL.out.2.1
            have hdl := HN.out
            cases cA with
            | false =>
              clear hcv
              go_wp2
              refine wp_region_ext (by kernel_rfl) (by kernel_rfl) ?_
              repeat (go_big_quiet_step (first
                | (go_at_call 61; exact ext_c (cb (famHoldsI_any _ _ _ s1 s2 X _ (r_S1.ints.keep (ext_below _ _)) (r_S2.ints.keep (ext_below _ _)) (r_X.keep (ext_below _ _))) HL.out.2.2.1))
                | (go_at_call 63; exact ext_c (cb (holdsI_any _ _ _ _ s1 s2 A _ (r_S1.ints.keep (ext_below _ _)) (r_S2.ints.keep (ext_below _ _)) (r_A1.keep (ext_below _ _)) (r_A2.keep (ext_below _ _))) HL.out.2.2.2.2.symm))
                | (go_at_call 40; exact ext_c (cb (consistentI_any _ _ A _ (r_A1.keep (ext_below _ _)) (r_A2.keep (ext_below _ _))) HL.out.1.1.symm))))
              refine wpQuiet_nil ?_
              intro w9 hb9
              replace hb9 := bt hW hb9
              go_wp2
              go_ret
              exact ⟨rfl, hb9⟩
            | true =>
              have hc1 : c = 1 := by rw [hcv, if_pos (HL.out.1.2 (by trivial))]
              subst hc1
              clear hcv
              go_wp2
              refine wp_region_ext (by kernel_rfl) (by kernel_rfl) ?_
              repeat (go_big_quiet_step (first
                | (go_at_call 61; exact ext_c (cb (famHoldsI_any _ _ _ s1 s2 X _ (r_S1.ints.keep (ext_below _ _)) (r_S2.ints.keep (ext_below _ _)) (r_X.keep (ext_below _ _))) HL.out.2.2.1))
                | (go_at_call 63; exact ext_c (cb (holdsI_any _ _ _ _ s1 s2 A _ (r_S1.ints.keep (ext_below _ _)) (r_S2.ints.keep (ext_below _ _)) (r_A1.keep (ext_below _ _)) (r_A2.keep (ext_below _ _))) HL.out.2.2.2.2.symm))
                | (go_at_call 40; exact ext_c (cb (consistentI_any _ _ A _ (r_A1.keep (ext_below _ _)) (r_A2.keep (ext_below _ _))) HL.out.1.1.symm))))
              refine wpQuiet_nil ?_
              intro w9 hb9
              replace hb9 := bt hW hb9
              go_wp2
              go_ret
              exact ⟨rfl, hb9⟩
end Go.Proofs.Ytapoillhgimdiaa
