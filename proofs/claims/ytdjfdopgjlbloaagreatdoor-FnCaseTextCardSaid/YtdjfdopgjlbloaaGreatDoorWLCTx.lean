/- Walks: comparisons of proofs that read as the same; the program's EntailsCase. -/
import Derived.Test.YtdjfdopgjlbloaaGreatDoorWPrvA
import Derived.Test.YtdjfdopgjlbloaaGreatDoorWMath1
import Derived.Handy
import Derived.Test.YtdjfdopgjlbloaaGreatDoorWDTx
import Derived.Test.YtdjfdopgjlbloaaGreatDoorWFmtI
import Derived.Test.YtdjfdopgjlbloaaGreatDoorWPrsM
import Derived.Test.YtdjfdopgjlbloaaGreatDoorWPrsN
namespace Go.Proofs.YtdjfdopgjlbloaaGreatDoor
open Go.RowKit

set_option maxRecDepth 100000 in
set_option maxHeartbeats 3200000 in
theorem slLists_any {S1 S2 : Nat → Prop} (v1 v2 : Value) (l : List (List Int)) (w : World) (h1 : RL w S1 v1 l) (h2 : RL w S2 v2 l) :
    Calls Tryz.prog 22 #[v1, v2] w fun e w' => e = .returned (.bool true) ∧ Below w.heap.size w w' := by
  have hm := h1.len
  unfold maxLen at hm
  obtain ⟨a1, c1, rfl, _, _, hf1⟩ := h1.listAt
  obtain ⟨a2, c2, rfl, _, _, hf2⟩ := h2.listAt
  have F1 := Lib.hid hf1
  have F2 := Lib.hid hf2
  have hne : ((l.length : Int) != (l.length : Int)) = false := by simp
  clear hf1 hf2 h1 h2
  go_enter Tryz.func22, Tryz.ntmps22
  go_wp2
  go_loopg [5] l.length (fun q i wr => ∃ k : Nat, k + q = l.length ∧ i = .int .i64 k ∧ Below w.heap.size w wr)
  case atStart => exact ⟨0, by omega, rfl, Below.refl _ _⟩
  case round =>
    obtain ⟨k, hk, rfl, hb⟩ := hrel
    have HK := Lib.hid hk
    clear hk
    by_cases hk8 : k < l.length
    · obtain ⟨b1, o1, u1, rfl, _, hbl1, hp1, r1⟩ := F1.out k hk8
      obtain ⟨b2, o2, x1, rfl, _, hbl2, hq1, s1⟩ := F2.out k hk8
      obtain ⟨ua1, uc1, rfl⟩ := r1.form
      obtain ⟨xa1, xc1, rfl⟩ := s1.form
      replace hp1 := cell_keep hb hp1
      replace hq1 := cell_keep hb hq1
      replace r1 := r1.keep hb
      replace s1 := s1.keep hb
      have hs := hb.size
      have g1 : b1 < wr.heap.size := by omega
      have g2 : b2 < wr.heap.size := by omega
      have i1 : (k : Int) < (l.length : Int) := by omega
      go_wp2
      refine wp_region_ext (by kernel_rfl) (by kernel_rfl) ?_
      repeat (go_big_quiet_step ((go_at_call 21; exact ext_c (cb (slInts_any _ _ (gd l k) (gd l k) _ (r1.keep Bl).ints (s1.keep Bl).ints) (decide_eq_true rfl)))))
      refine wpQuiet_nil ?_
      intro w2 hb2
      have hbn : Below w.heap.size w w2 := bt hb (bt Bl hb2)
      clear hb2
      go_wp2
      go_roundg (gk - 1)
      case rel => exact ⟨k + 1, by have := HK.out; omega, by go_num, hbn⟩
      case measure => have := HK.out; omega
    · obtain rfl : k = l.length := by have := HK.out; omega
      go_wp2
      go_ret
      exact ⟨rfl, hb⟩
set_option maxRecDepth 100000 in
set_option maxHeartbeats 3200000 in
theorem slProof_any {S1 S2 S3 S4 : Nat → Prop} (v1 v2 u1 u2 : Value) (p : CPf) (w : World) (h1 : RL w S1 v1 p.1) (h2 : RL w S2 v2 p.2) (k1 : RL w S3 u1 p.1) (k2 : RL w S4 u2 p.2) :
    Calls Tryz.prog 8 #[.agg #[v1, v2], .agg #[u1, u2]] w fun e w' => e = .returned (.bool true) ∧ Below w.heap.size w w' := by
  obtain ⟨p1, c1, rfl⟩ := h1.form
  obtain ⟨p2, c2, rfl⟩ := h2.form
  obtain ⟨p3, c3, rfl⟩ := k1.form
  obtain ⟨p4, c4, rfl⟩ := k2.form
  go_enter Tryz.func8, Tryz.ntmps8
  go_wp2_with fail
  refine (cb (slInts_any _ _ p.1 p.1 _ (h1.keep Bl).ints (k1.keep Bl).ints) (decide_eq_true rfl)).mono ?_
  rintro e w1 ⟨rfl, hb⟩
  have hc0 := cell_keep hb (p := ⟨w.heap.size, 1, none⟩) (v := .slice p2 p.2.length c2) (by simp)
  have hd0 := cell_keep hb (p := ⟨w.heap.size + 1, 1, none⟩) (v := .slice p4 p.2.length c4) (by simp)
  have hW : Below w.heap.size w w1 := bt Bl hb
  clear hb
  go_wp2_with fail
  refine (slLists_any _ _ p.2 _ (h2.keep hW) (k2.keep hW)).mono ?_
  rintro e w2 ⟨rfl, hb⟩
  go_wp2
  go_returns
  exact ⟨rfl, bt hW hb⟩
end Go.Proofs.YtdjfdopgjlbloaaGreatDoor
/- The walk of the law FnCaseText. (Printed by gen_lctx.py.) -/
set_option linter.unusedVariables false
namespace Go.Proofs.YtdjfdopgjlbloaaGreatDoor
open Go.RowKit

theorem fmt_parse_yes {p : Pf} (h : shapedB p = true) : parseO (fmtB p) = some p ∧ fmtB p ≠ [] := by
  rw [fmtB, if_pos h]
  exact ⟨(shaped_iff.1 h).parse, text_ne (shaped_iff.1 h)⟩
theorem fmt_parse_no {p : Pf} (h : shapedB p = false) : fmtB p = [] := by rw [fmtB, h]; rfl
theorem fmt_len (p : Pf) : (fmtB p).length ≤ 200 := by
  rw [fmtB]; split
  · rename_i hs; exact text_len (shaped_iff.1 hs)
  · simp
theorem parse_fmt {t : List UInt8} (h : parseB t = true) : fmtB (parseR t) = t := by
  cases hp : parseO t with
  | none => rw [parseB_none hp] at h; cases h
  | some p =>
    obtain ⟨hs, ht⟩ := parse_iff.1 hp
    rw [parseR_some hp, fmtB, if_pos (shaped_iff.2 hs), ht]
attribute [local go_sem] btx_nil
set_option maxRecDepth 100000 in
set_option maxHeartbeats 12800000 in
theorem fnCaseText_walk (v u : Value) (n m : Nat) (mx : Int) (w : World) (h : RBytes w v n) (h' : RBytes w u m) (hmx : w.cell? ⟨1, 0, none⟩ = some (.int .i64 mx)) :
    Calls Tryz.prog 3 #[v, u] w fun e w' => e = .returned (.bool true) ∧ Below w.heap.size w w' := by
  obtain ⟨a, cap, rfl⟩ := bytes_form h
  obtain ⟨a', cap', rfl⟩ := bytes_form h'
  by_cases hn : n ≤ 1048576
  rotate_left
  · go_enter Tryz.func3, Tryz.ntmps3
    go_wp2
    go_ret
    exact ⟨rfl, Below.refl _ _⟩
  by_cases hm : m ≤ 1048576
  rotate_left
  · go_enter Tryz.func3, Tryz.ntmps3
    go_wp2
    go_ret
    exact ⟨rfl, Below.refl _ _⟩
  go_enter Tryz.func3, Tryz.ntmps3
  go_wp2_with fail
  refine (specDrawFormatCase_any _ n _ h).mono ?_
  rintro e w1 ⟨y1, y2, p, rfl, ⟨q1, q2⟩, hW⟩
  obtain ⟨a1, c1, rfl⟩ := q1.form
  obtain ⟨a2, c2, rfl⟩ := q2.form
  go_wp2_with fail
  refine (formatI_any _ _ p _ (q1.keep Bl) (q2.keep Bl)).mono ?_
  rintro e w2 ⟨rfl, hb⟩
  have x1 := cell_keep hb (p := ⟨w1.heap.size, 0, none⟩) (v := .slice a1 p.1.length c1) (by simp)
  have x2 := cell_keep hb (p := ⟨w1.heap.size, 1, none⟩) (v := .slice a2 p.2.length c2) (by simp)
  replace hb : Below w1.heap.size w1 w2 := bt Bl hb
  replace q1 := q1.keep hb
  replace q2 := q2.keep hb
  replace hW := bt hW hb
  clear hb
  obtain ⟨s, hs⟩ : ∃ s, fmtB p = s := ⟨_, rfl⟩
  have hs200 : s.length ≤ 200 := by rw [← hs]; exact fmt_len p
  have j0 : ((btx s).toList == (btx s).toList) = true := by rw [btx_leq]; exact decide_eq_true rfl
  rw [hs]
  have HSF := Lib.hid hs
  have HS2 := Lib.hid hs200
  clear hs hs200
  go_wp2_with fail
  refine (parseCaseI_any s mx _ (by have := HS2.out; omega) (cell_keep hW hmx)).mono ?_
  rintro e w3 ⟨g1, g2, rfl, ⟨f1, f2, o1, o2, _⟩, hb⟩
  have t1 := o1.read
  have t2 := o2.read
  obtain ⟨e1, i1, rfl⟩ := t1.form
  obtain ⟨e2, i2, rfl⟩ := t2.form
  have z1 : w1.heap.size < w2.heap.size := World.block_lt_of_cell? w2 _ x1
  replace x1 := cell_keep hb x1
  replace x2 := cell_keep hb x2
  replace q1 := q1.keep hb
  replace q2 := q2.keep hb
  replace hW := bt hW hb
  have z1 : w1.heap.size < w3.heap.size := World.block_lt_of_cell? w3 _ x1
  clear hb o1 o2
  cases hsh : shapedB p with
  | false =>
    have hs0 : s = [] := by rw [← HSF.out]; exact fmt_parse_no hsh
    have hpb : parseB s = false := by rw [hs0]; exact parseB_none parse_nil
    have j1 : ((btx s).toList == (btx []).toList) = true := by rw [btx_leq]; exact decide_eq_true hs0
    rw [hpb]
    clear hs0 hpb hsh
    go_wp2_with fail
    refine (formatS_any _ _ p _ (q1.keep Bl) (q2.keep Bl)).mono ?_
    rw [HSF.out]
    rintro e w4 ⟨rfl, hb⟩
    replace hb : Below w3.heap.size w3 w4 := bt Bl hb
    replace hW := bt hW hb
    clear hb x1 x2 q1 q2 t1 t2 z1
    go_wp2_with fail
    refine (specDrawParseCase_any _ m _ (h'.keep hW)).mono ?_
    rintro e k1 ⟨t, rfl, ht, hb⟩
    replace hW := bt hW hb
    clear hb
    have HT := Lib.hid ht
    clear ht
    obtain ⟨D, hD⟩ : ∃ D, parseR t = D := ⟨_, rfl⟩
    obtain ⟨ok, hok⟩ : ∃ ok, parseB t = ok := ⟨_, rfl⟩
    have hbeq : (ok == ok) = true := by cases ok <;> rfl
    have HFM := Lib.hid (fun (e : ok = true) => show fmtB D = t by rw [← hD]; exact parse_fmt (hok.trans e))
    have HD := Lib.hid (And.intro hD hok)
    clear hD hok
    go_wp2_with fail
    refine (parseCaseI_any t mx _ (by have := HT.out; omega) (cell_keep hW hmx)).mono ?_
    rw [HD.out.1, HD.out.2]
    rintro e k2 ⟨g3, g4, rfl, ⟨f3, f4, o3, o4, _⟩, hb⟩
    have r1 := o3.read
    have r2 := o4.read
    obtain ⟨d1, l1, rfl⟩ := r1.form
    obtain ⟨d2, l2, rfl⟩ := r2.form
    replace hW := bt hW hb
    clear hb o3 o4
    go_wp2_with fail
    refine (parseCaseS_any t _ (by have := HT.out; omega)).mono ?_
    rw [HD.out.1, HD.out.2]
    rintro e k3 ⟨g5, g6, rfl, ⟨s1, s2⟩, hb⟩
    obtain ⟨d3, l3, rfl⟩ := s1.form
    obtain ⟨d4, l4, rfl⟩ := s2.form
    have x5 := cell_keep hb (p := ⟨k2.heap.size, 0, none⟩) (v := .slice d1 D.1.length l1) (by simp)
    have x6 := cell_keep hb (p := ⟨k2.heap.size, 1, none⟩) (v := .slice d2 D.2.length l2) (by simp)
    replace hb : Below k2.heap.size k2 k3 := bt Bl hb
    replace r1 := r1.keep hb
    replace r2 := r2.keep hb
    replace hW := bt hW hb
    have z2 : k2.heap.size < k3.heap.size := World.block_lt_of_cell? k3 _ x5
    clear hb
    go_wp2_with fail
    refine (slProof_any _ _ _ _ D _ (r1.keep Bl) (r2.keep Bl) (s1.keep Bl) (s2.keep Bl)).mono ?_
    rintro e k4 ⟨rfl, hb⟩
    replace hb : Below k3.heap.size k3 k4 := bt Bl hb
    replace x5 := cell_keep hb x5
    replace x6 := cell_keep hb x6
    replace r1 := r1.keep hb
    replace r2 := r2.keep hb
    replace hW := bt hW hb
    clear hb s1 s2
    cases ok with
    | false =>
      go_wp2
      go_ret
      exact ⟨by first | exact rfl | exact trivial, hW⟩
    | true =>
      have j2 : ((btx t).toList == (btx t).toList) = true := by rw [btx_leq]; exact decide_eq_true rfl
      go_wp2_with fail
      refine (formatI_any _ _ D _ r1 r2).mono ?_
      have hft : fmtB D = t := by have h9 := HFM.out; simpa using h9
      rw [hft]
      rintro e k5 ⟨rfl, hb⟩
      replace hW := bt hW hb
      clear hb
      go_wp2
      go_ret
      exact ⟨by first | exact rfl | exact trivial, hW⟩
  | true =>
    obtain ⟨hpo, hs0⟩ := fmt_parse_yes hsh
    rw [HSF.out] at hpo hs0
    have hpb : parseB s = true := parseB_some hpo
    have hpr : parseR s = p := parseR_some hpo
    have j1b : ((btx s).toList == (btx []).toList) = false := by rw [btx_leq]; exact decide_eq_false hs0
    rw [hpb]
    rw [hpr] at t1 t2 ⊢
    clear hs0 hpb hpr hpo hsh
    go_wp2_with fail
    refine (formatS_any _ _ p _ (q1.keep Bl) (q2.keep Bl)).mono ?_
    rw [HSF.out]
    rintro e w4 ⟨rfl, hb⟩
    have x3 := cell_keep hb (p := ⟨w3.heap.size, 0, none⟩) (v := .slice e1 p.1.length i1) (by simp)
    have x4 := cell_keep hb (p := ⟨w3.heap.size, 1, none⟩) (v := .slice e2 p.2.length i2) (by simp)
    replace hb : Below w3.heap.size w3 w4 := bt Bl hb
    replace x1 := cell_keep hb x1
    replace x2 := cell_keep hb x2
    replace q1 := q1.keep hb
    replace q2 := q2.keep hb
    replace t1 := t1.keep hb
    replace t2 := t2.keep hb
    replace hW := bt hW hb
    clear hb
    go_wp2_with fail
    refine (slProof_any _ _ _ _ p _ t1 t2 q1 q2).mono ?_
    rintro e w5 ⟨rfl, hb⟩
    replace hW := bt hW hb
    clear hb x1 x2 x3 x4 q1 q2 t1 t2 z1
    go_wp2_with fail
    refine (specDrawParseCase_any _ m _ (h'.keep hW)).mono ?_
    rintro e k1 ⟨t, rfl, ht, hb⟩
    replace hW := bt hW hb
    clear hb
    have HT := Lib.hid ht
    clear ht
    obtain ⟨D, hD⟩ : ∃ D, parseR t = D := ⟨_, rfl⟩
    obtain ⟨ok, hok⟩ : ∃ ok, parseB t = ok := ⟨_, rfl⟩
    have hbeq : (ok == ok) = true := by cases ok <;> rfl
    have HFM := Lib.hid (fun (e : ok = true) => show fmtB D = t by rw [← hD]; exact parse_fmt (hok.trans e))
    have HD := Lib.hid (And.intro hD hok)
    clear hD hok
    go_wp2_with fail
    refine (parseCaseI_any t mx _ (by have := HT.out; omega) (cell_keep hW hmx)).mono ?_
    rw [HD.out.1, HD.out.2]
    rintro e k2 ⟨g3, g4, rfl, ⟨f3, f4, o3, o4, _⟩, hb⟩
    have r1 := o3.read
    have r2 := o4.read
    obtain ⟨d1, l1, rfl⟩ := r1.form
    obtain ⟨d2, l2, rfl⟩ := r2.form
    replace hW := bt hW hb
    clear hb o3 o4
    go_wp2_with fail
    refine (parseCaseS_any t _ (by have := HT.out; omega)).mono ?_
    rw [HD.out.1, HD.out.2]
    rintro e k3 ⟨g5, g6, rfl, ⟨s1, s2⟩, hb⟩
    obtain ⟨d3, l3, rfl⟩ := s1.form
    obtain ⟨d4, l4, rfl⟩ := s2.form
    have x5 := cell_keep hb (p := ⟨k2.heap.size, 0, none⟩) (v := .slice d1 D.1.length l1) (by simp)
    have x6 := cell_keep hb (p := ⟨k2.heap.size, 1, none⟩) (v := .slice d2 D.2.length l2) (by simp)
    replace hb : Below k2.heap.size k2 k3 := bt Bl hb
    replace r1 := r1.keep hb
    replace r2 := r2.keep hb
    replace hW := bt hW hb
    have z2 : k2.heap.size < k3.heap.size := World.block_lt_of_cell? k3 _ x5
    clear hb
    go_wp2_with fail
    refine (slProof_any _ _ _ _ D _ (r1.keep Bl) (r2.keep Bl) (s1.keep Bl) (s2.keep Bl)).mono ?_
    rintro e k4 ⟨rfl, hb⟩
    replace hb : Below k3.heap.size k3 k4 := bt Bl hb
    replace x5 := cell_keep hb x5
    replace x6 := cell_keep hb x6
    replace r1 := r1.keep hb
    replace r2 := r2.keep hb
    replace hW := bt hW hb
    clear hb s1 s2
    cases ok with
    | false =>
      go_wp2
      go_ret
      exact ⟨by first | exact rfl | exact trivial, hW⟩
    | true =>
      have j2 : ((btx t).toList == (btx t).toList) = true := by rw [btx_leq]; exact decide_eq_true rfl
      go_wp2_with fail
      refine (formatI_any _ _ D _ r1 r2).mono ?_
      have hft : fmtB D = t := by have h9 := HFM.out; simpa using h9
      rw [hft]
      rintro e k5 ⟨rfl, hb⟩
      replace hW := bt hW hb
      clear hb
      go_wp2
      go_ret
      exact ⟨by first | exact rfl | exact trivial, hW⟩
end Go.Proofs.YtdjfdopgjlbloaaGreatDoor
