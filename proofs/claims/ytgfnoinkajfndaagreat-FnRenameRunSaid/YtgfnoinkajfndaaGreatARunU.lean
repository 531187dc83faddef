/- Walks: programs are run (reference: RunProgram). -/
import Derived.Test.YtgfnoinkajfndaaGreatARunT
import Derived.Test.YtgfnoinkajfndaaGreatACmdA
import Derived.Handy
import Derived.Deep.DeepMust
set_option linter.unusedVariables false
set_option linter.unusedSimpArgs false
namespace Go.Proofs.YtgfnoinkajfndaaGreat
open Go.RowKit

/-- A program can be run. -/
def fitsB {d : Nat} (s : St) (l : List (Cm d)) (f : Int) : Bool := validB s.1 s.2 && (progOkB l && (decide (0 ≤ f) && decide (f ≤ 200)))
/-- The run of a program: the code and the state. -/
def runP {d : Nat} (s : St) (l : List (Cm d)) (f : Int) : Int × St := if fitsB s l f = true then ((runL d l s f.toNat).1, (runL d l s f.toNat).2.1) else (4, s)
set_option maxRecDepth 100000 in
set_option maxHeartbeats 3200000 in
theorem l9Fits_any (d : Nat) {S : Nat → Prop} (v v1 v2 : Value) (l : List (Cm d)) (s : St) (f : Int) (w : World) (h : RL w S v l) (h1 : RInts w v1 s.1) (h2 : RInts w v2 s.2) (hs : szC d l ≤ 1000000000000000000) (hd : d ≤ 100) :
    Calls Tryz.prog 26 #[.agg #[v1, v2], v, .int .i64 f] w fun e w' => e = .returned (.bool (fitsB s l f)) ∧ Below w.heap.size w w' := by
  obtain ⟨a, cap, rfl⟩ := h.form
  obtain ⟨a1, c1, rfl⟩ := h1.form
  obtain ⟨a2, c2, rfl⟩ := h2.form
  have HR := Lib.hid (And.intro h (And.intro h1 h2))
  have hbA := below_alloc w (.cells #[.slice a1 s.1.length c1, .slice a2 s.2.length c2] 25)
  have HB := Lib.hid hbA
  clear h h1 h2 hbA
  go_enter Tryz.func26, Tryz.ntmps26
  go_wp2_with fail
  refine (specStateValid_any _ _ s.1 s.2 _ (HR.out.2.1.keep HB.out) (HR.out.2.2.keep HB.out)).mono ?_
  rintro e w2 ⟨rfl, hb2⟩
  have HB2 := Lib.hid (bt HB.out hb2)
  clear hb2
  cases e1 : validB s.1 s.2
  · have HE := Lib.hid e1
    go_wp2
    go_ret
    exact ⟨by rw [fitsB, HE.out]; rfl, HB2.out⟩
  · have HE := Lib.hid e1
    go_wp2_with fail
    refine (progValidS_any d _ l _ (HR.out.1.keep HB2.out) hs hd).mono ?_
    rintro e w3 ⟨rfl, hb3⟩
    have HB3 := Lib.hid (bt HB2.out hb3)
    clear hb3
    cases e2 : progOkB l
    · have HE2 := Lib.hid e2
      go_wp2
      go_ret
      exact ⟨by rw [fitsB, HE2.out, HE.out]; rfl, HB3.out⟩
    · have HE2 := Lib.hid e2
      by_cases f0 : 0 ≤ f
      · by_cases f1 : f ≤ 200
        all_goals
          go_wp2
          go_ret
          exact ⟨by rw [fitsB, HE2.out, HE.out]; first | (simp [f0, f1]; done) | (simp; omega), HB3.out⟩
      · go_wp2
        go_ret
        exact ⟨by rw [fitsB, HE2.out, HE.out]; first | (simp [f0]; done) | (simp; omega), HB3.out⟩
set_option maxRecDepth 100000 in
set_option maxHeartbeats 6400000 in
theorem specRun_any (d : Nat) {S : Nat → Prop} (v v1 v2 : Value) (l : List (Cm d)) (s : St) (f : Int) (w : World) (h : RL w S v l) (h1 : RInts w v1 s.1) (h2 : RInts w v2 s.2) (hs : szC d l ≤ 1000000000000000000) (hd : d ≤ 100) :
    Calls Tryz.prog 8 #[.agg #[v1, v2], v, .int .i64 f] w (StRes (runP s l f) w) := by
  obtain ⟨a, cap, rfl⟩ := h.form
  obtain ⟨a1, c1, rfl⟩ := h1.form
  obtain ⟨a2, c2, rfl⟩ := h2.form
  have HR := Lib.hid (And.intro h (And.intro h1 h2))
  have hb01 := below_alloc w (.cells #[.slice a1 s.1.length c1, .slice a2 s.2.length c2] 25)
  have hb12 := below_alloc (w.alloc (.cells #[.slice a1 s.1.length c1, .slice a2 s.2.length c2] 25)) (.cells #[.slice none 0 0, .slice none 0 0] 25)
  have hP := box_keep (heap_alloc_new w (.cells #[.slice a1 s.1.length c1, .slice a2 s.2.length c2] 25)) hb12
  have hR := heap_alloc_new (w.alloc (.cells #[.slice a1 s.1.length c1, .slice a2 s.2.length c2] 25)) (.cells #[.slice none 0 0, .slice none 0 0] 25)
  simp only [World.size_alloc] at hR
  have HH := Lib.hid (And.intro (And.intro hP hR) (bt hb01 hb12))
  clear h h1 h2 hP hR hb01 hb12
  go_enter Tryz.func8, Tryz.ntmps8
  go_wp2_with fail
  refine (l9Fits_any d _ _ _ l s f _ (HR.out.1.keep HH.out.2) (HR.out.2.1.keep HH.out.2) (HR.out.2.2.keep HH.out.2) hs hd).mono ?_
  rintro e w2 ⟨rfl, hb2⟩
  have HP2 := Lib.hid (And.intro (box_keep HH.out.1.1 hb2) (box_keep HH.out.1.2 hb2))
  have HB2 := Lib.hid (bt HH.out.2 hb2)
  have p0 := box0 HP2.out.1
  have p1 := box1 HP2.out.1
  have hRz := box_lt HP2.out.2
  clear hb2
  cases e1 : fitsB s l f
  · have HE := Lib.hid (show runP s l f = (4, s) by rw [runP, if_neg (by rw [e1]; decide)])
    have r0 := box0 HP2.out.2
    have r1 := box1 HP2.out.2
    have z0 := boxz HP2.out.2 0
    have z1 := boxz HP2.out.2 1
    have r := box_two (.slice none 0 0) (.slice none 0 0) r0 r1
    clear e1
    go_wp2
    refine bodyPost_ret (v := .tuple #[.agg #[.slice none 0 0, .slice none 0 0], .int .i64 4]) (by simp [results, Tryz.results8, go_sem, r.1, r.2]) rfl ?_
    exact ⟨_, _, by rw [HE.out], by rw [HE.out, oS_bad (show (4 : Int) ≠ 0 by decide)]; exact ⟨rints_nil _, rints_nil _⟩, below_st (below_st HB2.out _ _ (by show w.heap.size ≤ w.heap.size + 1; omega)) _ _ (by show w.heap.size ≤ w.heap.size + 1; omega)⟩
  · have HE := Lib.hid (show runP s l f = ((runL d l s f.toNat).1, (runL d l s f.toNat).2.1) by rw [runP, if_pos e1])
    have hf := e1
    simp only [fitsB, Bool.and_eq_true, decide_eq_true_eq] at hf
    obtain ⟨hv, hp, f0, f2⟩ := hf
    obtain ⟨m, rfl⟩ : ∃ m : Nat, f = (m : Int) := ⟨f.toNat, by omega⟩
    have HV := Lib.hid (And.intro hv (progOk_iff hp))
    have hln := valid_len hv
    have HLN := Lib.hid hln
    clear hv hp e1 hln
    go_wp2_with fail
    refine (l2Copy_any _ _ s.1 s.2 _ (HR.out.2.1.keep HB2.out) (HR.out.2.2.keep HB2.out) (by rw [HLN.out.1]; decide) (by rw [HLN.out.2]; decide) (by rw [HLN.out.1]; decide) (by rw [HLN.out.2]; decide)).mono ?_
    rintro e w3 ⟨u1, u2, rfl, hst, hb3⟩
    have HST := Lib.hid hst
    have HP3 := Lib.hid (box_keep HP2.out.2 hb3)
    have HB3 := Lib.hid (bt HB2.out hb3)
    have hz3 := hb3.size
    clear hst hb3 p0 p1
    go_wp2_with fail
    refine (l9Run_any d 4 S _ _ _ l s m _ (HR.out.1.keep HB3.out) HV.out.2.1 (own_ints HST.out.one).1 (own_ints HST.out.two).1 HV.out.1 (by omega)).mono ?_
    have hrk := run_ok d l 4 s m HV.out.2.1 HV.out.1
    have hE2 := HE.out
    have e0 : ((m : Int)).toNat = m := Int.toNat_natCast m
    rw [e0] at hE2
    obtain ⟨rr, hrr⟩ : ∃ rr, runL d l s m = rr := ⟨_, rfl⟩
    rw [hrr] at hrk hE2 ⊢
    obtain ⟨code, s2, rest⟩ := rr
    have HRK := Lib.hid (And.intro hrk hE2)
    clear hrk hE2 hrr e0
    rintro e w4 ⟨y1, y2, rfl, ⟨hy1, hy2⟩, hb4⟩
    dsimp only at hy1 hy2 ⊢
    obtain ⟨d1, e1, rfl⟩ := hy1.form
    obtain ⟨d2, e2, rfl⟩ := hy2.form
    have hz4 := hb4.size
    have hR4 := box_keep HP3.out hb4
    have r0 := box0 hR4
    have r1 := box1 hR4
    have z0 := boxz hR4 0
    have z1 := boxz hR4 1
    have hRz4 := box_lt hR4
    have HY := Lib.hid (And.intro (And.intro hy1 hy2) (And.intro hR4 (bt HB3.out hb4)))
    clear hy1 hy2 hb4 hR4
    have hbN := below_alloc ((w4.setCell ⟨w.heap.size + 1, 0, none⟩ (.slice d1 (oS (code, s2)).1.length e1)).setCell ⟨w.heap.size + 1, 1, none⟩ (.slice d2 (oS (code, s2)).2.length e2)) (.cells #[.slice d1 (oS (code, s2)).1.length e1, .slice d2 (oS (code, s2)).2.length e2] 25)
    have r := box_two (.slice d1 (oS (code, s2)).1.length e1) (.slice d2 (oS (code, s2)).2.length e2) r0 r1
    have r2 := And.intro (cell_keep hbN r.1) (cell_keep hbN r.2)
    go_wp2
    refine bodyPost_ret (v := .tuple #[.agg #[.slice d1 (oS (code, s2)).1.length e1, .slice d2 (oS (code, s2)).2.length e2], .int .i64 code]) (by simp [results, Tryz.results8, go_sem, r2.1, r2.2]) rfl ?_
    have hF : Fr (fun j => j = w.heap.size + 1) w4 ((w4.setCell ⟨w.heap.size + 1, 0, none⟩ (.slice d1 (oS (code, s2)).1.length e1)).setCell ⟨w.heap.size + 1, 1, none⟩ (.slice d2 (oS (code, s2)).2.length e2)) := (fr_set w4 ⟨w.heap.size + 1, 0, none⟩ _).trans (fr_set _ ⟨w.heap.size + 1, 1, none⟩ _)
    have hk : ∀ {a : Option Addr} {n : Nat} {l : List Int}, RInts w4 (.slice a l.length n) l → (0 < l.length ∨ l = []) → RInts ((w4.setCell ⟨w.heap.size + 1, 0, none⟩ (.slice d1 (oS (code, s2)).1.length e1)).setCell ⟨w.heap.size + 1, 1, none⟩ (.slice d2 (oS (code, s2)).2.length e2)) (.slice a l.length n) l := fun {a n l} h hl => by
      rcases hl with hl | rfl
      · exact h.kept hF (fun j hj e => rints_ne h HY.out.2.1 hl j hj e)
      · rcases h with ⟨a, cap, e, h0, h1, h2⟩ | ⟨b, o, cap, e, h1, h2, h3⟩
        · exact .inl ⟨a, cap, e, h0, h1, h2⟩
        · exact .inr ⟨b, o, cap, e, h1, h2, fun i hi => absurd hi (Nat.not_lt_zero i)⟩
    have hol := oS_len (c := code) HRK.out.1
    exact ⟨_, _, by rw [HRK.out.2], by
      rw [HRK.out.2]
      exact ⟨(hk HY.out.1.1 (hol.elim (fun h => .inl h.1) (fun h => .inr (by rw [h])))).keep hbN, (hk HY.out.1.2 (hol.elim (fun h => .inl h.2) (fun h => .inr (by rw [h])))).keep hbN⟩, bt (below_st (below_st HY.out.2.2 _ _ (by show w.heap.size ≤ w.heap.size + 1; omega)) _ _ (by show w.heap.size ≤ w.heap.size + 1; omega)) hbN⟩
end Go.Proofs.YtgfnoinkajfndaaGreat
