/- Walks: programs are run (reference: l9Run, l9Loop, RunProgram). -/
import Derived.Test.YtgfnoinkajfndaaGreatARunS
import Derived.Test.YtgfnoinkajfndaaGreatACmd9
import Derived.Test.YtgfnoinkajfndaaGreatAHold1
import Derived.Handy
import Derived.Deep.DeepMust
import Derived.Deep.Cut
import Derived.Deep.CutBlock
import Derived.Deep.CutRange
set_option linter.unusedVariables false
set_option linter.unusedSimpArgs false
namespace Go.Proofs.YtgfnoinkajfndaaGreat
open Go.RowKit

/-- A row of ints does not lie in a box of slices. -/
theorem rints_ne {w : World} {v : Value} {l : List Int} {C : Nat} {T : TypeId} {a b : Option Addr} {n m c k : Nat} (h : RInts w v l) (hb : w.heap[C]? = some (.cells #[.slice a n c, .slice b m k] T (0, 0))) (hl : 0 < l.length) : ∀ j, v.ownBlock = some j → ¬ j = C := by
  obtain ⟨g, o, cap, rfl, _, _, hc⟩ := h.ne hl
  intro j hj e
  have e2 : g = j := by simpa [Value.ownBlock] using hj
  subst e2
  subst e
  have h0 := hc 0 hl
  rw [Nat.add_zero, cell_of_row w g o _ _ _ hb] at h0
  match o with
  | 0 => cases h0
  | 1 => cases h0
  | o + 2 => simp at h0
theorem rl_fact1 (W : World) (n : Nat) (hn : n = W.heap.size) (f : Fact) (T : TypeId) : RL (W.alloc (.cells #[.bool f.1, .int .i64 f.2.1, .int .i64 f.2.2] T)) (fun k => k = n) (.slice (some ⟨n, 0, none⟩) 1 1) [f] := by
  subst hn
  refine .inr ⟨W.heap.size, 0, 1, rfl, Nat.le_refl _, by unfold maxLen; omega, fun _ => ⟨rfl, by simp⟩, fun i hi => ⟨[.bool f.1, .int .i64 f.2.1, .int .i64 f.2.2], ?_, fun j u hj => ?_⟩⟩
  · obtain rfl : i = 0 := by simpa using hi
    exact ⟨[.bool f.1], [.int .i64 f.2.1, .int .i64 f.2.2], rfl, rfl, [.int .i64 f.2.1], [.int .i64 f.2.2], rfl, rfl, rfl⟩
  · obtain rfl : i = 0 := by simpa using hi
    match j, hj with
    | 0, hj => simp at hj; subst hj; simp
    | 1, hj => simp at hj; subst hj; simp
    | 2, hj => simp at hj; subst hj; simp
/-- What a run gives. -/
def RunRes (r : RRes) (w : World) (e : Ending) (w' : World) : Prop :=
  ∃ u1 u2, e = .returned (.tuple #[.agg #[u1, u2], .int .i64 r.1, .int .i64 (r.2.2 : Int)]) ∧ (RInts w' u1 (oS (r.1, r.2.1)).1 ∧ RInts w' u2 (oS (r.1, r.2.1)).2) ∧ Below w.heap.size w w'
theorem oS_bad {c : Int} {s : St} (h : c ≠ 0) : oS (c, s) = ([], []) := if_neg h
theorem oS_ok (s : St) : oS (0, s) = s := if_pos rfl
/-- A box of a state. -/
def BoxT (w : World) (C : Nat) (s : St) : Prop := ∃ a n c b m k, w.heap[C]? = some (.cells #[.slice a n c, .slice b m k] 25 (0, 0)) ∧ RInts w (.slice a n c) s.1 ∧ RInts w (.slice b m k) s.2
theorem BoxT.keep {w w' : World} {C : Nat} {s : St} (h : BoxT w C s) (hb : Below w.heap.size w w') : BoxT w' C s := by
  obtain ⟨a, n, c, b, m, k, h1, h2, h3⟩ := h
  exact ⟨a, n, c, b, m, k, box_keep h1 hb, h2.keep hb, h3.keep hb⟩
/-- Another box of slices is written. -/
theorem BoxT.kept {w : World} {C D : Nat} {s : St} {a b : Option Addr} {n c m k : Nat} {T : TypeId} (h : BoxT w C s) (hs : okSt s) (hD : w.heap[D]? = some (.cells #[.slice a n c, .slice b m k] T (0, 0))) (hne : ¬ C = D) (x y : Value) :
    BoxT ((w.setCell ⟨D, 0, none⟩ x).setCell ⟨D, 1, none⟩ y) C s := by
  obtain ⟨a', n', c', b', m', k', h1, h2, h3⟩ := h
  have hn := valid_len hs
  have hF : Fr (fun j => j = D) w ((w.setCell ⟨D, 0, none⟩ x).setCell ⟨D, 1, none⟩ y) := (fr_set w ⟨D, 0, none⟩ x).trans (fr_set _ ⟨D, 1, none⟩ y)
  exact ⟨a', n', c', b', m', k', box_kept h1 hF hne, h2.kept hF (fun j hj e => rints_ne h2 hD (by rw [hn.1]; decide) j hj e), h3.kept hF (fun j hj e => rints_ne h3 hD (by rw [hn.2]; decide) j hj e)⟩
/-- A state is stored. -/
theorem boxT_put {w : World} {C : Nat} {s : St} {a b a2 b2 : Option Addr} {n c m k n2 c2 m2 k2 : Nat} (h1 : RInts w (.slice a n c) s.1) (h2 : RInts w (.slice b m k) s.2) (hl : 0 < s.1.length ∧ 0 < s.2.length ∨ s = ([], []))
    (hC : w.heap[C]? = some (.cells #[.slice a2 n2 c2, .slice b2 m2 k2] 25 (0, 0))) :
    BoxT ((w.setCell ⟨C, 0, none⟩ (.slice a n c)).setCell ⟨C, 1, none⟩ (.slice b m k)) C s := by
  have hF : Fr (fun j => j = C) w ((w.setCell ⟨C, 0, none⟩ (.slice a n c)).setCell ⟨C, 1, none⟩ (.slice b m k)) := (fr_set w ⟨C, 0, none⟩ _).trans (fr_set _ ⟨C, 1, none⟩ _)
  have hb : ((w.setCell ⟨C, 0, none⟩ (.slice a n c)).setCell ⟨C, 1, none⟩ (.slice b m k)).heap[C]? = some (.cells #[.slice a n c, .slice b m k] 25 (0, 0)) := box_set1 (box_set0 hC _) _
  refine ⟨a, n, c, b, m, k, hb, ?_⟩
  rcases hl with ⟨l1, l2⟩ | rfl
  · exact ⟨h1.kept hF (fun j hj e => rints_ne h1 hC l1 j hj e), h2.kept hF (fun j hj e => rints_ne h2 hC l2 j hj e)⟩
  · have hnil : ∀ {v : Value} {W W' : World}, RInts W v [] → RInts W' v [] := fun {v W W'} h => by
      rcases h with ⟨a, cap, e, h0, h1, h2⟩ | ⟨b, o, cap, e, h1, h2, h3⟩
      · exact .inl ⟨a, cap, e, h0, h1, h2⟩
      · exact .inr ⟨b, o, cap, e, h1, h2, fun i hi => absurd hi (Nat.not_lt_zero i)⟩
    exact ⟨hnil h1, hnil h2⟩
theorem okSt_len {s : St} (h : okSt s) : 0 < s.1.length ∧ 0 < s.2.length := by
  have := valid_len h
  omega
theorem oS_len {c : Int} {s : St} (h : okSt s) : 0 < (oS (c, s)).1.length ∧ 0 < (oS (c, s)).2.length ∨ oS (c, s) = ([], []) := by
  by_cases hc : c = 0
  · subst hc; rw [oS_ok]; exact .inl (okSt_len h)
  · exact .inr (oS_bad hc)
theorem basic_prog {d : Nat} {c : Cm (d + 1)} (h : basicB c = true) : (c.kind = 1 ∧ 1 ≤ c.a) ∨ (c.kind = 2 ∧ 1 ≤ c.a) ∨ c.kind = 3 ∨ (c.kind = 4 ∧ 1 ≤ c.a) ∨ c.kind = 5 := by
  simp only [basicB, Bool.and_eq_true, Bool.or_eq_true, decide_eq_true_eq, progB_iff] at h
  omega
/-- The contract of running commands. -/
def RunC (d : Nat) (D : Int) : Prop := ∀ (S : Nat → Prop) (v v1 v2 : Value) (l : List (Cm d)) (s : St) (f : Nat) (w : World) (_h : RL w S v l) (_hsh : shpB d l D = true) (_h1 : RInts w v1 s.1) (_h2 : RInts w v2 s.2) (_hs : okSt s) (_hf : f ≤ 1000),
    Calls Tryz.prog 27 #[.agg #[v1, v2], v, .int .i64 (f : Int)] w (RunRes (runL d l s f) w)
set_option maxRecDepth 100000 in
set_option maxHeartbeats 12800000 in
theorem l9Loop_step {d : Nat} {D : Int} (IH : RunC d D) {S : Nat → Prop} (c : Cm (d + 1)) (f1 f2 x y v1 v2 : Value) (s : St) (f : Nat) (w : World) (hf1 : ∃ a n k, f1 = .slice a n k) (hf2 : ∃ a n k, f2 = .slice a n k) (hx : RL w S x c.body) (hy : ∃ a n k, y = .slice a n k)
    (hb : shpB d c.body D = true) (ht : factB c.test = true) (h1 : RInts w v1 s.1) (h2 : RInts w v2 s.2) (hs : okSt s) (hf : f ≤ 1000) :
    Calls Tryz.prog 73 #[.agg #[v1, v2], .agg #[.int .i64 c.kind, .int .i64 c.a, .int .i64 c.b, .bool c.test.1, .int .i64 c.test.2.1, .int .i64 c.test.2.2, f1, f2, x, y], .int .i64 (f : Int)] w (RunRes (loopR (runL d c.body) (fun s => factT s.1 c.test) (f + 1) s f) w) := by
  obtain ⟨a3, n3, c3, rfl⟩ := hf1
  obtain ⟨a4, n4, c4, rfl⟩ := hf2
  obtain ⟨a5, c5, rfl⟩ := hx.form
  obtain ⟨a6, n6, c6, rfl⟩ := hy
  obtain ⟨a1, c1, rfl⟩ := h1.form
  obtain ⟨a2, c2, rfl⟩ := h2.form
  have hsz1 : (w.alloc (.cells #[.slice a1 s.1.length c1, .slice a2 s.2.length c2] 25)).heap.size = w.heap.size + 1 := by simp
  have hsz2 : ((w.alloc (.cells #[.slice a1 s.1.length c1, .slice a2 s.2.length c2] 25)).alloc (.cells #[.int .i64 c.kind, .int .i64 c.a, .int .i64 c.b, .bool c.test.1, .int .i64 c.test.2.1, .int .i64 c.test.2.2, .slice a3 n3 c3, .slice a4 n4 c4, .slice a5 c.body.length c5, .slice a6 n6 c6] 77)).heap.size = w.heap.size + 1 + 1 := by simp
  have hb01 := below_alloc w (.cells #[.slice a1 s.1.length c1, .slice a2 s.2.length c2] 25)
  have hb12 := below_alloc (w.alloc (.cells #[.slice a1 s.1.length c1, .slice a2 s.2.length c2] 25)) (.cells #[.int .i64 c.kind, .int .i64 c.a, .int .i64 c.b, .bool c.test.1, .int .i64 c.test.2.1, .int .i64 c.test.2.2, .slice a3 n3 c3, .slice a4 n4 c4, .slice a5 c.body.length c5, .slice a6 n6 c6] 77)
  have hb23 := below_alloc ((w.alloc (.cells #[.slice a1 s.1.length c1, .slice a2 s.2.length c2] 25)).alloc (.cells #[.int .i64 c.kind, .int .i64 c.a, .int .i64 c.b, .bool c.test.1, .int .i64 c.test.2.1, .int .i64 c.test.2.2, .slice a3 n3 c3, .slice a4 n4 c4, .slice a5 c.body.length c5, .slice a6 n6 c6] 77)) (.cells #[.slice none 0 0, .slice none 0 0] 25)
  have hP := box_keep (box_keep (heap_alloc_new w (.cells #[.slice a1 s.1.length c1, .slice a2 s.2.length c2] 25)) hb12) hb23
  have hQ := box_keep (heap_alloc_new (w.alloc (.cells #[.slice a1 s.1.length c1, .slice a2 s.2.length c2] 25)) (.cells #[.int .i64 c.kind, .int .i64 c.a, .int .i64 c.b, .bool c.test.1, .int .i64 c.test.2.1, .int .i64 c.test.2.2, .slice a3 n3 c3, .slice a4 n4 c4, .slice a5 c.body.length c5, .slice a6 n6 c6] 77)) hb23
  have hR := heap_alloc_new ((w.alloc (.cells #[.slice a1 s.1.length c1, .slice a2 s.2.length c2] 25)).alloc (.cells #[.int .i64 c.kind, .int .i64 c.a, .int .i64 c.b, .bool c.test.1, .int .i64 c.test.2.1, .int .i64 c.test.2.2, .slice a3 n3 c3, .slice a4 n4 c4, .slice a5 c.body.length c5, .slice a6 n6 c6] 77)) (.cells #[.slice none 0 0, .slice none 0 0] 25)
  have hb3 := bt hb01 (bt hb12 hb23)
  rw [hsz1] at hQ
  rw [hsz2] at hR
  have HX := Lib.hid hx
  have HIH := Lib.hid (show RunC d D from IH)
  have HS := Lib.hid (And.intro (And.intro hb ht) hs)
  have H0 := Lib.hid (And.intro (show BoxT _ w.heap.size s from ⟨_, _, _, _, _, _, hP, h1.keep hb3, h2.keep hb3⟩) (And.intro hQ (And.intro hR hb3)))
  obtain ⟨T, hT⟩ : ∃ T, loopR (runL d c.body) (fun s => factT s.1 c.test) (f + 1) s f = T := ⟨_, rfl⟩
  have HT := Lib.hid hT
  rw [hT]
  clear hT hx IH hb ht hs h1 h2 hP hQ hR hb3 hb01 hb12 hb23 hsz1 hsz2
  go_enter Tryz.func73, Tryz.ntmps73
  go_wp2
  go_loopg [2] f (fun q fu wr => ∃ s' : St, fu = .int .i64 (q : Int) ∧ q ≤ f ∧ loopR (runL d c.body) (fun s => factT s.1 c.test) (q + 1) s' q = T ∧ okSt s' ∧ BoxT wr w.heap.size s' ∧ wr.heap[w.heap.size + 1]? = some (.cells #[.int .i64 c.kind, .int .i64 c.a, .int .i64 c.b, .bool c.test.1, .int .i64 c.test.2.1, .int .i64 c.test.2.2, .slice a3 n3 c3, .slice a4 n4 c4, .slice a5 c.body.length c5, .slice a6 n6 c6] 77 (0, 0)) ∧ wr.heap[w.heap.size + 1 + 1]? = some (.cells #[.slice none 0 0, .slice none 0 0] 25 (0, 0)) ∧ Below w.heap.size w wr)
  case atStart => exact ⟨s, rfl, Nat.le_refl _, HT.out, HS.out.2, H0.out.1, H0.out.2.1, H0.out.2.2.1, H0.out.2.2.2⟩
  case round =>
    obtain ⟨s', rfl, hqf, hTT, hok, hbx, hQ, hR, hb⟩ := hrel
    have HTT := Lib.hid (And.intro hTT hok)
    obtain ⟨b1, m1, k1, b2, m2, k2, hP, hx1, hx2⟩ := hbx
    have hs := hb.size
    have hm1 : m1 = s'.1.length := by obtain ⟨_, _, e⟩ := hx1.form; injection e
    have hm2 : m2 = s'.2.length := by obtain ⟨_, _, e⟩ := hx2.form; injection e
    have HBX := Lib.hid (And.intro (And.intro hP (And.intro hQ hR)) (And.intro hx1 hx2))
    have hRz := box_lt hR
    have hPz : w.heap.size < wr.heap.size := by omega
    have hQz : w.heap.size + 1 < wr.heap.size := by omega
    have p0 := box0 hP
    have p1 := box1 hP
    have q0 := cell_of_row _ _ 0 _ _ _ hQ; have q1 := cell_of_row _ _ 1 _ _ _ hQ; have q2 := cell_of_row _ _ 2 _ _ _ hQ; have q3 := cell_of_row _ _ 3 _ _ _ hQ; have q4 := cell_of_row _ _ 4 _ _ _ hQ; have q5 := cell_of_row _ _ 5 _ _ _ hQ; have q6 := cell_of_row _ _ 6 _ _ _ hQ; have q7 := cell_of_row _ _ 7 _ _ _ hQ; have q8 := cell_of_row _ _ 8 _ _ _ hQ; have q9 := cell_of_row _ _ 9 _ _ _ hQ
    have r0 := box0 hR
    have r1 := box1 hR
    have z0 := boxz hR 0
    have z1 := boxz hR 1
    clear hTT hok hP hQ hR hx1 hx2 hm1 hm2
    obtain ⟨tb, htb⟩ : ∃ b, factT s'.1 c.test = b := ⟨_, rfl⟩
    have HTB := Lib.hid htb
    clear htb
    go_wp2_with fail
    refine (cb (l1Hold_any _ _ [c.test] s'.1 _ (RL.any (rl_fact1 wr _ rfl c.test _)) (HBX.out.2.1.keep Bl) (by simp [factsB, HS.out.1.2]) (valid_len HTT.out.2).1) (show [c.test].all (factT s'.1) = tb by simp [HTB.out])).mono ?_
    rintro e w2 ⟨rfl, hb2⟩
    have hb2' := bt (below_alloc wr (.cells #[.bool c.test.1, .int .i64 c.test.2.1, .int .i64 c.test.2.2] 75)) hb2
    have HP2 := Lib.hid (And.intro (box_keep HBX.out.1.1 hb2') (And.intro (box_keep HBX.out.1.2.1 hb2') (box_keep HBX.out.1.2.2 hb2')))
    have HX2 := Lib.hid (And.intro (HBX.out.2.1.keep hb2') (HBX.out.2.2.keep hb2'))
    have HB2 := Lib.hid (hb.trans (hb2'.mono hs))
    have hs2 := hb2'.size
    replace p0 := box0 HP2.out.1
    replace p1 := box1 HP2.out.1
    replace q8 := cell_of_row _ _ 8 _ _ _ HP2.out.2.1
    replace r0 := box0 HP2.out.2.2
    replace r1 := box1 HP2.out.2.2
    replace z0 := boxz HP2.out.2.2 0
    replace z1 := boxz HP2.out.2.2 1
    clear hb2 hb2' hb q0 q1 q2 q3 q4 q5 q6 q7 q9
    cases tb with
    | false =>
      have HE := Lib.hid (show T = (0, s', gk) by rw [← HTT.out.1, loopR, if_neg (by rw [HTB.out]; decide)])
      go_wp2
      have r := box_two (.slice b1 m1 k1) (.slice b2 m2 k2) r0 r1
      refine bodyPost_ret (v := .tuple #[.agg #[.slice b1 m1 k1, .slice b2 m2 k2], .int .i64 0, .int .i64 (gk : Int)]) (by simp [results, Tryz.results73, go_sem, r.1, r.2]) rfl ?_
      have hF : Fr (fun j => j = w.heap.size + 1 + 1) w2 ((w2.setCell ⟨w.heap.size + 1 + 1, 0, none⟩ (.slice b1 m1 k1)).setCell ⟨w.heap.size + 1 + 1, 1, none⟩ (.slice b2 m2 k2)) := (fr_set w2 ⟨w.heap.size + 1 + 1, 0, none⟩ _).trans (fr_set _ ⟨w.heap.size + 1 + 1, 1, none⟩ _)
      have hl := okSt_len HTT.out.2
      refine ⟨_, _, by rw [HE.out], by rw [HE.out, oS_ok]; exact ⟨HX2.out.1.kept hF (fun j hj e => rints_ne HX2.out.1 HP2.out.2.2 hl.1 j hj e), HX2.out.2.kept hF (fun j hj e => rints_ne HX2.out.2 HP2.out.2.2 hl.2 j hj e)⟩, HB2.out.trans (hF.below (by omega) (fun j hj e => by omega))⟩
    | true =>
      go_wp2_with fail
      refine (HIH.out S _ _ _ c.body s' gk _ (HX.out.keep HB2.out) HS.out.1.1 HX2.out.1 HX2.out.2 HTT.out.2 (by omega)).mono ?_
      have hrf := run_fuel d c.body s' gk
      have hrk := run_ok d c.body D s' gk HS.out.1.1 HTT.out.2
      have hlp : loopR (runL d c.body) (fun s => factT s.1 c.test) (gk + 1) s' gk = if (runL d c.body s' gk).1 = 0 then (if (runL d c.body s' gk).2.2 = 0 then (3, (runL d c.body s' gk).2.1, 0) else loopR (runL d c.body) (fun s => factT s.1 c.test) gk (runL d c.body s' gk).2.1 ((runL d c.body s' gk).2.2 - 1)) else runL d c.body s' gk := by
        rw [loopR, if_pos HTB.out]
      rw [HTT.out.1] at hlp
      obtain ⟨rr, hrr⟩ : ∃ rr, runL d c.body s' gk = rr := ⟨_, rfl⟩
      rw [hrr] at hrf hrk hlp ⊢
      obtain ⟨code, s2, rest⟩ := rr
      simp only at hrf hrk hlp
      have HL := Lib.hid (And.intro hlp hrk)
      clear hlp hrk hrr
      rintro e w3 ⟨y1, y2, rfl, ⟨hy1, hy2⟩, hb3⟩
      obtain ⟨d1, e1, rfl⟩ := hy1.form
      obtain ⟨d2, e2, rfl⟩ := hy2.form
      have hs3 := hb3.size
      have HP3 := Lib.hid (And.intro (box_keep HP2.out.1 hb3) (And.intro (box_keep HP2.out.2.1 hb3) (box_keep HP2.out.2.2 hb3)))
      have HB3 := Lib.hid (HB2.out.trans (hb3.mono (by omega)))
      have HY := Lib.hid (And.intro hy1 hy2)
      replace p0 := box0 HP3.out.1
      replace p1 := box1 HP3.out.1
      have y0 := boxz HP3.out.1 0
      have y1 := boxz HP3.out.1 1
      replace r0 := box0 HP3.out.2.2
      replace r1 := box1 HP3.out.2.2
      replace z0 := boxz HP3.out.2.2 0
      replace z1 := boxz HP3.out.2.2 1
      have hRz3 := box_lt HP3.out.2.2
      have hPz3 : w.heap.size < w3.heap.size := by omega
      clear hb3 hy1 hy2 q8
      obtain ⟨L1, hL1⟩ : ∃ n, (oS (code, s2)).1.length = n := ⟨_, rfl⟩
      obtain ⟨L2, hL2⟩ : ∃ n, (oS (code, s2)).2.length = n := ⟨_, rfl⟩
      rw [hL1, hL2]
      rw [hL1, hL2] at HY
      clear hL1 hL2
      by_cases hc : code = 0
      · subst hc
        by_cases hr0 : rest = 0
        · subst hr0
          have HE := Lib.hid (show T = (3, s2, 0) by rw [HL.out.1, if_pos rfl, if_pos rfl])
          have hbN := below_alloc ((w3.setCell ⟨w.heap.size + 1 + 1, 0, none⟩ (.slice none 0 0)).setCell ⟨w.heap.size + 1 + 1, 1, none⟩ (.slice none 0 0)) (.cells #[.slice d1 L1 e1, .slice d2 L2 e2] 25)
          have r := box_two (.slice none 0 0) (.slice none 0 0) r0 r1
          have r2 := And.intro (cell_keep hbN r.1) (cell_keep hbN r.2)
          go_wp2
          refine bodyPost_ret (v := .tuple #[.agg #[.slice none 0 0, .slice none 0 0], .int .i64 3, .int .i64 0]) (by simp [results, Tryz.results73, go_sem, r2.1, r2.2]) rfl ?_
          exact ⟨_, _, by rw [HE.out] <;> rfl, by rw [HE.out, oS_bad (show (3 : Int) ≠ 0 by decide)]; exact ⟨rints_nil _, rints_nil _⟩, bt (below_st (below_st HB3.out _ _ (by show w.heap.size ≤ w.heap.size + 1 + 1; omega)) _ _ (by show w.heap.size ≤ w.heap.size + 1 + 1; omega)) hbN⟩
        · have hr1 : 1 ≤ rest := by omega
          have i1 : ¬ (rest : Int) < 1 := by omega
          have HE := Lib.hid (show T = loopR (runL d c.body) (fun s => factT s.1 c.test) gk s2 (rest - 1) by rw [HL.out.1, if_pos rfl, if_neg hr0])
          have hoS : oS ((0 : Int), s2) = s2 := oS_ok s2
          have HY2 := Lib.hid (show RInts w3 (.slice d1 L1 e1) s2.1 ∧ RInts w3 (.slice d2 L2 e2) s2.2 by have h := HY.out; rw [hoS] at h; exact h)
          have hF : Fr (fun j => j = w.heap.size) w3 ((w3.setCell ⟨w.heap.size, 0, none⟩ (.slice d1 L1 e1)).setCell ⟨w.heap.size, 1, none⟩ (.slice d2 L2 e2)) := (fr_set w3 ⟨w.heap.size, 0, none⟩ _).trans (fr_set _ ⟨w.heap.size, 1, none⟩ _)
          have hbN := below_alloc ((w3.setCell ⟨w.heap.size, 0, none⟩ (.slice d1 L1 e1)).setCell ⟨w.heap.size, 1, none⟩ (.slice d2 L2 e2)) (.cells #[.slice d1 L1 e1, .slice d2 L2 e2] 25)
          have HN := Lib.hid (And.intro ((boxT_put HY2.out.1 HY2.out.2 (.inl (okSt_len HL.out.2)) HP3.out.1).keep hbN) (And.intro (box_keep (box_kept HP3.out.2.1 hF (fun e => by omega)) hbN) (And.intro (box_keep (box_kept HP3.out.2.2 hF (fun e => by omega)) hbN) (bt (below_st (below_st HB3.out _ _ (Nat.le_refl _)) _ _ (Nat.le_refl _)) hbN))))
          clear hF hbN hoS
          go_wp2
          go_roundg (rest - 1)
          case rel => exact ⟨s2, by go_num, by omega, by rw [HE.out]; exact loop_bound (fun s f => run_fuel d c.body s f) _ _ s2 _ (by omega) (by omega), HL.out.2, HN.out.1, HN.out.2.1, HN.out.2.2.1, HN.out.2.2.2⟩
          case measure => omega
      · have yc : (code == 0) = false := beq_eq_false_iff_ne.2 hc
        have HE := Lib.hid (show T = (code, s2, rest) by rw [HL.out.1, if_neg hc])
        have HC := Lib.hid hc
        clear hc
        have hbN := below_alloc ((w3.setCell ⟨w.heap.size + 1 + 1, 0, none⟩ (.slice none 0 0)).setCell ⟨w.heap.size + 1 + 1, 1, none⟩ (.slice none 0 0)) (.cells #[.slice d1 L1 e1, .slice d2 L2 e2] 25)
        have r := box_two (.slice none 0 0) (.slice none 0 0) r0 r1
        have r2 := And.intro (cell_keep hbN r.1) (cell_keep hbN r.2)
        go_wp2
        refine bodyPost_ret (v := .tuple #[.agg #[.slice none 0 0, .slice none 0 0], .int .i64 code, .int .i64 (rest : Int)]) (by simp [results, Tryz.results73, go_sem, r2.1, r2.2]) rfl ?_
        exact ⟨_, _, by rw [HE.out], by rw [HE.out, oS_bad HC.out]; exact ⟨rints_nil _, rints_nil _⟩, bt (below_st (below_st HB3.out _ _ (by show w.heap.size ≤ w.heap.size + 1 + 1; omega)) _ _ (by show w.heap.size ≤ w.heap.size + 1 + 1; omega)) hbN⟩
theorem seq_cons {α : Type} {g : α → St → Nat → RRes} {c : α} {r : List α} {s : St} {f : Nat} : seqR g (c :: r) s f = if (g c s f).1 = 0 then seqR g r (g c s f).2.1 (g c s f).2.2 else g c s f := rfl
set_option maxRecDepth 100000 in
set_option maxHeartbeats 25600000 in
theorem l9Run_any : ∀ (d : Nat) (D : Int), RunC d D := by
  intro d
  induction d with
  | zero =>
    intro D S v v1 v2 l s f w h _ h1 h2 hs hf
    obtain rfl := h.cm0
    obtain ⟨a, c, rfl⟩ := h.form
    obtain ⟨a1, c1, rfl⟩ := h1.form
    obtain ⟨a2, c2, rfl⟩ := h2.form
    have hb01 := below_alloc w (.cells #[.slice a1 s.1.length c1, .slice a2 s.2.length c2] 25)
    have hb12 := below_alloc (w.alloc (.cells #[.slice a1 s.1.length c1, .slice a2 s.2.length c2] 25)) (.cells #[.slice none 0 0, .slice none 0 0] 25)
    have hP := box_keep (heap_alloc_new w (.cells #[.slice a1 s.1.length c1, .slice a2 s.2.length c2] 25)) hb12
    have hR := heap_alloc_new (w.alloc (.cells #[.slice a1 s.1.length c1, .slice a2 s.2.length c2] 25)) (.cells #[.slice none 0 0, .slice none 0 0] 25)
    simp only [World.size_alloc] at hR
    have HH := Lib.hid (And.intro (And.intro hP hR) (And.intro (And.intro (h1.keep (bt hb01 hb12)) (h2.keep (bt hb01 hb12))) (And.intro hs (bt hb01 hb12))))
    clear h h1 h2 hs hP hR hb01 hb12
    go_enter Tryz.func27, Tryz.ntmps27
    go_wp2
    go_loopg [2, 9] 1 (fun q fu i wr => fu = .int .i64 (f : Int) ∧ i = .int .i64 0 ∧ wr = (w.alloc (.cells #[.slice a1 s.1.length c1, .slice a2 s.2.length c2] 25)).alloc (.cells #[.slice none 0 0, .slice none 0 0] 25))
    case atStart => exact ⟨rfl, rfl, rfl⟩
    case round =>
      obtain ⟨rfl, rfl, rfl⟩ := hrel
      obtain ⟨W, hW⟩ : ∃ W, (w.alloc (.cells #[.slice a1 s.1.length c1, .slice a2 s.2.length c2] 25)).alloc (.cells #[.slice none 0 0, .slice none 0 0] 25) = W := ⟨_, rfl⟩
      rw [hW] at HH ⊢
      have p0 := box0 HH.out.1.1
      have p1 := box1 HH.out.1.1
      have r0 := box0 HH.out.1.2
      have r1 := box1 HH.out.1.2
      have z0 := boxz HH.out.1.2 0
      have z1 := boxz HH.out.1.2 1
      have hzz := box_lt HH.out.1.2
      clear hW
      go_wp2
      have r := box_two (.slice a1 s.1.length c1) (.slice a2 s.2.length c2) r0 r1
      refine bodyPost_ret (v := .tuple #[.agg #[.slice a1 s.1.length c1, .slice a2 s.2.length c2], .int .i64 0, .int .i64 (f : Int)]) (by simp [results, Tryz.results27, go_sem, r.1, r.2]) rfl ?_
      have hF : Fr (fun j => j = w.heap.size + 1) W ((W.setCell ⟨w.heap.size + 1, 0, none⟩ (.slice a1 s.1.length c1)).setCell ⟨w.heap.size + 1, 1, none⟩ (.slice a2 s.2.length c2)) := (fr_set W ⟨w.heap.size + 1, 0, none⟩ _).trans (fr_set _ ⟨w.heap.size + 1, 1, none⟩ _)
      have hl := okSt_len HH.out.2.2.1
      exact ⟨_, _, rfl, by show RInts _ _ (oS (0, s)).1 ∧ RInts _ _ (oS (0, s)).2; rw [oS_ok]; exact ⟨HH.out.2.1.1.kept hF (fun j hj e => rints_ne HH.out.2.1.1 HH.out.1.2 hl.1 j hj e), HH.out.2.1.2.kept hF (fun j hj e => rints_ne HH.out.2.1.2 HH.out.1.2 hl.2 j hj e)⟩, HH.out.2.2.2.trans (hF.below (by omega) (fun j hj e => by omega))⟩
  | succ d ih =>
    intro D S v v1 v2 l s f w h hsh h1 h2 hs hf
    obtain ⟨a, cap, rfl, _, _, hc⟩ := h.cmAt
    have hlm := h.len
    unfold maxLen at hlm
    obtain ⟨a1, c1, rfl⟩ := h1.form
    obtain ⟨a2, c2, rfl⟩ := h2.form
    have F := Lib.hid hc
    have HIH := Lib.hid (show ∀ D, RunC d D from ih)
    have HSH := Lib.hid (shape_succ hsh)
    have hb01 := below_alloc w (.cells #[.slice a1 s.1.length c1, .slice a2 s.2.length c2] 25)
    have hb12 := below_alloc (w.alloc (.cells #[.slice a1 s.1.length c1, .slice a2 s.2.length c2] 25)) (.cells #[.slice none 0 0, .slice none 0 0] 25)
    have hP := box_keep (heap_alloc_new w (.cells #[.slice a1 s.1.length c1, .slice a2 s.2.length c2] 25)) hb12
    have hR := heap_alloc_new (w.alloc (.cells #[.slice a1 s.1.length c1, .slice a2 s.2.length c2] 25)) (.cells #[.slice none 0 0, .slice none 0 0] 25)
    simp only [World.size_alloc] at hR
    obtain ⟨T, hT⟩ : ∃ T, runL (d + 1) l s f = T := ⟨_, rfl⟩
    have HH := Lib.hid (And.intro (show BoxT _ w.heap.size s from ⟨_, _, _, _, _, _, hP, h1.keep (bt hb01 hb12), h2.keep (bt hb01 hb12)⟩) (And.intro hR (And.intro (bt hb01 hb12) (And.intro hs hT))))
    rw [hT]
    clear h hc h1 h2 hs hsh ih hP hR hb01 hb12 hT
    go_enter Tryz.func27, Tryz.ntmps27
    go_wp2
    go_loopg [2, 9] l.length (fun q fu i wr => ∃ (k : Nat) (s' : St) (f' : Nat), k + q = l.length ∧ fu = .int .i64 (f' : Int) ∧ i = .int .i64 (k : Int) ∧ f' ≤ f ∧ seqR cmdR (l.drop k) s' f' = T ∧ okSt s' ∧ BoxT wr w.heap.size s' ∧ wr.heap[w.heap.size + 1]? = some (.cells #[.slice none 0 0, .slice none 0 0] 25 (0, 0)) ∧ Below w.heap.size w wr)
    case atStart => exact ⟨0, s, f, by omega, rfl, rfl, Nat.le_refl _, HH.out.2.2.2.2, HH.out.2.2.2.1, HH.out.1, HH.out.2.1, HH.out.2.2.1⟩
    case round =>
      obtain ⟨k, s', f', hk, rfl, rfl, hff, hTT, hok, hbx, hR, hb⟩ := hrel
      have HOK := Lib.hid (And.intro hTT hok)
      have HK := Lib.hid hk
      obtain ⟨b1, m1, k1, b2, m2, k2, hP, hx1, hx2⟩ := hbx
      have hs := hb.size
      have HBX := Lib.hid (And.intro (And.intro hP hR) (And.intro hx1 hx2))
      have hRz := box_lt hR
      have hPz : w.heap.size < wr.heap.size := by omega
      have p0 := box0 hP
      have p1 := box1 hP
      have r0 := box0 hR
      have r1 := box1 hR
      have z0 := boxz hR 0
      have z1 := boxz hR 1
      clear hTT hok hP hR hx1 hx2 hk
      by_cases hk8 : k < l.length
      · obtain ⟨b, o, f1, f2, x, y, rfl, _, hbl, hcc, ⟨g1, g2⟩, g3, g4⟩ := F.out k hk8
        obtain ⟨fa1, fn1, rfl⟩ := g1.form
        obtain ⟨fa2, fn2, rfl⟩ := g2.form
        obtain ⟨xa, xn, rfl⟩ := g3.form
        obtain ⟨ya, yn, rfl⟩ := g4.form
        obtain ⟨c, hck⟩ : ∃ c, gd l k = c := ⟨_, rfl⟩
        have hcm := HSH.out c (by rw [← hck]; exact gd_mem hk8)
        have HD := Lib.hid (show T = if (cmdR c s' f').1 = 0 then seqR cmdR (l.drop (k + 1)) (cmdR c s' f').2.1 (cmdR c s' f').2.2 else cmdR c s' f' by rw [← HOK.out.1, drop_gd hk8, hck, seq_cons])
        rw [hck] at hcc g1 g2 g3 g4
        have hcc' : ∀ j u, (cmCells c.kind c.a c.b c.test (.slice fa1 c.inv.1.length fn1) (.slice fa2 c.inv.2.length fn2) (.slice xa c.body.length xn) (.slice ya c.els.length yn))[j]? = some u → wr.cell? ⟨b, o + k * 10 + j, none⟩ = some u := fun j u hj => cell_keep hb (hcc j u hj)
        have c0 : wr.cell? ⟨b, o + k * 10, none⟩ = some (.int .i64 c.kind) := hcc' 0 _ rfl
        have c1' := hcc' 1 _ rfl
        have c2' := hcc' 2 _ rfl
        have c3 := hcc' 3 _ rfl
        have c4 := hcc' 4 _ rfl
        have c5 := hcc' 5 _ rfl
        have c6 := hcc' 6 _ rfl
        have c7 := hcc' 7 _ rfl
        have c8 := hcc' 8 _ rfl
        have c9 := hcc' 9 _ rfl
        have hbA := below_alloc wr (.cells #[.int .i64 c.kind, .int .i64 c.a, .int .i64 c.b, .bool c.test.1, .int .i64 c.test.2.1, .int .i64 c.test.2.2, .slice fa1 c.inv.1.length fn1, .slice fa2 c.inv.2.length fn2, .slice xa c.body.length xn, .slice ya c.els.length yn] 77)
        have hC := heap_alloc_new wr (.cells #[.int .i64 c.kind, .int .i64 c.a, .int .i64 c.b, .bool c.test.1, .int .i64 c.test.2.1, .int .i64 c.test.2.2, .slice fa1 c.inv.1.length fn1, .slice fa2 c.inv.2.length fn2, .slice xa c.body.length xn, .slice ya c.els.length yn] 77)
        have i1 : (k : Int) < (l.length : Int) := by omega
        have hzb : b < wr.heap.size := by omega
        have HC := Lib.hid (And.intro hC hbA)
        have HCM := Lib.hid (And.intro hcm (And.intro g3 g4))
        clear hcc hcc' hck g1 g2 g3 g4 hC hbA hcm
        by_cases hf0 : f' = 0
        · subst hf0
          have HE := Lib.hid (show T = (3, s', 0) by rw [HD.out, cmdR, if_pos rfl]; rfl)
          have hbN := below_alloc ((wr.setCell ⟨w.heap.size + 1, 0, none⟩ (.slice none 0 0)).setCell ⟨w.heap.size + 1, 1, none⟩ (.slice none 0 0)) (.cells #[.int .i64 c.kind, .int .i64 c.a, .int .i64 c.b, .bool c.test.1, .int .i64 c.test.2.1, .int .i64 c.test.2.2, .slice fa1 c.inv.1.length fn1, .slice fa2 c.inv.2.length fn2, .slice xa c.body.length xn, .slice ya c.els.length yn] 77)
          have r := box_two (.slice none 0 0) (.slice none 0 0) r0 r1
          have r2 := And.intro (cell_keep hbN r.1) (cell_keep hbN r.2)
          go_wp2
          refine bodyPost_ret (v := .tuple #[.agg #[.slice none 0 0, .slice none 0 0], .int .i64 3, .int .i64 0]) (by simp [results, Tryz.results27, go_sem, r2.1, r2.2]) rfl ?_
          exact ⟨_, _, by rw [HE.out] <;> rfl, by rw [HE.out, oS_bad (show (3 : Int) ≠ 0 by decide)]; exact ⟨rints_nil _, rints_nil _⟩, bt (below_st (below_st hb _ _ (by show w.heap.size ≤ w.heap.size + 1; omega)) _ _ (by show w.heap.size ≤ w.heap.size + 1; omega)) hbN⟩
        · obtain ⟨m, rfl⟩ : ∃ m, f' = m + 1 := ⟨f' - 1, by omega⟩
          have i2 : ¬ ((m + 1 : Nat) : Int) < 1 := by omega
          have i3 : ((m + 1 : Nat) : Int) - 1 = (m : Int) := by omega
          go_upto_block 2 with fail
          go_cut [2, 11] from 12 to 76 (fun fu cd wc => ∃ (code : Int) (s2 : St) (rest : Nat), fu = .int .i64 (rest : Int) ∧ cd = .int .i64 code ∧ cmdR c s' (m + 1) = (code, s2, rest) ∧ rest ≤ m ∧ okSt s2 ∧ BoxT wc w.heap.size (oS (code, s2)) ∧ wc.heap[w.heap.size + 1]? = some (.cells #[.slice none 0 0, .slice none 0 0] 25 (0, 0)) ∧ Below w.heap.size w wc)
          case first =>
            by_cases z6 : c.kind = 6
            · have Z6 := Lib.hid z6
              have y6 : (c.kind == 6) = true := by simp [z6]
              clear z6
              obtain ⟨tb, htb⟩ : ∃ b, factT s'.1 c.test = b := ⟨_, rfl⟩
              have HTB := Lib.hid htb
              clear htb
              go_wp2_with fail
              refine (cb (l1Hold_any _ _ [c.test] s'.1 _ (RL.any (rl_fact1 (wr.alloc (.cells #[.int .i64 c.kind, .int .i64 c.a, .int .i64 c.b, .bool c.test.1, .int .i64 c.test.2.1, .int .i64 c.test.2.2, .slice fa1 c.inv.1.length fn1, .slice fa2 c.inv.2.length fn2, .slice xa c.body.length xn, .slice ya c.els.length yn] 77)) _ (by simp) c.test _)) ((HBX.out.2.1.keep HC.out.2).keep Bl) (by simp [factsB, headOk_test HCM.out.1.1 (.inl Z6.out)]) (valid_len HOK.out.2).1) (show [c.test].all (factT s'.1) = tb by simp [HTB.out])).mono ?_
              rintro e w2 ⟨rfl, hb2⟩
              have hb2' := bt (below_alloc (wr.alloc (.cells #[.int .i64 c.kind, .int .i64 c.a, .int .i64 c.b, .bool c.test.1, .int .i64 c.test.2.1, .int .i64 c.test.2.2, .slice fa1 c.inv.1.length fn1, .slice fa2 c.inv.2.length fn2, .slice xa c.body.length xn, .slice ya c.els.length yn] 77)) (.cells #[.bool c.test.1, .int .i64 c.test.2.1, .int .i64 c.test.2.2] 75)) hb2
              have HP2 := Lib.hid (And.intro (box_keep (box_keep HBX.out.1.1 HC.out.2) hb2') (And.intro (box_keep HC.out.1 hb2') (box_keep (box_keep HBX.out.1.2 HC.out.2) hb2')))
              have HX2 := Lib.hid (And.intro ((HBX.out.2.1.keep HC.out.2).keep hb2') ((HBX.out.2.2.keep HC.out.2).keep hb2'))
              have HB2 := Lib.hid (bt HC.out.2 hb2')
              have hs2 := HB2.out.size
              replace p0 := box0 HP2.out.1
              replace p1 := box1 HP2.out.1
              have q8 := cell_of_row _ _ 8 _ _ _ HP2.out.2.1
              have q9 := cell_of_row _ _ 9 _ _ _ HP2.out.2.1
              have hPz2 : w.heap.size < w2.heap.size := by omega
              have hCz2 := box_lt HP2.out.2.1
              clear hb2 hb2'
              cases tb with
              | true =>
                go_wp2_with fail
                refine (HIH.out (D - 1) S _ _ _ c.body s' m _ ((HCM.out.2.1.keep hb).keep HB2.out) HCM.out.1.2.1 HX2.out.1 HX2.out.2 HOK.out.2 (by omega)).mono ?_
                have hrk := run_ok d c.body (D - 1) s' m HCM.out.1.2.1 HOK.out.2
                have hrf := run_fuel d c.body s' m
                obtain ⟨rr, hrr⟩ : ∃ rr, runL d c.body s' m = rr := ⟨_, rfl⟩
                rw [hrr] at hrk hrf ⊢
                have HE := Lib.hid (show cmdR c s' (m + 1) = rr by rw [cmdR, if_neg (Nat.succ_ne_zero m), if_pos Z6.out, if_pos HTB.out]; exact hrr)
                obtain ⟨code, s2, rest⟩ := rr
                have HRK := Lib.hid hrk
                clear hrk hrr
                rintro e w3 ⟨y1, y2, rfl, ⟨hy1, hy2⟩, hb3⟩
                try dsimp only at hy1 hy2 ⊢
                obtain ⟨d1, e1, rfl⟩ := hy1.form
                obtain ⟨d2, e2, rfl⟩ := hy2.form
                have hs3 := hb3.size
                have hPz3 : w.heap.size < w3.heap.size := by omega
                have HP3 := Lib.hid (And.intro (box_keep (And.intro HP2.out.1 HP2.out.2.2).1 hb3) (box_keep (And.intro HP2.out.1 HP2.out.2.2).2 hb3))
                have HB3 := Lib.hid (bt HB2.out hb3)
                replace p0 := box0 HP3.out.1
                replace p1 := box1 HP3.out.1
                have y0 := boxz HP3.out.1 0
                have y1 := boxz HP3.out.1 1
                have hF : Fr (fun j => j = w.heap.size) w3 ((w3.setCell ⟨w.heap.size, 0, none⟩ (.slice d1 (oS (code, s2)).1.length e1)).setCell ⟨w.heap.size, 1, none⟩ (.slice d2 (oS (code, s2)).2.length e2)) := (fr_set w3 ⟨w.heap.size, 0, none⟩ _).trans (fr_set _ ⟨w.heap.size, 1, none⟩ _)
                have HN := Lib.hid (And.intro (boxT_put hy1 hy2 (oS_len HRK.out) HP3.out.1) (And.intro (box_kept HP3.out.2 hF (fun e => by omega)) (below_st (below_st (hb.trans (HB3.out.mono hs)) ⟨w.heap.size, 0, none⟩ (.slice d1 (oS (code, s2)).1.length e1) (Nat.le_refl _)) ⟨w.heap.size, 1, none⟩ (.slice d2 (oS (code, s2)).2.length e2) (Nat.le_refl _))))
                obtain ⟨L1, hL1⟩ : ∃ n, (oS (code, s2)).1.length = n := ⟨_, rfl⟩
                obtain ⟨L2, hL2⟩ : ∃ n, (oS (code, s2)).2.length = n := ⟨_, rfl⟩
                rw [hL1, hL2] at HN ⊢
                clear hF hy1 hy2 hb3 hL1 hL2
                go_wp2
                go_meet
                case rel => exact ⟨code, s2, rest, rfl, rfl, HE.out, by first | exact hrf | exact Nat.le_refl _, HRK.out, HN.out.1, HN.out.2.1, HN.out.2.2⟩
              | false =>
                go_wp2_with fail
                refine (HIH.out (D - 1) S _ _ _ c.els s' m _ ((HCM.out.2.2.keep hb).keep HB2.out) HCM.out.1.2.2 HX2.out.1 HX2.out.2 HOK.out.2 (by omega)).mono ?_
                have hrk := run_ok d c.els (D - 1) s' m HCM.out.1.2.2 HOK.out.2
                have hrf := run_fuel d c.els s' m
                obtain ⟨rr, hrr⟩ : ∃ rr, runL d c.els s' m = rr := ⟨_, rfl⟩
                rw [hrr] at hrk hrf ⊢
                have HE := Lib.hid (show cmdR c s' (m + 1) = rr by rw [cmdR, if_neg (Nat.succ_ne_zero m), if_pos Z6.out, if_neg (by rw [HTB.out]; decide)]; exact hrr)
                obtain ⟨code, s2, rest⟩ := rr
                have HRK := Lib.hid hrk
                clear hrk hrr
                rintro e w3 ⟨y1, y2, rfl, ⟨hy1, hy2⟩, hb3⟩
                try dsimp only at hy1 hy2 ⊢
                obtain ⟨d1, e1, rfl⟩ := hy1.form
                obtain ⟨d2, e2, rfl⟩ := hy2.form
                have hs3 := hb3.size
                have hPz3 : w.heap.size < w3.heap.size := by omega
                have HP3 := Lib.hid (And.intro (box_keep (And.intro HP2.out.1 HP2.out.2.2).1 hb3) (box_keep (And.intro HP2.out.1 HP2.out.2.2).2 hb3))
                have HB3 := Lib.hid (bt HB2.out hb3)
                replace p0 := box0 HP3.out.1
                replace p1 := box1 HP3.out.1
                have y0 := boxz HP3.out.1 0
                have y1 := boxz HP3.out.1 1
                have hF : Fr (fun j => j = w.heap.size) w3 ((w3.setCell ⟨w.heap.size, 0, none⟩ (.slice d1 (oS (code, s2)).1.length e1)).setCell ⟨w.heap.size, 1, none⟩ (.slice d2 (oS (code, s2)).2.length e2)) := (fr_set w3 ⟨w.heap.size, 0, none⟩ _).trans (fr_set _ ⟨w.heap.size, 1, none⟩ _)
                have HN := Lib.hid (And.intro (boxT_put hy1 hy2 (oS_len HRK.out) HP3.out.1) (And.intro (box_kept HP3.out.2 hF (fun e => by omega)) (below_st (below_st (hb.trans (HB3.out.mono hs)) ⟨w.heap.size, 0, none⟩ (.slice d1 (oS (code, s2)).1.length e1) (Nat.le_refl _)) ⟨w.heap.size, 1, none⟩ (.slice d2 (oS (code, s2)).2.length e2) (Nat.le_refl _))))
                obtain ⟨L1, hL1⟩ : ∃ n, (oS (code, s2)).1.length = n := ⟨_, rfl⟩
                obtain ⟨L2, hL2⟩ : ∃ n, (oS (code, s2)).2.length = n := ⟨_, rfl⟩
                rw [hL1, hL2] at HN ⊢
                clear hF hy1 hy2 hb3 hL1 hL2
                go_wp2
                go_meet
                case rel => exact ⟨code, s2, rest, rfl, rfl, HE.out, by first | exact hrf | exact Nat.le_refl _, HRK.out, HN.out.1, HN.out.2.1, HN.out.2.2⟩
            · have Z6 := Lib.hid z6
              have y6 : (c.kind == 6) = false := by simp [z6]
              clear z6
              by_cases z7 : c.kind = 7
              · have Z7 := Lib.hid z7
                have y7 : (c.kind == 7) = true := by simp [z7]
                clear z7
                go_wp2_with fail
                refine (l9Loop_step (HIH.out (D - 1)) c _ _ _ _ _ _ s' m _ ⟨_, _, _, rfl⟩ ⟨_, _, _, rfl⟩ ((HCM.out.2.1.keep hb).keep HC.out.2) ⟨_, _, _, rfl⟩ HCM.out.1.2.1 (headOk_test HCM.out.1.1 (.inr Z7.out)) (HBX.out.2.1.keep HC.out.2) (HBX.out.2.2.keep HC.out.2) HOK.out.2 (by omega)).mono ?_
                have hrk := loop_ok (t := fun s : St => factT s.1 c.test) (fun s f hs => run_ok d c.body (D - 1) s f HCM.out.1.2.1 hs) (m + 1) s' m HOK.out.2
                have hrf := loop_fuel (t := fun s : St => factT s.1 c.test) (fun s f => run_fuel d c.body s f) (m + 1) s' m
                obtain ⟨rr, hrr⟩ : ∃ rr, loopR (runL d c.body) (fun s => factT s.1 c.test) (m + 1) s' m = rr := ⟨_, rfl⟩
                rw [hrr] at hrk hrf ⊢
                have HE := Lib.hid (show cmdR c s' (m + 1) = rr by rw [cmdR, if_neg (Nat.succ_ne_zero m), if_neg Z6.out, if_pos Z7.out]; exact hrr)
                obtain ⟨code, s2, rest⟩ := rr
                have HRK := Lib.hid hrk
                clear hrk hrr
                rintro e w3 ⟨y1, y2, rfl, ⟨hy1, hy2⟩, hb3⟩
                have HP2 := Lib.hid (And.intro (box_keep HBX.out.1.1 HC.out.2) (box_keep HBX.out.1.2 HC.out.2))
                have hsA : (wr.alloc (.cells #[.int .i64 c.kind, .int .i64 c.a, .int .i64 c.b, .bool c.test.1, .int .i64 c.test.2.1, .int .i64 c.test.2.2, .slice fa1 c.inv.1.length fn1, .slice fa2 c.inv.2.length fn2, .slice xa c.body.length xn, .slice ya c.els.length yn] 77)).heap.size = wr.heap.size + 1 := by simp
                try dsimp only at hy1 hy2 ⊢
                obtain ⟨d1, e1, rfl⟩ := hy1.form
                obtain ⟨d2, e2, rfl⟩ := hy2.form
                have hs3 := hb3.size
                have hPz3 : w.heap.size < w3.heap.size := by omega
                have HP3 := Lib.hid (And.intro (box_keep HP2.out.1 hb3) (box_keep HP2.out.2 hb3))
                have HB3 := Lib.hid (bt HC.out.2 hb3)
                replace p0 := box0 HP3.out.1
                replace p1 := box1 HP3.out.1
                have y0 := boxz HP3.out.1 0
                have y1 := boxz HP3.out.1 1
                have hF : Fr (fun j => j = w.heap.size) w3 ((w3.setCell ⟨w.heap.size, 0, none⟩ (.slice d1 (oS (code, s2)).1.length e1)).setCell ⟨w.heap.size, 1, none⟩ (.slice d2 (oS (code, s2)).2.length e2)) := (fr_set w3 ⟨w.heap.size, 0, none⟩ _).trans (fr_set _ ⟨w.heap.size, 1, none⟩ _)
                have HN := Lib.hid (And.intro (boxT_put hy1 hy2 (oS_len HRK.out) HP3.out.1) (And.intro (box_kept HP3.out.2 hF (fun e => by omega)) (below_st (below_st (hb.trans (HB3.out.mono hs)) ⟨w.heap.size, 0, none⟩ (.slice d1 (oS (code, s2)).1.length e1) (Nat.le_refl _)) ⟨w.heap.size, 1, none⟩ (.slice d2 (oS (code, s2)).2.length e2) (Nat.le_refl _))))
                obtain ⟨L1, hL1⟩ : ∃ n, (oS (code, s2)).1.length = n := ⟨_, rfl⟩
                obtain ⟨L2, hL2⟩ : ∃ n, (oS (code, s2)).2.length = n := ⟨_, rfl⟩
                rw [hL1, hL2] at HN ⊢
                clear hF hy1 hy2 hb3 hL1 hL2
                go_wp2
                go_meet
                case rel => exact ⟨code, s2, rest, rfl, rfl, HE.out, by first | exact hrf | exact Nat.le_refl _, HRK.out, HN.out.1, HN.out.2.1, HN.out.2.2⟩
              · have Z7 := Lib.hid z7
                have y7 : (c.kind == 7) = false := by simp [z7]
                clear z7
                have hbb := headOk_basic HCM.out.1.1 Z6.out Z7.out
                have hff2 := basic_fields hbb
                go_wp2_with fail
                refine (l9BasicG c.kind c.a c.b c.test _ _ _ _ _ _ s' _ (HBX.out.2.1.keep HC.out.2) (HBX.out.2.2.keep HC.out.2) HOK.out.2 ⟨⟨_, _, _, rfl⟩, ⟨_, _, _, rfl⟩, ⟨_, _, _, rfl⟩, ⟨_, _, _, rfl⟩⟩ hff2.1 hff2.2 (basic_prog hbb)).mono ?_
                have hrk := basic_ok (k := c.kind) HOK.out.2 hff2.1 hff2.2
                have HE0 := Lib.hid (show cmdR c s' (m + 1) = ((basicR c.kind c.a c.b s').1, (basicR c.kind c.a c.b s').2, m) by rw [cmdR, if_neg (Nat.succ_ne_zero m), if_neg Z6.out, if_neg Z7.out]; rfl)
                obtain ⟨rr, hrr⟩ : ∃ rr, basicR c.kind c.a c.b s' = rr := ⟨_, rfl⟩
                rw [hrr] at hrk HE0 ⊢
                obtain ⟨code, s2⟩ := rr
                have HRK := Lib.hid hrk
                obtain ⟨rest, hrs⟩ : ∃ r, r = m := ⟨_, rfl⟩
                have hrf : rest ≤ m := by omega
                have HE := Lib.hid (show cmdR c s' (m + 1) = (code, s2, rest) by rw [HE0.out, hrs])
                subst hrs
                clear hrk hrr hbb hff2
                rintro e w3 ⟨y1, y2, rfl, ⟨hy1, hy2⟩, hb3⟩
                have HP2 := Lib.hid (And.intro (box_keep HBX.out.1.1 HC.out.2) (box_keep HBX.out.1.2 HC.out.2))
                have hsA : (wr.alloc (.cells #[.int .i64 c.kind, .int .i64 c.a, .int .i64 c.b, .bool c.test.1, .int .i64 c.test.2.1, .int .i64 c.test.2.2, .slice fa1 c.inv.1.length fn1, .slice fa2 c.inv.2.length fn2, .slice xa c.body.length xn, .slice ya c.els.length yn] 77)).heap.size = wr.heap.size + 1 := by simp
                try dsimp only at hy1 hy2 ⊢
                obtain ⟨d1, e1, rfl⟩ := hy1.form
                obtain ⟨d2, e2, rfl⟩ := hy2.form
                have hs3 := hb3.size
                have hPz3 : w.heap.size < w3.heap.size := by omega
                have HP3 := Lib.hid (And.intro (box_keep HP2.out.1 hb3) (box_keep HP2.out.2 hb3))
                have HB3 := Lib.hid (bt HC.out.2 hb3)
                replace p0 := box0 HP3.out.1
                replace p1 := box1 HP3.out.1
                have y0 := boxz HP3.out.1 0
                have y1 := boxz HP3.out.1 1
                have hF : Fr (fun j => j = w.heap.size) w3 ((w3.setCell ⟨w.heap.size, 0, none⟩ (.slice d1 (oS (code, s2)).1.length e1)).setCell ⟨w.heap.size, 1, none⟩ (.slice d2 (oS (code, s2)).2.length e2)) := (fr_set w3 ⟨w.heap.size, 0, none⟩ _).trans (fr_set _ ⟨w.heap.size, 1, none⟩ _)
                have HN := Lib.hid (And.intro (boxT_put hy1 hy2 (oS_len HRK.out) HP3.out.1) (And.intro (box_kept HP3.out.2 hF (fun e => by omega)) (below_st (below_st (hb.trans (HB3.out.mono hs)) ⟨w.heap.size, 0, none⟩ (.slice d1 (oS (code, s2)).1.length e1) (Nat.le_refl _)) ⟨w.heap.size, 1, none⟩ (.slice d2 (oS (code, s2)).2.length e2) (Nat.le_refl _))))
                obtain ⟨L1, hL1⟩ : ∃ n, (oS (code, s2)).1.length = n := ⟨_, rfl⟩
                obtain ⟨L2, hL2⟩ : ∃ n, (oS (code, s2)).2.length = n := ⟨_, rfl⟩
                rw [hL1, hL2] at HN ⊢
                clear hF hy1 hy2 hb3 hL1 hL2
                go_wp2
                go_meet
                case rel => exact ⟨code, s2, rest, rfl, rfl, HE.out, by first | exact hrf | exact Nat.le_refl _, HRK.out, HN.out.1, HN.out.2.1, HN.out.2.2⟩
          case rest =>
            obtain ⟨code, s2, rest, rfl, rfl, hcm2, hrm, hok2, hbx2, hR2, hb2⟩ := hcut
            have HD2 := Lib.hid (show T = if code = 0 then seqR cmdR (l.drop (k + 1)) s2 rest else (code, s2, rest) by rw [HD.out, hcm2])
            have HN := Lib.hid (And.intro hok2 (And.intro hbx2 hR2))
            replace r0 := box0 hR2
            replace r1 := box1 hR2
            replace z0 := boxz hR2 0
            replace z1 := boxz hR2 1
            clear hcm2 hok2 hbx2 hR2 p0 p1
            by_cases hc : code = 0
            · subst hc
              go_wp2
              go_roundg (gk - 1)
              case rel => exact ⟨k + 1, s2, rest, by have := HK.out; omega, rfl, by go_num, by omega, by rw [HD2.out]; rfl, HN.out.1, by have h := HN.out.2.1; rwa [oS_ok] at h, HN.out.2.2, hb2⟩
              case measure => have := HK.out; omega
            · have yc : (code == 0) = false := beq_eq_false_iff_ne.2 hc
              have HE := Lib.hid (show T = (code, s2, rest) by rw [HD2.out, if_neg hc])
              have HCn := Lib.hid hc
              have r := box_two (.slice none 0 0) (.slice none 0 0) r0 r1
              clear hc
              go_wp2
              refine bodyPost_ret (v := .tuple #[.agg #[.slice none 0 0, .slice none 0 0], .int .i64 code, .int .i64 (rest : Int)]) (by simp [results, Tryz.results27, go_sem, r.1, r.2]) rfl ?_
              exact ⟨_, _, by rw [HE.out], by rw [HE.out, oS_bad HCn.out]; exact ⟨rints_nil _, rints_nil _⟩, below_st (below_st hb2 _ _ (by show w.heap.size ≤ w.heap.size + 1; omega)) _ _ (by show w.heap.size ≤ w.heap.size + 1; omega)⟩
      · have hkn : k = l.length := by have := HK.out; omega
        have HE := Lib.hid (show T = (0, s', f') by rw [← HOK.out.1, hkn, List.drop_length]; rfl)
        have i1 : ¬ (k : Int) < (l.length : Int) := by omega
        clear hkn
        go_wp2
        have r := box_two (.slice b1 m1 k1) (.slice b2 m2 k2) r0 r1
        refine bodyPost_ret (v := .tuple #[.agg #[.slice b1 m1 k1, .slice b2 m2 k2], .int .i64 0, .int .i64 (f' : Int)]) (by simp [results, Tryz.results27, go_sem, r.1, r.2]) rfl ?_
        have hF : Fr (fun j => j = w.heap.size + 1) wr ((wr.setCell ⟨w.heap.size + 1, 0, none⟩ (.slice b1 m1 k1)).setCell ⟨w.heap.size + 1, 1, none⟩ (.slice b2 m2 k2)) := (fr_set wr ⟨w.heap.size + 1, 0, none⟩ _).trans (fr_set _ ⟨w.heap.size + 1, 1, none⟩ _)
        have hl := okSt_len HOK.out.2
        exact ⟨_, _, by rw [HE.out], by rw [HE.out, oS_ok]; exact ⟨HBX.out.2.1.kept hF (fun j hj e => rints_ne HBX.out.2.1 HBX.out.1.2 hl.1 j hj e), HBX.out.2.2.kept hF (fun j hj e => rints_ne HBX.out.2.2 HBX.out.1.2 hl.2 j hj e)⟩, hb.trans (hF.below (by omega) (fun j hj e => by omega))⟩
end Go.Proofs.YtgfnoinkajfndaaGreat
