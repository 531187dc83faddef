/- Laws for the walks: a range over a function whose iterator writes blocks of its own. -/
import Derived.Test.YtobbilbkjiemiaaBase1
import Derived.RangeFuncCalls
import Derived.RangeFuncBound
import Derived.OwnWalkIn
namespace Go.Proofs.Ytobbilbkjiemiaa
open Go Go.RowKit

/-- What a caller holds abides what an iterator does in blocks of its own. -/
def Abd {α : Type} (J : (Nat → Prop) → List α → World → Prop) : Prop :=
  ∀ (X X' : Nat → Prop) pre W1 W2, J X pre W1 → Fr X W1 W2 → (∀ k, X' k → X k ∨ W1.heap.size ≤ k) → J X' pre W2
/-- What a round promises: it goes on, or it has left. -/
def RoundX {α : Type} (P : Program) (l : Nat) (encs : α → Array Value) (R : Nat → Prop) (B : Nat) (xs : List α) (J : (Nat → Prop) → List α → World → Prop) (Jx : List α → World → Prop) : Prop :=
  ∀ (m : Nat) (X : Nat → Prop) (pre : List α) (x : α) (W1 : World), B ≤ W1.heap.size → (∀ k, X k → B ≤ k ∧ k < W1.heap.size) → pre ++ [x] <+: xs → J X pre W1 →
    YieldAt Fence.wide m P l (encs x) W1 fun e W' => (e = .returned (.bool true) ∧ J X (pre ++ [x]) W' ∧ Fr (fun k => ¬ X k ∧ ¬ R k) W1 W') ∨ (e = .returned (.bool false) ∧ Jx (pre ++ [x]) W')
/-- A function value that hands out the elements of a list, one by one; it reads blocks of R, and writes blocks of its own. -/
def SeqX {α : Type} (P : Program) (g : Nat) (lb : Array Value) (encs : α → Array Value) (R : Nat → Prop) (xs : List α) (w : World) : Prop :=
  ∀ (n l : Nat) (J : (Nat → Prop) → List α → World → Prop) (Jx : List α → World → Prop) (W : World), Below w.heap.size w W → Abd J → RoundX P l encs R W.heap.size xs J Jx → J (fun _ => False) [] W →
    CallsIn Fence.wide n P g (#[.func (.yield l) #[] #[]] ++ lb) W fun e W' => (∃ v, e = .returned v) ∧ (J (fun _ => False) xs W' ∨ ∃ pre, pre <+: xs ∧ Jx pre W')
/-- How the body of a round may be left. -/
def postX {α : Type} (B : Nat) (R X : Nat → Prop) (I : (Nat → Prop) → List α → World → Prop) (Ix : Code → List α → World → Prop) (xs : List α) (W : World) : Exit → Act → World → Prop
  | .normal, _, W' => Fr (fun k => ¬ X k ∧ ¬ R k ∧ k ≠ B ∧ k ≠ B + 1) W W' ∧ I X xs W'
  | .ret, _, W' => Fr (fun k => k ≠ B ∧ k ≠ B + 1) W W' ∧ Ix .ret xs W'
  | .exit id, _, W' => Fr (fun k => k ≠ B ∧ k ≠ B + 1) W W' ∧ Ix (.exit id) xs W'
  | .goto t, _, W' => Fr (fun k => k ≠ B ∧ k ≠ B + 1) W W' ∧ Ix (.goto t) xs W'
  | .panic _, _, _ => False
  | .outgrown, _, _ => False
theorem fr_put (W : World) (l : Nat) (o : Obj) : Fr (fun k => k = l) W (W.putObj l o) :=
  ⟨rfl, rfl, rfl, by simp [World.putObj], fun k _ hk => World.putObj_heap_other hk⟩
theorem fr_al (W : World) (o : Obj) : Fr (fun _ => False) W (W.alloc o) := Below.fr (below_alloc W o)
theorem fr_blk {S : Nat → Prop} {W W' : World} (h : Fr S W W') {k : Nat} {o : Obj} (ho : W.heap[k]? = some o) (hk : ¬ S k) : W'.heap[k]? = some o :=
  (h.block k (Array.getElem?_eq_some_iff.1 ho).1 hk).trans ho

theorem wp_rangeX {α : Type} {n : Nat} {P : Program} {g : Operand} {ps : Array Tmp} {assign body : Code} {Q : Exit → Act → World → Prop} {a : Act} {w w0 : World} {gf : Nat} {lb : Array Value}
    (hg : a.eval g = .func (.func gf) #[] lb) (eg : ∀ args w, (callFunc gf args).run P w = .ok (.enter gf args) w)
    {encs : α → Array Value} {R : Nat → Prop} {xs : List α} (hseq : SeqX P gf lb encs R xs w0) (hb0 : Below w0.heap.size w0 w) (hR : ∀ k, R k → k < w.heap.size) (hps : ∀ x, (encs x).size = ps.size)
    (I : (Nat → Prop) → List α → World → Prop) (Ix : Code → List α → World → Prop)
    (hI : ∀ (X X' : Nat → Prop) pre W1 W2, I X pre W1 → Fr (fun k => X k ∨ k = w.heap.size ∨ k = w.heap.size + 1) W1 W2 → w.heap.size ≤ W1.heap.size → (∀ k, X' k → X k ∨ W1.heap.size ≤ k) → I X' pre W2)
    (hIx : ∀ c pre W1 W2, Ix c pre W1 → Fr (fun k => k = w.heap.size ∨ k = w.heap.size + 1) W1 W2 → Ix c pre W2) (h0 : I (fun _ => False) [] w)
    (hround : ∀ (m : Nat) (X : Nat → Prop) (pre : List α) (x : α) (W : World), w.heap.size + 2 ≤ W.heap.size → (∀ k, X k → w.heap.size + 2 ≤ k ∧ k < W.heap.size) → pre ++ [x] <+: xs → I X pre W →
      assign.wpIn (Fence.wide.inRound (w.heap.size + 1)) m P (Exit.then (fun a1 w1 => Fr (fun k => ¬ X k ∧ ¬ R k ∧ k ≠ w.heap.size ∧ k ≠ w.heap.size + 1) W w1 ∧
        ∀ w2, Fr (fun k => k = w.heap.size + 1) w1 w2 → body.wpIn (Fence.wide.inRound (w.heap.size + 1)) m P (postX w.heap.size R X I Ix (pre ++ [x]) w2) a1 w2) (fun _ _ _ => False))
        { tmps := (ps.zip (encs x)).foldl (fun t (p, v) => t.setIfInBounds p v) a.tmps, defers := [] } W)
    (hdone : ∀ W, I (fun _ => False) xs W → W.heap[w.heap.size]? = some (.deferred (some [])) → Q .normal { a with defers := { target := .collected w.heap.size, args := #[] } :: a.defers } W)
    (hstop : ∀ c pre W, pre <+: xs → Ix c pre W → W.heap[w.heap.size]? = some (.deferred (some [])) → c.wpIn Fence.wide n P Q { a with defers := { target := .collected w.heap.size, args := #[] } :: a.defers } W) :
    (Code.rangeFunc g ps assign body).wpIn Fence.wide n P Q a w := by
  refine wpIn_rangeFunc ?_
  intro fn hfn
  obtain ⟨rec, hrec⟩ : ∃ rec : LoopState → Option Code → Loop, rec = fun st pe => { state := st, pending := pe, fn, tmps := a.tmps, params := ps, assign, body, defers := w.heap.size } := ⟨_, rfl⟩
  obtain ⟨W1, hW1⟩ : ∃ W1, (w.alloc (.deferred (some []))).alloc (.loop (rec .ready none)) = W1 := ⟨_, rfl⟩
  have hF1 : Fr (fun _ => False) w W1 := by rw [← hW1]; exact (fr_al _ _).trans (fr_al _ _)
  have hz1 : W1.heap.size = w.heap.size + 2 := by rw [← hW1]; simp
  have hL1 : W1.heap[w.heap.size + 1]? = some (.loop (rec .ready none)) := by
    rw [← hW1]; have := World.alloc_heap_new (w.alloc (.deferred (some []))) (.loop (rec .ready none)); rwa [World.size_alloc] at this
  have hK1 : W1.heap[w.heap.size]? = some (.deferred (some [])) := by
    rw [← hW1]; exact fr_blk (fr_al _ _) (World.alloc_heap_new w _) (fun h => h)
  have hI1 : I (fun _ => False) [] W1 := hI _ _ _ _ _ h0 (hF1.mono fun _ _ h => h.elim) (Nat.le_refl _) (fun _ h => h.elim)
  have hb1 : Below w0.heap.size w0 W1 := hb0.trans ((hF1.below (Nat.le_refl _) (fun _ _ h => h)).mono hb0.size)
  refine ⟨w.heap.size + 1, [{ target := .collected w.heap.size, args := #[] }], W1, { target := .fn (.func gf) lb, args := #[.func (.yield (w.heap.size + 1)) #[] #[]] }, W1, gf,
    #[.func (.yield (w.heap.size + 1)) #[] #[]] ++ lb, W1, ?_, ?_, ?_, ?_, (fun h => (by cases h)), ?_⟩
  · rw [← hW1, hrec]; exact run_enterLoop_outer _ _ _ _ _
  · simp only [resolve, hg]
    simp [go_sem]
  · intro f' hf'; trivial
  · simp [invoke, go_sem, eg]
  · refine (hseq (n - 1) (w.heap.size + 1)
      (fun X pre W => I X pre W ∧ W.heap[w.heap.size + 1]? = some (.loop (rec .ready none)) ∧ W.heap[w.heap.size]? = some (.deferred (some [])) ∧ ∀ k, X k → w.heap.size + 2 ≤ k)
      (fun pre W => ∃ c, Ix c pre W ∧ W.heap[w.heap.size + 1]? = some (.loop (rec .done (some c))) ∧ W.heap[w.heap.size]? = some (.deferred (some [])))
      W1 hb1 ?_ ?_ ⟨hI1, hL1, hK1, fun _ h => h.elim⟩).mono ?_
    · rintro X X' pre A B ⟨hi, hl, hk, hx⟩ hf hx'
      have hlt : w.heap.size + 1 < A.heap.size := (Array.getElem?_eq_some_iff.1 hl).1
      refine ⟨hI X X' pre A B hi (hf.mono fun k _ h => .inl h) (by omega) hx', fr_blk hf hl fun h => by have := hx _ h; omega, fr_blk hf hk fun h => by have := hx _ h; omega, fun k h => ?_⟩
      rcases hx' k h with h | h
      · exact hx k h
      · omega
    · rintro m X pre x W _ hXb hpre ⟨hi, hl, hk, hx⟩
      have hlt : w.heap.size + 1 < W.heap.size := (Array.getElem?_eq_some_iff.1 hl).1
      have hy := run_yield (P := P) (args := encs x) hl (by rw [hrec]; exact hps x)
      rw [hrec] at hy
      refine ⟨fn, _, assign, body, hy, roundIn_of_wpIn hfn (wpIn_mono (hround m X pre x W (by omega) (fun k h => ⟨hx k h, (hXb k h).2⟩) hpre hi) ?_)⟩
      clear hy
      rintro e a' Wa hpa
      cases e with
      | normal =>
        obtain ⟨hfa, hbody⟩ := hpa
        have hla := fr_blk hfa hl (fun h => h.2.2.2 rfl)
        have hka := fr_blk hfa hk (fun h => h.2.2.1 rfl)
        refine ⟨_, run_beginRound hla (by rw [hrec]), wpIn_mono (hbody _ (fr_put _ _ _)) ?_⟩
        have hl2 : (Wa.putObj (w.heap.size + 1) (.loop { rec .ready none with state := .busy })).heap[w.heap.size + 1]? = some (.loop { rec .ready none with state := .busy }) := World.putObj_heap_same (Array.getElem?_eq_some_iff.1 hla).1
        have hk2 : (Wa.putObj (w.heap.size + 1) (.loop { rec .ready none with state := .busy })).heap[w.heap.size]? = some (.deferred (some [])) := (World.putObj_heap_other (by omega)).trans hka
        have hR1 : ¬ R (w.heap.size + 1) := fun h => by have := hR _ h; omega
        have hX1 : ¬ X (w.heap.size + 1) := fun h => by have := hx _ h; omega
        have hfw : Fr (fun k => ¬ X k ∧ ¬ R k) W (Wa.putObj (w.heap.size + 1) (.loop { rec .ready none with state := .busy })) :=
          (hfa.mono fun k _ h => ⟨h.1, h.2.1⟩).trans ((fr_put _ _ _).mono fun k _ h => by subst h; exact ⟨hX1, hR1⟩)
        have fin : ∀ (jump : Option Code) (W3 : World), Fr (fun k => k ≠ w.heap.size ∧ k ≠ w.heap.size + 1) (Wa.putObj (w.heap.size + 1) (.loop { rec .ready none with state := .busy })) W3 →
            (Instr.endRound (w.heap.size + 1) jump).run P W3 = .ok (.bool jump.isNone) (W3.putObj (w.heap.size + 1) (.loop (rec (if jump.isNone then .ready else .done) jump))) ∧
            (W3.putObj (w.heap.size + 1) (.loop (rec (if jump.isNone then .ready else .done) jump))).heap[w.heap.size + 1]? = some (.loop (rec (if jump.isNone then .ready else .done) jump)) ∧
            (W3.putObj (w.heap.size + 1) (.loop (rec (if jump.isNone then .ready else .done) jump))).heap[w.heap.size]? = some (.deferred (some [])) := fun jump W3 hk3 => by
          have hl3 := fr_blk hk3 hl2 (fun h => h.2 rfl)
          have := run_endRound (P := P) jump hl3
          rw [hrec] at this ⊢
          exact ⟨this, World.putObj_heap_same (Array.getElem?_eq_some_iff.1 hl3).1, (World.putObj_heap_other (by omega)).trans (fr_blk hk3 hk2 (fun h => h.1 rfl))⟩
        have leave : ∀ (c : Code) (W3 : World), Fr (fun k => k ≠ w.heap.size ∧ k ≠ w.heap.size + 1) (Wa.putObj (w.heap.size + 1) (.loop { rec .ready none with state := .busy })) W3 → Ix c (pre ++ [x]) W3 →
            ∃ v w', (Instr.endRound (w.heap.size + 1) (some c)).run P W3 = .ok v w' ∧
              ((Ending.returned v = .returned (.bool true) ∧ (I X (pre ++ [x]) w' ∧ w'.heap[w.heap.size + 1]? = some (.loop (rec .ready none)) ∧ w'.heap[w.heap.size]? = some (.deferred (some [])) ∧ ∀ k, X k → w.heap.size + 2 ≤ k) ∧ Fr (fun k => ¬ X k ∧ ¬ R k) W w') ∨
                (Ending.returned v = .returned (.bool false) ∧ ∃ c, Ix c (pre ++ [x]) w' ∧ w'.heap[w.heap.size + 1]? = some (.loop (rec .done (some c))) ∧ w'.heap[w.heap.size]? = some (.deferred (some [])))) := fun c W3 hk3 hi3 => by
          obtain ⟨hr, hl4, hk4⟩ := fin (some c) W3 hk3
          exact ⟨_, _, hr, .inr ⟨rfl, c, hIx _ _ _ _ hi3 ((fr_put _ _ _).mono fun k _ h => .inr h), hl4, hk4⟩⟩
        rintro e a3 W3 hp
        cases e with
        | normal =>
          obtain ⟨hk3, hi3⟩ := hp
          obtain ⟨hr, hl4, hk4⟩ := fin none W3 (hk3.mono fun k _ h => h.2.2)
          refine ⟨_, _, hr, .inl ⟨rfl, ⟨hI X X _ _ _ hi3 ((fr_put _ _ _).mono fun k _ h => .inr (.inr h)) ?_ (fun k h => .inl h), hl4, hk4, hx⟩, ?_⟩⟩
          · have := (Array.getElem?_eq_some_iff.1 (fr_blk (hk3.mono (S' := fun k => k ≠ w.heap.size ∧ k ≠ w.heap.size + 1) fun k _ h => h.2.2) hl2 (fun h => h.2 rfl))).1; omega
          · exact (hfw.trans (hk3.mono fun k _ h => ⟨h.1, h.2.1⟩)).trans ((fr_put _ _ _).mono fun k _ h => by subst h; exact ⟨hX1, hR1⟩)
        | ret => exact leave .ret W3 hp.1 hp.2
        | exit id => exact leave (.exit id) W3 hp.1 hp.2
        | goto t => exact leave (.goto t) W3 hp.1 hp.2
        | panic ch => exact hp.elim
        | outgrown => exact hp.elim
      | ret => exact hpa.elim
      | exit id => exact hpa.elim
      | goto t => exact hpa.elim
      | panic ch => exact hpa.elim
      | outgrown => exact hpa.elim
    · rintro e W2 ⟨⟨v, rfl⟩, (⟨hi, hl, hk, _⟩ | ⟨pre, hSp, c, hi, hl, hk⟩)⟩
      · refine ⟨none, _, by have := run_endLoop (P := P) hl (by rw [hrec]; simp); rw [hrec] at this; exact this, hdone _ (hI _ _ _ _ _ hi ((fr_put _ _ _).mono fun k _ h => .inr (.inr h)) (by have := (Array.getElem?_eq_some_iff.1 hl).1; omega) (fun k h => h.elim)) ((World.putObj_heap_other (by omega)).trans hk)⟩
      · exact ⟨some c, _, by have := run_endLoop (P := P) hl (by rw [hrec]; simp); rw [hrec] at this; exact this, hstop c pre _ hSp (hIx _ _ _ _ hi ((fr_put _ _ _).mono fun k _ h => .inr h)) ((World.putObj_heap_other (by omega)).trans hk)⟩
/-- The same in a plain walk. -/
theorem wp_rangeW {α : Type} {P : Program} {g : Operand} {ps : Array Tmp} {assign body : Code} {Q : Exit → Act → World → Prop} {a : Act} {w w0 : World} {gf : Nat} {lb : Array Value}
    (hg : a.eval g = .func (.func gf) #[] lb) (eg : ∀ args w, (callFunc gf args).run P w = .ok (.enter gf args) w)
    {encs : α → Array Value} {R : Nat → Prop} {xs : List α} (hseq : SeqX P gf lb encs R xs w0) (hb0 : Below w0.heap.size w0 w) (hR : ∀ k, R k → k < w.heap.size) (hps : ∀ x, (encs x).size = ps.size)
    (I : (Nat → Prop) → List α → World → Prop) (Ix : Code → List α → World → Prop)
    (hI : ∀ (X X' : Nat → Prop) pre W1 W2, I X pre W1 → Fr (fun k => X k ∨ k = w.heap.size ∨ k = w.heap.size + 1) W1 W2 → w.heap.size ≤ W1.heap.size → (∀ k, X' k → X k ∨ W1.heap.size ≤ k) → I X' pre W2)
    (hIx : ∀ c pre W1 W2, Ix c pre W1 → Fr (fun k => k = w.heap.size ∨ k = w.heap.size + 1) W1 W2 → Ix c pre W2) (h0 : I (fun _ => False) [] w)
    (hround : ∀ (m : Nat) (X : Nat → Prop) (pre : List α) (x : α) (W : World), w.heap.size + 2 ≤ W.heap.size → (∀ k, X k → w.heap.size + 2 ≤ k ∧ k < W.heap.size) → pre ++ [x] <+: xs → I X pre W →
      assign.wpIn (Fence.wide.inRound (w.heap.size + 1)) m P (Exit.then (fun a1 w1 => Fr (fun k => ¬ X k ∧ ¬ R k ∧ k ≠ w.heap.size ∧ k ≠ w.heap.size + 1) W w1 ∧
        ∀ w2, Fr (fun k => k = w.heap.size + 1) w1 w2 → body.wpIn (Fence.wide.inRound (w.heap.size + 1)) m P (postX w.heap.size R X I Ix (pre ++ [x]) w2) a1 w2) (fun _ _ _ => False))
        { tmps := (ps.zip (encs x)).foldl (fun t (p, v) => t.setIfInBounds p v) a.tmps, defers := [] } W)
    (hdone : ∀ W, I (fun _ => False) xs W → W.heap[w.heap.size]? = some (.deferred (some [])) → Q .normal { a with defers := { target := .collected w.heap.size, args := #[] } :: a.defers } W)
    (hstop : ∀ c pre W, pre <+: xs → Ix c pre W → W.heap[w.heap.size]? = some (.deferred (some [])) → c.wp P Q { a with defers := { target := .collected w.heap.size, args := #[] } :: a.defers } W) :
    (Code.rangeFunc g ps assign body).wp P Q a w :=
  wpIn_wide.1 (wp_rangeX (n := 0) hg eg hseq hb0 hR hps I Ix hI hIx h0 hround hdone fun c pre W h1 h2 h3 => wpIn_wide.2 (hstop c pre W h1 h2 h3))
/-- A function whose body holds a range over a function. -/
theorem calls_of_marks {P : Program} {f : FuncId} {fn : Func} {c : Code} {args : Array Value} {w : World} {R : Ending → World → Prop} (hf : P.funcs[f]? = some fn) (hb : fn.body = some c)
    (h : c.wp P (bodyPostM Fence.wide 0 P fn R) { tmps := args ++ Array.replicate (fn.ntmps - args.size) undef, defers := [] } w) : Calls P f args w R :=
  (callsIn_wide (n := 0)).1 (callsIn_of_wp_marks (F := Fence.wide) hf hb trivial (wpIn_wide.2 h) rfl)
/-- The end of such a function. -/
theorem marks_ret {P : Program} {fn : Func} {R : Ending → World → Prop} {a : Act} {W : World} {D : Nat} {v : Value} (hd : a.defers = [{ target := .collected D, args := #[] }]) (hK : W.heap[D]? = some (.deferred (some [])))
    (hres : (results fn a.tmps).run P (W.putObj D (.deferred none)) = .ok v (W.putObj D (.deferred none))) (h : R (.returned v) (W.putObj D (.deferred none))) : bodyPostM Fence.wide 0 P fn R .ret a W := by
  show LeavesInM Fence.wide 0 P fn a.tmps R a.defers FrameMode.returning W
  rw [hd]
  exact ⟨by simp, .inl ⟨D, _, rfl, run_takeDeferred hK, ⟨v, hres, h⟩⟩⟩
section
variable {F : Fence} {n : Nat} {P : Program} {ops : Array Oper} {rest : List Oper} {o : Oper} {a : Act} {w : World} {K : Act → World → Prop} {Q : Exit → Act → World → Prop}
/-- A row is loaded whole, within a fence. -/
theorem wpIn_load_row (ty : TypeId) (x : Operand) (ho : o.op = .load ty x) {g : Nat} (hx : a.eval x = .pointer (some ⟨g, 0, none⟩)) {u : Value} (hr : (Instr.loadAt ty (.pointer (some ⟨g, 0, none⟩))).run P w = .ok u w)
    (h : K (a.put o.dst u) w) : o.wpIn F n P a w K Q := by
  unfold Oper.wpIn
  refine ⟨by simp [Oper.about, ho], ?_⟩
  rw [Oper.semAt_plain F _ _ (by rw [ho]; intro c hc'; cases hc')]
  simp only [execOp, ho, hx, Sem.run_bind, hr, Result.andThen_ok, Sem.run_pure]
  exact h
theorem wpListIn_load_row (hw : Region.wanted o (yielded ops a.tmps) = true) (ty : TypeId) (x : Operand) (ho : o.op = .load ty x) {g : Nat} (hx : a.eval x = .pointer (some ⟨g, 0, none⟩)) {u : Value} (hr : (Instr.loadAt ty (.pointer (some ⟨g, 0, none⟩))).run P w = .ok u w)
    (h : wpListIn F n P ops Q rest (a.put o.dst u) w) : wpListIn F n P ops Q (o :: rest) a w := by
  unfold wpListIn
  rw [if_pos hw]
  exact wpIn_load_row ty x ho hx hr h
end
end Go.Proofs.Ytobbilbkjiemiaa
