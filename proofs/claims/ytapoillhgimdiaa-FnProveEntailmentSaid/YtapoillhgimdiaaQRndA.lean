/- RndA: texts Rnd, Rnd2 in one. -/
import Derived.Test.YtapoillhgimdiaaQImpA
import Derived.Sort.QuietThIn
import Derived.Sort.BigQuietIn
import Derived.Test.YtapoillhgimdiaaQHeldD
/- In a round of a range: a region is walked as outside a round; a drawn region whose calls only allocate. -/
namespace Go.Proofs.Ytapoillhgimdiaa
open Go Go.RowKit

theorem oper_inRound {F : Fence} {n l : Nat} {P : Program} {o : Oper} {a : Act} {w : World} {K : Act → World → Prop} {Q : Exit → Act → World → Prop} (hro : F.round = none) (h : ∀ c, o.op ≠ .defer c) :
    o.wpIn (F.inRound l) n P a w K Q = o.wpIn F n P a w K Q := by
  unfold Oper.wpIn
  rw [Fence.inRound_round, hro, Oper.semAt_some l _ _ h]
  rfl
theorem ops_inRound {F : Fence} {n l : Nat} {P : Program} {ops : Array Oper} {Q : Exit → Act → World → Prop} (hro : F.round = none) (h : ∀ (i : Nat) (o : Oper), ops[i]? = some o → ∀ c, o.op ≠ .defer c) :
    ∀ s : List Nat, wpOpsIn (F.inRound l) n P ops Q s = wpOpsIn F n P ops Q s
  | [] => rfl
  | i :: s => by
    funext a w
    simp only [wpOpsIn]
    rw [ops_inRound hro h s]
    cases ho : ops[i]? with
    | none => rfl
    | some o =>
      simp only
      split
      · exact oper_inRound hro (h i o ho)
      · rfl
/-- No deferred call in a region. -/
def noDefer (L : List Oper) : Bool := L.all fun o => match o.op with | .defer _ => false | _ => true
theorem noDefer_at {L : List Oper} (h : noDefer L = true) (i : Nat) (o : Oper) (ho : L.toArray[i]? = some o) : ∀ c, o.op ≠ .defer c := by
  intro c e
  have hm : o ∈ L := by
    rw [List.getElem?_toArray] at ho
    exact List.mem_of_getElem? ho
  have := List.all_eq_true.1 h o hm
  rw [e] at this
  cases this
/-- What is quiet outside of a fence is quiet within the widest one. -/
theorem wpQuiet_wide {n : Nat} {P : Program} {ops : Array Oper} {C : World → Prop} {Q : Act → Prop} : ∀ (l : List Oper) (a : Act), wpQuiet P ops C Q l a → wpQuietIn Fence.wide n P ops C Q l a
  | [], _, h => h
  | o :: l, a, h => by
    unfold wpQuiet at h
    unfold wpQuietIn
    refine ⟨fun _ _ _ _ => trivial, ?_⟩
    split
    · rename_i hw
      rw [if_pos hw] at h
      obtain ⟨v, h1, h2⟩ := h
      refine ⟨v, fun w hw => ?_, wpQuiet_wide l _ h2⟩
      have h3 := h1 w hw
      unfold Oper.quietAt at h3
      unfold Oper.quietAtIn
      revert h3
      generalize (execOp a.eval o).run P w = r
      intro h3
      unfold Oper.quietUpon at h3
      unfold Oper.quietUponIn
      split at h3
      · exact h3
      · exact h3
      · exact ⟨h3.1, ⟨fun h => (by cases h), callsIn_wide.2 h3.2⟩⟩
      · exact h3.elim
    · rename_i hw
      rw [if_neg hw] at h
      exact wpQuiet_wide l _ h
/-- A drawn region in a round whose calls only allocate. -/
theorem wpIn_region_extR {n l : Nat} {P : Program} {id : Nat} {Q : Exit → Act → World → Prop} {a : Act} {w : World} {L : List Oper} (hm : P.follows .mixedOrders = true) (hB : Region.lexB .any L.toArray = true)
    (hd : noDefer L = true)
    (h : wpQuiet P L.toArray (fun w' => ∃ x, w' = Go.Proofs.Ytapoillhgimdiaa.ext w x) (fun a' => ∀ w', Below w.heap.size w w' → Q .normal a' w') L a) : (Code.region id L.toArray true).wpIn (Fence.wide.inRound l) n P Q a w := by
  have key : ∀ (l' : List Oper) (a : Act), wpQuiet P L.toArray (fun w' => ∃ x, w' = Go.Proofs.Ytapoillhgimdiaa.ext w x) (fun a' => ∀ w', Below w.heap.size w w' → Q .normal a' w') l' a →
      wpQuiet P L.toArray (fun w' => ∃ x, w' = Go.Proofs.Ytapoillhgimdiaa.ext w x) (fun a' => ∀ w', (∃ x, w' = Go.Proofs.Ytapoillhgimdiaa.ext w x) → Q .normal a' w') l' a := by
    intro l'
    induction l' with
    | nil => intro a h w' ⟨x, hx⟩; subst hx; exact h _ x.below
    | cons o l' ih =>
      intro a h
      unfold wpQuiet at h ⊢
      split
      · rename_i hw; rw [if_pos hw] at h; exact Oper.quiet_mono (fun a => ih a) h
      · rename_i hw; rw [if_neg hw] at h; exact ih _ h
  replace h := wpQuiet_wide (n := n) _ _ (key _ _ h)
  simp only [Region.lexB, Bool.and_eq_true] at hB
  refine wpIn_region_draw fun t => ?_
  rw [ops_inRound rfl (noDefer_at hd)]
  simp only [Region.schedule, hm, Bool.true_or, if_true]
  refine wpAnyIn_sound _ t _ a _ ?_
  refine wpAnyIn_of_quiet (C := fun w' => ∃ x, w' = Go.Proofs.Ytapoillhgimdiaa.ext w x) (Q := fun a' => ∀ w', (∃ x, w' = Go.Proofs.Ytapoillhgimdiaa.ext w x) → Q .normal a' w') rfl (fun _ w' hw' h => h w' hw') _ _ _ _ ⟨⟨_, below_drew w⟩, rfl⟩ ?_
  have := wpAnyQIn_lex (F := Fence.wide) (n := n) (C := fun w' => ∃ x, w' = Go.Proofs.Ytapoillhgimdiaa.ext w x) (md := .any) hB.1 L 0 (Array.replicate L.toArray.size false) a (by simp) (by simpa using hB.2) h
  simpa using this
end Go.Proofs.Ytapoillhgimdiaa
/- In a round of a range: a drawn region in which a cell is read first and written last. -/
namespace Go.Proofs.Ytapoillhgimdiaa
open Go Go.RowKit

theorem rows_wide {n : Nat} {P : Program} {row : String} {args : Array Value} {w : World} {R : Value → World → Prop} (h : Rows P row args w R) : RowsIn Fence.wide n P row args w R := fun c cs _ => let ⟨v, w', r, s⟩ := h c cs; ⟨v, w', r, stepsIn_wide.2 s⟩
/-- What holds of an operation outside of a fence holds within the widest one. -/
theorem oper_wide {n : Nat} {P : Program} {o : Oper} {a : Act} {w : World} {K K' : Act → World → Prop} {Q : Exit → Act → World → Prop} (hK : ∀ a w, K a w → K' a w) (h : o.wp P a w K Q) : o.wpIn Fence.wide n P a w K' Q := by
  unfold Oper.wp at h
  unfold Oper.wpIn
  refine ⟨fun _ _ => trivial, ?_⟩
  have e : (o.semAt Fence.wide.round a.eval).run P w = (execOp a.eval o).run P w := rfl
  rw [e]
  generalize (execOp a.eval o).run P w = r at *
  cases r with
  | ok m w' =>
    cases m with
    | value v => exact hK _ _ h
    | skip => exact hK _ _ h
    | defer d => exact hK _ _ h
    | enter f args => exact ⟨fun h => (by cases h), callsIn_wide.2 (Calls.mono h fun e w'' he => by cases e <;> first | exact hK _ _ he | exact he)⟩
    | row r args => exact ⟨fun h => (by cases h), rows_wide (Rows.mono h fun _ _ he => hK _ _ he)⟩
    | _ => exact h.elim
  | halt x w' => cases x <;> exact h
theorem wpAny_wide {n : Nat} {P : Program} {md : Region.Mode} {ops : Array Oper} {Q : Exit → Act → World → Prop} (hno : ¬ LetsOut Q) : ∀ (fuel : Nat) (listed : Array Bool) (a : Act) (w : World), wpAny P md ops Q fuel listed a w → wpAnyIn Fence.wide n P md ops Q fuel listed a w
  | 0, _, _, _, h => h
  | fuel + 1, listed, a, w, h => ⟨h.1, fun i hi => by
      have h2 := h.2 i hi
      unfold wpOp at h2
      unfold wpOpIn
      cases ho : ops[i]? with
      | none => rw [ho] at h2; exact wpAny_wide hno fuel _ a w h2
      | some o =>
        rw [ho] at h2
        simp only at h2 ⊢
        split
        · rename_i hw
          rw [if_pos hw] at h2
          rcases h2 with h2 | h2
          · exact oper_wide (fun a w => wpAny_wide hno fuel _ a w) h2
          · exact absurd h2.2 hno
        · rename_i hw
          rw [if_neg hw] at h2
          exact ⟨fun _ _ => trivial, wpAny_wide hno fuel _ _ w h2⟩⟩
theorem wpIn_region_anyR {n l : Nat} {P : Program} {id : Nat} {Q : Exit → Act → World → Prop} {a : Act} {w : World} {L : List Oper} (hm : P.follows .mixedOrders = true) (hd : noDefer L = true) (hno : ¬ LetsOut Q)
    (h : wpAny P .any L.toArray Q L.toArray.size (Array.replicate L.toArray.size false) a w.drew) : (Code.region id L.toArray true).wpIn (Fence.wide.inRound l) n P Q a w := by
  refine wpIn_region_draw fun t => ?_
  rw [ops_inRound rfl (noDefer_at hd)]
  simp only [Region.schedule, hm, Bool.true_or, if_true]
  exact wpAnyIn_sound L.toArray.size t _ a _ (wpAny_wide hno _ _ _ _ h)
theorem wpIn_region_lateR {n l : Nat} {P : Program} {id : Nat} {Q : Exit → Act → World → Prop} {a : Act} {w : World} {L : List Oper} {S : World → Prop} {dep : List Nat} (hm : P.follows .mixedOrders = true) (hd : noDefer L = true) (hno : ¬ LetsOut Q) (hS : S w.drew)
    (h : (Early dep (Array.replicate L.toArray.size false) → S w.drew) → wpAnyD P .any L.toArray Q S dep L.toArray.size (Array.replicate L.toArray.size false) a w.drew) : (Code.region id L.toArray true).wpIn (Fence.wide.inRound l) n P Q a w :=
  wpIn_region_anyR hm hd hno (wpAny_of_late _ _ _ _ (h fun _ => hS))
end Go.Proofs.Ytapoillhgimdiaa
