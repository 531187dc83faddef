/- Regions that draw their order, whose operations only read and whose callees may make memory of their own but change nothing that was there: one walk in the order of the text. -/
import Derived.Test.YtnhhfbhhglhocaaVoc
import Derived.Deep.LoopGhost
namespace Go.Proofs.Ytnhhfbhhglhocaa
open Go.RowKit

/-- A world that extends `w`. -/
structure Ext (w : World) where
  to : World
  below : Below w.heap.size w to
instance (w : World) : Nonempty (Ext w) := ⟨⟨w, Below.refl _ _⟩⟩
def ext (w : World) (x : Ext w) : World := x.to
@[simp, go_sem] theorem cell?_ext (w : World) (x : Ext w) (p : Addr) (h : p.block < w.heap.size) : (ext w x).cell? p = w.cell? p := x.below.cell h

theorem ext_c {P : Program} {f : FuncId} {args : Array Value} {w : World} {x : Ext w} {v : Value}
    (h : Calls P f args (ext w x) fun e w' => e = .returned v ∧ Below (ext w x).heap.size (ext w x) w') : Calls P f args (ext w x) fun e w'' => e = .returned v ∧ ∃ y, w'' = ext w y :=
  h.mono fun _ w'' ⟨he, hb⟩ => ⟨he, ⟨w'', bt x.below hb⟩, rfl⟩

theorem ext_same {P : Program} {f : FuncId} {args : Array Value} {w : World} {x : Ext w} {v : Value}
    (h : Calls P f args (ext w x) fun e w' => e = .returned v ∧ ext w x = w') : Calls P f args (ext w x) fun e w'' => e = .returned v ∧ ∃ y, w'' = ext w y :=
  h.mono fun _ _ ⟨he, hb⟩ => ⟨he, x, hb.symm⟩

theorem RInts.ext {w : World} {v : Value} {l : List Int} (h : RInts w v l) (x : Ext w) : RInts (ext w x) v l := h.keep x.below

theorem wp_region_ext {P : Program} {id : Nat} {Q : Exit → Act → World → Prop} {a : Act} {w : World} {l : List Oper} (hm : P.follows .mixedOrders = true) (hB : Region.lexB .any l.toArray = true)
    (h : wpQuiet P l.toArray (fun w' => ∃ x, w' = Go.Proofs.Ytnhhfbhhglhocaa.ext w x) (fun a' => ∀ w', Below w.heap.size w w' → Q .normal a' w') l a) : (Code.region id l.toArray true).wp P Q a w := by
  refine wp_region_quiet (C := fun w' => ∃ x, w' = Go.Proofs.Ytnhhfbhhglhocaa.ext w x) hm hB ⟨⟨_, below_drew w⟩, rfl⟩ ?_
  have key : ∀ (l' : List Oper) (a : Act), wpQuiet P l.toArray (fun w' => ∃ x, w' = Go.Proofs.Ytnhhfbhhglhocaa.ext w x) (fun a' => ∀ w', Below w.heap.size w w' → Q .normal a' w') l' a →
      wpQuiet P l.toArray (fun w' => ∃ x, w' = Go.Proofs.Ytnhhfbhhglhocaa.ext w x) (fun a' => ∀ w', (∃ x, w' = Go.Proofs.Ytnhhfbhhglhocaa.ext w x) → Q .normal a' w') l' a := by
    intro l'
    induction l' with
    | nil => intro a h w' ⟨x, hx⟩; subst hx; exact h _ x.below
    | cons o l' ih =>
      intro a h
      unfold wpQuiet at h ⊢
      split
      · rename_i hw; rw [if_pos hw] at h; exact Oper.quiet_mono (fun a => ih a) h
      · rename_i hw; rw [if_neg hw] at h; exact ih _ h
  simpa using key l a h

end Go.Proofs.Ytnhhfbhhglhocaa
