/- Plain: the normal form of an assertion; a result that is being built (facts). -/
import Derived.Test.YtdjfdopgjlbloaaVWout
import Derived.Test.YtdjfdopgjlbloaaVFam2
import Derived.Deep.RegionHeld3
import Derived.Test.YtdjfdopgjlbloaaVData3
set_option linter.unusedVariables false
namespace Go.Proofs.Ytdjfdopgjlbloaa
open Go.RowKit

theorem asnLe {a : Asn} (h : asnB a = true) : (a.1.length ≤ 12 ∧ a.2.length ≤ 6) ∧ (a.1.all factB = true ∧ a.2.all atomB = true) := by
  rw [asnB, factsB] at h
  simp only [Bool.and_eq_true, decide_eq_true_eq] at h
  exact ⟨⟨h.1.1, h.2.1⟩, h.1.2, h.2.2⟩
/-- A fact with its terms in order. -/
def ordF (f : Fact) : Fact := if f.2.2 < f.2.1 then (f.1, f.2.2, f.2.1) else f
def idF (f : Fact) : Bool := f.1 && f.2.1 == f.2.2
def nfStep (l : List Fact) (f : Fact) : List Fact := if idF f = true then l else if l.any (· == ordF f) = true then l else l ++ [ordF f]
def nfF (l : List Fact) : List Fact := l.foldl nfStep []
def nfA (l : List Atom) : List Atom := l.filter fun x => x.1 == 1 || x.2.1 != x.2.2
def nfB (a : Asn) : Asn := (nfF a.1, nfA a.2)
theorem nfF_step {l : List Fact} {k : Nat} (h : k < l.length) : nfF (l.take (k + 1)) = nfStep (nfF (l.take k)) (gd l k) := by
  rw [nfF, take_gd h, List.foldl_append]; rfl
theorem nfStep_len (l : List Fact) (f : Fact) : (nfStep l f).length ≤ l.length + 1 := by
  rw [nfStep]
  split
  · omega
  · split
    · omega
    · simp
theorem nfFold_len : ∀ (l m : List Fact), (l.foldl nfStep m).length ≤ m.length + l.length
  | [], m => by simp
  | f :: l, m => by
    have h1 := nfFold_len l (nfStep m f)
    have h2 := nfStep_len m f
    simp only [List.foldl_cons, List.length_cons]
    omega
theorem nfF_len (l : List Fact) : (nfF l).length ≤ l.length := by have := nfFold_len l []; simpa [nfF] using this
theorem nfF_lenk (l : List Fact) (k : Nat) : (nfF (l.take k)).length ≤ k := by
  have h1 := nfF_len (l.take k)
  have h2 : (l.take k).length ≤ k := by rw [List.length_take]; omega
  omega
theorem nfA_step {l : List Atom} {k : Nat} (h : k < l.length) : nfA (l.take (k + 1)) = nfA (l.take k) ++ (if ((gd l k).1 == 1 || (gd l k).2.1 != (gd l k).2.2) = true then [gd l k] else []) := by
  rw [nfA, take_gd h, List.filter_append, List.filter_cons, List.filter_nil]; rfl
theorem nfA_lenk (l : List Atom) (k : Nat) : (nfA (l.take k)).length ≤ k := by
  have h1 : (nfA (l.take k)).length ≤ (l.take k).length := List.length_filter_le _ _
  have h2 : (l.take k).length ≤ k := by rw [List.length_take]; omega
  omega
theorem any_more1 {α : Type} [Inhabited α] {p : α → Bool} {l : List α} {k : Nat} (h : k < l.length) : (l.take (k + 1)).any p = ((l.take k).any p || p (gd l k)) := by
  rw [take_gd h, List.any_append]; simp
theorem lit_atom_at {w : World} {g : Nat} (h : w.heap.size = g) (a b c : Int) (T : TypeId) : RL (w.alloc (.cells #[.int .i64 a, .int .i64 b, .int .i64 c] T)) (fun k => k = g) (.slice (some ⟨g, 0, none⟩) 1 1) [((a, b, c) : Atom)] := h ▸ lit_atom w a b c T
theorem fact_beq (y1 z1 : Bool) (y2 y3 z2 z3 : Int) : (((y1, y2, y3) : Fact) == (z1, z2, z3)) = (y1 == z1 && (y2 == z2 && y3 == z3)) := by
  rw [Bool.eq_iff_iff]; simp
section
variable {w0 w w' : World} {bR bA : Nat} {v1 v2 v' : Value} {l1 m1 : List Fact} {l2 m2 : List Atom}
theorem DB.app1 (h : DB w0 w bR bA v1 v2 l1 l2) (hne : ¬ bR = bA) (hlo : w0.heap.size ≤ bA) (h1 : FE w' w0.heap.size v' m1) (hf : Fr (TF w w0.heap.size 53) w w') :
    DB w0 (w'.setCell ⟨bA, 0, none⟩ v') bR bA v' v2 m1 l2 := by
  have hA := box_tf h.boxA hf (by decide)
  have hS : ∀ {e : TypeId}, 26 ≠ e → ¬ TF w' w0.heap.size e bA := fun hne => tf_ne hA hne
  exact ⟨h1.setB (hS (by decide)), (h.a.tf hf (by decide)).setB (hS (by decide)), box_other (box_tf h.boxR hf (by decide)) _ _ hne, box_set0 hA _,
    (h.fr.trans (tf_below hf h.fr.size)).setCell (by simp; omega) _⟩
end
end Go.Proofs.Ytdjfdopgjlbloaa
/- Plain: a term of an assertion replaced; walks: l3Swap, replaceTerm. -/
set_option linter.unusedVariables false
namespace Go.Proofs.Ytdjfdopgjlbloaa
open Go.RowKit

def swT (x t n : Int) : Int := if (n == x) = true then t else n
def sbF (x t : Int) (f : Fact) : Fact := (f.1, swT x t f.2.1, swT x t f.2.2)
def sbA (x t : Int) (y : Atom) : Atom := (y.1, swT x t y.2.1, swT x t y.2.2)
def subB (a : Asn) (x t : Int) : Asn := (a.1.map (sbF x t), a.2.map (sbA x t))
theorem map_more {α β : Type} [Inhabited α] {f : α → β} {l : List α} {k : Nat} (h : k < l.length) : (l.take (k + 1)).map f = (l.take k).map f ++ [f (gd l k)] := by
  rw [take_gd h, List.map_append]; rfl
theorem map_take_len {α β : Type} {f : α → β} {l : List α} {k : Nat} (h : k ≤ l.length) : ((l.take k).map f).length = k := by
  rw [List.length_map, List.length_take]; omega
section
variable {w0 w W w' : World} {bR bA : Nat} {v1 v2 v' : Value} {l1 m1 : List Fact} {l2 m2 : List Atom}
theorem DB.boxTf {e : TypeId} (h : DB w0 w bR bA v1 v2 l1 l2) (hf : Fr (TF W w0.heap.size e) W w') (hb : Below w.heap.size w W) (hne : 26 ≠ e) : w'.heap[bA]? = some (.cells #[v1, v2] 26 (0, 0)) :=
  box_tf (box_keep h.boxA hb) hf hne
theorem DB.app1T (h : DB w0 w bR bA v1 v2 l1 l2) (hf : Fr (TF W w0.heap.size 53) W w') (h1 : FE w' w0.heap.size v' m1) (hb : Below w.heap.size w W) (hne : ¬ bR = bA) (hlo : w0.heap.size ≤ bA) :
    DB w0 (w'.setCell ⟨bA, 0, none⟩ v') bR bA v' v2 m1 l2 := (h.keep hb).app1 hne hlo h1 hf
theorem DB.app2T (h : DB w0 w bR bA v1 v2 l1 l2) (hf : Fr (TF W w0.heap.size 56) W w') (h1 : FE w' w0.heap.size v' m2) (hb : Below w.heap.size w W) (hne : ¬ bR = bA) (hlo : w0.heap.size ≤ bA) :
    DB w0 (w'.setCell ⟨bA, 1, none⟩ v') bR bA v1 v' l1 m2 := (h.keep hb).app2 hne hlo h1 hf
theorem boxOtf {b : Nat} {e T : TypeId} {cs : Array Value} (h : w.heap[b]? = some (.cells cs T (0, 0))) (hf : Fr (TF W w0.heap.size e) W w') (hb : Below w.heap.size w W) (hne : T ≠ e) (p : Addr) (u : Value) (hp : ¬ b = p.block) : (w'.setCell p u).heap[b]? = some (.cells cs T (0, 0)) :=
  box_other (box_tf (box_keep h hb) hf hne) p u hp
end
set_option maxHeartbeats 400000 in
theorem l3Swap_any (n x t : Int) (w : World) :
    Calls Try.prog 95 #[.int .i64 n, .int .i64 x, .int .i64 t] w fun e w' => e = .returned (.int .i64 (swT x t n)) ∧ w = w' := by
  have hs : swT x t n = if (n == x) = true then t else n := rfl
  have HS := Lib.hid hs
  clear hs
  cases hc : (n == x) with
  | false =>
    have HC := Lib.hid hc
    go_enter Try.func95, Try.ntmps95
    go_wp2
    go_ret
    exact ⟨by rw [HS.out, HC.out]; rfl, rfl⟩
  | true =>
    have HC := Lib.hid hc
    go_enter Try.func95, Try.ntmps95
    go_wp2
    go_ret
    exact ⟨by rw [HS.out, HC.out]; rfl, rfl⟩
set_option maxHeartbeats 400000 in
theorem replaceTerm_any (n x t : Int) (w : World) :
    Calls Try.prog 94 #[.int .i64 n, .int .i64 x, .int .i64 t] w fun e w' => e = .returned (.int .i64 (swT x t n)) ∧ w = w' := by
  have hs : swT x t n = if (n == x) = true then t else n := rfl
  have HS := Lib.hid hs
  clear hs
  cases hc : (n == x) with
  | false =>
    have HC := Lib.hid hc
    go_enter Try.func94, Try.ntmps94
    go_wp2
    go_ret
    exact ⟨by rw [HS.out, HC.out]; rfl, rfl⟩
  | true =>
    have HC := Lib.hid hc
    go_enter Try.func94, Try.ntmps94
    go_wp2
    go_ret
    exact ⟨by rw [HS.out, HC.out]; rfl, rfl⟩
end Go.Proofs.Ytdjfdopgjlbloaa
/- Fam3: texts StarI, StarS, StarI2 in one. -/
/- Walks: the program's separating conjunction. -/
namespace Go.Proofs.Ytdjfdopgjlbloaa
open Go.RowKit

theorem oa_nil (w : World) (B : Nat) : OA w B (.slice none 0 0) (.slice none 0 0) (([], []) : Asn) := ⟨[], [], OL.nil _ _, OL.nil _ _, by simp⟩

theorem OL.set2 {α : Type} [Own α] [Tid α] {w : World} {B : Nat} {v : Value} {l : List α} {fp : List Nat} (h : OL w B v l fp) {t : Nat} (ht : ∀ k ∈ fp, ¬ k = t) (x y : Value) :
    OL ((w.setCell ⟨t, 0, none⟩ x).setCell ⟨t, 1, none⟩ y) B v l fp :=
  (h.okept (fr_set _ _ _) fun k hk e => ht k hk e).okept (fr_set _ _ _) fun k hk e => ht k hk e

end Go.Proofs.Ytdjfdopgjlbloaa
/- Walks: the products of two families, in the reference. -/
namespace Go.Proofs.Ytdjfdopgjlbloaa
open Go.RowKit

end Go.Proofs.Ytdjfdopgjlbloaa
/- Walks: the products of two families, in the program. -/
namespace Go.Proofs.Ytdjfdopgjlbloaa
open Go.RowKit

end Go.Proofs.Ytdjfdopgjlbloaa
/- Walks: facts that hold for values. -/
namespace Go.Proofs.Ytdjfdopgjlbloaa
open Go.RowKit

theorem factB_le {f : Fact} (h : factB f = true) : 0 ≤ f.2.1 ∧ f.2.1 ≤ 8 ∧ 0 ≤ f.2.2 ∧ f.2.2 ≤ 8 := by
  simp [factB, isTermB] at h; omega
theorem all_of {α : Type} [Dat α] {p : α → Bool} {l : List α} (h : l.all p = true) (k : Nat) (hk : k < l.length) : p (gd l k) = true := by
  rw [List.all_eq_true] at h
  have e : gd l k = l[k] := by simp [gd, hk]
  rw [e]; exact h _ (List.getElem_mem hk)




end Go.Proofs.Ytdjfdopgjlbloaa
