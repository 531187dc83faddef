/- Plain: a term of an assertion replaced; walks: l3Swap, replaceTerm. -/
import Derived.Test.YtdjfdopgjlbloaaUNf1
import Derived.Test.YtdjfdopgjlbloaaUData3
set_option linter.unusedVariables false
namespace Go.Proofs.Ytdjfdopgjlbloaa
open Go.RowKit

def swT (x t n : Int) : Int := if (n == x) = true then t else n
def sbF (x t : Int) (f : Fact) : Fact := (f.1, swT x t f.2.1, swT x t f.2.2)
def sbA (x t : Int) (y : Atom) : Atom := (y.1, swT x t y.2.1, swT x t y.2.2)
def subB (a : Asn) (x t : Int) : Asn := (a.1.map (sbF x t), a.2.map (sbA x t))
theorem map_more {α β : Type} [Inhabited α] {f : α → β} {l : List α} {k : Nat} (h : k < l.length) : (l.take (k + 1)).map f = (l.take k).map f ++ [f (gd l k)] := by
  rw [take_gd h, List.map_append]; rfl
theorem map_take_len {α β : Type} {f : α → β} {l : List α} {k : Nat} (h : k ≤ l.length) : ((l.take k).map f).length = k := by
  rw [List.length_map, List.length_take]; omega
section
variable {w0 w W w' : World} {bR bA : Nat} {v1 v2 v' : Value} {l1 m1 : List Fact} {l2 m2 : List Atom}
theorem DB.boxTf {e : TypeId} (h : DB w0 w bR bA v1 v2 l1 l2) (hf : Fr (TF W w0.heap.size e) W w') (hb : Below w.heap.size w W) (hne : 26 ≠ e) : w'.heap[bA]? = some (.cells #[v1, v2] 26 (0, 0)) :=
  box_tf (box_keep h.boxA hb) hf hne
theorem DB.app1T (h : DB w0 w bR bA v1 v2 l1 l2) (hf : Fr (TF W w0.heap.size 53) W w') (h1 : FE w' w0.heap.size v' m1) (hb : Below w.heap.size w W) (hne : ¬ bR = bA) (hlo : w0.heap.size ≤ bA) :
    DB w0 (w'.setCell ⟨bA, 0, none⟩ v') bR bA v' v2 m1 l2 := (h.keep hb).app1 hne hlo h1 hf
theorem DB.app2T (h : DB w0 w bR bA v1 v2 l1 l2) (hf : Fr (TF W w0.heap.size 56) W w') (h1 : FE w' w0.heap.size v' m2) (hb : Below w.heap.size w W) (hne : ¬ bR = bA) (hlo : w0.heap.size ≤ bA) :
    DB w0 (w'.setCell ⟨bA, 1, none⟩ v') bR bA v1 v' l1 m2 := (h.keep hb).app2 hne hlo h1 hf
theorem boxOtf {b : Nat} {e T : TypeId} {cs : Array Value} (h : w.heap[b]? = some (.cells cs T (0, 0))) (hf : Fr (TF W w0.heap.size e) W w') (hb : Below w.heap.size w W) (hne : T ≠ e) (p : Addr) (u : Value) (hp : ¬ b = p.block) : (w'.setCell p u).heap[b]? = some (.cells cs T (0, 0)) :=
  box_other (box_tf (box_keep h hb) hf hne) p u hp
end
set_option maxHeartbeats 400000 in
theorem l3Swap_any (n x t : Int) (w : World) :
    Calls Try.prog 95 #[.int .i64 n, .int .i64 x, .int .i64 t] w fun e w' => e = .returned (.int .i64 (swT x t n)) ∧ w = w' := by
  have hs : swT x t n = if (n == x) = true then t else n := rfl
  have HS := Lib.hid hs
  clear hs
  cases hc : (n == x) with
  | false =>
    have HC := Lib.hid hc
    go_enter Try.func95, Try.ntmps95
    go_wp2
    go_ret
    exact ⟨by rw [HS.out, HC.out]; rfl, rfl⟩
  | true =>
    have HC := Lib.hid hc
    go_enter Try.func95, Try.ntmps95
    go_wp2
    go_ret
    exact ⟨by rw [HS.out, HC.out]; rfl, rfl⟩
set_option maxHeartbeats 400000 in
theorem replaceTerm_any (n x t : Int) (w : World) :
    Calls Try.prog 94 #[.int .i64 n, .int .i64 x, .int .i64 t] w fun e w' => e = .returned (.int .i64 (swT x t n)) ∧ w = w' := by
  have hs : swT x t n = if (n == x) = true then t else n := rfl
  have HS := Lib.hid hs
  clear hs
  cases hc : (n == x) with
  | false =>
    have HC := Lib.hid hc
    go_enter Try.func94, Try.ntmps94
    go_wp2
    go_ret
    exact ⟨by rw [HS.out, HC.out]; rfl, rfl⟩
  | true =>
    have HC := Lib.hid hc
    go_enter Try.func94, Try.ntmps94
    go_wp2
    go_ret
    exact ⟨by rw [HS.out, HC.out]; rfl, rfl⟩
end Go.Proofs.Ytdjfdopgjlbloaa
/- Walks: facts that hold for values. -/
namespace Go.Proofs.Ytdjfdopgjlbloaa
open Go.RowKit

theorem factB_le {f : Fact} (h : factB f = true) : 0 ≤ f.2.1 ∧ f.2.1 ≤ 8 ∧ 0 ≤ f.2.2 ∧ f.2.2 ≤ 8 := by
  simp [factB, isTermB] at h; omega
theorem all_of {α : Type} [Dat α] {p : α → Bool} {l : List α} (h : l.all p = true) (k : Nat) (hk : k < l.length) : p (gd l k) = true := by
  rw [List.all_eq_true] at h
  have e : gd l k = l[k] := by simp [gd, hk]
  rw [e]; exact h _ (List.getElem_mem hk)




end Go.Proofs.Ytdjfdopgjlbloaa
