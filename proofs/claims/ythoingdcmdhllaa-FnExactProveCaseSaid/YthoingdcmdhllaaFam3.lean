/- Fam3: texts StarI, StarS, StarI2 in one. -/
import Derived.Test.YthoingdcmdhllaaFam2
import Derived.Deep.RegionHeld3
/- Walks: the program's separating conjunction. -/
namespace Go.Proofs.Ythoingdcmdhllaa
open Go.RowKit

def starA (a b : Asn) : Asn := (a.1 ++ b.1, a.2 ++ b.2)
def starOk (a b : Asn) : Bool := asnB a && (asnB b && asnB (starA a b))
def starR (a b : Asn) : Asn := if starOk a b = true then starA a b else ([], [])
theorem asn_sz {a : Asn} (h : asnB a = true) : asSz a := by
  simp only [asnB, factsB, Bool.and_eq_true, decide_eq_true_eq] at h
  unfold asSz; omega
theorem oa_nil (w : World) (B : Nat) : OA w B (.slice none 0 0) (.slice none 0 0) (([], []) : Asn) := ⟨[], [], OL.nil _ _, OL.nil _ _, by simp⟩

theorem OL.set2 {α : Type} [Own α] [Tid α] {w : World} {B : Nat} {v : Value} {l : List α} {fp : List Nat} (h : OL w B v l fp) {t : Nat} (ht : ∀ k ∈ fp, ¬ k = t) (x y : Value) :
    OL ((w.setCell ⟨t, 0, none⟩ x).setCell ⟨t, 1, none⟩ y) B v l fp :=
  (h.okept (fr_set _ _ _) fun k hk e => ht k hk e).okept (fr_set _ _ _) fun k hk e => ht k hk e

/-- A struct of two owned lists lies in block t. -/
def Pack (w0 W : World) (t : Nat) (x y : Value) (a : Asn) : Prop :=
  (W.cell? ⟨t, 0, none⟩ = some x ∧ W.cell? ⟨t, 1, none⟩ = some y) ∧ (OA W w0.heap.size x y a ∧ (Below w0.heap.size w0 W ∧ (t < W.heap.size ∧ w0.heap.size ≤ t)))
theorem packA {w0 w5 w6 : World} {B1 B2 t : Nat} {x y u v : Value} {l1 : List Fact} {l2 : List Atom} {f1 f2 : List Nat} {T : TypeId} (o1 : OL w5 B1 x l1 f1) (n1 : f1.Nodup) (o2 : OL w6 B2 y l2 f2) (n2 : f2.Nodup) (hb : Below w5.heap.size w5 w6) (hb6 : Below w0.heap.size w0 w6)
    (h1 : w0.heap.size ≤ B1) (h2 : w5.heap.size ≤ B2) (hT : w6.heap[t]? = some (.cells #[u, v] T (0, 0))) (t1 : ∀ k ∈ f1, ¬ k = t) (t2 : ∀ k ∈ f2, ¬ k = t) (h0 : w0.heap.size ≤ t) (h5 : w0.heap.size ≤ w5.heap.size) :
    Pack w0 ((w6.setCell ⟨t, 0, none⟩ x).setCell ⟨t, 1, none⟩ y) t x y (l1, l2) := by
  have r := box_two x y (box0 hT) (box1 hT)
  have hl := box_lt hT
  refine ⟨r, ⟨f1, f2, ((o1.keep hb).set2 t1 x y).mono h1, (o2.set2 t2 x y).mono (by omega), List.nodup_append.2 ⟨n1, n2, fun p hp q hq e => ?_⟩⟩, (hb6.setCell h0 _).setCell h0 _, by simpa using hl, h0⟩
  have q1 := (o1.lt p hp).2
  have q2 := (o2.lt q hq).1
  omega
theorem packC {w0 w5 w6 : World} {B1 B2 : Nat} {x y : Value} {l1 : List Fact} {l2 : List Atom} {f1 f2 : List Nat} (T : TypeId) (o1 : OL w5 B1 x l1 f1) (n1 : f1.Nodup) (o2 : OL w6 B2 y l2 f2) (n2 : f2.Nodup) (hb : Below w5.heap.size w5 w6) (hb6 : Below w0.heap.size w0 w6)
    (h1 : w0.heap.size ≤ B1) (h2 : w5.heap.size ≤ B2) (h5 : w0.heap.size ≤ w5.heap.size) : Pack w0 (w6.alloc (.cells #[x, y] T)) w6.heap.size x y (l1, l2) := by
  have hz := hb6.size
  refine ⟨⟨by simp, by simp⟩, ⟨f1, f2, ((o1.keep hb).keep (below_alloc _ _)).mono h1, (o2.keep (below_alloc _ _)).mono (by omega), List.nodup_append.2 ⟨n1, n2, fun p hp q hq e => ?_⟩⟩, ba hb6 _, by simp, hz⟩
  have q1 := (o1.lt p hp).2
  have q2 := (o2.lt q hq).1
  omega

end Go.Proofs.Ythoingdcmdhllaa
/- Walks: the products of two families, in the reference. -/
namespace Go.Proofs.Ythoingdcmdhllaa
open Go.RowKit

/-- The products of two families, in their order; those of the first i, and of the next with the first k. -/
def prodL (a b : List Asn) : List Asn := a.flatMap fun x => b.map (starA x)
def prodOk (a b : List Asn) : Bool := famB a && (famB b && famB (prodL a b))
def prodR (a b : List Asn) : List Asn := if prodOk a b = true then prodL a b else []
theorem prodL_len (a b : List Asn) : (prodL a b).length = a.length * b.length := by
  induction a with
  | nil => simp [prodL]
  | cons x a ih =>
    have : prodL (x :: a) b = b.map (starA x) ++ prodL a b := rfl
    rw [this, List.length_append, ih, List.length_map, List.length_cons, Nat.succ_mul]; omega
def prodTo (a b : List Asn) (i k : Nat) : List Asn := prodL (a.take i) b ++ (b.take k).map (starA (gd a i))
theorem prodTo_zero (a b : List Asn) : prodTo a b 0 0 = [] := by simp [prodTo, prodL]
theorem prodTo_succ {a b : List Asn} {i k : Nat} (hk : k < b.length) : prodTo a b i (k + 1) = prodTo a b i k ++ [starA (gd a i) (gd b k)] := by
  rw [prodTo, prodTo, take_gd hk, List.map_append, ← List.append_assoc]; rfl
theorem prodTo_row {a b : List Asn} {i : Nat} (hi : i < a.length) : prodTo a b i b.length = prodTo a b (i + 1) 0 := by
  rw [prodTo, prodTo, List.take_length, List.take_zero, List.map_nil, List.append_nil, take_gd hi]
  simp [prodL]
theorem prodTo_all (a b : List Asn) : prodTo a b a.length 0 = prodL a b := by
  rw [prodTo, List.take_length, List.take_zero, List.map_nil, List.append_nil]
theorem prodTo_len {a b : List Asn} (ha : a.length ≤ 12) (hb : b.length ≤ 12) (i k : Nat) : (prodTo a b i k).length ≤ 156 := by
  rw [prodTo, List.length_append, prodL_len, List.length_map, List.length_take, List.length_take]
  have : min i a.length * b.length ≤ 12 * 12 := Nat.mul_le_mul (by omega) hb
  omega

end Go.Proofs.Ythoingdcmdhllaa
/- Walks: the products of two families, in the program. -/
namespace Go.Proofs.Ythoingdcmdhllaa
open Go.RowKit

theorem mem_prodL {a b : List Asn} {x y : Asn} (hx : x ∈ a) (hy : y ∈ b) : starA x y ∈ prodL a b := List.mem_flatMap.2 ⟨x, hx, List.mem_map.2 ⟨y, hy, rfl⟩⟩
theorem prodOk_no {a b : List Asn} {x y : Asn} (hx : x ∈ a) (hy : y ∈ b) (h : asnB (starA x y) = false) : prodOk a b = false := by
  have : famB (prodL a b) = false := by
    unfold famB
    rw [Bool.and_eq_false_iff]
    right
    rw [List.all_eq_false]
    exact ⟨_, mem_prodL hx hy, by simp [h]⟩
  simp [prodOk, this]
theorem prodOk_big {a b : List Asn} (h : 12 < a.length * b.length) : prodOk a b = false := by
  have : famB (prodL a b) = false := by
    unfold famB
    rw [prodL_len]
    have : ¬ a.length * b.length ≤ 12 := by omega
    simp [this]
  simp [prodOk, this]
theorem prodOk_yes {a b : List Asn} (ha : famB a = true) (hb : famB b = true) (h : a.length * b.length ≤ 12) (hall : (prodL a b).all asnB = true) : prodOk a b = true := by
  have : famB (prodL a b) = true := by
    unfold famB
    rw [prodL_len, hall]
    simp [h]
  simp [prodOk, ha, hb, this]
theorem prodR_size {a b : List Asn} (_h1 : Mk.size a ≤ 1048576) (_h2 : Mk.size b ≤ 1048576) : Mk.size (prodR a b) ≤ 1048576 := by
  unfold prodR
  split
  · rename_i h
    simp only [prodOk, Bool.and_eq_true] at h
    have := size_fam h.2.2
    omega
  · exact Nat.zero_le _
theorem fam_mem {l : List Asn} (h : famB l = true) {a : Asn} (ha : a ∈ l) : asnB a = true := by
  simp only [famB, Bool.and_eq_true, List.all_eq_true] at h
  exact h.2 a ha

theorem news2g (w : World) (g : Nat) (x y : Value) (e : TypeId) (h : w.heap.size = g) : 0 < 1 → ∃ b o, some (⟨g, 0, none⟩ : Addr) = some ⟨b, o, none⟩ ∧ ∀ j u, [x, y][j]? = some u → (w.alloc (.cells #[x, y] e)).cell? ⟨b, o + j, none⟩ = some u := by
  subst h; exact news2 w x y e

end Go.Proofs.Ythoingdcmdhllaa
