/- Rows of commands: deeper by one, changed at a place, out of owned data. -/
import Derived.Test.YtgfnoinkajfndaaGreatACmdB
set_option linter.unusedVariables false
namespace Go.Proofs.YtgfnoinkajfndaaGreat
open Go.RowKit

/-- Commands as commands of a greater depth. -/
def liftL : (d : Nat) → List (Cm d) → List (Cm (d + 1))
  | 0, _ => []
  | d + 1, l => l.map fun c => Cm.mk (Cm.kind c) (Cm.a c) (Cm.b c) (Cm.test c) (Cm.inv c) (liftL d (Cm.body c)) (liftL d (Cm.els c))
theorem gd_map {α β : Type} [Inhabited α] [Inhabited β] {l : List α} {f : α → β} {i : Nat} (h : i < l.length) : gd (l.map f) i = f (gd l i) := by
  rw [gd_of (by simpa using h), gd_of h, List.getElem_map]
theorem rl_lift : ∀ (d : Nat) {w : World} {S : Nat → Prop} {v : Value} {l : List (Cm d)}, RL w S v l → RL w S v (liftL d l)
  | 0, w, S, v, l, h => by
    obtain rfl := h.cm0
    rcases h with ⟨a, cap, e, _, h2, h3⟩ | ⟨b, o, cap, e, h1, h2, _, _⟩
    · exact .inl ⟨a, cap, e, rfl, h2, h3⟩
    · exact .inl ⟨_, cap, e, rfl, h2, fun h => by cases h⟩
  | d + 1, w, S, v, l, h => by
    rcases h with ⟨a, cap, e, rfl, h2, h3⟩ | ⟨b, o, cap, e, h1, h2, h3, h4⟩
    · exact .inl ⟨a, cap, e, rfl, h2, h3⟩
    · have hl : (liftL (d + 1) l).length = l.length := by rw [liftL, List.length_map]
      refine .inr ⟨b, o, cap, by rw [hl]; exact e, by rw [hl]; exact h1, h2, by rw [hl]; exact h3, fun i hi => ?_⟩
      rw [hl] at hi
      obtain ⟨cs, hr, hc⟩ := h4 i hi
      obtain ⟨f1, f2, x, y, rfl, ⟨g1, g2⟩, g3, g4⟩ := rd_cm hr
      refine ⟨_, ?_, fun j u hj => by rw [sz_cm]; have := hc j u hj; rwa [sz_cm] at this⟩
      rw [liftL, gd_map hi]
      exact rd_cm_mk (c := Cm.mk (gd l i).kind (gd l i).a (gd l i).b (gd l i).test (gd l i).inv (liftL d (gd l i).body) (liftL d (gd l i).els)) g1 g2 (rl_lift d g3) (rl_lift d g4)
theorem sz_lift : ∀ (d : Nat) (l : List (Cm d)), szC (d + 1) (liftL d l) = szC d l
  | 0, l => rfl
  | d + 1, l => by
    rw [liftL, szC, List.map_map, szC]
    refine congrArg List.sum (List.map_congr_left fun c _ => ?_)
    show 1 + szC (d + 1) (liftL d (Cm.body c)) + szC (d + 1) (liftL d (Cm.els c)) = _
    rw [sz_lift d, sz_lift d]
theorem few_lift : ∀ (d : Nat) (l : List (Cm d)), FewC d l → FewC (d + 1) (liftL d l)
  | 0, l, _ => ⟨Nat.zero_le _, fun c hc => by cases hc⟩
  | d + 1, l, h => by
    refine ⟨by rw [liftL, List.length_map]; exact h.1, fun c hc => ?_⟩
    rw [liftL, List.mem_map] at hc
    obtain ⟨x, hx, rfl⟩ := hc
    have := h.2 x hx
    exact ⟨this.1, few_lift d _ this.2.1, few_lift d _ this.2.2⟩
theorem sum_set {α : Type} [Inhabited α] {f : α → Nat} : ∀ {l : List α} {k : Nat} (x : α), k < l.length → ((l.set k x).map f).sum + f (gd l k) = (l.map f).sum + f x
  | c :: r, 0, x, _ => by
    show (f x + (r.map f).sum) + f c = (f c + (r.map f).sum) + f x
    omega
  | c :: r, k + 1, x, h => by
    have ih := sum_set (f := f) (l := r) (k := k) x (by simpa using h)
    show (f c + ((r.set k x).map f).sum) + f (gd r k) = (f c + (r.map f).sum) + f x
    omega
theorem sz_set {d : Nat} {l : List (Cm (d + 1))} {k : Nat} (x : Cm (d + 1)) (h : k < l.length) : szC (d + 1) (l.set k x) + (1 + szC d (gd l k).body + szC d (gd l k).els) = szC (d + 1) l + (1 + szC d x.body + szC d x.els) :=
  sum_set (f := fun c : Cm (d + 1) => 1 + szC d c.body + szC d c.els) x h
theorem sz_app {d : Nat} (l m : List (Cm (d + 1))) : szC (d + 1) (l ++ m) = szC (d + 1) l + szC (d + 1) m := by
  show ((l ++ m).map _).sum = _
  rw [List.map_append, List.sum_append]; rfl
/-- Owned commands as a row of the call's own. -/
theorem OO.uc {d : Nat} {w : World} {B : Nat} {v : Value} {l : List (Cm d)} (h : OO w B v l) : UC w B v l := by
  obtain ⟨fp, ⟨xs, fps, hr, hl, rfl, ho⟩, hn⟩ := h
  have hz : Dat.sz (Cm d) = 10 := sz_cm d
  rw [hz] at hr
  refine ⟨xs, hr, fun k hk => Dat.more (by have := Own.read (ho k hk); rwa [hz] at this) fun j hj hjf => ⟨(Own.lt (ho k hk) j hjf).1, fun e => ?_⟩⟩
  rw [List.nodup_append] at hn
  exact hn.2.2 j (mem_ownBlock.2 e) j (mem_flat (by omega) hjf) rfl
/-- A row's command and its cells. -/
theorem UC.at {d : Nat} {w : World} {B g cap : Nat} {l : List (Cm (d + 1))} (h : UC w B (.slice (some ⟨g, 0, none⟩) l.length cap) l) {k : Nat} (hk : k < l.length) :
    (B ≤ g ∧ g < w.heap.size) ∧ ∃ f1 f2 x y, (∀ j u, (cmCells (gd l k).kind (gd l k).a (gd l k).b (gd l k).test f1 f2 x y)[j]? = some u → w.cell? ⟨g, k * 10 + j, none⟩ = some u) ∧ (∀ j, w.frozen? ⟨g, j, none⟩ = false) ∧
      (RL w (fun j => B ≤ j ∧ ¬ some j = some g) f1 (gd l k).inv.1 ∧ RL w (fun j => B ≤ j ∧ ¬ some j = some g) f2 (gd l k).inv.2) ∧ (RL w (fun j => B ≤ j ∧ ¬ some j = some g) x (gd l k).body ∧ RL w (fun j => B ≤ j ∧ ¬ some j = some g) y (gd l k).els) := by
  obtain ⟨xs, hr, hx⟩ := h
  have h1 := hx k hk
  obtain ⟨f1, f2, x, y, e, g1, g2⟩ := rd_cm h1
  refine ⟨own_lt hr rfl, f1, f2, x, y, fun j u hj => ?_, fun j => hr.frozenAt j, g1, g2⟩
  rw [← e] at hj
  have hj' := nth_at hj
  rw [hr.cellAt _ (by rw [← hr.1]; exact (List.getElem?_eq_some_iff.1 hj').1)]
  exact hj'
theorem nth_setC {xs : List Value} {k j i : Nat} (u : Value) (hj : j < 10) (hl : (k + 1) * 10 ≤ xs.length) : nth 10 (xs.set (k * 10 + j) u) i = if i = k then (nth 10 xs k).set j u else nth 10 xs i := by
  unfold nth
  split
  · rename_i e; subst e
    refine List.ext_getElem? fun m => ?_
    rw [List.getElem?_take, List.getElem?_drop, List.getElem?_set, List.getElem?_set, List.getElem?_take, List.getElem?_drop]
    by_cases hm : m < 10
    · rw [if_pos hm, if_pos hm]
      by_cases e : j = m
      · subst e; rw [if_pos rfl, if_pos (by omega), if_pos rfl, if_pos (by rw [List.length_take, List.length_drop]; omega)]
      · rw [if_neg (by omega), if_neg e]
    · rw [if_neg hm, if_neg hm]; split
      · omega
      · rfl
  · rename_i e
    refine List.ext_getElem? fun m => ?_
    rw [List.getElem?_take, List.getElem?_drop, List.getElem?_set, List.getElem?_take, List.getElem?_drop]
    by_cases hm : m < 10
    · rw [if_pos hm, if_pos hm, if_neg (by omega)]
    · rw [if_neg hm, if_neg hm]
/-- One cell of one command is written. -/
theorem UC.put {d : Nat} {w : World} {B g cap : Nat} {l : List (Cm d)} (h : UC w B (.slice (some ⟨g, 0, none⟩) l.length cap) l) {k j : Nat} (hk : k < l.length) (hj : j < 10) {u : Value} {c : Cm d}
    (hc : ∀ cs, Dat.rd w (fun j => B ≤ j ∧ ¬ some j = some g) (gd l k) cs → Dat.rd w (fun j => B ≤ j ∧ ¬ some j = some g) c (cs.set j u)) :
    UC (w.setCell ⟨g, k * 10 + j, none⟩ u) B (.slice (some ⟨g, 0, none⟩) (l.set k c).length cap) (l.set k c) := by
  obtain ⟨xs, hr, hx⟩ := h
  have hF := fr_set w ⟨g, k * 10 + j, none⟩ u
  have hs := (hr.stored (k * 10 + j) u).1
  have hln : xs.length = l.length * 10 := hr.1
  refine ⟨xs.set (k * 10 + j) u, by rw [List.length_set]; exact hs, fun i hi => ?_⟩
  rw [List.length_set] at hi
  have hle : (k + 1) * 10 ≤ xs.length := by rw [hln]; exact Nat.mul_le_mul_right _ hk
  rw [nth_setC u hj hle, gd_set hk]
  have hmv : ∀ {y : Cm d} {cs : List Value}, Dat.rd w (fun j => B ≤ j ∧ ¬ some j = some g) y cs → Dat.rd (w.setCell ⟨g, k * 10 + j, none⟩ u) (fun j => B ≤ j ∧ ¬ some j = some g) y cs := fun {y cs} h => Dat.kept h hF fun i _ hi e => hi.2 (by have e2 : i = g := e; rw [e2])
  by_cases e : i = k
  · subst e; rw [if_pos rfl, if_pos rfl]; exact hmv (hc _ (hx i hi))
  · rw [if_neg e, if_neg e]; exact hmv (hx i hi)
theorem own_slice {d : Nat} {w : World} {B : Nat} {v : Value} {l : List (Cm d)} (h : UC w B v l) (hl : 0 < l.length) : ∃ g cap, v = .slice (some ⟨g, 0, none⟩) l.length cap := by
  obtain ⟨xs, hr, _⟩ := h
  obtain ⟨g, cap, e, _⟩ := hr.form hl
  exact ⟨g, cap, e⟩
end Go.Proofs.YtgfnoinkajfndaaGreat
