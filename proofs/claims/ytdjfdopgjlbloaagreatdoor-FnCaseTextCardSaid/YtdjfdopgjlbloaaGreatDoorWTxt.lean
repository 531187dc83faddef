/- Plain: texts cut at a sign and joined again; the text of a proof of a case. -/
import Derived.Test.YtdjfdopgjlbloaaGreatDoorWData1
set_option linter.unusedVariables false
namespace Go.Proofs.YtdjfdopgjlbloaaGreatDoor
open Go.RowKit

def joinT (c : UInt8) : List (List UInt8) → List UInt8
  | [] => []
  | [x] => x
  | x :: y :: r => x ++ c :: joinT c (y :: r)
def consH (b : UInt8) : List (List UInt8) → List (List UInt8)
  | [] => [[b]]
  | h :: t => (b :: h) :: t
def cutL (c : UInt8) : List UInt8 → List (List UInt8)
  | [] => [[]]
  | b :: r => if b = c then [] :: cutL c r else consH b (cutL c r)
theorem cutL_ne (c : UInt8) : ∀ s, cutL c s ≠ []
  | [] => by simp [cutL]
  | b :: r => by
    rw [cutL]; split
    · simp
    · cases h : cutL c r <;> simp [consH]
theorem joinT_consH (c b : UInt8) {l : List (List UInt8)} (h : l ≠ []) : joinT c (consH b l) = b :: joinT c l := by
  match l, h with
  | [x], _ => rfl
  | x :: y :: r, _ => rfl
theorem joinT_cons (c : UInt8) (x : List UInt8) {l : List (List UInt8)} (h : l ≠ []) : joinT c (x :: l) = x ++ c :: joinT c l := by
  match l, h with
  | y :: r, _ => rfl
theorem join_cut (c : UInt8) : ∀ s, joinT c (cutL c s) = s
  | [] => rfl
  | b :: r => by
    have ih := join_cut c r
    rw [cutL]; split
    · rename_i h; rw [joinT_cons c [] (cutL_ne c r), ih, h]; rfl
    · rw [joinT_consH c b (cutL_ne c r), ih]
theorem cutL_none {c : UInt8} : ∀ {s : List UInt8}, c ∉ s → cutL c s = [s]
  | [], _ => rfl
  | b :: r, h => by
    rw [List.mem_cons, not_or] at h
    rw [cutL, if_neg (fun e => h.1 e.symm), cutL_none h.2]; rfl
theorem cutL_app {c : UInt8} : ∀ {x : List UInt8} (s : List UInt8), c ∉ x → cutL c (x ++ c :: s) = x :: cutL c s
  | [], s, _ => by rw [List.nil_append, cutL, if_pos rfl]
  | b :: r, s, h => by
    rw [List.mem_cons, not_or] at h
    rw [List.cons_append, cutL, if_neg (fun e => h.1 e.symm), cutL_app s h.2]; rfl
theorem cut_join {c : UInt8} : ∀ {l : List (List UInt8)}, l ≠ [] → (∀ x ∈ l, c ∉ x) → cutL c (joinT c l) = l
  | [x], _, h => cutL_none (h x (by simp))
  | x :: y :: r, _, h => by
    rw [joinT_cons c x (by simp), cutL_app _ (h x (by simp)), cut_join (by simp) fun z hz => h z (List.mem_cons_of_mem _ hz)]
theorem cutL_len (c : UInt8) : ∀ s, (cutL c s).length ≤ s.length + 1
  | [] => by simp [cutL]
  | b :: r => by
    have ih := cutL_len c r
    rw [cutL]; split
    · simp; omega
    · cases hc : cutL c r with
      | nil => exact absurd hc (cutL_ne c r)
      | cons y t => rw [hc] at ih; simp [consH] at ih ⊢; omega
/-- The text of a number of one digit. -/
def numT (n : Int) : List UInt8 := if n < 0 then [45] else [UInt8.ofNat (48 + n.toNat)]
def numsT (c : UInt8) (l : List Int) : List UInt8 := joinT c (l.map numT)
theorem joinT_snoc (c : UInt8) (x : List UInt8) : ∀ {l : List (List UInt8)}, l ≠ [] → joinT c (l ++ [x]) = joinT c l ++ c :: x
  | [y], _ => rfl
  | y :: z :: r, _ => by
    rw [List.cons_append, joinT_cons c y (by simp), joinT_cons c y (by simp), joinT_snoc c x (l := z :: r) (by simp)]; simp
theorem nums_first {c : UInt8} {l : List Int} (h : 0 < l.length) : numsT c (l.take (0 + 1)) = numT (gi l 0) := by
  match l, h with
  | x :: r, _ => rfl
theorem nums_step {c : UInt8} {l : List Int} {k : Nat} (h : k < l.length) (h0 : 0 < k) : numsT c (l.take (k + 1)) = numsT c (l.take k) ++ c :: numT (gi l k) := by
  have hne : (l.take k).map numT ≠ [] := fun e => by
    have := congrArg List.length e
    rw [List.length_map, List.length_take, List.length_nil] at this; omega
  rw [numsT, take_gd h, List.map_append, List.map_singleton, joinT_snoc c _ hne, ← gi_gd]; rfl
theorem numT_len (n : Int) : (numT n).length = 1 := by rw [numT]; split <;> rfl
theorem joinT_len (c : UInt8) {l : List (List UInt8)} (h : ∀ x ∈ l, x.length = 1) : (joinT c l).length ≤ 2 * l.length := by
  match l with
  | [] => simp [joinT]
  | [x] => have := h x (by simp); simp [joinT, this]
  | x :: y :: r =>
    have ih := joinT_len c (l := y :: r) fun z hz => h z (List.mem_cons_of_mem _ hz)
    have hx := h x (by simp)
    rw [joinT_cons c x (by simp)]; simp [hx] at ih ⊢; omega
theorem nums_len (c : UInt8) (l : List Int) : (numsT c l).length ≤ 2 * l.length := by
  have := joinT_len c (l := l.map numT) fun x hx => by obtain ⟨n, _, rfl⟩ := List.mem_map.1 hx; exact numT_len n
  rwa [List.length_map] at this
abbrev Pf := List Int × List (List Int)
def smallB (l : List Int) (low : Int) : Bool := decide (l.length ≤ 9) && l.all fun n => decide (low ≤ n) && decide (n ≤ 8)
def shapedB (p : Pf) : Bool := decide (p.1.length = 9) && (smallB p.1 (-1) && (decide (p.2.length ≤ 6) && p.2.all fun u => smallB u 0))
def textB (p : Pf) : List UInt8 := joinT 32 (numsT 44 p.1 :: p.2.map (numsT 43))
def fmtB (p : Pf) : List UInt8 := if shapedB p = true then textB p else []
/-- A digit's value, of a text that is one. -/
def digO (t : List UInt8) : Option Int := match t with
  | [b] => if 48 ≤ b.toNat ∧ b.toNat ≤ 56 then some ((b.toNat : Int) - 48) else none
  | _ => none
def clsO1 (t : List UInt8) : Option Int := if t = [45] then some (-1) else digO t
def optL {α β : Type} (f : α → Option β) : List α → Option (List β)
  | [] => some []
  | x :: r => (f x).bind fun y => (optL f r).map (y :: ·)
def clsO (t : List UInt8) : Option (List Int) := if (cutL 44 t).length = 9 then optL clsO1 (cutL 44 t) else none
def useO (t : List UInt8) : Option (List Int) := if t = [] then some [] else if (cutL 43 t).length ≤ 9 then optL digO (cutL 43 t) else none
def hdL (l : List (List UInt8)) : List UInt8 := l.headD []
def parseO (t : List UInt8) : Option Pf := if (cutL 32 t).length ≤ 7 then (clsO (hdL (cutL 32 t))).bind fun c => (optL useO (cutL 32 t).tail).map fun u => (c, u) else none
theorem optL_some {α β : Type} {f : α → Option β} : ∀ {l : List α} {r : List β}, optL f l = some r ↔ l.map f = r.map some
  | [], r => by cases r <;> simp [optL]
  | x :: l, r => by
    rw [optL]
    cases hf : f x with
    | none => cases r <;> simp [hf]
    | some y =>
      rw [Option.bind_some]
      cases h : optL f l with
      | none =>
        simp only [Option.map_none, reduceCtorEq, false_iff]
        intro e
        cases r with
        | nil => cases e
        | cons z r =>
          rw [List.map_cons, List.map_cons, List.cons.injEq] at e
          rw [optL_some.2 e.2] at h; cases h
      | some q =>
        have := optL_some.1 h
        rw [Option.map_some, Option.some.injEq, List.map_cons, hf, this]
        constructor
        · rintro rfl; rfl
        · intro e
          cases r with
          | nil => cases e
          | cons z r =>
            rw [List.map_cons, List.cons.injEq, Option.some.injEq] at e
            obtain ⟨rfl, e⟩ := e
            congr 1
            exact (List.map_inj_right (fun _ _ h => Option.some.inj h)).1 e
theorem digO_some {t : List UInt8} {n : Int} : digO t = some n ↔ (0 ≤ n ∧ n ≤ 8) ∧ t = numT n := by
  constructor
  · intro h
    match t with
    | [] => cases h
    | [b] =>
      rw [digO] at h
      split at h
      · rename_i hb
        obtain rfl := Option.some.inj h
        refine ⟨by omega, ?_⟩
        rw [numT, if_neg (by omega)]
        congr 1
        apply UInt8.toNat_inj.1
        simp; omega
      · cases h
    | a :: b :: r => cases h
  · rintro ⟨⟨h1, h2⟩, rfl⟩
    rw [numT, if_neg (by omega), digO]
    have : (UInt8.ofNat (48 + n.toNat)).toNat = 48 + n.toNat := by simp; omega
    rw [this, if_pos (by omega)]; congr 1; omega
theorem clsO1_some {t : List UInt8} {n : Int} : clsO1 t = some n ↔ (-1 ≤ n ∧ n ≤ 8) ∧ t = numT n := by
  rw [clsO1]
  split
  · rename_i h
    subst h
    constructor
    · intro e; obtain rfl := Option.some.inj e; exact ⟨by omega, rfl⟩
    · rintro ⟨⟨h1, h2⟩, e⟩
      by_cases hn : n < 0
      · congr 1; omega
      · have := digO_some.2 ⟨⟨by omega, h2⟩, e⟩
        simp [digO] at this
  · rename_i h
    rw [digO_some]
    constructor
    · rintro ⟨⟨h1, h2⟩, e⟩; exact ⟨by omega, e⟩
    · rintro ⟨⟨h1, h2⟩, e⟩
      by_cases hn : n < 0
      · rw [numT, if_pos hn] at e; exact absurd e h
      · exact ⟨by omega, e⟩
theorem smallB_iff {l : List Int} {low : Int} : smallB l low = true ↔ l.length ≤ 9 ∧ ∀ n ∈ l, low ≤ n ∧ n ≤ 8 := by
  simp [smallB]
theorem numT_byte {n : Int} (h : n ≤ 8) : ∀ b ∈ numT n, b = 45 ∨ (48 ≤ b.toNat ∧ b.toNat ≤ 56) := fun b hb => by
  rw [numT] at hb
  split at hb
  · left; simpa using hb
  · right
    obtain rfl : b = UInt8.ofNat (48 + n.toNat) := by simpa using hb
    have : (UInt8.ofNat (48 + n.toNat)).toNat = 48 + n.toNat := by simp; omega
    omega
theorem joinT_byte (c : UInt8) : ∀ {l : List (List UInt8)} {b : UInt8}, b ∈ joinT c l → b = c ∨ ∃ x ∈ l, b ∈ x
  | [x], b, h => .inr ⟨x, by simp, h⟩
  | x :: y :: r, b, h => by
    rw [joinT_cons c x (by simp)] at h
    rcases List.mem_append.1 h with h | h
    · exact .inr ⟨x, by simp, h⟩
    · rcases List.mem_cons.1 h with h | h
      · exact .inl h
      · rcases joinT_byte c h with h | ⟨z, hz, h⟩
        · exact .inl h
        · exact .inr ⟨z, List.mem_cons_of_mem _ hz, h⟩
theorem numsT_byte {c : UInt8} {l : List Int} (hl : ∀ n ∈ l, n ≤ 8) : ∀ b ∈ numsT c l, b = c ∨ (b = 45 ∨ (48 ≤ b.toNat ∧ b.toNat ≤ 56)) := fun b hb => by
  rcases joinT_byte c hb with h | ⟨x, hx, h⟩
  · exact .inl h
  · obtain ⟨n, hn, rfl⟩ := List.mem_map.1 hx
    exact .inr (numT_byte (hl n hn) b h)
theorem numT_free {c : UInt8} {n : Int} (h : n ≤ 8) (h1 : c ≠ 45) (h2 : c.toNat < 48) : c ∉ numT n := fun hc => by
  rcases numT_byte h c hc with e | e
  · exact h1 e
  · omega
/-- Numbers of one digit are read back. -/
theorem cut_nums {c : UInt8} {l : List Int} (hl : ∀ n ∈ l, n ≤ 8) (h1 : c ≠ 45) (h2 : c.toNat < 48) (h0 : l ≠ []) : cutL c (numsT c l) = l.map numT :=
  cut_join (by simpa using h0) fun x hx => by obtain ⟨n, hn, rfl⟩ := List.mem_map.1 hx; exact numT_free (hl n hn) h1 h2
theorem nums_free {c d : UInt8} {l : List Int} (hl : ∀ n ∈ l, n ≤ 8) (h1 : d ≠ 45) (h2 : d.toNat < 48) (h3 : d ≠ c) : d ∉ numsT c l := fun hd => by
  rcases numsT_byte hl d hd with h | h | h
  · exact h3 h
  · exact h1 h
  · omega
structure Shaped (p : Pf) : Prop where
  c9 : p.1.length = 9
  cl : ∀ n ∈ p.1, -1 ≤ n ∧ n ≤ 8
  u6 : p.2.length ≤ 6
  u9 : ∀ u ∈ p.2, u.length ≤ 9
  ul : ∀ u ∈ p.2, ∀ n ∈ u, 0 ≤ n ∧ n ≤ 8
theorem shaped_iff {p : Pf} : shapedB p = true ↔ Shaped p := by
  simp only [shapedB, Bool.and_eq_true, decide_eq_true_eq, smallB_iff, List.all_eq_true]
  constructor
  · rintro ⟨h1, ⟨_, h2⟩, h3, h4⟩; exact ⟨h1, h2, h3, fun u hu => (h4 u hu).1, fun u hu => (h4 u hu).2⟩
  · rintro ⟨h1, h2, h3, h4, h5⟩; exact ⟨h1, ⟨by omega, h2⟩, h3, fun u hu => ⟨h4 u hu, h5 u hu⟩⟩
theorem Shaped.cut {p : Pf} (h : Shaped p) : cutL 32 (textB p) = numsT 44 p.1 :: p.2.map (numsT 43) :=
  cut_join (by simp) fun x hx => by
    rcases List.mem_cons.1 hx with rfl | hx
    · exact nums_free (fun n hn => (h.cl n hn).2) (by decide) (by decide) (by decide)
    · obtain ⟨u, hu, rfl⟩ := List.mem_map.1 hx
      exact nums_free (fun n hn => (h.ul u hu n hn).2) (by decide) (by decide) (by decide)
theorem Shaped.cls {p : Pf} (h : Shaped p) : cutL 44 (numsT 44 p.1) = p.1.map numT :=
  cut_nums (fun n hn => (h.cl n hn).2) (by decide) (by decide) (fun e => by have := h.c9; rw [e] at this; cases this)
theorem Shaped.use {p : Pf} (h : Shaped p) {u : List Int} (hu : u ∈ p.2) (h0 : u ≠ []) : cutL 43 (numsT 43 u) = u.map numT :=
  cut_nums (fun n hn => (h.ul u hu n hn).2) (by decide) (by decide) h0
theorem nums_ne {c : UInt8} {l : List Int} (h : l ≠ []) : numsT c l ≠ [] := fun e => by
  match l, h with
  | [x], _ => have := numT_len x; rw [numsT] at e; simp [joinT] at e; rw [e] at this; cases this
  | x :: y :: r, _ => rw [numsT, List.map_cons, joinT_cons c _ (by simp)] at e; simp at e
theorem text_ne {p : Pf} (h : Shaped p) : textB p ≠ [] := fun e => by
  have h1 := h.cut
  have h2 := h.cls
  rw [e] at h1
  have h3 : numsT 44 p.1 = [] := by
    simp only [cutL, List.cons.injEq] at h1; exact h1.1.symm
  exact nums_ne (fun e => by have := h.c9; rw [e] at this; cases this) h3
theorem fmt_iff {p : Pf} {t : List UInt8} (h0 : t ≠ []) : fmtB p = t ↔ Shaped p ∧ textB p = t := by
  rw [fmtB]
  by_cases hs : shapedB p = true
  · rw [if_pos hs]; exact ⟨fun e => ⟨shaped_iff.1 hs, e⟩, fun e => e.2⟩
  · rw [if_neg hs]; exact ⟨fun e => absurd e.symm h0, fun e => absurd (shaped_iff.2 e.1) hs⟩
/-- What is written is read back. -/
theorem Shaped.parse {p : Pf} (h : Shaped p) : parseO (textB p) = some p := by
  rw [parseO, h.cut]
  have hc : clsO (numsT 44 p.1) = some p.1 := by
    rw [clsO, h.cls, List.length_map, if_pos h.c9]
    rw [optL_some, List.map_map]
    exact List.map_congr_left fun n hn => clsO1_some.2 ⟨h.cl n hn, rfl⟩
  have hu : optL useO (p.2.map (numsT 43)) = some p.2 := by
    rw [optL_some, List.map_map]
    refine List.map_congr_left fun u hu => ?_
    show useO (numsT 43 u) = some u
    by_cases h0 : u = []
    · subst h0; rfl
    · rw [useO, if_neg (nums_ne h0), h.use hu h0, List.length_map, if_pos (h.u9 u hu), optL_some, List.map_map]
      exact List.map_congr_left fun n hn => digO_some.2 ⟨h.ul u hu n hn, rfl⟩
  have := h.u6
  rw [if_pos (by simp; omega)]
  show (clsO (numsT 44 p.1)).bind _ = _
  rw [hc, Option.bind_some]
  show (optL useO (p.2.map (numsT 43))).map _ = _
  rw [hu]; rfl
theorem map_some_of {α β : Type} {f : α → Option β} {g : β → α} (hg : ∀ x y, f x = some y → x = g y) : ∀ {l : List α} {r : List β}, l.map f = r.map some → l = r.map g
  | [], [], _ => rfl
  | x :: l, y :: r, h => by
    rw [List.map_cons, List.map_cons, List.cons.injEq] at h
    rw [List.map_cons, hg x y h.1, map_some_of hg h.2]
  | [], _ :: _, h => by cases h
  | _ :: _, [], h => by cases h
theorem map_some_all {α β : Type} {f : α → Option β} {P : β → Prop} (hg : ∀ x y, f x = some y → P y) : ∀ {l : List α} {r : List β}, l.map f = r.map some → ∀ y ∈ r, P y
  | [], [], _, y, hy => by cases hy
  | x :: l, z :: r, h, y, hy => by
    rw [List.map_cons, List.map_cons, List.cons.injEq] at h
    rcases List.mem_cons.1 hy with rfl | hy
    · exact hg x y h.1
    · exact map_some_all hg h.2 y hy
  | [], _ :: _, h, _, _ => by cases h
  | _ :: _, [], h, _, _ => by cases h
theorem useO_some {t : List UInt8} {u : List Int} (h : useO t = some u) : t = numsT 43 u ∧ u.length ≤ 9 ∧ ∀ n ∈ u, 0 ≤ n ∧ n ≤ 8 := by
  rw [useO] at h
  split at h
  · rename_i h0; obtain rfl := Option.some.inj h; exact ⟨h0, by simp, by simp⟩
  · split at h
    · rename_i h9
      rw [optL_some] at h
      have h1 := map_some_of (g := numT) (fun x y e => (digO_some.1 e).2) h
      have h2 := map_some_all (P := fun n => 0 ≤ n ∧ n ≤ 8) (fun x y e => (digO_some.1 e).1) h
      have h3 := join_cut 43 t
      rw [h1] at h3 h9
      exact ⟨h3.symm, by simpa using h9, h2⟩
    · cases h
theorem clsO_some {t : List UInt8} {u : List Int} (h : clsO t = some u) : t = numsT 44 u ∧ u.length = 9 ∧ ∀ n ∈ u, -1 ≤ n ∧ n ≤ 8 := by
  rw [clsO] at h
  split at h
  · rename_i h9
    rw [optL_some] at h
    have h1 := map_some_of (g := numT) (fun x y e => (clsO1_some.1 e).2) h
    have h2 := map_some_all (P := fun n => -1 ≤ n ∧ n ≤ 8) (fun x y e => (clsO1_some.1 e).1) h
    have h3 := join_cut 44 t
    rw [h1] at h3 h9
    exact ⟨h3.symm, by simpa using h9, h2⟩
  · cases h
theorem parse_shaped {t : List UInt8} {p : Pf} (h : parseO t = some p) : Shaped p ∧ textB p = t := by
  rw [parseO] at h
  split at h
  · rename_i h7
    cases hc : clsO (hdL (cutL 32 t)) with
    | none => rw [hc] at h; cases h
    | some c =>
      rw [hc, Option.bind_some] at h
      cases hu : optL useO (cutL 32 t).tail with
      | none => rw [hu] at h; cases h
      | some us =>
        rw [hu] at h
        obtain rfl := Option.some.inj h
        obtain ⟨c1, c2, c3⟩ := clsO_some hc
        rw [optL_some] at hu
        have u1 := map_some_of (g := numsT 43) (fun x y e => (useO_some e).1) hu
        have u2 := map_some_all (P := fun n => n.length ≤ 9) (fun x y e => (useO_some e).2.1) hu
        have u3 := map_some_all (P := fun u => ∀ n ∈ u, 0 ≤ n ∧ n ≤ 8) (fun x y e => (useO_some e).2.2) hu
        have hj := join_cut 32 t
        cases hk : cutL 32 t with
        | nil => exact absurd hk (cutL_ne 32 t)
        | cons x r =>
          rw [hk] at hj c1 u1 h7
          simp only [hdL, List.headD_cons, List.tail_cons, List.length_cons] at c1 u1 h7
          refine ⟨⟨c2, c3, ?_, u2, u3⟩, ?_⟩
          · have := congrArg List.length u1; rw [List.length_map] at this; show us.length ≤ 6; omega
          · rw [← hj, c1, u1]; rfl
  · cases h
theorem parse_iff {t : List UInt8} {p : Pf} : parseO t = some p ↔ Shaped p ∧ textB p = t :=
  ⟨parse_shaped, fun h => by rw [← h.2]; exact h.1.parse⟩
theorem text_len {p : Pf} (h : Shaped p) : (textB p).length ≤ 200 := by
  have key : ∀ {l : List (List UInt8)}, (∀ x ∈ l, x.length ≤ 18) → (joinT 32 l).length ≤ 19 * l.length := fun {l} => by
    induction l with
    | nil => intro; simp [joinT]
    | cons x l ih =>
      intro hl
      have ih2 := ih fun z hz => hl z (List.mem_cons_of_mem _ hz)
      have hx := hl x (by simp)
      by_cases h0 : l = []
      · subst h0; simp [joinT]; omega
      · rw [joinT_cons 32 x h0]; simp; omega
  have := key (l := numsT 44 p.1 :: p.2.map (numsT 43)) fun x hx => by
    rcases List.mem_cons.1 hx with rfl | hx
    · have := nums_len 44 p.1; have := h.c9; omega
    · obtain ⟨u, hu, rfl⟩ := List.mem_map.1 hx
      have := nums_len 43 u; have := h.u9 u hu; omega
  have h6 := h.u6
  rw [textB]
  simp only [List.length_cons, List.length_map] at this
  omega
/-- How the reference reads numbers: what is one digit, or a '-', is read as it stands. -/
structure ReadsAs (ps : List (List UInt8)) (l : List Int) : Prop where
  len : l.length = min ps.length 9
  at_ : ∀ i (n : Int), i < l.length → -1 ≤ n → n ≤ 8 → gd ps i = numT n → gi l i = n
theorem reads_back {l m : List Int} (hl : ∀ n ∈ l, -1 ≤ n ∧ n ≤ 8) (h9 : l.length ≤ 9) (h : ReadsAs (l.map numT) m) : m = l := by
  have hlen := h.len
  rw [List.length_map] at hlen
  have e : m.length = l.length := by omega
  apply List.ext_getElem e
  intro i h1 h2
  have := h.at_ i (gi l i) h1 (hl _ (gi_gd l i ▸ gd_mem h2)).1 (hl _ (gi_gd l i ▸ gd_mem h2)).2 (by rw [gd_of (by simpa using h2), List.getElem_map, gi_gd, gd_of h2])
  rw [gi_gd, gi_gd, gd_of h1, gd_of h2] at this
  exact this
end Go.Proofs.YtdjfdopgjlbloaaGreatDoor
