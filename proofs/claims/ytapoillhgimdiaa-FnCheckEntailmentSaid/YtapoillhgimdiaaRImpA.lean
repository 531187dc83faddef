/- The plain laws of proofs: what is found is accepted, and only that; the proofs of all cases. -/
import Derived.Test.YtapoillhgimdiaaRChkA
import Derived.Test.YtapoillhgimdiaaRPrvA
import Derived.Test.YtapoillhgimdiaaRData2
import Derived.Test.YtapoillhgimdiaaRCaseC
import Derived.Test.YtapoillhgimdiaaRFam2
import Derived.Deep.RegionHeld3
import Derived.Test.YtapoillhgimdiaaREnt1
import Derived.Deep.Cut
import Derived.Test.YtapoillhgimdiaaRCsA
import Derived.Test.YtapoillhgimdiaaRItrB
namespace Go.Proofs.Ytapoillhgimdiaa
open Go.RowKit

theorem step_goal {left : List Atom} (ha : Apart left) {x : Atom} {m m1 : Nat} {u : List Int} : stepO left x m u = some m1 ↔ goalU left m x = some (m1, u) := by
  constructor
  · intro h
    rw [stepO] at h
    cases hm : markM left.length u m with
    | none => rw [hm] at h; cases h
    | some m2 =>
      rw [hm] at h
      simp only at h
      split at h
      · rename_i hal
        obtain rfl : m2 = m1 := by simpa using h
        exact allow_goal ha hal hm
      · cases h
  · intro h
    obtain ⟨h1, h2⟩ := goal_allow h
    rw [stepO, h2]
    simp only
    rw [if_pos h1]
theorem check_goals {left : List Atom} (ha : Apart left) : ∀ {right : List Atom} {us : List (List Int)} {m m' : Nat}, (us.length = right.length ∧ checkO left right us m = some m') ↔ goalsU left right m = some (m', us)
  | [], us, m, m' => by
    simp only [goalsU, Option.some.injEq, Prod.mk.injEq]
    cases us with
    | nil => simp [checkO]
    | cons u r => simp
  | x :: r, [], m, m' => by
    rw [goalsU]
    constructor
    · rintro ⟨h, _⟩; simp at h
    · intro h
      cases hg : goalU left m x with
      | none => rw [hg] at h; cases h
      | some p => rw [hg] at h; simp at h
  | x :: r, u :: us, m, m' => by
    rw [goalsU, checkO]
    cases hs : stepO left x m u with
    | none =>
      constructor
      · rintro ⟨_, h⟩; cases h
      · intro h
        cases hg : goalU left m x with
        | none => rw [hg] at h; cases h
        | some p =>
          rw [hg] at h
          simp only [Option.map_eq_some_iff, Prod.mk.injEq, List.cons.injEq] at h
          obtain ⟨q, _, _, h2, _⟩ := h
          have := (step_goal ha).2 (show goalU left m x = some (p.1, u) by rw [hg, ← h2])
          rw [hs] at this; cases this
    | some m1 =>
      rw [(step_goal ha).1 hs]
      simp only [List.length_cons, Nat.add_right_cancel_iff]
      rw [check_goals ha (right := r) (us := us) (m := m1) (m' := m')]
      simp only [Option.map_eq_some_iff, Prod.mk.injEq, List.cons.injEq, true_and]
      constructor
      · intro h; exact ⟨_, h, rfl, rfl⟩
      · rintro ⟨q, h, h1, h2⟩
        rw [h, ← h1, ← h2]
theorem read_apart {a b : Asn} {cl : List Int} (ha : asnB a = true) (hb : asnB b = true) (hr : readC (termsM b) a cl = true) : Apart (filledL cl a.2) := by
  rw [readC, Bool.and_eq_true] at hr
  exact ((poss_val (M := bothM a b) ha hr.1 (both_cov ha hb).1.2).1 hr.2).apart
/-- A check accepts the proof that is found, and no other. -/
theorem check_prov {a b : Asn} {p : CPf} : checkC a b p = true ↔ provC a b p.1 = some p.2 := by
  rw [checkC, provC]
  simp only [Bool.and_eq_true, decide_eq_true_eq]
  constructor
  · rintro ⟨h1, h2, h3, h4, h5, h6⟩
    rw [if_pos ⟨h1, h2, h3⟩, matchC, if_pos h4, mtchF]
    cases hc : checkO (filledL p.1 a.2) (filledL p.1 b.2) p.2 0 with
    | none => rw [hc] at h6; cases h6
    | some m =>
      rw [(check_goals (read_apart h1 h2 h3)).1 ⟨h5, hc⟩]
      rw [hc] at h6
      simp only
      rw [if_pos (show ((List.range (filledL p.1 a.2).length).all fun k => m.testBit k) = true from h6)]
  · intro h
    by_cases hc : asnB a = true ∧ asnB b = true ∧ readC (termsM b) a p.1 = true
    · rw [if_pos hc, matchC] at h
      obtain ⟨h1, h2, h3⟩ := hc
      by_cases hf : b.1.all (factC p.1) = true
      · rw [if_pos hf, mtchF] at h
        cases hg : goalsU (filledL p.1 a.2) (filledL p.1 b.2) 0 with
        | none => rw [hg] at h; cases h
        | some q =>
          rw [hg] at h
          simp only at h
          split at h
          · rename_i hb
            have e : q.2 = p.2 := by simpa using h
            obtain ⟨k1, k2⟩ := (check_goals (read_apart h1 h2 h3)).2 (show goalsU (filledL p.1 a.2) (filledL p.1 b.2) 0 = some (q.1, p.2) by rw [hg, ← e])
            exact ⟨h1, h2, h3, hf, k1, by rw [k2]; exact hb⟩
          · cases h
      · rw [if_neg hf] at h; cases h
    · rw [if_neg hc] at h; cases h
/-- The proofs of all cases. -/
def provE (a b : Asn) : List CPf := if entB a b = true then (casesL (bothM a b) a).map (proveR a b) else []
/-- Accepted proofs show the entailment, and each is accepted. -/
theorem chk_ent {a b : Asn} {ps : List CPf} (h : chkE a b ps = true) : entB a b = true ∧ ∀ p ∈ ps, checkC a b p = true := by
  rw [chkE, Bool.and_eq_true, Bool.and_eq_true, chkL, Bool.and_eq_true, decide_eq_true_eq, List.all_eq_true] at h
  obtain ⟨ha, hb, he, hall⟩ := h
  refine ⟨?_, hall⟩
  rw [entB, ha, hb, Bool.true_and, Bool.true_and, Option.isNone_iff_eq_none, failO, List.find?_eq_none]
  intro cl hc
  rw [← he, List.mem_map] at hc
  obtain ⟨p, hp, rfl⟩ := hc
  have h2 := check_prov.1 (hall p hp)
  rw [provC] at h2
  split at h2
  · rw [failC, h2]; simp
  · cases h2
theorem prove_small (a b : Asn) (cl : List Int) : Mk.size (proveR a b cl) ≤ 60 := by
  cases hp : provC a b cl with
  | none => rw [proveR, hp]; show 0 + (0 + 0) ≤ 60; omega
  | some us =>
    obtain ⟨⟨⟨ha, hb⟩, hr⟩, _, m, hall⟩ := provC_some hp
    have h6 := Nat.le_trans (filledL_len cl a.2) (asn_all' ha).2
    have hr6 := Nat.le_trans (filledL_len cl b.2) (asn_all' hb).2
    have hs := sum_six us (goals_all h6 hall)
    have hl := goals_len hall
    have hc := read_len hr
    rw [proveR, hp]
    show cl.length + (us.length + (us.map (Mk.size (α := List Int))).sum) ≤ 60
    omega
theorem cases_many (a b : Asn) : (casesL (bothM a b) a).length ≤ 100000000 := by
  rw [open_cases (both_zero a b)]; exact rest_len
theorem sum_cap {α : Type} {f : α → Nat} {c : Nat} : ∀ (l : List α), (∀ x ∈ l, f x ≤ c) → (l.map f).sum ≤ c * l.length
  | [], _ => by simp
  | x :: r, h => by
    have h1 := sum_cap r fun u hu => h u (List.mem_cons_of_mem _ hu)
    have h2 := h x List.mem_cons_self
    simp only [List.map_cons, List.sum_cons, List.length_cons, Nat.mul_succ]
    omega
theorem provE_size (a b : Asn) : Mk.size (provE a b) ≤ 6100000000 ∧ ((provE a b).length ≤ 100000000 ∧ ∀ x ∈ provE a b, Mk.size x ≤ 1048576) := by
  have hall : ∀ x ∈ provE a b, Mk.size x ≤ 60 := by
    intro x hx
    rw [provE] at hx
    split at hx
    · rw [List.mem_map] at hx
      obtain ⟨cl, _, rfl⟩ := hx
      exact prove_small a b cl
    · cases hx
  have hlen : (provE a b).length ≤ 100000000 := by
    rw [provE]
    split
    · rw [List.length_map]; exact cases_many a b
    · simp
  have hs := sum_cap (provE a b) hall
  refine ⟨?_, hlen, fun x hx => Nat.le_trans (hall x hx) (by decide)⟩
  show (provE a b).length + ((provE a b).map Mk.size).sum ≤ 6100000000
  omega
end Go.Proofs.Ytapoillhgimdiaa
/- CaseD: texts Case15, Case16 in one. -/
/- Laws of the helpers: proofs of cases. -/
namespace Go.Proofs.Ytapoillhgimdiaa
open Go.RowKit

end Go.Proofs.Ytapoillhgimdiaa
/- Laws of the helpers: lists of proofs of cases. Printed by gen_cps.py. -/
namespace Go.Proofs.Ytapoillhgimdiaa
open Go.RowKit

theorem info_CaseProofS : (Try.prog.info? 46).map (fun i => (i.zero, i.size, i.bytes)) = some (some (.agg #[.slice none 0 0, .slice none 0 0]), 2, 48) := by kernel_rfl
end Go.Proofs.Ytapoillhgimdiaa
/- Fam3: texts StarI, StarS, StarI2 in one. -/
/- Walks: the program's separating conjunction. -/
namespace Go.Proofs.Ytapoillhgimdiaa
open Go.RowKit

theorem OL.set2 {α : Type} [Own α] [Tid α] {w : World} {B : Nat} {v : Value} {l : List α} {fp : List Nat} (h : OL w B v l fp) {t : Nat} (ht : ∀ k ∈ fp, ¬ k = t) (x y : Value) :
    OL ((w.setCell ⟨t, 0, none⟩ x).setCell ⟨t, 1, none⟩ y) B v l fp :=
  (h.okept (fr_set _ _ _) fun k hk e => ht k hk e).okept (fr_set _ _ _) fun k hk e => ht k hk e

end Go.Proofs.Ytapoillhgimdiaa
/- Walks: the products of two families, in the reference. -/
namespace Go.Proofs.Ytapoillhgimdiaa
open Go.RowKit

end Go.Proofs.Ytapoillhgimdiaa
/- Walks: the products of two families, in the program. -/
namespace Go.Proofs.Ytapoillhgimdiaa
open Go.RowKit

theorem news2g (w : World) (g : Nat) (x y : Value) (e : TypeId) (h : w.heap.size = g) : 0 < 1 → ∃ b o, some (⟨g, 0, none⟩ : Addr) = some ⟨b, o, none⟩ ∧ ∀ j u, [x, y][j]? = some u → (w.alloc (.cells #[x, y] e)).cell? ⟨b, o + j, none⟩ = some u := by
  subst h; exact news2 w x y e

end Go.Proofs.Ytapoillhgimdiaa
/- SplA: texts Split1, Split2 in one. -/
/- Walks: assertions with one fact more; the other way of a fact. -/
namespace Go.Proofs.Ytapoillhgimdiaa
open Go.RowKit

end Go.Proofs.Ytapoillhgimdiaa
/- Walks: an assertion divided by a fact: the program. -/
namespace Go.Proofs.Ytapoillhgimdiaa
open Go.RowKit

/-- An owned list all of whose blocks lie outside some others. -/
def PX {α : Type} [Own α] [Tid α] (w : World) (B : Nat) (v : Value) (l : List α) (F : List Nat) : Prop :=
  ∃ (xs : List Value) (fps : List (List Nat)), w.ownsRow B (Tid.tid α) (Dat.sz α) v l.length xs ∧ fps.length = l.length ∧ (v.ownBlock.toList ++ fps.flatten).Nodup ∧
    (∀ i, i < l.length → Own.own w B (gd l i) (nth (Dat.sz α) xs i) (gd fps i)) ∧ ∀ k ∈ v.ownBlock.toList ++ fps.flatten, ¬ k ∈ F
section
variable {α : Type} [Own α] [Tid α] {w w' : World} {B : Nat} {v : Value} {l : List α} {F F' : List Nat}
theorem PX.nil (w : World) (B : Nat) (F : List Nat) : PX w B (.slice none 0 0) ([] : List α) F :=
  ⟨[], [], World.ownsRow_nil _ _ _ _, rfl, by simp [Value.ownBlock], fun i hi => absurd hi (by simp), by simp [Value.ownBlock]⟩
theorem PX.keep (h : PX w B v l F) (hb : Below w.heap.size w w') : PX w' B v l F := by
  obtain ⟨xs, fps, hr, hl, hn, ho, hF⟩ := h
  exact ⟨xs, fps, own_keep hr hb, hl, hn, fun i hi => Own.okept (ho i hi) (Below.fr hb) fun _ _ h => h, hF⟩
theorem PX.done (h : PX w B v l F) : OO w B v l := by
  obtain ⟨xs, fps, hr, hl, hn, ho, _⟩ := h
  exact ⟨_, ⟨xs, fps, hr, hl, rfl, ho⟩, hn⟩
theorem PX.form (h : PX w B v l F) : ∃ a cap, v = .slice a l.length cap := h.done.form
theorem PX.grow (h : PX w B v l F) (hFl : ∀ k ∈ F, k < w.heap.size) :
    ∃ xs, w.ownsRow B (Tid.tid α) (Dat.sz α) v l.length xs ∧ ∀ (x : α) (cs : List Value) (fx : List Nat) (v' : Value) (w3 : World), Own.own w B x cs fx → fx.Nodup → (∀ k ∈ fx, k ∈ F) → (∀ k ∈ F', k ∈ F) → (∀ k ∈ fx, ¬ k ∈ F') →
      Fr (fun k => some k = v.ownBlock) w w3 → w3.ownsRow B (Tid.tid α) (Dat.sz α) v' (l.length + 1) (xs ++ cs) → (v'.ownBlock = v.ownBlock ∨ v'.ownBlock = some w.heap.size) → PX w3 B v' (l ++ [x]) F' := by
  obtain ⟨xs, fps, hr, hfl, hn, ho, hF⟩ := h
  refine ⟨xs, hr, fun x cs fx v' w3 hx hfx hin hsub hdis hf hr3 hlie => ?_⟩
  have hlt1 : ∀ k ∈ fps.flatten, k < w.heap.size := fun k hk => by
    obtain ⟨i, hi, hm⟩ := flat_mem hk
    exact (Own.lt (ho i (by omega)) k hm).2
  have hn0 := List.nodup_append.1 hn
  have hvl : ∀ k, some k = v.ownBlock → k < w.heap.size := fun k hk => (own_lt hr hk).2
  refine ⟨xs ++ cs, fps ++ [fx], by rw [List.length_append]; exact hr3, by simp [hfl], ?_, fun i hi => ?_, fun k hk => ?_⟩
  · rw [List.flatten_append, List.flatten_cons, List.flatten_nil, List.append_nil]
    refine List.nodup_append.2 ⟨nodup_own v', List.nodup_append.2 ⟨hn0.2.1, hfx, fun a ha b hb e => ?_⟩, fun a ha b hb2 e => ?_⟩
    · subst e; exact hF a (List.mem_append_right _ ha) (hin a hb)
    · subst e
      have ha' := mem_ownBlock.1 ha
      rcases hlie with h | h
      · rw [h] at ha'
        rcases List.mem_append.1 hb2 with hm | hm
        · exact hn0.2.2 a (mem_ownBlock.2 ha') a hm rfl
        · exact hF a (List.mem_append_left _ (mem_ownBlock.2 ha')) (hin a hm)
      · rw [h] at ha'
        injection ha' with ha'
        rcases List.mem_append.1 hb2 with hm | hm
        · have := hlt1 a hm; omega
        · have := hFl a (hin a hm); omega
  · rw [List.length_append, List.length_singleton] at hi
    by_cases hlt : i < l.length
    · rw [gd_app1 hlt, gd_app1 (by omega), nth_app1 hr.1 hlt]
      refine Own.okept (ho i hlt) hf fun k hk e => ?_
      exact hn0.2.2 k (mem_ownBlock.2 e) k (mem_flat (by omega) hk) rfl
    · obtain rfl : i = l.length := by omega
      rw [gd_snoc, nth_app2 hr.1 (Dat.len (Own.read hx)), ← hfl, gd_snoc]
      exact Own.okept hx hf fun k hk e => hF k (List.mem_append_left _ (mem_ownBlock.2 e)) (hin k hk)
  · rw [List.flatten_append, List.flatten_cons, List.flatten_nil, List.append_nil] at hk
    rcases List.mem_append.1 hk with hk | hk
    · rcases hlie with h | h
      · rw [h] at hk
        exact fun hk2 => hF k (List.mem_append_left _ hk) (hsub k hk2)
      · rw [h] at hk
        have e : k = w.heap.size := by simpa using hk
        intro hk2
        have := hFl k (hsub k hk2)
        omega
    · rcases List.mem_append.1 hk with hk | hk
      · exact fun hk2 => hF k (List.mem_append_right _ hk) (hsub k hk2)
      · exact hdis k hk
end
end Go.Proofs.Ytapoillhgimdiaa
/- ImpA: texts Imp, ImpI in one. -/
/- The plain law of splitting: the parts of an assertion, and what it implies. -/
namespace Go.Proofs.Ytapoillhgimdiaa
open Go.RowKit

end Go.Proofs.Ytapoillhgimdiaa
/- Walks: whether an assertion implies a fact: the program. -/
namespace Go.Proofs.Ytapoillhgimdiaa
open Go Go.RowKit

attribute [local go_sem] Oper.semAt_some
/-- One result variable, a cell. -/
theorem res_one {P : Program} {fn : Func} {p : Tmp} (h : fn.results = #[.cell p 4]) {tmps : Array Value} {W : World} {D g : Nat} {b : Bool} (hP : P = Try.prog)
    (hp : tmps.getD p undef = .pointer (some ⟨g, 0, none⟩)) (h2 : W.cell? ⟨g, 0, none⟩ = some (.bool b)) (d1 : ¬ g = D) :
    (results fn tmps).run P (W.putObj D (.deferred none)) = .ok (.bool b) (W.putObj D (.deferred none)) := by
  subst hP
  have hp' : tmps[p]?.getD undef = .pointer (some ⟨g, 0, none⟩) := by simpa using hp
  simp [results, h, hp', asAddr, load_bool ((fr_put W D _).cell d1 h2)]
end Go.Proofs.Ytapoillhgimdiaa
