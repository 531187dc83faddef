/- Fam1: texts Jn1, Jn2, Jn3 in one. -/
import Derived.Test.YtapoillhgimdiaaTData3
import Derived.Test.YtapoillhgimdiaaTData2
import Derived.Test.YtapoillhgimdiaaTCpy
import Derived.Deep.RegionHeld3
/- Walks: lists joined; copies of assertions, of the program. -/
namespace Go.Proofs.Ytapoillhgimdiaa
open Go.RowKit

set_option maxRecDepth 100000 in
set_option maxHeartbeats 800000 in
theorem joinFacts_any {S1 S2 : Nat → Prop} (v1 v2 : Value) (l1 l2 : List Fact) (w : World) (h1 : RL w S1 v1 l1) (h2 : RL w S2 v2 l2) (hn : l1.length + l2.length ≤ 16777216) :
    Calls Try.prog 198 #[v1, v2] w fun e w' => ∃ v, e = .returned v ∧ OO w' w.heap.size v (l1 ++ l2) ∧ Below w.heap.size w w' := by
  obtain ⟨a1, c1, rfl⟩ := h1.form
  obtain ⟨a2, c2, rfl⟩ := h2.form
  obtain ⟨i0, hi, hz0, hz1, hz2⟩ := info_parts info_fact
  go_enter Try.func198, Try.ntmps198
  go_wp2_with (first
    | (at_make; refine wpList_make_own _ rfl _ _ 30 rfl w.heap.size 83 i0 (.agg #[.bool false, .int .i64 0, .int .i64 0]) 3 Try.underlying30 hi hz0 hz1 _ _ _ (l1.length + l2.length) rfl rfl (by omega) (by rw [hz2]; omega) (by unfold maxLen; omega) (Nat.le_refl _) ?_; intro w1 hown hgr; have hb1 := (grown_fr hgr).below (B := w.heap.size) (Nat.le_refl _) (by intro k _ e; cases e))
    | (at_builtin; refine app_rl (l := l1) (n := 0) rfl (.tmp 12) (.tmp 13) _ rfl (B := w.heap.size) ti_fact rfl hown rfl (h1.keep hb1) (by omega) hb1.size ?_; intro v2 w2 n1 p1 q1 r1 f1 _; have hb2 := below_own hown f1 hb1 hb1.size; obtain ⟨xs, px, rx⟩ := flat_parts (flat_mk (l := l1) (app_first p1) r1))
    | (at_builtin; refine app_rl (l := l2) (n := l1.length) rfl (.tmp 14) (.tmp 15) _ rfl (B := w.heap.size) ti_fact rfl px rfl (h2.keep hb2) (by omega) hb2.size ?_; intro v3 w3 n2 p2 q2 r2 f2 _))
  have hb3 := below_own px f2 hb2 hb2.size
  have o3 := flat_app p2 px.1 rx r2
  go_ret
  exact ⟨_, rfl, ⟨_, o3, nodup_own v3⟩, hb3⟩
set_option maxRecDepth 100000 in
set_option maxHeartbeats 800000 in
theorem joinAtoms_any {S1 S2 : Nat → Prop} (v1 v2 : Value) (l1 l2 : List Atom) (w : World) (h1 : RL w S1 v1 l1) (h2 : RL w S2 v2 l2) (hn : l1.length + l2.length ≤ 16777216) :
    Calls Try.prog 199 #[v1, v2] w fun e w' => ∃ v, e = .returned v ∧ OO w' w.heap.size v (l1 ++ l2) ∧ Below w.heap.size w w' := by
  obtain ⟨a1, c1, rfl⟩ := h1.form
  obtain ⟨a2, c2, rfl⟩ := h2.form
  obtain ⟨i0, hi, hz0, hz1, hz2⟩ := info_parts info_atom
  go_enter Try.func199, Try.ntmps199
  go_wp2_with (first
    | (at_make; refine wpList_make_own _ rfl _ _ 31 rfl w.heap.size 130 i0 (.agg #[.int .i64 0, .int .i64 0, .int .i64 0]) 3 Try.underlying31 hi hz0 hz1 _ _ _ (l1.length + l2.length) rfl rfl (by omega) (by rw [hz2]; omega) (by unfold maxLen; omega) (Nat.le_refl _) ?_; intro w1 hown hgr; have hb1 := (grown_fr hgr).below (B := w.heap.size) (Nat.le_refl _) (by intro k _ e; cases e))
    | (at_builtin; refine app_rl (l := l1) (n := 0) rfl (.tmp 12) (.tmp 13) _ rfl (B := w.heap.size) ti_atom rfl hown rfl (h1.keep hb1) (by omega) hb1.size ?_; intro v2 w2 n1 p1 q1 r1 f1 _; have hb2 := below_own hown f1 hb1 hb1.size; obtain ⟨xs, px, rx⟩ := flat_parts (flat_mk (l := l1) (app_first p1) r1))
    | (at_builtin; refine app_rl (l := l2) (n := l1.length) rfl (.tmp 14) (.tmp 15) _ rfl (B := w.heap.size) ti_atom rfl px rfl (h2.keep hb2) (by omega) hb2.size ?_; intro v3 w3 n2 p2 q2 r2 f2 _))
  have hb3 := below_own px f2 hb2 hb2.size
  have o3 := flat_app p2 px.1 rx r2
  go_ret
  exact ⟨_, rfl, ⟨_, o3, nodup_own v3⟩, hb3⟩
end Go.Proofs.Ytapoillhgimdiaa
/- Walks: copies of assertions, of the program. -/
namespace Go.Proofs.Ytapoillhgimdiaa
open Go.RowKit

section
variable {α β : Type} [Own α] [Tid α] [Own β] [Tid β] {w w' w'' : World} {B B1 B2 : Nat} {v1 v2 : Value} {l1 : List α} {l2 : List β} {f1 f2 : List Nat} {a : List α × List β}
theorem OA.setB (h : OA w B v1 v2 a) {p : Addr} {u : Value} (hp : p.block < B) : OA (w.setCell p u) B v1 v2 a :=
  h.kept (fr_set _ _ _) fun k h1 _ e => by omega
/-- The two cells of a result are written. -/
theorem OA.res (h : OA w' B v1 v2 a) {R : Nat} (hR : R < B) (hB : w.heap.size ≤ R) (hb : Below w.heap.size w w') (x y : Value) :
    OA ((w'.setCell ⟨R, 0, none⟩ x).setCell ⟨R, 1, none⟩ y) w.heap.size v1 v2 a ∧ Below w.heap.size w ((w'.setCell ⟨R, 0, none⟩ x).setCell ⟨R, 1, none⟩ y) :=
  ⟨((h.setB hR).setB hR).mono (by omega), (hb.setCell hB _).setCell hB _⟩
end

end Go.Proofs.Ytapoillhgimdiaa
/- Walks: copies of families, of the program; families joined. -/
namespace Go.Proofs.Ytapoillhgimdiaa
open Go.RowKit

/-- The cells of a new block of two. -/
theorem news2 (w : World) (x y : Value) (e : TypeId) : 0 < 1 → ∃ b o, some (⟨w.heap.size, 0, none⟩ : Addr) = some ⟨b, o, none⟩ ∧ ∀ j u, [x, y][j]? = some u → (w.alloc (.cells #[x, y] e)).cell? ⟨b, o + j, none⟩ = some u := fun _ =>
  ⟨w.heap.size, 0, rfl, fun j u hj => by
    match j, hj with
    | 0, hj => simp at hj; subst hj; simp
    | 1, hj => simp at hj; subst hj; simp⟩
theorem one2 (a1 a2 : Option Addr) (n1 c1 n2 c2 : Nat) : ∀ u ∈ [Value.slice a1 n1 c1, Value.slice a2 n2 c2], u.oneCell' = true := fun u hu => by
  simp at hu
  rcases hu with rfl | rfl <;> rfl
def fmSz (l : List Asn) : Prop := ∀ a ∈ l, a.1.length ≤ 1048576 ∧ a.2.length ≤ 1048576
theorem fmSz_of {l : List Asn} (h : famB l = true) : fmSz l := fun a ha => by
  simp only [famB, Bool.and_eq_true, List.all_eq_true] at h
  have := h.2 a ha
  simp only [asnB, factsB, Bool.and_eq_true, decide_eq_true_eq] at this
  omega
theorem info_asn : (Try.prog.info? 33).map (fun i => (i.zero, i.size, i.bytes)) = some (some (.agg #[.slice none 0 0, .slice none 0 0]), 2, 48) := by kernel_rfl
theorem ti_asn : TI 62 33 2 := ti_mk Try.underlying62 info_asn (by decide) rfl (by decide)
end Go.Proofs.Ytapoillhgimdiaa
