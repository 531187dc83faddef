/- Rens2: texts Rn5, Rn6 in one. -/
import Derived.Test.YtgfnoinkajfndaaGreatARens
import Derived.Test.YtgfnoinkajfndaaGreatABase2
import Derived.Deep.WholeRow
import Derived.Test.YtgfnoinkajfndaaGreatAPerms
import Derived.Test.YtgfnoinkajfndaaGreatADraw2
import Derived.Deep.RegionHeld3
import Derived.Deep.MidRow
import Derived.Test.YtgfnoinkajfndaaGreatADraw1
import Derived.Test.YtgfnoinkajfndaaGreatACpy
/- Walks: the reference's names and renamed states. -/
namespace Go.Proofs.YtgfnoinkajfndaaGreat
open Go.RowKit

end Go.Proofs.YtgfnoinkajfndaaGreat
/- Walks: RenameState, and the reference's. -/
namespace Go.Proofs.YtgfnoinkajfndaaGreat
open Go.RowKit

def renOk (vl hl ns : List Int) : Bool := validB vl hl && namesB ns
def renSV (vl hl ns : List Int) : List Int := if renOk vl hl ns = true then renV ns vl else []
def renSH (vl hl ns : List Int) : List Int := if renOk vl hl ns = true then renH ns hl else []
theorem ownSt_nil (w : World) (B : Nat) : OwnSt w B (.slice none 0 0) (.slice none 0 0) [] [] := ⟨World.ownsRow_nil _ _ _ _, World.ownsRow_nil _ _ _ _, fun k hk => by simp [Value.ownBlock] at hk⟩
theorem names_len {ns : List Int} (h : namesB ns = true) : ns.length = 8 ∧ goodTo ns 8 = true := by
  simpa [namesB] using h
/-- A new state in the result's box. -/
theorem st_done {w w' : World} {bR g1 c1 g2 c2 : Nat} {l1 l2 : List Int} (hst : OwnSt w' (bR + 1) (.slice (some ⟨g1, 0, none⟩) 8 c1) (.slice (some ⟨g2, 0, none⟩) 8 c2) l1 l2) (hb : Below w.heap.size w w') (hlo : w.heap.size ≤ bR) :
    OwnSt ((w'.setCell ⟨bR, 0, none⟩ (.slice (some ⟨g1, 0, none⟩) 8 c1)).setCell ⟨bR, 1, none⟩ (.slice (some ⟨g2, 0, none⟩) 8 c2)) w.heap.size (.slice (some ⟨g1, 0, none⟩) 8 c1) (.slice (some ⟨g2, 0, none⟩) 8 c2) l1 l2 ∧
    Below w.heap.size w ((w'.setCell ⟨bR, 0, none⟩ (.slice (some ⟨g1, 0, none⟩) 8 c1)).setCell ⟨bR, 1, none⟩ (.slice (some ⟨g2, 0, none⟩) 8 c2)) :=
  ⟨((hst.kept (fr_set _ _ _) (fun j h1 _ e => by simp at e; omega)).kept (fr_set _ _ _) (fun j h1 _ e => by simp at e; omega)).mono (by omega), (hb.setCell (by simp; omega) _).setCell (by simp; omega) _⟩

set_option maxHeartbeats 1600000 in
theorem renameStateI_any (v1 v2 v3 : Value) (vl hl ns : List Int) (w : World) (h1 : RInts w v1 vl) (h2 : RInts w v2 hl) (h3 : RInts w v3 ns) :
    Calls Tryz.prog 9 #[.agg #[v1, v2], v3] w fun e w' => ∃ u1 u2, e = .returned (.tuple #[.agg #[u1, u2], .bool (renOk vl hl ns)]) ∧ OwnSt w' w.heap.size u1 u2 (renSV vl hl ns) (renSH vl hl ns) ∧ Below w.heap.size w w' := by
  by_cases hv : validB vl hl = true
  · by_cases hn : namesB ns = true
    · have hok : renOk vl hl ns = true := by rw [renOk, hv, hn]; rfl
      have hV : renSV vl hl ns = renV ns vl := if_pos hok
      have hH : renSH vl hl ns = renH ns hl := if_pos hok
      rw [hok, hV, hH]
      have HNL := Lib.hid (names_len hn)
      have HV := Lib.hid hv
      clear hok hV hH
      go_enter Tryz.func9, Tryz.ntmps9
      go_wp2_with (first
        | (go_at_call 29; go_must (((with_reducible refine (stateValid_any _ _ _ _ _ Rd Rd).mono ?_); rintro e w' ⟨rfl, hb⟩; (first | obtain ⟨x, rfl⟩ := to_ext2 hb | obtain ⟨x, rfl⟩ := to_ext hb); clear hb)))
        | (go_at_call 30; go_must (((with_reducible refine (readNames_any _ _ _ Rd).mono ?_); rintro e w' ⟨tl, htl, hte, rfl, hb⟩; (first | obtain ⟨x, rfl⟩ := to_ext2 hb | obtain ⟨x, rfl⟩ := to_ext hb); clear hb; have HTL := Lib.hid (And.intro htl hte); clear htl hte)))
        | (refine wpList_store_row rfl 69 _ _ rfl _ _ rfl rfl 69 _ (heap_alloc_new _ _) (by rw [sizeTab, iarr_size, HTL.out.1]) (by rw [iarr_size, HTL.out.1]; rfl) (iarr_one _) ?_; rw [World.setRow_alloc_new])
        | (refine wpList_load_row rfl 69 _ rfl _ rfl 69 _ (0, 0) _ (heap_alloc_new _ _) Tryz.underlying69 rfl (by rw [sizeTab, iarr_size, HTL.out.1]) ?_))
      obtain rfl : tl = 0 :: ns := HTL.out.2 hn
      refine (renameState_any _ _ vl hl ns _ Rd Rd HV.out HNL.out.1 HNL.out.2).mono ?_
      rintro e w2 ⟨g1, c1, g2, c2, rfl, hst, hb⟩
      have ha0 := cell_keep hb (p := ⟨w.heap.size + 1, 0, none⟩) (v := .slice none 0 0) (by simp [go_sem])
      have ha1 := cell_keep hb (p := ⟨w.heap.size + 1, 1, none⟩) (v := .slice none 0 0) (by simp [go_sem])
      have haz : ∀ i, w2.frozen? ⟨w.heap.size + 1, i, none⟩ = false := fun i => (hb.frozen (p := ⟨w.heap.size + 1, i, none⟩) (by simp [go_sem])).trans (by simp [go_sem])
      have hle := le_ext _ x
      simp at hle
      have hst1 := hst.mono (B' := w.heap.size + 1 + 1) (by first | (simp; done) | (simp; omega))
      have hbb := bt (bt (bt (ba (below_alloc w _) _) (ext_below _ x)) (below_alloc _ _)) hb
      have HD := Lib.hid (st_done hst1 hbb (by omega))
      clear hst hst1 hb hbb hle
      go_wp2
      have r := box_two (.slice (some ⟨g1, 0, none⟩) 8 c1) (.slice (some ⟨g2, 0, none⟩) 8 c2) ha0 ha1
      refine bodyPost_ret (v := .tuple #[.agg #[.slice (some ⟨g1, 0, none⟩) 8 c1, .slice (some ⟨g2, 0, none⟩) 8 c2], .bool true]) (by simp [results, Tryz.results9, go_sem, r.1, r.2]) rfl ?_
      exact ⟨_, _, rfl, HD.out⟩
    · have hn' : namesB ns = false := by simpa using hn
      have hok : renOk vl hl ns = false := by rw [renOk, hn', Bool.and_false]
      rw [renSV, renSH, hok]
      clear hok hn
      go_enter Tryz.func9, Tryz.ntmps9
      go_wp2_with (first
        | (go_at_call 29; go_must (((with_reducible refine (stateValid_any _ _ _ _ _ Rd Rd).mono ?_); rintro e w' ⟨rfl, hb⟩; (first | obtain ⟨x, rfl⟩ := to_ext2 hb | obtain ⟨x, rfl⟩ := to_ext hb); clear hb)))
        | (go_at_call 30; go_must (((with_reducible refine (readNames_any _ _ _ Rd).mono ?_); rintro e w' ⟨tl, htl, hte, rfl, hb⟩; (first | obtain ⟨x, rfl⟩ := to_ext2 hb | obtain ⟨x, rfl⟩ := to_ext hb); clear hb; have HTL := Lib.hid (And.intro htl hte); clear htl hte)))
        | (refine wpList_store_row rfl 69 _ _ rfl _ _ rfl rfl 69 _ (heap_alloc_new _ _) (by rw [sizeTab, iarr_size, HTL.out.1]) (by rw [iarr_size, HTL.out.1]; rfl) (iarr_one _) ?_; rw [World.setRow_alloc_new]))
      refine bodyPost_ret (v := .tuple #[.agg #[.slice none 0 0, .slice none 0 0], .bool false]) (by simp [results, Tryz.results9, go_sem]) rfl ?_
      exact ⟨_, _, rfl, ownSt_nil _ _, Bl⟩
  · have hv' : validB vl hl = false := by simpa using hv
    have hok : renOk vl hl ns = false := by rw [renOk, hv', Bool.false_and]
    rw [renSV, renSH, hok]
    clear hok hv
    go_enter Tryz.func9, Tryz.ntmps9
    go_wp2_with ((go_at_call 29; go_must (((with_reducible refine (stateValid_any _ _ _ _ _ Rd Rd).mono ?_); rintro e w' ⟨rfl, hb⟩; (first | obtain ⟨x, rfl⟩ := to_ext2 hb | obtain ⟨x, rfl⟩ := to_ext hb); clear hb))))
    refine bodyPost_ret (v := .tuple #[.agg #[.slice none 0 0, .slice none 0 0], .bool false]) (by simp [results, Tryz.results9, go_sem]) rfl ?_
    exact ⟨_, _, rfl, ownSt_nil _ _, Bl⟩
end Go.Proofs.YtgfnoinkajfndaaGreat
/- Cans: texts Canon, Can1, Can2 in one. -/
/- The order in which addresses are met, in plain Lean; canonical forms. -/
namespace Go.Proofs.YtgfnoinkajfndaaGreat

end Go.Proofs.YtgfnoinkajfndaaGreat
/- Walks: follow: names in the order in which addresses are met. -/
namespace Go.Proofs.YtgfnoinkajfndaaGreat
open Go.RowKit

end Go.Proofs.YtgfnoinkajfndaaGreat
/- Walks: the program's CanonState. -/
namespace Go.Proofs.YtgfnoinkajfndaaGreat
open Go.RowKit

end Go.Proofs.YtgfnoinkajfndaaGreat
/- Shapes: texts Shape, Shape2, Shape3, Shape4 in one. -/
/- Shapes, in plain Lean: the program's search. -/
namespace Go.Proofs.YtgfnoinkajfndaaGreat

end Go.Proofs.YtgfnoinkajfndaaGreat
/- Shapes, in plain Lean: the reference's search by pairs. -/
namespace Go.Proofs.YtgfnoinkajfndaaGreat

abbrev Prs := List (Int × Int)
/-- Pairs that are a partial bijection of addresses. -/
structure PI (ps : Prs) : Prop where
  adr : ∀ q ∈ ps, (1 ≤ q.1 ∧ q.1 ≤ 8) ∧ (1 ≤ q.2 ∧ q.2 ≤ 8)
  bij : ∀ q ∈ ps, ∀ r ∈ ps, (q.1 = r.1 ↔ q.2 = r.2)
def Cp (p : List Int) (ps : Prs) : Prop := ∀ q ∈ ps, nm p q.1 = q.2

theorem PI.nil : PI [] := ⟨(fun _ h => by cases h), (fun _ h => by cases h)⟩
theorem PI.snoc {ps : Prs} (h : PI ps) {x y : Int} (hx : 1 ≤ x ∧ x ≤ 8) (hy : 1 ≤ y ∧ y ≤ 8) (hn : ∀ q ∈ ps, (q.1 = x ↔ q.2 = y)) : PI (ps ++ [(x, y)]) := by
  refine ⟨fun q hq => ?_, fun q hq r hr => ?_⟩
  · rcases List.mem_append.1 hq with hq | hq
    · exact h.adr q hq
    · simp at hq; subst hq; exact ⟨hx, hy⟩
  · rcases List.mem_append.1 hq with hq | hq <;> rcases List.mem_append.1 hr with hr | hr
    · exact h.bij q hq r hr
    · simp at hr; subst hr; exact hn q hq
    · simp at hq; subst hq
      have := hn r hr
      exact ⟨fun e => (this.1 e.symm).symm, fun e => (this.2 e.symm).symm⟩
    · simp at hq hr; subst hq; subst hr; simp
theorem Cp.snoc {p : List Int} {ps : Prs} (h : Cp p ps) {x y : Int} (e : nm p x = y) : Cp p (ps ++ [(x, y)]) := by
  intro q hq
  rcases List.mem_append.1 hq with hq | hq
  · exact h q hq
  · simp at hq; subst hq; exact e
end Go.Proofs.YtgfnoinkajfndaaGreat
/- Shapes, in plain Lean: the reference's search finds what the program's finds. -/
namespace Go.Proofs.YtgfnoinkajfndaaGreat

end Go.Proofs.YtgfnoinkajfndaaGreat
/- Shapes, in plain Lean: both searches agree; equivalence; canonical forms. -/
namespace Go.Proofs.YtgfnoinkajfndaaGreat

theorem PI.sub {ps qs : Prs} (h : PI ps) (hs : ∀ q ∈ qs, q ∈ ps) : PI qs := ⟨fun q hq => h.adr q (hs q hq), fun q hq r hr => h.bij q (hs q hq) r (hs r hr)⟩

end Go.Proofs.YtgfnoinkajfndaaGreat
/- States of one shape have the same aliases and as many used, lost and cyclic cells, in plain Lean. -/
namespace Go.Proofs.YtgfnoinkajfndaaGreat

section
variable {vl hl p : List Int}
end
end Go.Proofs.YtgfnoinkajfndaaGreat
/- Walks: the cells that an atom describes. -/
namespace Go.Proofs.YtgfnoinkajfndaaGreat
open Go.RowKit

theorem tv_term {vl hl : List Int} {t : Int} (hv : validB vl hl = true) (h0 : 0 ≤ t) (h8 : t ≤ 8) : isTermB (tv vl t) = true := by
  have ha : ∀ x ∈ vl, isTermB x = true := by
    simp only [validB, Bool.and_eq_true, List.all_eq_true] at hv; exact hv.2.2.1
  rw [tv]
  split
  · rfl
  · have hl := (valid_len hv).1
    have hi : (t - 1).toNat < vl.length := by omega
    rw [gi_of hi]; exact ha _ (List.getElem_mem hi)
/-- An atom describes cells of a state. -/
def cellsB (vl hl : List Int) (x : Atom) : Bool := if x.1 = 2 then wayB hl (tv vl x.2.1) (tv vl x.2.2) else (ct hl (tv vl x.2.1) == tv vl x.2.2)
end Go.Proofs.YtgfnoinkajfndaaGreat
/- Walks: the cells that an atom describes: the reference. -/
namespace Go.Proofs.YtgfnoinkajfndaaGreat
open Go.RowKit

end Go.Proofs.YtgfnoinkajfndaaGreat
/- Walks: the part of a state that an assertion describes. -/
namespace Go.Proofs.YtgfnoinkajfndaaGreat
open Go.RowKit

theorem drop_gd {α : Type} [Inhabited α] {l : List α} {k : Nat} (h : k < l.length) : l.drop k = gd l k :: l.drop (k + 1) := by
  rw [List.drop_eq_getElem_cons h, gd_of h]
end Go.Proofs.YtgfnoinkajfndaaGreat
/- Shs1: texts Sh1, Sh2 in one. -/
/- Walks: the program's search for names: fits. -/
namespace Go.Proofs.YtgfnoinkajfndaaGreat
open Go.RowKit

section
variable {w : World} {g t : Nat} {T : TypeId} {v1 v2 u1 u2 : Value} {tl : List Int}
end

end Go.Proofs.YtgfnoinkajfndaaGreat
/- Walks: the program's search for names: from; SameShape. -/
namespace Go.Proofs.YtgfnoinkajfndaaGreat
open Go.RowKit

end Go.Proofs.YtgfnoinkajfndaaGreat
/- Shs2: texts Sh3, Sh4, Sh5 in one. -/
/- Walks: the reference's search by pairs: the next pairs; pairs without repetitions. -/
namespace Go.Proofs.YtgfnoinkajfndaaGreat
open Go.RowKit

end Go.Proofs.YtgfnoinkajfndaaGreat
/- Walks: the reference's used cells; its search by pairs. -/
namespace Go.Proofs.YtgfnoinkajfndaaGreat
open Go.RowKit

end Go.Proofs.YtgfnoinkajfndaaGreat
/- Walk: the reference's SameShape. -/
namespace Go.Proofs.YtgfnoinkajfndaaGreat
open Go.RowKit

end Go.Proofs.YtgfnoinkajfndaaGreat
/- Walks: the part of a state that an assertion describes: the reference; counts of cells. -/
namespace Go.Proofs.YtgfnoinkajfndaaGreat
open Go.RowKit

end Go.Proofs.YtgfnoinkajfndaaGreat
/- The plain law: names do not matter for what holds. -/
namespace Go.Proofs.YtgfnoinkajfndaaGreat
open Go.RowKit

theorem nm_zero (ns : List Int) : nm ns 0 = 0 := nm_not (by decide)
theorem nm_eq {ns : List Int} (hg : goodTo ns 8 = true) {u v : Int} (hu : u ≤ 8) (hv : v ≤ 8) : nm ns u = nm ns v ↔ u = v := ⟨nm_inj hg hu hv, fun e => by rw [e]⟩
theorem tvT_le {vl hl : List Int} (h : validB vl hl = true) {t : Int} (h0 : 0 ≤ t) (h8 : t ≤ 8) : 0 ≤ tv vl t ∧ tv vl t ≤ 8 := isTermB_iff.1 (tv_term h h0 h8)
theorem tvT_ren {ns vl hl : List Int} (h : validB vl hl = true) {t : Int} (h0 : 0 ≤ t) (h8 : t ≤ 8) : tv (renV ns vl) t = nm ns (tv vl t) := by
  have hl8 := (valid_len h).1
  unfold tv
  by_cases ht : t = 0
  · rw [if_pos ht, if_pos ht, nm_zero]
  · rw [if_neg ht, if_neg ht, gi_renV (by omega)]
theorem ct_le {vl hl : List Int} (h : validB vl hl = true) (v : Int) : ct hl v ≤ 8 := by
  unfold ct
  split
  · rename_i ha
    have := isAddrB_iff.1 ha
    exact (valid_hat h (by omega)).2
  · decide
theorem fact_ren {ns vl hl : List Int} (h : validB vl hl = true) (hg : goodTo ns 8 = true) {f : Fact} (hf : factB f = true) : factT (renV ns vl) f = factT vl f := by
  obtain ⟨t1, t2, t3, t4⟩ := factB_le hf
  rw [factT, factT, tvT_ren h t1 t2, tvT_ren h t3 t4]
  congr 1
  rw [Bool.eq_iff_iff, beq_iff_eq, beq_iff_eq]
  exact nm_eq hg (tvT_le h t1 t2).2 (tvT_le h t3 t4).2
end Go.Proofs.YtgfnoinkajfndaaGreat
