/- Walks: RenameState, and the reference's. -/
import Derived.Test.YtnhhfbhhglhocaaRn5
import Derived.Deep.WholeRow
namespace Go.Proofs.Ytnhhfbhhglhocaa
open Go.RowKit

def renOk (vl hl ns : List Int) : Bool := validB vl hl && namesB ns
def renSV (vl hl ns : List Int) : List Int := if renOk vl hl ns = true then renV ns vl else []
def renSH (vl hl ns : List Int) : List Int := if renOk vl hl ns = true then renH ns hl else []
theorem renS_len (vl hl ns : List Int) : (renSV vl hl ns).length ≤ 8 ∧ (renSH vl hl ns).length ≤ 8 := by
  unfold renSV renSH
  split
  · rename_i h
    have hv : validB vl hl = true := by simp [renOk] at h; exact h.1
    have := valid_len hv
    rw [renV_len, renH_len]; omega
  · simp
theorem ownSt_kept {w w' : World} {B : Nat} {v1 v2 : Value} {l1 l2 : List Int} {S : Nat → Prop} (h : OwnSt w B v1 v2 l1 l2) (hf : Fr S w w') (h1 : ∀ k, some k = v1.ownBlock → ¬ S k) (h2 : ∀ k, some k = v2.ownBlock → ¬ S k) : OwnSt w' B v1 v2 l1 l2 :=
  ⟨own_kept h.one hf h1, own_kept h.two hf h2, h.apart⟩
theorem ownSt_nil (w : World) (B : Nat) : OwnSt w B (.slice none 0 0) (.slice none 0 0) [] [] := ⟨World.ownsRow_nil _ _ _ _, World.ownsRow_nil _ _ _ _, fun k hk => by simp [Value.ownBlock] at hk⟩
theorem names_len {ns : List Int} (h : namesB ns = true) : ns.length = 8 ∧ goodTo ns 8 = true := by
  simpa [namesB] using h
/-- A new state in the result's box. -/
theorem st_done {w w' : World} {bR g1 c1 g2 c2 : Nat} {l1 l2 : List Int} (hst : OwnSt w' (bR + 1) (.slice (some ⟨g1, 0, none⟩) 8 c1) (.slice (some ⟨g2, 0, none⟩) 8 c2) l1 l2) (hb : Below w.heap.size w w') (hlo : w.heap.size ≤ bR) :
    OwnSt ((w'.setCell ⟨bR, 0, none⟩ (.slice (some ⟨g1, 0, none⟩) 8 c1)).setCell ⟨bR, 1, none⟩ (.slice (some ⟨g2, 0, none⟩) 8 c2)) w.heap.size (.slice (some ⟨g1, 0, none⟩) 8 c1) (.slice (some ⟨g2, 0, none⟩) 8 c2) l1 l2 ∧
    Below w.heap.size w ((w'.setCell ⟨bR, 0, none⟩ (.slice (some ⟨g1, 0, none⟩) 8 c1)).setCell ⟨bR, 1, none⟩ (.slice (some ⟨g2, 0, none⟩) 8 c2)) :=
  ⟨((hst.kept (fr_set _ _ _) (fun j h1 _ e => by simp at e; omega)).kept (fr_set _ _ _) (fun j h1 _ e => by simp at e; omega)).mono (by omega), (hb.setCell (by simp; omega) _).setCell (by simp; omega) _⟩

set_option maxHeartbeats 1600000 in
theorem renameStateI_any (v1 v2 v3 : Value) (vl hl ns : List Int) (w : World) (h1 : RInts w v1 vl) (h2 : RInts w v2 hl) (h3 : RInts w v3 ns) :
    Calls Try.prog 51 #[.agg #[v1, v2], v3] w fun e w' => ∃ u1 u2, e = .returned (.tuple #[.agg #[u1, u2], .bool (renOk vl hl ns)]) ∧ OwnSt w' w.heap.size u1 u2 (renSV vl hl ns) (renSH vl hl ns) ∧ Below w.heap.size w w' := by
  by_cases hv : validB vl hl = true
  · by_cases hn : namesB ns = true
    · have hok : renOk vl hl ns = true := by rw [renOk, hv, hn]; rfl
      have hV : renSV vl hl ns = renV ns vl := if_pos hok
      have hH : renSH vl hl ns = renH ns hl := if_pos hok
      rw [hok, hV, hH]
      have HNL := Lib.hid (names_len hn)
      have HV := Lib.hid hv
      clear hok hV hH
      go_enter Try.func51, Try.ntmps51
      go_wp2_with (first
        | (go_at_call 27; go_must (((with_reducible refine (stateValid_any _ _ _ _ _ (by repeat (first | with_reducible assumption | exact (own_ints (by assumption)).1 | apply rints_ext | apply rints_alloc | apply rints_drew)) (by repeat (first | with_reducible assumption | exact (own_ints (by assumption)).1 | apply rints_ext | apply rints_alloc | apply rints_drew))).mono ?_); rintro e w' ⟨rfl, hb⟩; (first | obtain ⟨x, rfl⟩ := to_ext2 hb | obtain ⟨x, rfl⟩ := to_ext hb); clear hb)))
        | (go_at_call 113; go_must (((with_reducible refine (readNames_any _ _ _ (by repeat (first | with_reducible assumption | exact (own_ints (by assumption)).1 | apply rints_ext | apply rints_alloc | apply rints_drew))).mono ?_); rintro e w' ⟨tl, htl, hte, rfl, hb⟩; (first | obtain ⟨x, rfl⟩ := to_ext2 hb | obtain ⟨x, rfl⟩ := to_ext hb); clear hb; have HTL := Lib.hid (And.intro htl hte); clear htl hte)))
        | (refine wpList_store_row rfl 88 _ _ rfl _ _ rfl rfl 88 _ (heap_alloc_new _ _) (by rw [sizeTab, iarr_size, HTL.out.1]) (by rw [iarr_size, HTL.out.1]; rfl) (iarr_one _) ?_; rw [World.setRow_alloc_new])
        | (refine wpList_load_row rfl 88 _ rfl _ rfl 88 _ (0, 0) _ (heap_alloc_new _ _) Try.underlying88 rfl (by rw [sizeTab, iarr_size, HTL.out.1]) ?_))
      obtain rfl : tl = 0 :: ns := HTL.out.2 hn
      refine (renameState_any _ _ vl hl ns _ (by repeat (first | with_reducible assumption | exact (own_ints (by assumption)).1 | apply rints_ext | apply rints_alloc | apply rints_drew)) (by repeat (first | with_reducible assumption | exact (own_ints (by assumption)).1 | apply rints_ext | apply rints_alloc | apply rints_drew)) HV.out HNL.out.1 HNL.out.2).mono ?_
      rintro e w2 ⟨g1, c1, g2, c2, rfl, hst, hb⟩
      have ha0 := cell_keep hb (p := ⟨w.heap.size + 1, 0, none⟩) (v := .slice none 0 0) (by simp [go_sem])
      have ha1 := cell_keep hb (p := ⟨w.heap.size + 1, 1, none⟩) (v := .slice none 0 0) (by simp [go_sem])
      have haz : ∀ i, w2.frozen? ⟨w.heap.size + 1, i, none⟩ = false := fun i => (hb.frozen (p := ⟨w.heap.size + 1, i, none⟩) (by simp [go_sem])).trans (by simp [go_sem])
      have hle := le_ext _ x
      simp at hle
      have hst1 := hst.mono (B' := w.heap.size + 1 + 1) (by first | (simp; done) | (simp; omega))
      have hbb := bt (bt (bt (ba (below_alloc w _) _) (ext_below _ x)) (below_alloc _ _)) hb
      have HD := Lib.hid (st_done hst1 hbb (by omega))
      clear hst hst1 hb hbb hle
      go_wp2
      have r := box_two (.slice (some ⟨g1, 0, none⟩) 8 c1) (.slice (some ⟨g2, 0, none⟩) 8 c2) ha0 ha1
      refine bodyPost_ret (v := .tuple #[.agg #[.slice (some ⟨g1, 0, none⟩) 8 c1, .slice (some ⟨g2, 0, none⟩) 8 c2], .bool true]) (by simp [results, Try.results51, go_sem, r.1, r.2]) rfl ?_
      exact ⟨_, _, rfl, HD.out⟩
    · have hn' : namesB ns = false := by simpa using hn
      have hok : renOk vl hl ns = false := by rw [renOk, hn', Bool.and_false]
      rw [renSV, renSH, hok]
      clear hok hn
      go_enter Try.func51, Try.ntmps51
      go_wp2_with (first
        | (go_at_call 27; go_must (((with_reducible refine (stateValid_any _ _ _ _ _ (by repeat (first | with_reducible assumption | exact (own_ints (by assumption)).1 | apply rints_ext | apply rints_alloc | apply rints_drew)) (by repeat (first | with_reducible assumption | exact (own_ints (by assumption)).1 | apply rints_ext | apply rints_alloc | apply rints_drew))).mono ?_); rintro e w' ⟨rfl, hb⟩; (first | obtain ⟨x, rfl⟩ := to_ext2 hb | obtain ⟨x, rfl⟩ := to_ext hb); clear hb)))
        | (go_at_call 113; go_must (((with_reducible refine (readNames_any _ _ _ (by repeat (first | with_reducible assumption | exact (own_ints (by assumption)).1 | apply rints_ext | apply rints_alloc | apply rints_drew))).mono ?_); rintro e w' ⟨tl, htl, hte, rfl, hb⟩; (first | obtain ⟨x, rfl⟩ := to_ext2 hb | obtain ⟨x, rfl⟩ := to_ext hb); clear hb; have HTL := Lib.hid (And.intro htl hte); clear htl hte)))
        | (refine wpList_store_row rfl 88 _ _ rfl _ _ rfl rfl 88 _ (heap_alloc_new _ _) (by rw [sizeTab, iarr_size, HTL.out.1]) (by rw [iarr_size, HTL.out.1]; rfl) (iarr_one _) ?_; rw [World.setRow_alloc_new]))
      refine bodyPost_ret (v := .tuple #[.agg #[.slice none 0 0, .slice none 0 0], .bool false]) (by simp [results, Try.results51, go_sem]) rfl ?_
      exact ⟨_, _, rfl, ownSt_nil _ _, (by repeat (first | exact Below.refl _ _ | with_reducible assumption | exact below_alloc _ _ | (refine Below.setCell ?_ (by first | (simp; done) | (simp; omega) | omega) _) | apply bd | apply ba | apply be))⟩
  · have hv' : validB vl hl = false := by simpa using hv
    have hok : renOk vl hl ns = false := by rw [renOk, hv', Bool.false_and]
    rw [renSV, renSH, hok]
    clear hok hv
    go_enter Try.func51, Try.ntmps51
    go_wp2_with ((go_at_call 27; go_must (((with_reducible refine (stateValid_any _ _ _ _ _ (by repeat (first | with_reducible assumption | exact (own_ints (by assumption)).1 | apply rints_ext | apply rints_alloc | apply rints_drew)) (by repeat (first | with_reducible assumption | exact (own_ints (by assumption)).1 | apply rints_ext | apply rints_alloc | apply rints_drew))).mono ?_); rintro e w' ⟨rfl, hb⟩; (first | obtain ⟨x, rfl⟩ := to_ext2 hb | obtain ⟨x, rfl⟩ := to_ext hb); clear hb))))
    refine bodyPost_ret (v := .tuple #[.agg #[.slice none 0 0, .slice none 0 0], .bool false]) (by simp [results, Try.results51, go_sem]) rfl ?_
    exact ⟨_, _, rfl, ownSt_nil _ _, (by repeat (first | exact Below.refl _ _ | with_reducible assumption | exact below_alloc _ _ | (refine Below.setCell ?_ (by first | (simp; done) | (simp; omega) | omega) _) | apply bd | apply ba | apply be))⟩
set_option maxHeartbeats 1600000 in
theorem renameStateS_any (v1 v2 v3 : Value) (vl hl ns : List Int) (w : World) (h1 : RInts w v1 vl) (h2 : RInts w v2 hl) (h3 : RInts w v3 ns) :
    Calls Try.prog 52 #[.agg #[v1, v2], v3] w fun e w' => ∃ u1 u2, e = .returned (.tuple #[.agg #[u1, u2], .bool (renOk vl hl ns)]) ∧ OwnSt w' w.heap.size u1 u2 (renSV vl hl ns) (renSH vl hl ns) ∧ Below w.heap.size w w' := by
  by_cases hv : validB vl hl = true
  · by_cases hn : namesB ns = true
    · have hok : renOk vl hl ns = true := by rw [renOk, hv, hn]; rfl
      have hV : renSV vl hl ns = renV ns vl := if_pos hok
      have hH : renSH vl hl ns = renH ns hl := if_pos hok
      rw [hok, hV, hH]
      have HNL := Lib.hid (names_len hn)
      have HV := Lib.hid hv
      clear hok hV hH
      go_enter Try.func52, Try.ntmps52
      go_wp2_with (first
        | (go_at_call 58; go_must (((with_reducible refine (specStateValid_any _ _ _ _ _ (by repeat (first | with_reducible assumption | exact (own_ints (by assumption)).1 | apply rints_ext | apply rints_alloc | apply rints_drew)) (by repeat (first | with_reducible assumption | exact (own_ints (by assumption)).1 | apply rints_ext | apply rints_alloc | apply rints_drew))).mono ?_); rintro e w' ⟨rfl, hb⟩; (first | obtain ⟨x, rfl⟩ := to_ext2 hb | obtain ⟨x, rfl⟩ := to_ext hb); clear hb)))
        | (go_at_call 114; go_must (((with_reducible refine (l15Names_any _ _ _ (by repeat (first | with_reducible assumption | exact (own_ints (by assumption)).1 | apply rints_ext | apply rints_alloc | apply rints_drew))).mono ?_); rintro e w' ⟨rfl, hb⟩; (first | obtain ⟨x, rfl⟩ := to_ext2 hb | obtain ⟨x, rfl⟩ := to_ext hb); clear hb))))
      refine (l15Rename_any _ _ _ vl hl ns _ (by repeat (first | with_reducible assumption | exact (own_ints (by assumption)).1 | apply rints_ext | apply rints_alloc | apply rints_drew)) (by repeat (first | with_reducible assumption | exact (own_ints (by assumption)).1 | apply rints_ext | apply rints_alloc | apply rints_drew)) (by repeat (first | with_reducible assumption | exact (own_ints (by assumption)).1 | apply rints_ext | apply rints_alloc | apply rints_drew)) HV.out HNL.out.1 HNL.out.2).mono ?_
      rintro e w2 ⟨g1, c1, g2, c2, rfl, hst, hb⟩
      have ha0 := cell_keep hb (p := ⟨w.heap.size + 1, 0, none⟩) (v := .slice none 0 0) (by simp [go_sem])
      have ha1 := cell_keep hb (p := ⟨w.heap.size + 1, 1, none⟩) (v := .slice none 0 0) (by simp [go_sem])
      have haz : ∀ i, w2.frozen? ⟨w.heap.size + 1, i, none⟩ = false := fun i => (hb.frozen (p := ⟨w.heap.size + 1, i, none⟩) (by simp [go_sem])).trans (by simp [go_sem])
      have hle := le_ext _ x
      simp at hle
      have hst1 := hst.mono (B' := w.heap.size + 1 + 1) (by first | (simp; done) | (simp; omega) | omega)
      have hbb := bt (bt (ba (below_alloc w _) _) (ext_below _ x)) hb
      have HD := Lib.hid (st_done hst1 hbb (by omega))
      clear hst hst1 hb hbb hle
      go_wp2
      have r := box_two (.slice (some ⟨g1, 0, none⟩) 8 c1) (.slice (some ⟨g2, 0, none⟩) 8 c2) ha0 ha1
      refine bodyPost_ret (v := .tuple #[.agg #[.slice (some ⟨g1, 0, none⟩) 8 c1, .slice (some ⟨g2, 0, none⟩) 8 c2], .bool true]) (by simp [results, Try.results52, go_sem, r.1, r.2]) rfl ?_
      exact ⟨_, _, rfl, HD.out⟩
    · have hn' : namesB ns = false := by simpa using hn
      have hok : renOk vl hl ns = false := by rw [renOk, hn', Bool.and_false]
      rw [renSV, renSH, hok]
      clear hok hn
      go_enter Try.func52, Try.ntmps52
      go_wp2_with (first
        | (go_at_call 58; go_must (((with_reducible refine (specStateValid_any _ _ _ _ _ (by repeat (first | with_reducible assumption | exact (own_ints (by assumption)).1 | apply rints_ext | apply rints_alloc | apply rints_drew)) (by repeat (first | with_reducible assumption | exact (own_ints (by assumption)).1 | apply rints_ext | apply rints_alloc | apply rints_drew))).mono ?_); rintro e w' ⟨rfl, hb⟩; (first | obtain ⟨x, rfl⟩ := to_ext2 hb | obtain ⟨x, rfl⟩ := to_ext hb); clear hb)))
        | (go_at_call 114; go_must (((with_reducible refine (l15Names_any _ _ _ (by repeat (first | with_reducible assumption | exact (own_ints (by assumption)).1 | apply rints_ext | apply rints_alloc | apply rints_drew))).mono ?_); rintro e w' ⟨rfl, hb⟩; (first | obtain ⟨x, rfl⟩ := to_ext2 hb | obtain ⟨x, rfl⟩ := to_ext hb); clear hb))))
      refine bodyPost_ret (v := .tuple #[.agg #[.slice none 0 0, .slice none 0 0], .bool false]) (by simp [results, Try.results52, go_sem]) rfl ?_
      exact ⟨_, _, rfl, ownSt_nil _ _, (by repeat (first | exact Below.refl _ _ | with_reducible assumption | exact below_alloc _ _ | (refine Below.setCell ?_ (by first | (simp; done) | (simp; omega) | omega) _) | apply bd | apply ba | apply be))⟩
  · have hv' : validB vl hl = false := by simpa using hv
    have hok : renOk vl hl ns = false := by rw [renOk, hv', Bool.false_and]
    rw [renSV, renSH, hok]
    clear hok hv
    go_enter Try.func52, Try.ntmps52
    go_wp2_with ((go_at_call 58; go_must (((with_reducible refine (specStateValid_any _ _ _ _ _ (by repeat (first | with_reducible assumption | exact (own_ints (by assumption)).1 | apply rints_ext | apply rints_alloc | apply rints_drew)) (by repeat (first | with_reducible assumption | exact (own_ints (by assumption)).1 | apply rints_ext | apply rints_alloc | apply rints_drew))).mono ?_); rintro e w' ⟨rfl, hb⟩; (first | obtain ⟨x, rfl⟩ := to_ext2 hb | obtain ⟨x, rfl⟩ := to_ext hb); clear hb))))
    refine bodyPost_ret (v := .tuple #[.agg #[.slice none 0 0, .slice none 0 0], .bool false]) (by simp [results, Try.results52, go_sem]) rfl ?_
    exact ⟨_, _, rfl, ownSt_nil _ _, (by repeat (first | exact Below.refl _ _ | with_reducible assumption | exact below_alloc _ _ | (refine Below.setCell ?_ (by first | (simp; done) | (simp; omega) | omega) _) | apply bd | apply ba | apply be))⟩
end Go.Proofs.Ytnhhfbhhglhocaa
