/- Walks: the program's CanonState. -/
import Derived.Test.YtnhhfbhhglhocaaCan1
import Derived.Test.YtnhhfbhhglhocaaRn6
import Derived.Test.YtnhhfbhhglhocaaW9
import Derived.Test.YtnhhfbhhglhocaaPerm3
import Derived.Deep.MidRow
namespace Go.Proofs.Ytnhhfbhhglhocaa
open Go.RowKit

theorem posO_at {l : List Int} {j : Nat} (hg : goodTo l 8 = true) (hl : l.length = 8) (hj : j < 8) : posO l (gi l j) = (j : Int) + 1 := by
  have hm : gi l j ∈ l := gi_mem (by omega)
  have hi : l.idxOf (gi l j) < l.length := List.idxOf_lt_length_of_mem hm
  have he : gi l (l.idxOf (gi l j)) = gi l j := by
    rw [gi_of hi]
    exact List.getElem_idxOf hi
  have := good_inj' (by omega) hj hg he
  rw [posO, if_pos hm, this]
theorem tabO_full {l : List Int} (hg : goodTo l 8 = true) (hl : l.length = 8) : tabO l = 0 :: backN l 8 := by
  refine gi_ext (by simp [tabO_len, backN_len]) fun i hi => ?_
  rw [tabO_len] at hi
  rw [gi_tabO _ hi]
  cases i with
  | zero =>
    have : posO l ((0 : Nat) : Int) = 0 := posO_zero.2 (fun hm => by
      obtain ⟨k, hk, e⟩ := List.getElem_of_mem hm
      have := good_addr (show k < 8 by omega) hg
      rw [gi_of hk, e] at this
      omega)
    rw [this]; simp [gi]
  | succ i =>
    obtain ⟨j, h1, h2, h3⟩ := back_all hg (i := i) (by omega)
    have e : (((i + 1 : Nat)) : Int) = gi l j := by omega
    rw [e, posO_at hg hl h1]
    simp only [gi, List.getD_cons_succ]
    exact h3.symm
def canV (vl hl : List Int) : List Int := if validB vl hl = true then renV (backN (ordL vl hl) 8) vl else []
def canH (vl hl : List Int) : List Int := if validB vl hl = true then renH (backN (ordL vl hl) 8) hl else []
theorem can_len (vl hl : List Int) : (canV vl hl).length ≤ 8 ∧ (canH vl hl).length ≤ 8 := by
  unfold canV canH
  split
  · rename_i h
    have := valid_len h
    rw [renV_len, renH_len]; omega
  · simp
theorem fold_take {hs : List Int} {vs : List Int} {k : Nat} (h : k < vs.length) (l : List Int) : (vs.take (k + 1)).foldl (walkL hs) l = walkL hs ((vs.take k).foldl (walkL hs) l) (gi vs k) := by
  rw [List.take_succ_eq_append_getElem h, List.foldl_append, gi_of h]; rfl
theorem allA_succ (k : Nat) : allA (k + 1) = allA k ++ [((k + 1 : Nat) : Int)] := by
  unfold allA
  rw [sel_yes rfl, Nat.add_comm 1 k]

set_option maxHeartbeats 3200000 in
theorem canonStateI_any (v1 v2 : Value) (vl hl : List Int) (w : World) (h1 : RInts w v1 vl) (h2 : RInts w v2 hl) :
    Calls Try.prog 24 #[.agg #[v1, v2]] w fun e w' => ∃ u1 u2, e = .returned (.tuple #[.agg #[u1, u2], .bool (validB vl hl)]) ∧ OwnSt w' w.heap.size u1 u2 (canV vl hl) (canH vl hl) ∧ Below w.heap.size w w' := by
  by_cases hv : validB vl hl = true
  rotate_left
  · have hv' : validB vl hl = false := by simpa using hv
    rw [canV, canH, hv']
    go_enter Try.func24, Try.ntmps24
    go_wp2_with ((go_at_call 27; go_must (((with_reducible refine (stateValid_any _ _ _ _ _ (by repeat (first | with_reducible assumption | exact (own_ints (by assumption)).1 | apply rints_ext | apply rints_alloc | apply rints_drew)) (by repeat (first | with_reducible assumption | exact (own_ints (by assumption)).1 | apply rints_ext | apply rints_alloc | apply rints_drew))).mono ?_); rintro e w' ⟨rfl, hb⟩; (first | obtain ⟨x, rfl⟩ := to_ext2 hb | obtain ⟨x, rfl⟩ := to_ext hb); clear hb))))
    refine bodyPost_ret (v := .tuple #[.agg #[.slice none 0 0, .slice none 0 0], .bool false]) (by simp [results, Try.results24, go_sem]) rfl ?_
    exact ⟨_, _, rfl, ownSt_nil _ _, (by repeat (first | exact Below.refl _ _ | with_reducible assumption | exact below_alloc _ _ | (refine Below.setCell ?_ (by first | (simp; done) | (simp; omega) | omega) _) | apply bd | apply ba | apply be))⟩
  have hV : canV vl hl = renV (backN (ordL vl hl) 8) vl := if_pos hv
  have hH : canH vl hl = renH (backN (ordL vl hl) 8) hl := if_pos hv
  rw [hV, hH]
  have hlen := valid_len hv
  have HLEN := Lib.hid hlen
  have HV := Lib.hid hv
  have hl8 : 8 ≤ hl.length := by omega
  have vl8 : vl.length ≤ 8 := by omega
  have vl8' : 8 ≤ vl.length := by omega
  clear hV hH hlen
  go_enter Try.func24, Try.ntmps24
  go_wp2_with fail
  refine (stateValid_any _ _ vl hl _ (by repeat (first | with_reducible assumption | exact (own_ints (by assumption)).1 | apply rints_ext | apply rints_alloc | apply rints_drew)) (by repeat (first | with_reducible assumption | exact (own_ints (by assumption)).1 | apply rints_ext | apply rints_alloc | apply rints_drew))).mono ?_
  rintro e w1 ⟨rfl, hb1⟩
  have hc0 := cell_keep hb1 (p := ⟨w.heap.size, 0, none⟩) (v := v1) (by simp [go_sem])
  have hc1 := cell_keep hb1 (p := ⟨w.heap.size, 1, none⟩) (v := v2) (by simp [go_sem])
  have ha0 := cell_keep hb1 (p := ⟨w.heap.size + 1, 0, none⟩) (v := .slice none 0 0) (by simp [go_sem])
  have ha1 := cell_keep hb1 (p := ⟨w.heap.size + 1, 1, none⟩) (v := .slice none 0 0) (by simp [go_sem])
  have haz : ∀ i, w1.frozen? ⟨w.heap.size + 1, i, none⟩ = false := fun i => (hb1.frozen (p := ⟨w.heap.size + 1, i, none⟩) (by simp)).trans (by simp [go_sem])
  have hbw : Below w.heap.size w w1 := bt (ba (below_alloc w _) _) hb1
  have q1 := h1.keep hbw
  have q2 := h2.keep hbw
  have hz1 : w.heap.size + 1 < w1.heap.size := World.block_lt_of_cell? w1 _ ha0
  have hz0 : w.heap.size < w1.heap.size := by omega
  have HAZ := Lib.hid haz
  have hne2 : ∀ k, v2.ownBlock = some k → ¬ k = w1.heap.size := by
    intro k hk e
    obtain ⟨b, o, c, hvv, _, _, hcc⟩ := q2.ne (by omega)
    have : b < w1.heap.size := World.block_lt_of_cell? w1 _ (hcc 0 (by omega))
    rw [hvv] at hk
    simp [Value.ownBlock] at hk
    omega
  have HNE := Lib.hid hne2
  clear hb1 haz hne2 h1 h2
  go_wp2
  have hT0 : (w1.alloc (.cells (iarr (cn [])) 95)).heap[w1.heap.size]? = some (.cells (iarr (cn [])) 95 (0, 0)) := heap_alloc_new _ _
  have HT0 := Lib.hid hT0
  clear hT0
  go_loopg [5] 8 (fun q i wr => ∃ k : Nat, k + q = 8 ∧ i = .int .i64 ((k : Int) + 1) ∧ wr.heap[w1.heap.size]? = some (.cells (iarr (cn ((vl.take k).foldl (walkL hl) []))) 95 (0, 0)) ∧ Below w1.heap.size w1 wr)
  case atStart => exact ⟨0, by omega, rfl, HT0.out, below_alloc _ _⟩
  case round =>
    obtain ⟨k, hk, rfl, hrow, hb⟩ := hrel
    have HK := Lib.hid hk
    have HR := Lib.hid hrow
    have hzr := box_lt hrow
    clear hk hrow HT0
    have hd0 := cell_keep hb hc0
    have hd1 := cell_keep hb hc1
    have r1 := q1.keep hb
    have r2 := q2.keep hb
    by_cases hk8 : k < 8
    · have hki : (k : Int) < 8 := by omega
      have htv : tv vl ((k : Int) + 1) = gi vl k := by unfold tv; rw [if_neg (by omega)]; congr 1; omega
      have HTV := Lib.hid htv
      have hgl := fold_good (hs := hl) (vl.take k) [] goodL_nil
      have HG := Lib.hid hgl
      have hsz := hb.size
      clear htv hgl
      go_wp2
      go_region_held3 (fun w' => w'.cell? ⟨w.heap.size, 0, none⟩ = some v1 ∧ w'.cell? ⟨w.heap.size, 1, none⟩ = some v2)
        (first | exact ⟨hd0, hd1⟩ | exact ⟨cell_keep (below_drew _) hd0, cell_keep (below_drew _) hd1⟩ | exact ⟨cell_keep hb6 hd0, cell_keep hb6 hd1⟩ | exact ⟨hf6.cell (by simp; omega) hd0, hf6.cell (by simp; omega) hd1⟩)
        (first
          | (go_at_call 67; go_must (refine (termValue_any _ vl _ _ (by first | exact r1 | exact r1.keep (below_drew _)) (by omega) (by omega)).mono ?_; rintro e w' ⟨rfl, rfl⟩))
          | (go_at_call 66; go_must (refine (follow_any w1.heap.size _ _ hl ((vl.take k).foldl (walkL hl) []) _ _ (by first | exact r2 | exact r2.keep (below_drew _)) hl8 HG.out (by first | exact HR.out | exact box_keep HR.out (below_drew _)) HNE.out).mono ?_; rintro e w6 ⟨rfl, hrow6, hf6'⟩; have hf6 : Fr (fun j => j = w1.heap.size) wr w6 := (by first | exact hf6' | exact ((Below.fr (below_drew _)).mono fun _ _ h => h.elim).trans hf6')))) 
      all_goals
        rw [HTV.out, ← fold_take (by omega)] at hrow6
        have HR6 := Lib.hid hrow6
        have hb6 : Below w1.heap.size w1 w6 := hb.trans (hf6.below hsz (fun j hj e => by omega))
        clear hrow6 hf6'
        go_wp2
        go_roundg (gk - 1)
        case rel => exact ⟨k + 1, by have := HK.out; omega, by go_num, HR6.out, hb6⟩
        case measure => have := HK.out; omega
    · obtain rfl : k = 8 := by have := HK.out; omega
      have e1 : (vl.take 8).foldl (walkL hl) [] = ord1 vl hl := by rw [ord1, List.take_of_length_le vl8]
      have hr1 := HR.out
      rw [e1] at hr1
      have HR1 := Lib.hid hr1
      obtain ⟨wo, rfl⟩ : ∃ wo : World, wo = wr := ⟨_, rfl⟩
      clear hr1 e1 HR
      go_wp2_with fail
      refine (usedCells_any _ _ vl hl _ r1 r2).mono ?_
      rintro e w2 ⟨uv, rfl, hu, hb2⟩
      rw [usedL, if_pos HV.out] at hu
      obtain ⟨U, hU⟩ : ∃ U, U = sel (usedP hl) 1 8 := ⟨_, rfl⟩
      rw [← hU] at hu
      have hUA : U = usedA hl := hU
      have hUL : U.length ≤ 8 := by rw [hU]; exact sel_len _ _ _
      have HU := Lib.hid hUA
      have ru := (own_ints hu).1
      have hub0 := fun k hk => (own_lt hu (k := k) hk).1
      obtain ⟨ua, uc, rfl, hucell⟩ := ru.cells
      have HUC := Lib.hid hucell
      have HUB := Lib.hid hub0
      have hzo : w1.heap.size < wo.heap.size := hzr
      have hrow2 := box_keep HR1.out hb2
      have HR2 := Lib.hid hrow2
      replace hb := hb.trans (hb2.mono hb.size)
      have hzr2 := box_lt hrow2
      clear hU hUA hucell hu ru hub0 hrow2 HR1 hd0 hd1 r1 r2 hb2
      have hd0 := cell_keep hb hc0
      have hd1 := cell_keep hb hc1
      go_wp2
      go_loopg [26] U.length (fun q i wr => ∃ k : Nat, k + q = U.length ∧ i = .int .i64 k ∧ wr.heap[w1.heap.size]? = some (.cells (iarr (cn ((U.take k).foldl (walkL hl) (ord1 vl hl)))) 95 (0, 0)) ∧ Below w1.heap.size w1 wr ∧ Fr (fun j => j = w1.heap.size) w2 wr)
      case atStart => exact ⟨0, by omega, rfl, HR2.out, hb, Fr.refl _ _⟩
      case round =>
        obtain ⟨k, hk, rfl, hrow, hb, hf⟩ := hrel
        clear HK HR2
        have HK := Lib.hid hk
        have HR := Lib.hid hrow
        have HF := Lib.hid hf
        have hzr := box_lt hrow
        clear hk hrow
        have hd0 := cell_keep hb hc0
        have hd1 := cell_keep hb hc1
        have r1 := q1.keep hb
        have r2 := q2.keep hb
        by_cases hk8 : k < U.length
        · have hki : (k : Int) < (U.length : Int) := by omega
          obtain ⟨ub, uo, rfl, hub, hcu⟩ := HUC.out k hk8
          have hgl := fold_good (hs := hl) (U.take k) (ord1 vl hl) (ord1_good vl hl)
          have HG := Lib.hid hgl
          have hsz := hb.size
          have hubn : ¬ ub = w1.heap.size := by have := HUB.out ub rfl; omega
          have hcr := HF.out.cell (p := ⟨ub, uo + k, none⟩) (by simpa using hubn) hcu
          clear hgl hf hcu
          go_wp2_with fail
          refine (follow_any w1.heap.size _ _ hl ((U.take k).foldl (walkL hl) (ord1 vl hl)) _ _ r2 hl8 HG.out HR.out HNE.out).mono ?_
          rintro e w6 ⟨rfl, hrow6, hf6⟩
          rw [← fold_take hk8] at hrow6
          have HR6 := Lib.hid hrow6
          have hb6 : Below w1.heap.size w1 w6 := hb.trans (hf6.below hsz (fun j hj e => by omega))
          have HF6 := Lib.hid (HF.out.trans hf6)
          clear hrow6 hf6
          go_wp2
          go_roundg (gk - 1)
          case rel => exact ⟨k + 1, by have := HK.out; omega, by go_num, HR6.out, hb6, HF6.out⟩
          case measure => have := HK.out; omega
        · obtain rfl : k = U.length := by have := HK.out; omega
          have hr1 := HR.out
          rw [List.take_length, HU.out] at hr1
          have HR1 : Hid (wr.heap[w1.heap.size]? = some (.cells (iarr (cn (ord2 vl hl))) 95 (0, 0))) := Lib.hid hr1
          obtain ⟨wp, rfl⟩ : ∃ wo : World, wo = wr := ⟨_, rfl⟩
          clear hr1 HR hf HF
          go_wp2
          go_loopg [8] 8 (fun q i wr => ∃ k : Nat, k + q = 8 ∧ i = .int .i64 ((k : Int) + 1) ∧ wr.heap[w1.heap.size]? = some (.cells (iarr (cn ((allA k).foldl (walkL hl) (ord2 vl hl)))) 95 (0, 0)) ∧ Below w1.heap.size w1 wr)
          case atStart => exact ⟨0, by omega, rfl, HR1.out, hb⟩
          case round =>
            obtain ⟨k, hk, rfl, hrow, hb⟩ := hrel
            clear HK HR1
            have HK := Lib.hid hk
            have HR := Lib.hid hrow
            have hzr := box_lt hrow
            clear hk hrow
            have hd0 := cell_keep hb hc0
            have hd1 := cell_keep hb hc1
            have r1 := q1.keep hb
            have r2 := q2.keep hb
            have hsz := hb.size
            by_cases hk8 : k < 8
            · have hki : (k : Int) < 8 := by omega
              have hgl := fold_good (hs := hl) (allA k) (ord2 vl hl) (ord2_good vl hl)
              have HG := Lib.hid hgl
              clear hgl
              go_wp2_with fail
              refine (follow_any w1.heap.size _ _ hl ((allA k).foldl (walkL hl) (ord2 vl hl)) _ _ r2 hl8 HG.out HR.out HNE.out).mono ?_
              rintro e w6 ⟨rfl, hrow6, hf6⟩
              have e6 : walkL hl ((allA k).foldl (walkL hl) (ord2 vl hl)) ((k : Int) + 1) = (allA (k + 1)).foldl (walkL hl) (ord2 vl hl) := by
                rw [allA_succ, List.foldl_append]; rfl
              rw [e6] at hrow6
              have HR6 := Lib.hid hrow6
              have hb6 : Below w1.heap.size w1 w6 := hb.trans (hf6.below hsz (fun j hj e => by omega))
              clear hrow6 hf6 e6
              go_wp2
              go_roundg (gk - 1)
              case rel => exact ⟨k + 1, by have := HK.out; omega, by go_num, HR6.out, hb6⟩
              case measure => have := HK.out; omega
            · obtain rfl : k = 8 := by have := HK.out; omega
              have hrg : wr.rangeAt w1.heap.size 0 (ints (0 :: backN (ordL vl hl) 8)) := by
                intro j u hj
                have hj9 : j < 9 := by
                  have := (List.getElem?_eq_some_iff.1 hj).1
                  simpa [ints, backN_len] using this
                rw [Nat.zero_add, iarr_at HR.out j (by rw [cn_len]; omega), gi_cn _ hj9, ← gi_tabO _ hj9, show (allA 8).foldl (walkL hl) (ord2 vl hl) = ordL vl hl from rfl, tabO_full (ordL_names vl hl) (ordL_len vl hl)]
                rw [← hj]
                have hl9 : j < (0 :: backN (ordL vl hl) 8).length := by simp [backN_len]; omega
                simp only [ints, List.getElem?_map, List.getElem?_eq_getElem hl9, gi_of hl9]
                rfl
              have HRG := Lib.hid hrg
              have hx0 := cell_keep hb ha0
              have hx1 := cell_keep hb ha1
              clear hrg
              go_wp2_with (refine wpList_load_mid rfl 88 _ rfl w1.heap.size 0 rfl (ints (0 :: backN (ordL vl hl) 8)) _ HRG.out Try.underlying88 rfl (by rw [sizeTab]; simp [ints, backN_len]) ?_)
              refine (renameState_any _ _ vl hl (backN (ordL vl hl) 8) _ r1 r2 HV.out (backN_len _ _) (back_good (ordL_names vl hl))).mono ?_
              rintro e w7 ⟨g1, c1, g2, c2, rfl, hst, hb7⟩
              have hy0 := cell_keep hb7 hx0
              have hy1 := cell_keep hb7 hx1
              have hzz : ∀ i, w7.frozen? ⟨w.heap.size + 1, i, none⟩ = false := fun i => (hb7.frozen (p := ⟨w.heap.size + 1, i, none⟩) (by simp; omega)).trans ((hb.frozen (p := ⟨w.heap.size + 1, i, none⟩) (by simp; omega)).trans (HAZ.out i))
              have hst1 := hst.mono (B' := w.heap.size + 1 + 1) (by omega)
              have hbb := (hbw.trans (hb.mono (by omega))).trans (hb7.mono (by omega))
              have HD := Lib.hid (st_done hst1 hbb (by omega))
              clear hst hst1 hb7 hbb hx0 hx1
              go_wp2
              have r := box_two (.slice (some ⟨g1, 0, none⟩) 8 c1) (.slice (some ⟨g2, 0, none⟩) 8 c2) hy0 hy1
              refine bodyPost_ret (v := .tuple #[.agg #[.slice (some ⟨g1, 0, none⟩) 8 c1, .slice (some ⟨g2, 0, none⟩) 8 c2], .bool true]) (by simp [results, Try.results24, go_sem, r.1, r.2]) rfl ?_
              exact ⟨_, _, by rw [HV.out], HD.out⟩
end Go.Proofs.Ytnhhfbhhglhocaa
