/- Cans: texts Canon, Can1, Can2 in one. -/
import Derived.Test.YtnhhfbhhglhocaaPerms
import Derived.Test.YtnhhfbhhglhocaaRens
import Derived.Test.YtnhhfbhhglhocaaDraw2
import Derived.Deep.RegionHeld3
import Derived.Test.YtnhhfbhhglhocaaRens2
import Derived.Test.YtnhhfbhhglhocaaBase2
import Derived.Deep.MidRow
/- The order in which addresses are met, in plain Lean; canonical forms. -/
namespace Go.Proofs.Ytnhhfbhhglhocaa

def GoodL (l : List Int) : Prop := goodTo l l.length = true

theorem gi_app {l m : List Int} {j : Nat} : gi (l ++ m) j = if j < l.length then gi l j else gi m (j - l.length) := by
  unfold gi
  simp only [List.getD_eq_getElem?_getD, List.getElem?_append]
  split <;> rfl
theorem seen_app {l m : List Int} : ∀ {k : Nat}, k ≤ l.length → seenN (l ++ m) k = seenN l k
  | 0, _ => rfl
  | k + 1, h => by rw [seenN, seenN, seen_app (by omega), gi_app, if_pos (by omega)]
theorem good_app {l m : List Int} : ∀ {k : Nat}, k ≤ l.length → goodTo (l ++ m) k = goodTo l k
  | 0, _ => rfl
  | k + 1, h => by rw [goodTo, goodTo, good_app (by omega), gi_app, if_pos (by omega), seen_app (by omega)]
theorem goodL_nil : GoodL [] := rfl
theorem goodL_len {l : List Int} (h : GoodL l) : l.length ≤ 8 := Nat.le_trans (seen_cnt h) (cnt_le _)
theorem goodL_mem {l : List Int} (h : GoodL l) {v : Int} (hv : v ∈ l) : 1 ≤ v ∧ v ≤ 8 := by
  obtain ⟨i, hi, rfl⟩ := List.getElem_of_mem hv
  rw [← gi_of hi]
  exact good_addr hi h
theorem goodL_has {l : List Int} (h : GoodL l) {v : Int} (hv : isAddrB v = true) : hasB (seenN l l.length) v = decide (v ∈ l) := by
  have ha := isAddrB_iff.1 hv
  rw [hasB, hv, Bool.true_and, Bool.eq_iff_iff, seen_bit]
  simp only [decide_eq_true_eq]
  constructor
  · rintro ⟨j, h1, h2⟩
    have := good_addr h1 h
    rw [show v = gi l j by omega]
    exact gi_mem h1
  · intro hm
    obtain ⟨i, hi, rfl⟩ := List.getElem_of_mem hm
    exact ⟨i, hi, by rw [gi_of hi]⟩
theorem goodL_snoc {l : List Int} (h : GoodL l) {v : Int} (hv : isAddrB v = true) (hn : ¬ v ∈ l) : GoodL (l ++ [v]) := by
  unfold GoodL
  rw [show (l ++ [v]).length = l.length + 1 by simp, goodTo, good_app (Nat.le_refl _), gi_app, if_neg (by omega), seen_app (Nat.le_refl _)]
  have : gi [v] (l.length - l.length) = v := by simp [gi]
  rw [this, goodL_has h hv, hv, h]
  simp [hn]

/-- The addresses on the way from v, added to l as far as they are new. -/
def walkN (hs : List Int) : Nat → List Int → Int → List Int
  | 0, l, _ => l
  | f + 1, l, v => if isAddrB v = true ∧ ¬ v ∈ l then walkN hs f (l ++ [v]) (ct hs v) else l
def walkL (hs l : List Int) (v : Int) : List Int := walkN hs 9 l v

theorem walkN_more (hs : List Int) : ∀ (f g : Nat) (l : List Int) (v : Int), GoodL l → 9 ≤ l.length + f → 9 ≤ l.length + g → walkN hs f l v = walkN hs g l v
  | 0, _, l, v, hg, h, _ => by have := goodL_len hg; omega
  | _ + 1, 0, l, v, hg, _, h => by have := goodL_len hg; omega
  | f + 1, g + 1, l, v, hg, hf, hgg => by
    unfold walkN
    split
    · rename_i h
      exact walkN_more hs f g _ _ (goodL_snoc hg h.1 h.2) (by simp; omega) (by simp; omega)
    · rfl
theorem walkL_yes {hs l : List Int} {v : Int} (hg : GoodL l) (hv : isAddrB v = true) (hn : ¬ v ∈ l) : walkL hs l v = walkL hs (l ++ [v]) (ct hs v) := by
  show walkN hs (8 + 1) l v = _
  unfold walkN
  rw [if_pos ⟨hv, hn⟩]
  exact walkN_more hs 8 9 _ _ (goodL_snoc hg hv hn) (by simp) (by simp)
theorem walkL_no {hs l : List Int} {v : Int} (h : ¬ (isAddrB v = true ∧ ¬ v ∈ l)) : walkL hs l v = l := by
  show walkN hs (8 + 1) l v = _
  unfold walkN
  rw [if_neg h]
/-- An induction along the way. -/
theorem walk_ind {hs : List Int} (P : List Int → Int → List Int → Prop) (stop : ∀ l v, GoodL l → ¬ (isAddrB v = true ∧ ¬ v ∈ l) → P l v l)
    (step : ∀ l v r, GoodL l → isAddrB v = true → ¬ v ∈ l → GoodL (l ++ [v]) → P (l ++ [v]) (ct hs v) r → P l v r) : ∀ l v, GoodL l → P l v (walkL hs l v) := by
  have key : ∀ (k : Nat) (l : List Int) (v : Int), GoodL l → 9 - l.length ≤ k → P l v (walkL hs l v) := by
    intro k
    induction k with
    | zero => intro l v hg h; have := goodL_len hg; omega
    | succ k ih =>
      intro l v hg h
      by_cases hc : isAddrB v = true ∧ ¬ v ∈ l
      · rw [walkL_yes hg hc.1 hc.2]
        have hg2 := goodL_snoc hg hc.1 hc.2
        exact step l v _ hg hc.1 hc.2 hg2 (ih _ _ hg2 (by simp; omega))
      · rw [walkL_no hc]; exact stop l v hg hc
  intro l v hg
  exact key _ l v hg (Nat.le_refl _)
theorem walk_good {hs l : List Int} {v : Int} (hg : GoodL l) : GoodL (walkL hs l v) :=
  walk_ind (hs := hs) (fun _ _ r => GoodL r) (fun _ _ h _ => h) (fun _ _ _ _ _ _ _ h => h) l v hg
theorem walk_pre {hs l : List Int} {v : Int} (hg : GoodL l) : ∃ t, walkL hs l v = l ++ t :=
  walk_ind (hs := hs) (fun l _ r => ∃ t, r = l ++ t) (fun l _ _ _ => ⟨[], by simp⟩) (fun l v r _ _ _ _ ⟨t, ht⟩ => ⟨v :: t, by rw [ht]; simp⟩) l v hg
theorem walk_in {hs l : List Int} {v : Int} (hg : GoodL l) (hv : isAddrB v = true) : v ∈ walkL hs l v := by
  by_cases hn : v ∈ l
  · rw [walkL_no (by simp [hn])]; exact hn
  · obtain ⟨t, ht⟩ := walk_pre (hs := hs) (v := ct hs v) (goodL_snoc hg hv hn)
    rw [walkL_yes hg hv hn, ht]
    simp
/-- Walks from a list of addresses. -/
theorem fold_good {hs : List Int} : ∀ (us l : List Int), GoodL l → GoodL (us.foldl (walkL hs) l)
  | [], _, h => h
  | _ :: us, _, h => fold_good us _ (walk_good h)
theorem fold_pre {hs : List Int} : ∀ (us l : List Int), GoodL l → ∃ t, us.foldl (walkL hs) l = l ++ t
  | [], l, _ => ⟨[], by simp⟩
  | u :: us, l, h => by
    obtain ⟨t, ht⟩ := fold_pre us _ (walk_good (hs := hs) (v := u) h)
    obtain ⟨s, hs'⟩ := walk_pre (hs := hs) (v := u) h
    exact ⟨s ++ t, by rw [List.foldl_cons, ht, hs']; simp⟩
theorem fold_in {hs : List Int} : ∀ (us l : List Int), GoodL l → ∀ v ∈ us, isAddrB v = true → v ∈ us.foldl (walkL hs) l
  | u :: us, l, h, v, hv, ha => by
    rw [List.foldl_cons]
    rcases List.mem_cons.1 hv with rfl | hv
    · obtain ⟨t, ht⟩ := fold_pre (hs := hs) us _ (walk_good (hs := hs) (v := v) h)
      rw [ht]
      exact List.mem_append_left _ (walk_in h ha)
    · exact fold_in us _ (walk_good h) v hv ha

/-- The used addresses; all addresses. -/
def usedA (hs : List Int) : List Int := sel (fun n => alB hs (n : Int)) 1 8
def allA (k : Nat) : List Int := sel (fun _ => true) 1 k
def ord1 (vs hs : List Int) : List Int := vs.foldl (walkL hs) []
def ord2 (vs hs : List Int) : List Int := (usedA hs).foldl (walkL hs) (ord1 vs hs)
def ordL (vs hs : List Int) : List Int := (allA 8).foldl (walkL hs) (ord2 vs hs)
theorem ord1_good (vs hs : List Int) : GoodL (ord1 vs hs) := fold_good _ _ goodL_nil
theorem ord2_good (vs hs : List Int) : GoodL (ord2 vs hs) := fold_good _ _ (ord1_good vs hs)
theorem ordL_good (vs hs : List Int) : GoodL (ordL vs hs) := fold_good _ _ (ord2_good vs hs)
theorem ordL_mem (vs hs : List Int) {v : Int} (h1 : 1 ≤ v) (h8 : v ≤ 8) : v ∈ ordL vs hs := by
  refine fold_in _ _ (ord2_good vs hs) v ?_ (isAddrB_iff.2 ⟨h1, h8⟩)
  exact mem_sel.2 ⟨v.toNat, by omega, by omega, by omega, rfl⟩
theorem full_len {l : List Int} (hg : GoodL l) (hm : ∀ v : Int, 1 ≤ v → v ≤ 8 → v ∈ l) : l.length = 8 := by
  have h8 := goodL_len hg
  have hc : cnt (seenN l l.length) = 8 := by
    unfold cnt
    rw [List.filter_eq_self.2 ?_]
    · simp
    · intro p hp
      rw [List.mem_range'_1] at hp
      rw [seen_bit]
      obtain ⟨i, hi, e⟩ := List.getElem_of_mem (hm p (by omega) (by omega))
      exact ⟨i, hi, by rw [gi_of hi, e]; simp⟩
  have hle : ∀ k, cnt (seenN l k) ≤ k := by
    intro k
    induction k with
    | zero => simp [seenN, cnt]
    | succ k ih =>
      rw [seenN]
      have : cnt (seenN l k ||| 2 ^ (gi l k).toNat) ≤ cnt (seenN l k) + 1 := by
        unfold cnt
        have e : ∀ x : Nat, (seenN l k ||| 2 ^ (gi l k).toNat).testBit x = ((seenN l k).testBit x || decide ((gi l k).toNat = x)) := fun x => testBit_or_pow _ _ _
        simp only [e]
        generalize (gi l k).toNat = y
        have : ∀ L : List Nat, L.Nodup → (L.filter fun x => (seenN l k).testBit x || decide (y = x)).length ≤ (L.filter fun x => (seenN l k).testBit x).length + 1 := by
          intro L
          induction L with
          | nil => intro _; simp
          | cons a L ih2 =>
            intro hnd
            have hnd2 := List.nodup_cons.1 hnd
            by_cases hya : y = a
            · subst hya
              have : (L.filter fun x => (seenN l k).testBit x || decide (y = x)) = L.filter fun x => (seenN l k).testBit x := by
                apply List.filter_congr
                intro x hx
                have : ¬ y = x := fun e => hnd2.1 (e ▸ hx)
                simp [this]
              rw [List.filter_cons, List.filter_cons, this]
              simp only [decide_true, Bool.or_true, if_true]
              split <;> simp
            · have ih3 := ih2 hnd2.2
              rw [List.filter_cons, List.filter_cons]
              simp only [hya, decide_false, Bool.or_false]
              split <;> simp <;> omega
        exact this _ (List.nodup_range' (step := 1))
      omega
  have := hle l.length
  omega
theorem ordL_len (vs hs : List Int) : (ordL vs hs).length = 8 := full_len (ordL_good vs hs) fun _ h1 h8 => ordL_mem vs hs h1 h8
theorem ordL_names (vs hs : List Int) : goodTo (ordL vs hs) 8 = true := by
  have := ordL_good vs hs
  unfold GoodL at this
  rwa [ordL_len] at this
end Go.Proofs.Ytnhhfbhhglhocaa
/- Walks: follow: names in the order in which addresses are met. -/
namespace Go.Proofs.Ytnhhfbhhglhocaa
open Go.RowKit

/-- The name of an address in a list. -/
def posO (l : List Int) (v : Int) : Int := if v ∈ l then (l.idxOf v : Int) + 1 else 0
def tabO (l : List Int) : List Int := (List.range 9).map fun (n : Nat) => posO l n
/-- The ten cells of the names: the table, the last name. -/
def cn (l : List Int) : List Int := tabO l ++ [(l.length : Int)]
theorem tabO_len (l : List Int) : (tabO l).length = 9 := by simp [tabO]
theorem cn_len (l : List Int) : (cn l).length = 10 := by simp [cn, tabO]
theorem gi_tabO (l : List Int) {i : Nat} (h : i < 9) : gi (tabO l) i = posO l i := by
  rw [gi_of (by rw [tabO_len]; exact h)]; simp [tabO]
theorem gi_cn (l : List Int) {i : Nat} (h : i < 9) : gi (cn l) i = posO l i := by
  rw [cn, gi_app, if_pos (by rw [tabO_len]; exact h), gi_tabO l h]
theorem gi_cn9 (l : List Int) : gi (cn l) 9 = (l.length : Int) := by
  rw [cn, gi_app, if_neg (by rw [tabO_len]; omega), tabO_len]; simp [gi]
theorem posO_zero {l : List Int} {v : Int} : posO l v = 0 ↔ ¬ v ∈ l := by
  unfold posO
  split
  · rename_i h; simp [h]; omega
  · rename_i h; simp [h]
theorem posO_snoc {l : List Int} {v u : Int} (hn : ¬ v ∈ l) : posO (l ++ [v]) u = if u = v then (l.length : Int) + 1 else posO l u := by
  unfold posO
  by_cases e : u = v
  · subst e
    rw [if_pos rfl, if_pos (by simp), List.idxOf_append, if_neg hn]
    simp
  · rw [if_neg e]
    by_cases hu : u ∈ l
    · rw [if_pos (by simp [hu]), if_pos hu, List.idxOf_append, if_pos hu]
    · rw [if_neg (by simp [hu, e]), if_neg hu]
theorem cn_step {l : List Int} {m : Nat} (h1 : 1 ≤ m) (h8 : m ≤ 8) (hn : ¬ (m : Int) ∈ l) : ((cn l).set 9 ((l.length : Int) + 1)).set m ((l.length : Int) + 1) = cn (l ++ [(m : Int)]) := by
  refine gi_ext (by simp [cn_len]) fun i hi => ?_
  simp only [List.length_set, cn_len] at hi
  rw [gi_set (by simp [cn_len]; omega), gi_set (by rw [cn_len]; omega)]
  by_cases h9 : i = 9
  · subst h9
    rw [if_neg (by omega), if_pos rfl, gi_cn9]; simp
  · rw [gi_cn l (by omega), gi_cn (l ++ [(m : Int)]) (by omega), posO_snoc hn]
    by_cases e : m = i
    · subst e; rw [if_pos rfl, if_pos rfl]
    · rw [if_neg e, if_neg (by omega), if_neg (by omega)]

set_option maxHeartbeats 1600000 in
theorem follow_any (b : Nat) (v1 v2 : Value) (hl l : List Int) (v : Int) (w : World) (h2 : RInts w v2 hl) (hhl : 8 ≤ hl.length) (hg : GoodL l) (hb : w.heap[b]? = some (.cells (iarr (cn l)) 95 (0, 0)))
    (hne : ∀ k, v2.ownBlock = some k → ¬ k = b) :
    Calls Try.prog 66 #[.pointer (some ⟨b, 0, none⟩), .agg #[v1, v2], .int .i64 v] w fun e w' => e = .returned (.tuple #[]) ∧ w'.heap[b]? = some (.cells (iarr (cn (walkL hl l v))) 95 (0, 0)) ∧ Fr (fun j => j = b) w w' := by
  have hbl := box_lt hb
  have h8 := goodL_len hg
  have HB := Lib.hid hb
  have HG := Lib.hid hg
  clear hb hg
  go_enter Try.func66, Try.ntmps66
  go_wp2
  go_loopg [2] (9 - l.length) (fun q u wr => ∃ (m : List Int) (x : Int), u = .int .i64 x ∧ m.length + q = 9 ∧ GoodL m ∧ walkL hl m x = walkL hl l v ∧ wr.heap[b]? = some (.cells (iarr (cn m)) 95 (0, 0)) ∧ Fr (fun j => j = b) w wr ∧ wr.cell? ⟨w.heap.size, 0, none⟩ = some v1 ∧ wr.cell? ⟨w.heap.size, 1, none⟩ = some v2)
  case atStart => exact ⟨l, v, rfl, by omega, HG.out, rfl, box_keep HB.out (below_alloc _ _), (Below.fr (below_alloc _ _)).mono fun _ _ h => h.elim, by simp, by simp⟩
  case round =>
    obtain ⟨m, x, rfl, hq, hgm, hwk, hrow, hf, hc0, hc1⟩ := hrel
    have HQ := Lib.hid hq
    have HM := Lib.hid (And.intro hgm hwk)
    have HR := Lib.hid hrow
    have hm8 := goodL_len hgm
    have hrz := box_lt hrow
    have hsz := hf.size
    clear hq hgm hwk hrow
    by_cases ha : isAddrB x = true
    · have hx := isAddrB_iff.1 ha
      obtain ⟨n, rfl⟩ := Int.eq_ofNat_of_zero_le (show 0 ≤ x by omega)
      have hn8 : n ≤ 8 := by omega
      have hni : (n : Int) < 9 := by omega
      have hcn := iarr_at HR.out n (by rw [cn_len]; omega)
      have hc9 := iarr_at HR.out 9 (by rw [cn_len]; omega)
      rw [gi_cn _ (by omega)] at hcn
      rw [gi_cn9] at hc9
      have hfz := fun i => frozen_of_row wr b i _ _ HR.out
      by_cases hin : (n : Int) ∈ m
      · have hp : (posO m n == 0) = false := by rw [beq_eq_false_iff_ne]; exact fun e => posO_zero.1 e hin
        have hw : walkL hl m n = m := walkL_no (by simp [hin])
        have HW := Lib.hid (HM.out.2.symm.trans hw)
        clear hin hw
        go_wp2_with ((go_at_call 126; go_must (((with_reducible refine (isAddr_any _ _).mono ?_); rintro e w' ⟨rfl, rfl⟩))))
        go_end0
        exact ⟨rfl, by rw [HW.out]; exact HR.out, hf⟩
      · have hp0 : posO m n = 0 := posO_zero.2 hin
        rw [hp0] at hcn
        have hw : walkL hl m n = walkL hl (m ++ [(n : Int)]) (ct hl n) := walkL_yes HM.out.1 ha hin
        have hst := cn_step (l := m) (by omega) hn8 hin
        have HW := Lib.hid (And.intro (hw.symm.trans HM.out.2) (And.intro hst (goodL_snoc HM.out.1 ha hin)))
        have hne9 : ¬ (9 : Nat) = n := by omega
        have hwl : w.heap.size < wr.heap.size := World.block_lt_of_cell? wr _ hc0
        have hbne : ¬ b = w.heap.size := by omega
        clear hin hp0 hw hst
        go_wp2_with ((go_at_call 126; go_must (((with_reducible refine (isAddr_any _ _).mono ?_); rintro e w' ⟨rfl, rfl⟩))))
        have hrow1 := iarr_set HR.out 9 ((m.length : Int) + 1)
        have hf1 : Fr (fun j => j = b) w (wr.setCell ⟨b, 9, none⟩ (.int .i64 ((m.length : Int) + 1))) := hf.then (fr_set _ _ _) (fun i _ e => by simpa using e)
        have hd0 := (fr_set wr ⟨b, 9, none⟩ (.int .i64 ((m.length : Int) + 1))).cell (by simp; omega) hc0
        have hd1 := (fr_set wr ⟨b, 9, none⟩ (.int .i64 ((m.length : Int) + 1))).cell (by simp; omega) hc1
        generalize wr.setCell ⟨b, 9, none⟩ (.int .i64 ((m.length : Int) + 1)) = W at *
        have hk9 := iarr_at hrow1 9 (by simp [cn_len])
        have hkn := iarr_at hrow1 n (by simp [cn_len]; omega)
        rw [gi_set (by rw [cn_len]; omega), if_pos rfl] at hk9
        have hfw := fun i => frozen_of_row W b i _ _ hrow1
        have HR1 := Lib.hid hrow1
        have HF1 := Lib.hid hf1
        have hwl1 : w.heap.size < W.heap.size := World.block_lt_of_cell? W _ hd0
        clear hrow1 hf1 hcn hc9 hfz hc0 hc1 hf
        go_region_held3 (fun w' => w'.cell? ⟨b, 9, none⟩ = some (.int .i64 ((m.length : Int) + 1)))
          (first | exact hk9 | (rw [World.cell?_setCell_other _ _ _ _ (fun e => by injection e; omega)]; exact hk9) | (rw [World.cell?_drew, World.cell?_setCell_other _ _ _ _ (fun e => by injection e; omega)]; exact hk9))
          (fail)
        all_goals
          have hrow2 := iarr_set HR1.out n ((m.length : Int) + 1)
          have HF2 := Lib.hid (HF1.out.then (fr_set W ⟨b, n, none⟩ (.int .i64 ((m.length : Int) + 1))) (fun i _ e => by simpa using e))
          have he0 := (fr_set W ⟨b, n, none⟩ (.int .i64 ((m.length : Int) + 1))).cell (by simp; omega) hd0
          have he1 := (fr_set W ⟨b, n, none⟩ (.int .i64 ((m.length : Int) + 1))).cell (by simp; omega) hd1
          rw [HW.out.2.1] at hrow2
          have HR2 := Lib.hid hrow2
          clear hrow2
          generalize W.setCell ⟨b, n, none⟩ (.int .i64 ((m.length : Int) + 1)) = W2 at *
          go_wp2_with fail
          refine (content_any _ _ hl n _ (by first | exact h2.kept HF2.out hne | exact (h2.kept HF2.out hne).keep (below_drew _)) (by omega)).mono ?_
          rintro e w5 ⟨rfl, hb5⟩
          have hb5' : Below W2.heap.size W2 w5 := by first | exact hb5 | exact bt (below_drew _) hb5
          go_wp2
          go_roundg (gk - 1)
          case rel => exact ⟨m ++ [(n : Int)], ct hl n, rfl, by have := HQ.out; simp; omega, HW.out.2.2, HW.out.1, box_keep HR2.out hb5', HF2.out.thenB hb5', cell_keep hb5' he0, cell_keep hb5' he1⟩
          case measure => have := HQ.out; omega
    · have ha' : isAddrB x = false := by simpa using ha
      have hw : walkL hl m x = m := walkL_no (by simp [ha'])
      have HW := Lib.hid (HM.out.2.symm.trans hw)
      clear hw ha
      go_wp2_with ((go_at_call 126; go_must (((with_reducible refine (isAddr_any _ _).mono ?_); rintro e w' ⟨rfl, rfl⟩))))
      go_end0
      exact ⟨rfl, by rw [HW.out]; exact HR.out, hf⟩
end Go.Proofs.Ytnhhfbhhglhocaa
/- Walks: the program's CanonState. -/
namespace Go.Proofs.Ytnhhfbhhglhocaa
open Go.RowKit

theorem posO_at {l : List Int} {j : Nat} (hg : goodTo l 8 = true) (hl : l.length = 8) (hj : j < 8) : posO l (gi l j) = (j : Int) + 1 := by
  have hm : gi l j ∈ l := gi_mem (by omega)
  have hi : l.idxOf (gi l j) < l.length := List.idxOf_lt_length_of_mem hm
  have he : gi l (l.idxOf (gi l j)) = gi l j := by
    rw [gi_of hi]
    exact List.getElem_idxOf hi
  have := good_inj' (by omega) hj hg he
  rw [posO, if_pos hm, this]
theorem tabO_full {l : List Int} (hg : goodTo l 8 = true) (hl : l.length = 8) : tabO l = 0 :: backN l 8 := by
  refine gi_ext (by simp [tabO_len, backN_len]) fun i hi => ?_
  rw [tabO_len] at hi
  rw [gi_tabO _ hi]
  cases i with
  | zero =>
    have : posO l ((0 : Nat) : Int) = 0 := posO_zero.2 (fun hm => by
      obtain ⟨k, hk, e⟩ := List.getElem_of_mem hm
      have := good_addr (show k < 8 by omega) hg
      rw [gi_of hk, e] at this
      omega)
    rw [this]; simp [gi]
  | succ i =>
    obtain ⟨j, h1, h2, h3⟩ := back_all hg (i := i) (by omega)
    have e : (((i + 1 : Nat)) : Int) = gi l j := by omega
    rw [e, posO_at hg hl h1]
    simp only [gi, List.getD_cons_succ]
    exact h3.symm
def canV (vl hl : List Int) : List Int := if validB vl hl = true then renV (backN (ordL vl hl) 8) vl else []
def canH (vl hl : List Int) : List Int := if validB vl hl = true then renH (backN (ordL vl hl) 8) hl else []
theorem can_len (vl hl : List Int) : (canV vl hl).length ≤ 8 ∧ (canH vl hl).length ≤ 8 := by
  unfold canV canH
  split
  · rename_i h
    have := valid_len h
    rw [renV_len, renH_len]; omega
  · simp
theorem fold_take {hs : List Int} {vs : List Int} {k : Nat} (h : k < vs.length) (l : List Int) : (vs.take (k + 1)).foldl (walkL hs) l = walkL hs ((vs.take k).foldl (walkL hs) l) (gi vs k) := by
  rw [List.take_succ_eq_append_getElem h, List.foldl_append, gi_of h]; rfl
theorem allA_succ (k : Nat) : allA (k + 1) = allA k ++ [((k + 1 : Nat) : Int)] := by
  unfold allA
  rw [sel_yes rfl, Nat.add_comm 1 k]

set_option maxHeartbeats 3200000 in
theorem canonStateI_any (v1 v2 : Value) (vl hl : List Int) (w : World) (h1 : RInts w v1 vl) (h2 : RInts w v2 hl) :
    Calls Try.prog 24 #[.agg #[v1, v2]] w fun e w' => ∃ u1 u2, e = .returned (.tuple #[.agg #[u1, u2], .bool (validB vl hl)]) ∧ OwnSt w' w.heap.size u1 u2 (canV vl hl) (canH vl hl) ∧ Below w.heap.size w w' := by
  by_cases hv : validB vl hl = true
  rotate_left
  · have hv' : validB vl hl = false := by simpa using hv
    rw [canV, canH, hv']
    go_enter Try.func24, Try.ntmps24
    go_wp2_with ((go_at_call 27; go_must (((with_reducible refine (stateValid_any _ _ _ _ _ (by repeat (first | with_reducible assumption | exact (own_ints (by assumption)).1 | apply rints_ext | apply rints_alloc | apply rints_drew)) (by repeat (first | with_reducible assumption | exact (own_ints (by assumption)).1 | apply rints_ext | apply rints_alloc | apply rints_drew))).mono ?_); rintro e w' ⟨rfl, hb⟩; (first | obtain ⟨x, rfl⟩ := to_ext2 hb | obtain ⟨x, rfl⟩ := to_ext hb); clear hb))))
    refine bodyPost_ret (v := .tuple #[.agg #[.slice none 0 0, .slice none 0 0], .bool false]) (by simp [results, Try.results24, go_sem]) rfl ?_
    exact ⟨_, _, rfl, ownSt_nil _ _, (by repeat (first | exact Below.refl _ _ | with_reducible assumption | exact below_alloc _ _ | (refine Below.setCell ?_ (by first | (simp; done) | (simp; omega) | omega) _) | apply bd | apply ba | apply be))⟩
  have hV : canV vl hl = renV (backN (ordL vl hl) 8) vl := if_pos hv
  have hH : canH vl hl = renH (backN (ordL vl hl) 8) hl := if_pos hv
  rw [hV, hH]
  have hlen := valid_len hv
  have HLEN := Lib.hid hlen
  have HV := Lib.hid hv
  have hl8 : 8 ≤ hl.length := by omega
  have vl8 : vl.length ≤ 8 := by omega
  have vl8' : 8 ≤ vl.length := by omega
  clear hV hH hlen
  go_enter Try.func24, Try.ntmps24
  go_wp2_with fail
  refine (stateValid_any _ _ vl hl _ (by repeat (first | with_reducible assumption | exact (own_ints (by assumption)).1 | apply rints_ext | apply rints_alloc | apply rints_drew)) (by repeat (first | with_reducible assumption | exact (own_ints (by assumption)).1 | apply rints_ext | apply rints_alloc | apply rints_drew))).mono ?_
  rintro e w1 ⟨rfl, hb1⟩
  have hc0 := cell_keep hb1 (p := ⟨w.heap.size, 0, none⟩) (v := v1) (by simp [go_sem])
  have hc1 := cell_keep hb1 (p := ⟨w.heap.size, 1, none⟩) (v := v2) (by simp [go_sem])
  have ha0 := cell_keep hb1 (p := ⟨w.heap.size + 1, 0, none⟩) (v := .slice none 0 0) (by simp [go_sem])
  have ha1 := cell_keep hb1 (p := ⟨w.heap.size + 1, 1, none⟩) (v := .slice none 0 0) (by simp [go_sem])
  have haz : ∀ i, w1.frozen? ⟨w.heap.size + 1, i, none⟩ = false := fun i => (hb1.frozen (p := ⟨w.heap.size + 1, i, none⟩) (by simp)).trans (by simp [go_sem])
  have hbw : Below w.heap.size w w1 := bt (ba (below_alloc w _) _) hb1
  have q1 := h1.keep hbw
  have q2 := h2.keep hbw
  have hz1 : w.heap.size + 1 < w1.heap.size := World.block_lt_of_cell? w1 _ ha0
  have hz0 : w.heap.size < w1.heap.size := by omega
  have HAZ := Lib.hid haz
  have hne2 : ∀ k, v2.ownBlock = some k → ¬ k = w1.heap.size := by
    intro k hk e
    obtain ⟨b, o, c, hvv, _, _, hcc⟩ := q2.ne (by omega)
    have : b < w1.heap.size := World.block_lt_of_cell? w1 _ (hcc 0 (by omega))
    rw [hvv] at hk
    simp [Value.ownBlock] at hk
    omega
  have HNE := Lib.hid hne2
  clear hb1 haz hne2 h1 h2
  go_wp2
  have hT0 : (w1.alloc (.cells (iarr (cn [])) 95)).heap[w1.heap.size]? = some (.cells (iarr (cn [])) 95 (0, 0)) := heap_alloc_new _ _
  have HT0 := Lib.hid hT0
  clear hT0
  go_loopg [5] 8 (fun q i wr => ∃ k : Nat, k + q = 8 ∧ i = .int .i64 ((k : Int) + 1) ∧ wr.heap[w1.heap.size]? = some (.cells (iarr (cn ((vl.take k).foldl (walkL hl) []))) 95 (0, 0)) ∧ Below w1.heap.size w1 wr)
  case atStart => exact ⟨0, by omega, rfl, HT0.out, below_alloc _ _⟩
  case round =>
    obtain ⟨k, hk, rfl, hrow, hb⟩ := hrel
    have HK := Lib.hid hk
    have HR := Lib.hid hrow
    have hzr := box_lt hrow
    clear hk hrow HT0
    have hd0 := cell_keep hb hc0
    have hd1 := cell_keep hb hc1
    have r1 := q1.keep hb
    have r2 := q2.keep hb
    by_cases hk8 : k < 8
    · have hki : (k : Int) < 8 := by omega
      have htv : tv vl ((k : Int) + 1) = gi vl k := by unfold tv; rw [if_neg (by omega)]; congr 1; omega
      have HTV := Lib.hid htv
      have hgl := fold_good (hs := hl) (vl.take k) [] goodL_nil
      have HG := Lib.hid hgl
      have hsz := hb.size
      clear htv hgl
      go_wp2
      go_region_held3 (fun w' => w'.cell? ⟨w.heap.size, 0, none⟩ = some v1 ∧ w'.cell? ⟨w.heap.size, 1, none⟩ = some v2)
        (first | exact ⟨hd0, hd1⟩ | exact ⟨cell_keep (below_drew _) hd0, cell_keep (below_drew _) hd1⟩ | exact ⟨cell_keep hb6 hd0, cell_keep hb6 hd1⟩ | exact ⟨hf6.cell (by simp; omega) hd0, hf6.cell (by simp; omega) hd1⟩)
        (first
          | (go_at_call 67; go_must (refine (termValue_any _ vl _ _ (by first | exact r1 | exact r1.keep (below_drew _)) (by omega) (by omega)).mono ?_; rintro e w' ⟨rfl, rfl⟩))
          | (go_at_call 66; go_must (refine (follow_any w1.heap.size _ _ hl ((vl.take k).foldl (walkL hl) []) _ _ (by first | exact r2 | exact r2.keep (below_drew _)) hl8 HG.out (by first | exact HR.out | exact box_keep HR.out (below_drew _)) HNE.out).mono ?_; rintro e w6 ⟨rfl, hrow6, hf6'⟩; have hf6 : Fr (fun j => j = w1.heap.size) wr w6 := (by first | exact hf6' | exact ((Below.fr (below_drew _)).mono fun _ _ h => h.elim).trans hf6')))) 
      all_goals
        rw [HTV.out, ← fold_take (by omega)] at hrow6
        have HR6 := Lib.hid hrow6
        have hb6 : Below w1.heap.size w1 w6 := hb.trans (hf6.below hsz (fun j hj e => by omega))
        clear hrow6 hf6'
        go_wp2
        go_roundg (gk - 1)
        case rel => exact ⟨k + 1, by have := HK.out; omega, by go_num, HR6.out, hb6⟩
        case measure => have := HK.out; omega
    · obtain rfl : k = 8 := by have := HK.out; omega
      have e1 : (vl.take 8).foldl (walkL hl) [] = ord1 vl hl := by rw [ord1, List.take_of_length_le vl8]
      have hr1 := HR.out
      rw [e1] at hr1
      have HR1 := Lib.hid hr1
      obtain ⟨wo, rfl⟩ : ∃ wo : World, wo = wr := ⟨_, rfl⟩
      clear hr1 e1 HR
      go_wp2_with fail
      refine (usedCells_any _ _ vl hl _ r1 r2).mono ?_
      rintro e w2 ⟨uv, rfl, hu, hb2⟩
      rw [usedL, if_pos HV.out] at hu
      obtain ⟨U, hU⟩ : ∃ U, U = sel (usedP hl) 1 8 := ⟨_, rfl⟩
      rw [← hU] at hu
      have hUA : U = usedA hl := hU
      have hUL : U.length ≤ 8 := by rw [hU]; exact sel_len _ _ _
      have HU := Lib.hid hUA
      have ru := (own_ints hu).1
      have hub0 := fun k hk => (own_lt hu (k := k) hk).1
      obtain ⟨ua, uc, rfl, hucell⟩ := ru.cells
      have HUC := Lib.hid hucell
      have HUB := Lib.hid hub0
      have hzo : w1.heap.size < wo.heap.size := hzr
      have hrow2 := box_keep HR1.out hb2
      have HR2 := Lib.hid hrow2
      replace hb := hb.trans (hb2.mono hb.size)
      have hzr2 := box_lt hrow2
      clear hU hUA hucell hu ru hub0 hrow2 HR1 hd0 hd1 r1 r2 hb2
      have hd0 := cell_keep hb hc0
      have hd1 := cell_keep hb hc1
      go_wp2
      go_loopg [26] U.length (fun q i wr => ∃ k : Nat, k + q = U.length ∧ i = .int .i64 k ∧ wr.heap[w1.heap.size]? = some (.cells (iarr (cn ((U.take k).foldl (walkL hl) (ord1 vl hl)))) 95 (0, 0)) ∧ Below w1.heap.size w1 wr ∧ Fr (fun j => j = w1.heap.size) w2 wr)
      case atStart => exact ⟨0, by omega, rfl, HR2.out, hb, Fr.refl _ _⟩
      case round =>
        obtain ⟨k, hk, rfl, hrow, hb, hf⟩ := hrel
        clear HK HR2
        have HK := Lib.hid hk
        have HR := Lib.hid hrow
        have HF := Lib.hid hf
        have hzr := box_lt hrow
        clear hk hrow
        have hd0 := cell_keep hb hc0
        have hd1 := cell_keep hb hc1
        have r1 := q1.keep hb
        have r2 := q2.keep hb
        by_cases hk8 : k < U.length
        · have hki : (k : Int) < (U.length : Int) := by omega
          obtain ⟨ub, uo, rfl, hub, hcu⟩ := HUC.out k hk8
          have hgl := fold_good (hs := hl) (U.take k) (ord1 vl hl) (ord1_good vl hl)
          have HG := Lib.hid hgl
          have hsz := hb.size
          have hubn : ¬ ub = w1.heap.size := by have := HUB.out ub rfl; omega
          have hcr := HF.out.cell (p := ⟨ub, uo + k, none⟩) (by simpa using hubn) hcu
          clear hgl hf hcu
          go_wp2_with fail
          refine (follow_any w1.heap.size _ _ hl ((U.take k).foldl (walkL hl) (ord1 vl hl)) _ _ r2 hl8 HG.out HR.out HNE.out).mono ?_
          rintro e w6 ⟨rfl, hrow6, hf6⟩
          rw [← fold_take hk8] at hrow6
          have HR6 := Lib.hid hrow6
          have hb6 : Below w1.heap.size w1 w6 := hb.trans (hf6.below hsz (fun j hj e => by omega))
          have HF6 := Lib.hid (HF.out.trans hf6)
          clear hrow6 hf6
          go_wp2
          go_roundg (gk - 1)
          case rel => exact ⟨k + 1, by have := HK.out; omega, by go_num, HR6.out, hb6, HF6.out⟩
          case measure => have := HK.out; omega
        · obtain rfl : k = U.length := by have := HK.out; omega
          have hr1 := HR.out
          rw [List.take_length, HU.out] at hr1
          have HR1 : Hid (wr.heap[w1.heap.size]? = some (.cells (iarr (cn (ord2 vl hl))) 95 (0, 0))) := Lib.hid hr1
          obtain ⟨wp, rfl⟩ : ∃ wo : World, wo = wr := ⟨_, rfl⟩
          clear hr1 HR hf HF
          go_wp2
          go_loopg [8] 8 (fun q i wr => ∃ k : Nat, k + q = 8 ∧ i = .int .i64 ((k : Int) + 1) ∧ wr.heap[w1.heap.size]? = some (.cells (iarr (cn ((allA k).foldl (walkL hl) (ord2 vl hl)))) 95 (0, 0)) ∧ Below w1.heap.size w1 wr)
          case atStart => exact ⟨0, by omega, rfl, HR1.out, hb⟩
          case round =>
            obtain ⟨k, hk, rfl, hrow, hb⟩ := hrel
            clear HK HR1
            have HK := Lib.hid hk
            have HR := Lib.hid hrow
            have hzr := box_lt hrow
            clear hk hrow
            have hd0 := cell_keep hb hc0
            have hd1 := cell_keep hb hc1
            have r1 := q1.keep hb
            have r2 := q2.keep hb
            have hsz := hb.size
            by_cases hk8 : k < 8
            · have hki : (k : Int) < 8 := by omega
              have hgl := fold_good (hs := hl) (allA k) (ord2 vl hl) (ord2_good vl hl)
              have HG := Lib.hid hgl
              clear hgl
              go_wp2_with fail
              refine (follow_any w1.heap.size _ _ hl ((allA k).foldl (walkL hl) (ord2 vl hl)) _ _ r2 hl8 HG.out HR.out HNE.out).mono ?_
              rintro e w6 ⟨rfl, hrow6, hf6⟩
              have e6 : walkL hl ((allA k).foldl (walkL hl) (ord2 vl hl)) ((k : Int) + 1) = (allA (k + 1)).foldl (walkL hl) (ord2 vl hl) := by
                rw [allA_succ, List.foldl_append]; rfl
              rw [e6] at hrow6
              have HR6 := Lib.hid hrow6
              have hb6 : Below w1.heap.size w1 w6 := hb.trans (hf6.below hsz (fun j hj e => by omega))
              clear hrow6 hf6 e6
              go_wp2
              go_roundg (gk - 1)
              case rel => exact ⟨k + 1, by have := HK.out; omega, by go_num, HR6.out, hb6⟩
              case measure => have := HK.out; omega
            · obtain rfl : k = 8 := by have := HK.out; omega
              have hrg : wr.rangeAt w1.heap.size 0 (ints (0 :: backN (ordL vl hl) 8)) := by
                intro j u hj
                have hj9 : j < 9 := by
                  have := (List.getElem?_eq_some_iff.1 hj).1
                  simpa [ints, backN_len] using this
                rw [Nat.zero_add, iarr_at HR.out j (by rw [cn_len]; omega), gi_cn _ hj9, ← gi_tabO _ hj9, show (allA 8).foldl (walkL hl) (ord2 vl hl) = ordL vl hl from rfl, tabO_full (ordL_names vl hl) (ordL_len vl hl)]
                rw [← hj]
                have hl9 : j < (0 :: backN (ordL vl hl) 8).length := by simp [backN_len]; omega
                simp only [ints, List.getElem?_map, List.getElem?_eq_getElem hl9, gi_of hl9]
                rfl
              have HRG := Lib.hid hrg
              have hx0 := cell_keep hb ha0
              have hx1 := cell_keep hb ha1
              clear hrg
              go_wp2_with (refine wpList_load_mid rfl 88 _ rfl w1.heap.size 0 rfl (ints (0 :: backN (ordL vl hl) 8)) _ HRG.out Try.underlying88 rfl (by rw [sizeTab]; simp [ints, backN_len]) ?_)
              refine (renameState_any _ _ vl hl (backN (ordL vl hl) 8) _ r1 r2 HV.out (backN_len _ _) (back_good (ordL_names vl hl))).mono ?_
              rintro e w7 ⟨g1, c1, g2, c2, rfl, hst, hb7⟩
              have hy0 := cell_keep hb7 hx0
              have hy1 := cell_keep hb7 hx1
              have hzz : ∀ i, w7.frozen? ⟨w.heap.size + 1, i, none⟩ = false := fun i => (hb7.frozen (p := ⟨w.heap.size + 1, i, none⟩) (by simp; omega)).trans ((hb.frozen (p := ⟨w.heap.size + 1, i, none⟩) (by simp; omega)).trans (HAZ.out i))
              have hst1 := hst.mono (B' := w.heap.size + 1 + 1) (by omega)
              have hbb := (hbw.trans (hb.mono (by omega))).trans (hb7.mono (by omega))
              have HD := Lib.hid (st_done hst1 hbb (by omega))
              clear hst hst1 hb7 hbb hx0 hx1
              go_wp2
              have r := box_two (.slice (some ⟨g1, 0, none⟩) 8 c1) (.slice (some ⟨g2, 0, none⟩) 8 c2) hy0 hy1
              refine bodyPost_ret (v := .tuple #[.agg #[.slice (some ⟨g1, 0, none⟩) 8 c1, .slice (some ⟨g2, 0, none⟩) 8 c2], .bool true]) (by simp [results, Try.results24, go_sem, r.1, r.2]) rfl ?_
              exact ⟨_, _, by rw [HV.out], HD.out⟩
end Go.Proofs.Ytnhhfbhhglhocaa
