/- Math1: texts DMath, DMath2, DMath3, Sl1, Sl2, Sl3 in one. -/
import Derived.Test.YtapoillhgimdiaaBase2
import Derived.Test.YtapoillhgimdiaaBase3
import Derived.Test.YtapoillhgimdiaaDraw2
/- Plain facts on reaching, for the drawn laws. -/
namespace Go.Proofs.Ytapoillhgimdiaa

theorem reach_al {hs : List Int} (a : Nat) (v : Int) (j : Nat) (hj : (reachF hs a v).testBit j = true) : a.testBit j = true ∨ alB hs (j : Int) = true := by
  refine reach_ind (hs := hs) (fun a v r => r.testBit j = true → a.testBit j = true ∨ alB hs (j : Int) = true) (fun _ _ _ h => .inl h) (fun a v r ha _ ih hr => ?_) a v hj
  rcases ih hr with h | h
  · rw [testBit_or_pow] at h
    have hv := al_addr ha
    by_cases e : v.toNat = j
    · right
      rw [← e, show ((v.toNat : Nat) : Int) = v by omega]; exact ha
    · left; simpa [e, Ne.symm e] using h
  · exact .inr h

theorem reach_start {hs : List Int} (a : Nat) {v : Int} (ha : alB hs v = true) : (reachF hs a v).testBit v.toNat = true := by
  by_cases hh : hasB a v = true
  · rw [hasB_al ha] at hh
    exact reach_grow hs a v _ hh
  · have hh' : hasB a v = false := by simpa using hh
    rw [reachF_yes ha hh']
    exact reach_grow hs _ _ _ (by rw [testBit_or_pow]; simp)

theorem reach_none {hs : List Int} {v : Int} (h : alB hs v = false) (a : Nat) : reachF hs a v = a := reachF_no (by rw [h]; simp)

theorem mem_reachL {vl hl : List Int} {f n : Int} : n ∈ reachL vl hl f ↔ (validB vl hl = true ∧ isTermB f = true) ∧ 1 ≤ n ∧ n ≤ 8 ∧ (reachF hl 0 f).testBit n.toNat = true := by
  unfold reachL
  by_cases h : validB vl hl = true ∧ isTermB f = true
  · rw [if_pos h, mem_sel]
    constructor
    · rintro ⟨i, rfl, h1, h9, hp⟩
      exact ⟨h, by omega, by omega, by simpa using hp⟩
    · rintro ⟨_, h1, h8, hp⟩
      exact ⟨n.toNat, by omega, by omega, by omega, hp⟩
  · rw [if_neg h]
    constructor
    · intro hh; cases hh
    · exact fun hh => absurd hh.1 h

def readB (vl hl : List Int) (n : Int) : Bool := validB vl hl && alB hl n
def readV (vl hl : List Int) (n : Int) : Int := if readB vl hl n = true then ct hl n else 0

theorem reach_read {vl hl : List Int} {f x : Int} (h : x ∈ reachL vl hl f) : readB vl hl x = true := by
  obtain ⟨⟨hv, _⟩, h1, h8, hb⟩ := mem_reachL.1 h
  rcases reach_al 0 f _ hb with h | h
  · simp at h
  · rw [show ((x.toNat : Nat) : Int) = x by omega] at h
    unfold readB; rw [hv, h]; rfl
theorem readB_iff {vl hl : List Int} {x : Int} : readB vl hl x = true ↔ validB vl hl = true ∧ alB hl x = true := by simp [readB]
theorem reach_next {vl hl : List Int} {f x : Int} (h : x ∈ reachL vl hl f) (hn : readB vl hl (readV vl hl x) = true) : readV vl hl x ∈ reachL vl hl f := by
  have hr := reach_read h
  rw [readV, if_pos hr] at hn ⊢
  obtain ⟨hvf, h1, h8, hb⟩ := mem_reachL.1 h
  have hn' := (readB_iff.1 hn).2
  have ha := al_addr hn'
  exact mem_reachL.2 ⟨hvf, ha.1, ha.2, reach_closed (closed_zero hl) f x (readB_iff.1 hr).2 hb hn'⟩
theorem reach_self {vl hl : List Int} {f : Int} (h : readB vl hl f = true) : f ∈ reachL vl hl f := by
  obtain ⟨hv, ha⟩ := readB_iff.1 h
  have hf := al_addr ha
  exact mem_reachL.2 ⟨⟨hv, isTermB_iff.2 (by omega)⟩, hf.1, hf.2, reach_start 0 ha⟩
theorem reach_first (vl hl : List Int) (f : Int) : decide (f ∈ reachL vl hl f) = readB vl hl f := by
  rw [Bool.eq_iff_iff]
  simp only [decide_eq_true_eq]
  exact ⟨reach_read, reach_self⟩
theorem reach_empty {vl hl : List Int} {f : Int} (h : readB vl hl f = false) : reachL vl hl f = [] := by
  cases hL : reachL vl hl f with
  | nil => rfl
  | cons x xs =>
    exfalso
    have hx : x ∈ reachL vl hl f := by rw [hL]; exact List.mem_cons_self
    obtain ⟨⟨hv, _⟩, h1, h8, hb⟩ := mem_reachL.1 hx
    have ha : alB hl f = false := by
      cases hh : alB hl f with
      | false => rfl
      | true => rw [readB, hv, hh] at h; exact absurd h (by simp)
    rw [reach_none ha] at hb
    simp at hb
theorem reach_trans {vl hl : List Int} {f x y : Int} (h : x ∈ reachL vl hl f) (hy : y ∈ reachL vl hl x) : y ∈ reachL vl hl f := by
  obtain ⟨hvf, h1, h8, hb⟩ := mem_reachL.1 h
  obtain ⟨_, k1, k8, kb⟩ := mem_reachL.1 hy
  refine mem_reachL.2 ⟨hvf, k1, k8, ?_⟩
  rcases reach_sub (reach_closed (closed_zero hl) f) 0 x (fun _ => hb) _ kb with h | h
  · simp at h
  · exact h
theorem reach_pos {vl hl : List Int} {f x : Int} (h : x ∈ reachL vl hl f) : 0 < (reachL vl hl x).length :=
  List.length_pos_of_mem (reach_self (reach_read h))

end Go.Proofs.Ytapoillhgimdiaa
/- Plain facts on cycles, for the drawn laws. -/
namespace Go.Proofs.Ytapoillhgimdiaa

def onWay (hl : List Int) (x v : Int) : Prop := alB hl v = true ∧ (reachF hl 0 v).testBit x.toNat = true

theorem mem_cycleL {vl hl : List Int} {x : Int} (h : x ∈ cycleL vl hl) : validB vl hl = true ∧ alB hl x = true ∧ (reachF hl 0 (ct hl x)).testBit x.toNat = true := by
  unfold cycleL at h
  by_cases hv : validB vl hl = true
  · rw [if_pos hv, mem_sel] at h
    obtain ⟨i, rfl, h1, h9, hp⟩ := h
    simp only [cycleP, cycI, Bool.and_eq_true] at hp
    rw [hasB_al hp.1] at hp
    exact ⟨hv, hp.1, by simpa using hp.2⟩
  · rw [if_neg hv] at h; cases h

theorem al_ct {hl : List Int} {v : Int} (h : alB hl v = true) : 0 ≤ ct hl v := by simpa [alB] using h

theorem cyc_read {vl hl : List Int} {x : Int} (h : x ∈ cycleL vl hl) : readB vl hl x = true := by
  obtain ⟨hv, ha, _⟩ := mem_cycleL h
  unfold readB; rw [hv, ha]; rfl
theorem cyc_reach {vl hl : List Int} {x : Int} (h : x ∈ cycleL vl hl) : x ∈ reachL vl hl (readV vl hl x) := by
  have hr := cyc_read h
  obtain ⟨hv, ha, hb⟩ := mem_cycleL h
  have hx := al_addr ha
  have h0 := al_ct ha
  have h8 := valid_ct hv x
  rw [readV, if_pos hr]
  exact mem_reachL.2 ⟨⟨hv, isTermB_iff.2 ⟨h0, h8.2⟩⟩, hx.1, hx.2, hb⟩
theorem way_start {vl hl : List Int} {x : Int} (h : x ∈ cycleL vl hl) : onWay hl x x := by
  obtain ⟨_, ha, _⟩ := mem_cycleL h
  exact ⟨ha, reach_start 0 ha⟩
theorem way_next {vl hl : List Int} {x v : Int} (h : x ∈ cycleL vl hl) (hw : onWay hl x v) : onWay hl x (ct hl v) := by
  obtain ⟨_, hxa, hxb⟩ := mem_cycleL h
  obtain ⟨ha, hb⟩ := hw
  have hx := al_addr hxa
  have hv := al_addr ha
  have key : (reachF hl 0 (ct hl v)).testBit x.toNat = true := by
    by_cases e : x = v
    · subst e; exact hxb
    · have hcl : closedB hl (reachF hl 0 (ct hl v) ||| 2 ^ v.toNat) := by
        intro y h1 h2 h3
        rw [testBit_or_pow] at h2 ⊢
        simp only [Bool.or_eq_true, decide_eq_true_eq] at h2 ⊢
        rcases h2 with h2 | h2
        · exact .inl (reach_closed (closed_zero hl) _ y h1 h2 h3)
        · have : y = v := by have := al_addr h1; omega
          subst this
          exact .inl (reach_start 0 h3)
      rcases reach_sub hcl 0 v (fun _ => by rw [testBit_or_pow]; simp) _ hb with h | h
      · simp at h
      · rw [testBit_or_pow] at h
        simp only [Bool.or_eq_true, decide_eq_true_eq] at h
        rcases h with h | h
        · exact h
        · omega
  refine ⟨?_, key⟩
  cases hc : alB hl (ct hl v) with
  | true => rfl
  | false => rw [reach_none hc] at key; simp at key
theorem way_pos {hl : List Int} {x v : Int} (hw : onWay hl x v) : 1 ≤ v := (al_addr hw.1).1
end Go.Proofs.Ytapoillhgimdiaa
/- Plain facts on garbage, for the drawn laws. -/
namespace Go.Proofs.Ytapoillhgimdiaa

theorem gi_set_ne {l : List Int} {i j : Nat} (h : ¬ i = j) (x : Int) : gi (l.set i x) j = gi l j := by
  unfold gi
  rw [List.getD_eq_getElem?_getD, List.getD_eq_getElem?_getD, List.getElem?_set_ne h]
theorem gi_set_eq {l : List Int} {i : Nat} (h : i < l.length) (x : Int) : gi (l.set i x) i = x := by
  unfold gi
  rw [List.getD_eq_getElem?_getD, List.getElem?_set_self h]; rfl

theorem ct_set {hl : List Int} {y v : Int} (hy : 1 ≤ y) (hne : ¬ v = y) (x : Int) : ct (hl.set (y - 1).toNat x) v = ct hl v := by
  unfold ct
  by_cases h : isAddrB v = true
  · rw [if_pos h, if_pos h]
    have := isAddrB_iff.1 h
    exact gi_set_ne (by omega) x
  · rw [if_neg h, if_neg h]
theorem ct_set_self {hl : List Int} {y : Int} (hy : 1 ≤ y) (h8 : y ≤ 8) (hl8 : hl.length = 8) (x : Int) : ct (hl.set (y - 1).toNat x) y = x := by
  unfold ct
  rw [if_pos (isAddrB_iff.2 ⟨hy, h8⟩)]
  exact gi_set_eq (by omega) x

/-- The heap without a cell that is not reached: the same cells are reached. -/
theorem reach_free {hl : List Int} {y : Int} (hy : 1 ≤ y) (h8 : y ≤ 8) (hl8 : hl.length = 8) (a : Nat) (v : Int) (h : (reachF hl a v).testBit y.toNat = false) : reachF (hl.set (y - 1).toNat (-1)) a v = reachF hl a v := by
  refine (reach_ind (hs := hl) (fun a v r => (∀ j, a.testBit j = true → r.testBit j = true) ∧ (r.testBit y.toNat = false → reachF (hl.set (y - 1).toNat (-1)) a v = r)) ?_ ?_ a v).2 h
  · intro a v hn
    refine ⟨fun _ h => h, fun _ => reachF_no fun ⟨h1, h2⟩ => ?_⟩
    by_cases e : v = y
    · subst e
      rw [alB, ct_set_self hy h8 hl8] at h1
      simp at h1
    · rw [alB, ct_set hy e] at h1
      exact hn ⟨h1, h2⟩
  · intro a v r ha hh ih
    refine ⟨fun j hj => ih.1 j (by rw [testBit_or_pow, hj]; rfl), fun hr => ?_⟩
    have hv := al_addr ha
    have hrv := ih.1 v.toNat (by rw [testBit_or_pow]; simp)
    have e : ¬ v = y := by
      intro e; subst e; rw [hrv] at hr; cases hr
    have ha' : alB (hl.set (y - 1).toNat (-1)) v = true := by rw [alB, ct_set hy e]; exact ha
    rw [reachF_yes ha' hh, ct_set hy e]
    exact ih.2 hr

/-- A cell of the garbage. -/
theorem mem_garbageL {vl hl : List Int} {y : Int} : y ∈ garbageL vl hl ↔ validB vl hl = true ∧ 1 ≤ y ∧ y ≤ 8 ∧ alB hl y = true ∧ (markAll vl hl 4).testBit y.toNat = false := by
  unfold garbageL
  by_cases hv : validB vl hl = true
  · rw [if_pos hv, mem_sel]
    constructor
    · rintro ⟨i, rfl, h1, h9, hp⟩
      simp only [garbageP, Bool.and_eq_true, Bool.not_eq_true'] at hp
      exact ⟨hv, by omega, by omega, hp.1, by simpa using hp.2⟩
    · rintro ⟨_, h1, h8, ha, hm⟩
      have e : ((y.toNat : Nat) : Int) = y := by omega
      exact ⟨y.toNat, e.symm, by omega, by omega, by simp [garbageP, e, ha, hm]⟩
  · rw [if_neg hv]
    constructor
    · intro h; cases h
    · exact fun h => absurd h.1 hv

theorem mark_up {vl hl : List Int} {k m j : Nat} (h : k ≤ m) (hj : (markAll vl hl k).testBit j = true) : (markAll vl hl m).testBit j = true := by
  induction m with
  | zero => rwa [show k = 0 by omega] at hj
  | succ m ih =>
    by_cases e : k = m + 1
    · rwa [e] at hj
    · rw [mark_succ, ih (by omega)]; rfl
theorem mark_reach {vl hl : List Int} {k j : Nat} (hk : k < 4) (hj : (reachF hl 0 (tv vl ((k : Int) + 1))).testBit j = true) : (markAll vl hl 4).testBit j = true :=
  mark_up (k := k + 1) (by omega) (by rw [mark_succ, hj]; simp)

theorem garb_not {vl hl : List Int} {y : Int} (h : y ∈ garbageL vl hl) {k : Nat} (hk : k < 4) : ¬ y ∈ reachL vl hl (tv vl ((k : Int) + 1)) := by
  obtain ⟨_, _, _, _, hm⟩ := mem_garbageL.1 h
  intro hr
  have := mark_reach hk (mem_reachL.1 hr).2.2.2
  rw [hm] at this; cases this

theorem mark_free {vl hl : List Int} {y : Int} (hy : 1 ≤ y) (h8 : y ≤ 8) (hl8 : hl.length = 8) : ∀ k, (markAll vl hl k).testBit y.toNat = false → markAll vl (hl.set (y - 1).toNat (-1)) k = markAll vl hl k
  | 0, _ => rfl
  | k + 1, h => by
    have hk : (markAll vl hl k).testBit y.toNat = false := by
      cases hh : (markAll vl hl k).testBit y.toNat with
      | false => rfl
      | true => rw [mark_up (Nat.le_succ k) hh] at h; cases h
    show reachF _ (markAll vl _ k) _ = reachF _ (markAll vl hl k) _
    rw [mark_free hy h8 hl8 k hk]
    exact reach_free hy h8 hl8 _ _ h

theorem valid_free {vl hl : List Int} (h : validB vl hl = true) (i : Nat) : validB vl (hl.set i (-1)) = true := by
  have h1 := valid_len h
  have h2 := valid_all h
  simp only [validB, Bool.and_eq_true, beq_iff_eq, List.length_set]
  refine ⟨h1.1, h1.2, h2.1, ?_⟩
  rw [List.all_eq_true]
  intro x hx
  rcases List.mem_or_eq_of_mem_set hx with hx | hx
  · exact (List.all_eq_true.1 h2.2) x hx
  · subst hx; decide

theorem sel_nodup (p : Nat → Bool) (a k : Nat) : (sel p a k).Nodup := by
  unfold sel
  refine List.Pairwise.map _ ?_ ((List.nodup_range' (step := 1)).filter _)
  intro x y hxy e
  exact hxy (by have : (x : Int) = (y : Int) := e; omega)

theorem garb_free {vl hl : List Int} {y : Int} {rest : List Int} (h : garbageL vl hl = y :: rest) : garbageL vl (hl.set (y - 1).toNat (-1)) = rest := by
  have hm : y ∈ garbageL vl hl := by rw [h]; exact List.mem_cons_self
  obtain ⟨hv, h1, h8, ha, hb⟩ := mem_garbageL.1 hm
  have hl8 := (valid_len hv).2
  have hnd : (y :: rest).Nodup := by rw [← h, garbageL, if_pos hv]; exact sel_nodup _ _ _
  have hf : (garbageL vl hl).filter (fun n => decide (¬ n = y)) = rest := by
    rw [h]
    have hny := (List.nodup_cons.1 hnd).1
    rw [List.filter_cons, if_neg (by simp), List.filter_eq_self]
    intro z hz
    simp only [decide_eq_true_eq]
    intro e; subst e; exact hny hz
  rw [← hf, garbageL, garbageL, if_pos hv, if_pos (valid_free hv _), sel_filter]
  refine sel_congr fun i hi1 hi9 => ?_
  have hmk := mark_free (vl := vl) h1 h8 hl8 4 hb
  unfold garbageP
  rw [hmk]
  by_cases e : (i : Int) = y
  · have : alB (hl.set (y - 1).toNat (-1)) (i : Int) = false := by rw [e, alB, ct_set_self h1 h8 hl8]; rfl
    rw [this]; simp [e]
  · rw [alB, alB, ct_set h1 e]; simp [e]
end Go.Proofs.Ytapoillhgimdiaa
/- Walks: small helpers of the drawn laws; reading a cell; tests. -/
namespace Go.Proofs.Ytapoillhgimdiaa
open Go.RowKit

set_option maxHeartbeats 400000 in
theorem slInts_any (v1 v2 : Value) (l1 l2 : List Int) (w : World) (h1 : RInts w v1 l1) (h2 : RInts w v2 l2) :
    Calls Try.prog 33 #[v1, v2] w fun e w' => e = .returned (.bool (decide (l1 = l2))) ∧ Below w.heap.size w w' := by
  have hm1 := h1.len
  have hm2 := h2.len
  unfold maxLen at hm1 hm2
  obtain ⟨a1, c1, rfl, hf1⟩ := h1.cells
  obtain ⟨a2, c2, rfl, hf2⟩ := h2.cells
  by_cases hl : l1.length = l2.length
  · have hle : l1.length ≤ l2.length := by omega
    have hge : l2.length ≤ l1.length := by omega
    have HL := Lib.hid hl
    have F1 := Lib.hid hf1
    have F2 := Lib.hid hf2
    have hne : ((l1.length : Int) != (l2.length : Int)) = false := by simp [hl]
    clear hl hf1 hf2 h1 h2
    go_enter Try.func33, Try.ntmps33
    go_wp2
    go_loopg [5] l1.length (fun q i wr => ∃ k : Nat, k + q = l1.length ∧ i = .int .i64 k ∧ l1.take k = l2.take k ∧ Below w.heap.size w wr)
    case atStart => exact ⟨0, by omega, rfl, by simp, Below.refl _ _⟩
    case round =>
      obtain ⟨k, hk, rfl, ht, hb⟩ := hrel
      have HK := Lib.hid hk
      have HT := Lib.hid ht
      clear hk ht
      by_cases hk8 : k < l1.length
      · have hk2 : k < l2.length := by omega
        obtain ⟨b1, o1, rfl, hbl1, hc1⟩ := F1.out k hk8
        obtain ⟨b2, o2, rfl, hbl2, hc2⟩ := F2.out k hk2
        have hc1r := cell_below hb hbl1 hc1
        have hc2r := cell_below hb hbl2 hc2
        have hs := hb.size
        have g1 : b1 < wr.heap.size := by omega
        have g2 : b2 < wr.heap.size := by omega
        have i1 : (k : Int) < (l1.length : Int) := by omega
        have i2 : (k : Int) < (l2.length : Int) := by omega
        by_cases he : gi l1 k = gi l2 k
        · have hne2 : (gi l1 k != gi l2 k) = false := by simp [he]
          have HE := Lib.hid he
          clear he hc1 hc2
          go_wp2
          refine wp_region_ext (by kernel_rfl) (by kernel_rfl) ?_
          repeat (go_big_quiet_step (fail))
          refine wpQuiet_nil ?_
          intro w2 hb2
          go_wp2
          go_roundg (gk - 1)
          case rel => exact ⟨k + 1, by have := HK.out; omega, by go_num, take_eq_succ hk8 hk2 HT.out HE.out, hb.trans (hb2.mono hs)⟩
          case measure => have := HK.out; omega
        · have hne2 : (gi l1 k != gi l2 k) = true := by simpa using he
          have hfin : decide (l1 = l2) = false := by simpa using ne_of_gi he
          have HF := Lib.hid hfin
          clear he hc1 hc2 hfin
          go_wp2
          refine wp_region_ext (by kernel_rfl) (by kernel_rfl) ?_
          repeat (go_big_quiet_step (fail))
          refine wpQuiet_nil ?_
          intro w2 hb2
          go_wp2
          go_ret
          exact ⟨by rw [HF.out]; rfl, hb.trans (hb2.mono hs)⟩
      · obtain rfl : k = l1.length := by have := HK.out; omega
        have hfin : decide (l1 = l2) = true := by
          have := HT.out
          rw [List.take_length, HL.out, List.take_length] at this
          simpa using this
        have HF := Lib.hid hfin
        clear hfin HT
        go_wp2
        go_ret
        exact ⟨by rw [HF.out]; rfl, hb⟩
  · have hne : ((l1.length : Int) != (l2.length : Int)) = true := by simp; omega
    have hfin : decide (l1 = l2) = false := by simpa using fun h => hl (by rw [h])
    have HF := Lib.hid hfin
    clear hl hfin
    go_enter Try.func33, Try.ntmps33
    go_wp2
    go_ret
    exact ⟨by rw [HF.out]; rfl, Below.refl _ _⟩
end Go.Proofs.Ytapoillhgimdiaa
/- Walks: tests of facts. -/
namespace Go.Proofs.Ytapoillhgimdiaa
open Go.RowKit

theorem bytes_form {w : World} {v : Value} {n : Nat} (h : RBytes w v n) : ∃ a cap, v = .slice a n cap := by
  obtain ⟨_, hr, _⟩ := h
  rcases hr with ⟨a, cap, rfl, h0, _⟩ | ⟨b, o, cap, rfl, _⟩
  · exact ⟨a, cap, by rw [h0]⟩
  · exact ⟨_, cap, rfl⟩

set_option maxHeartbeats 400000 in
theorem factValid_any (q : Bool) (a b : Int) (w : World) :
    Calls Try.prog 148 #[.agg #[.bool q, .int .i64 a, .int .i64 b]] w fun e w' => e = .returned (.bool (isTermB a && isTermB b)) ∧ Below w.heap.size w w' := by
  by_cases ha : isTermB a = true
  · go_enter Try.func148, Try.ntmps148
    go_wp2_with (go_at_call 216; refine (isTerm_any _ _).mono ?_; rintro e w' ⟨rfl, rfl⟩)
    go_ret
    exact ⟨by rw [ha]; rfl, below_alloc _ _⟩
  · have ha' : isTermB a = false := by simpa using ha
    clear ha
    go_enter Try.func148, Try.ntmps148
    go_wp2_with (go_at_call 216; refine (isTerm_any _ _).mono ?_; rintro e w' ⟨rfl, rfl⟩)
    go_ret
    exact ⟨by rw [ha']; rfl, below_alloc _ _⟩
end Go.Proofs.Ytapoillhgimdiaa
/- Walks: a walk that never ends. -/
namespace Go.Proofs.Ytapoillhgimdiaa
open Go.RowKit

set_option maxHeartbeats 1600000 in
theorem walkCells_never (vs hv : Value) (vl hs : List Int) (f t : Int) (w : World) (h1 : RInts w vs vl) (h2 : RInts w hv hs) (hvd : validB vl hs = true) (hf : isTermB f = true) (ht : isTermB t = true)
    (P : Int → Prop) (hP : P f) (hstep : ∀ v, P v → alB hs v = true ∧ (v != t) = true ∧ P (ct hs v)) :
    Calls Try.prog 242 #[.agg #[vs, hv], .int .i64 f, .int .i64 t] w fun e w' => e = .returned (.tuple #[.slice none 0 0, .bool false]) ∧ Below w.heap.size w w' := by
  have hlen := (valid_len hvd).2
  have HLEN := Lib.hid hlen
  clear hlen
  go_enter Try.func242, Try.ntmps242
  go_wp2_with fail
  refine (stateValid_any _ _ vl hs _ (h1.alloc _) (h2.alloc _)).mono ?_
  rintro e w1 ⟨rfl, hb1⟩
  have hc0 := cell_keep hb1 (p := ⟨w.heap.size, 0, none⟩) (v := vs) (by simp)
  have hc1 := cell_keep hb1 (p := ⟨w.heap.size, 1, none⟩) (v := hv) (by simp)
  have hb01 := bt (below_alloc w _) hb1
  have hz : w.heap.size < w1.heap.size := World.block_lt_of_cell? w1 _ hc0
  clear hb1
  go_wp2_with (go_at_call 207; refine (isValue_any _ _).mono ?_; rintro e w' ⟨rfl, rfl⟩)
  have HC := Lib.hid (And.intro hc0 hc1)
  go_loopg [8, 9] 9 (fun q way at_ wr => ∃ (k : Nat) (l : List Int) (a : Int), k + q = 9 ∧ k ≤ 8 ∧ l.length = k ∧ at_ = .int .i64 a ∧ P a ∧ wr.ownsRow w1.heap.size 3 1 way l.length (ints l) ∧ Below w1.heap.size w1 wr)
  case atStart => exact ⟨0, [], f, by omega, by omega, rfl, rfl, hP, World.ownsRow_nil _ _ _ _, Below.refl _ _⟩
  case round =>
    obtain ⟨k, l, a, hk, hk8, hl, rfl, hPa, hown, hb⟩ := hrel
    obtain ⟨xa, xc, rfl⟩ := (own_ints hown).1.form
    have HK := Lib.hid (And.intro hk hl)
    obtain ⟨hal, hne, hPn⟩ := hstep a hPa
    have HP := Lib.hid hPn
    clear hk hPa hPn
    replace hc0 := cell_keep hb hc0
    replace hc1 := cell_keep hb hc1
    have hzr : w.heap.size < wr.heap.size := World.block_lt_of_cell? wr _ hc0
    have hz1 := hb.size
    by_cases hk7 : k = 8
    · have hlb : ((l.length : Int) == 8) = true := by rw [hl, hk7]; rfl
      clear hl
      go_wp2_with fail
      refine (allocated_any _ _ hs a _ (h2.keep (bt hb01 hb)) (by rw [HLEN.out]; omega)).mono ?_
      rintro e w2 ⟨rfl, hb2⟩
      go_wp2
      refine bodyPost_ret (v := .tuple #[.slice none 0 0, .bool false]) (by simp [results, Try.results242, go_sem]) rfl ?_
      exact ⟨rfl, bt (bt hb01 hb) hb2⟩
    · have hlb : ((l.length : Int) == 8) = false := by rw [hl]; simp; omega
      clear hl
      go_wp2_with fail
      refine (allocated_any _ _ hs a _ (h2.keep (bt hb01 hb)) (by rw [HLEN.out]; omega)).mono ?_
      rintro e w2 ⟨rfl, hb2⟩
      replace hc0 := cell_keep hb2 hc0
      replace hc1 := cell_keep hb2 hc1
      replace hown := own_keep hown hb2
      have hz2 := hb2.size
      replace hb := bt hb hb2
      clear hb2
      have hlen9 : l.length < 1099511627776 := by have := HK.out; omega
      go_wp2_with (first
        | (at_builtin; refine app_int _ rfl _ _ rfl w1.heap.size _ l rfl (own_keep hown (below_alloc _ _)) ⟨w2.heap.size, 0, none⟩ _ rfl (cell_new1 _ _ _) hlen9 (by simp; omega) ?_; intro v' w3 hown3 hf3; have hb3 := below_own (own_keep hown (below_alloc _ _)) hf3 (hb.trans ((below_alloc _ _).mono hb.size)) (by simp; omega); have hd0 := cell_keep hb3 HC.out.1; have hd1 := cell_keep hb3 HC.out.2)
        | (go_at_call 243; refine (content_any _ _ hs a _ (h2.keep (bt hb01 hb3)) (by rw [HLEN.out]; omega)).mono ?_; rintro e w4 ⟨rfl, hb4⟩))
      go_roundg (gk - 1)
      case rel => exact ⟨k + 1, l ++ [a], ct hs a, by have := HK.out; omega, by omega, by have := HK.out; simp; omega, rfl, HP.out, own_keep hown3 hb4, bt hb3 hb4⟩
      case measure => have := HK.out; omega
end Go.Proofs.Ytapoillhgimdiaa
