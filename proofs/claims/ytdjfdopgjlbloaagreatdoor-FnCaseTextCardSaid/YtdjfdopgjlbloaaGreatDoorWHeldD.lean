/- Laws for the walks: a drawn region in which a cell is read first and written last. -/
import Derived.Deep.RegionHeld3
namespace Go.Proofs.YtdjfdopgjlbloaaGreatDoor
open Go

section
variable {P : Program} {ops : Array Oper} {Q : Exit → Act → World → Prop} {md : Region.Mode} {S T : World → Prop} {dep : List Nat}
/-- None of the late operations has come up. -/
def Early (dep : List Nat) (listed : Array Bool) : Prop := ∀ k ∈ dep, listed.getD k true = false
theorem Early.of_set {i : Nat} {listed : Array Bool} (h : Early dep (listed.setIfInBounds i true)) (hi : i ∉ dep) : Early dep listed := fun k hk => by
  have := h k hk
  rwa [getD_set_ne true (fun e => hi (by rw [e]; exact hk))] at this
theorem Early.set {i : Nat} {listed : Array Bool} (h : Early dep listed) (hi : i ∉ dep) : Early dep (listed.setIfInBounds i true) := fun k hk => by
  rw [getD_set_ne true (fun e => hi (by rw [e]; exact hk))]; exact h k hk
/-- Whatever order is picked: till a late operation comes up S holds behind each. -/
def wpAnyD (P : Program) (md : Region.Mode) (ops : Array Oper) (Q : Exit → Act → World → Prop) (S : World → Prop) (dep : List Nat) : Nat → Array Bool → Act → World → Prop
  | 0, listed, a, w => Region.ready md ops listed = [] ∧ Q .normal a w
  | fuel + 1, listed, a, w => (Region.ready md ops listed = [] → Q .normal a w) ∧
    ∀ i ∈ Region.ready md ops listed, wpOp P ops Q i (fun a' w' => (Early dep (listed.setIfInBounds i true) → S w') ∧ wpAnyD P md ops Q S dep fuel (listed.setIfInBounds i true) a' w') a w
theorem wpAny_of_late : ∀ (fuel : Nat) (listed : Array Bool) (a : Act) (w : World), wpAnyD P md ops Q S dep fuel listed a w → wpAny P md ops Q fuel listed a w
  | 0, _, _, _, h => h
  | fuel + 1, _, _, _, h => ⟨h.1, fun i hi => wpOp_mono (fun a' w' h' => wpAny_of_late fuel _ a' w' h'.2) (h.2 i hi)⟩
theorem wpAnyD_first {i : Nat} {oi : Oper} {v : Value} (hi : ops[i]? = some oi) (hsel : ∀ (j : Nat) (o : Oper) cs b, ops[j]? = some o → o.op ≠ .select cs b)
    (hQ : ∀ c a w, Q (.panic c) (a.put oi.dst v) w → Q (.panic c) a w) (hid : i ∉ dep) (Inv : Array Bool → Prop)
    (hinv : ∀ (listed : Array Bool) (j : Nat) (w' : World), Inv listed → i ∈ Region.ready md ops listed → j ∈ Region.ready md ops listed → j ≠ i → (Early dep (listed.setIfInBounds j true) → S w') → Inv (listed.setIfInBounds j true) ∧ T w') :
    ∀ (fuel : Nat) (listed : Array Bool) (a : Act) (w : World),
      (∀ j oj, ops[j]? = some oj → j ≠ i → listed.getD j true = false → (∀ e ∈ oj.after, Region.binds md e = true → e.on ≠ i) → oi.apart ops oj = true) →
      i ∈ Region.ready md ops listed → Inv listed → YieldsIf P ops T oi v a → T w → (Early dep listed → S w) →
      wpAnyD P md ops Q S dep fuel (listed.setIfInBounds i true) (a.put oi.dst v) w → wpAnyD P md ops Q S dep (fuel + 1) listed a w := by
  intro fuel
  induction fuel with
  | zero =>
    intro listed a w _ hr _ hy hT hS H
    refine ⟨fun h => (by rw [h] at hr; cases hr), fun j hj => ?_⟩
    by_cases hji : j = i
    · subst hji; exact hy.wpOp hi hT ⟨fun h => hS (h.of_set hid), H⟩
    · have := ready_mono hj hji
      rw [H.1] at this
      cases this
  | succ fuel ih =>
    intro listed a w hfree hr hI hy hT hS H
    refine ⟨fun h => (by rw [h] at hr; cases hr), fun j hj => ?_⟩
    by_cases hji : j = i
    · subst hji; exact hy.wpOp hi hT ⟨fun h => hS (h.of_set hid), H⟩
    · have h1 := H.2 j (ready_mono hj hji)
      obtain ⟨hjun, oj, hoj, hall⟩ := mem_ready.1 hj
      have hnot : ∀ e ∈ oj.after, Region.binds md e = true → e.on ≠ i := fun e he hb heq => by
        have h2 := hall e he hb
        rw [heq] at h2
        have h0 := (mem_ready.1 hr).1
        rcases Nat.lt_or_ge i listed.size with h' | h'
        · simp [h'] at h0 h2; rw [h0] at h2; cases h2
        · simp [Array.getElem?_eq_none h'] at h2
      have h2 := wpOp_putIf hoj (hfree j oj hoj hji hjun hnot) (fun cs b => hsel i oi cs b hi) (fun cs b => hsel j oj cs b hoj) hQ hy h1
      have hfree' : ∀ k ok, ops[k]? = some ok → k ≠ i → (listed.setIfInBounds j true).getD k true = false →
          (∀ e ∈ ok.after, Region.binds md e = true → e.on ≠ i) → oi.apart ops ok = true := fun k ok hk hki hun hno => by
        refine hfree k ok hk hki ?_ hno
        by_cases hjk : j = k
        · subst hjk; exact hjun
        · rw [getD_set_ne true hjk] at hun; exact hun
      refine wpOp_mono (fun a' w' h3 => ?_) h2
      have hE : Early dep (listed.setIfInBounds j true) → S w' := fun he => h3.2.1 (by
        rw [Array.setIfInBounds_comm _ _ (Ne.symm hji)]
        exact he.set hid)
      obtain ⟨hI', hT'⟩ := hinv listed j w' hI hr hj hji hE
      refine ⟨hE, ih (listed.setIfInBounds j true) a' w' hfree' (ready_mono hr (Ne.symm hji)) hI' h3.1 hT' hE ?_⟩
      rw [Array.setIfInBounds_comm _ _ hji]
      exact h3.2.2
/-- Each late operation waits for number i, or for another late one. -/
def lateB (md : Region.Mode) (ops : Array Oper) (dep : List Nat) (i : Nat) : Bool :=
  !dep.contains i && dep.all fun k => match ops[k]? with
    | some ok => ok.after.any fun e => Region.binds md e && (e.on == i || dep.contains e.on)
    | none => false
def earlyB (dep : List Nat) (listed : Array Bool) : Bool := dep.all fun k => !listed.getD k true
theorem early_of {listed : Array Bool} (h : earlyB dep listed = true) : Early dep listed := fun k hk => by
  have := (List.all_eq_true.1 h) k hk
  simpa using this
theorem listed_two {i : Nat} {listed : Array Bool} (h : listed.getD i true = false) (h2 : listed.getD i false = true) : False := by
  rcases Nat.lt_or_ge i listed.size with h' | h'
  · simp [h'] at h h2; rw [h] at h2; cases h2
  · simp [Array.getElem?_eq_none h'] at h
/-- The operations that wait for number i, at once or through others. -/
def cloB (md : Region.Mode) (ops : Array Oper) (i : Nat) : List Nat :=
  (List.range ops.size).foldl (fun C k => match ops[k]? with
    | some ok => if ok.after.any fun e => Region.binds md e && (e.on == i || C.contains e.on) then k :: C else C
    | none => C) []
/-- The late operations wait for number i, at once or through others. -/
def lateC (md : Region.Mode) (ops : Array Oper) (dep : List Nat) (i : Nat) : Bool :=
  !dep.contains i && (dep.all fun k => (cloB md ops i).contains k) && lateB md ops (cloB md ops i) i
/-- A load is taken first. -/
theorem wpAnyD_take {i : Nat} {oi : Oper} {v : Value} {fuel : Nat} {listed : Array Bool} {a : Act} {w : World} (hi : ops[i]? = some oi)
    (hs : Region.noSelect ops = true) (hf : Region.free md ops listed i = true) (hr : (Region.ready md ops listed).contains i = true) (hl : lateC md ops dep i = true) (he : earlyB (cloB md ops i) listed = true)
    (hQ : ∀ c a w, Q (.panic c) (a.put oi.dst v) w → Q (.panic c) a w) (hy : YieldsIf P ops S oi v a) (hS : S w)
    (h : wpAnyD P md ops Q S dep fuel (listed.setIfInBounds i true) (a.put oi.dst v) w) : wpAnyD P md ops Q S dep (fuel + 1) listed a w := by
  rw [lateC, Bool.and_eq_true, Bool.and_eq_true] at hl
  obtain ⟨⟨hid0, hsub⟩, hlb⟩ := hl
  have hid : i ∉ dep := by simpa using hid0
  generalize cloB md ops i = C at *
  rw [lateB, Bool.and_eq_true] at hlb
  have hsub' : ∀ l : Array Bool, Early C l → Early dep l := fun l hE k hk => hE k (by simpa using (List.all_eq_true.1 hsub) k hk)
  refine wpAnyD_first (T := S) hi (Region.noSelect_spec hs) hQ hid (Early C) (fun listed j w' hI hir hjr hji hE => ?_) fuel listed a w (Region.free_spec hi hf) (by simpa using hr) (early_of he) hy hS (fun _ => hS) h
  have hjd : j ∉ C := fun hjd => by
    have h1 := (List.all_eq_true.1 hlb.2) j hjd
    obtain ⟨hjun, oj, hoj, hall⟩ := mem_ready.1 hjr
    rw [hoj] at h1
    obtain ⟨e, hee, hb⟩ := Array.any_eq_true'.1 h1
    rw [Bool.and_eq_true, Bool.or_eq_true, beq_iff_eq] at hb
    have h2 := hall e hee hb.1
    rcases hb.2 with h3 | h3
    · rw [h3] at h2; exact listed_two (mem_ready.1 hir).1 h2
    · exact listed_two (hI e.on (by simpa using h3)) h2
  exact ⟨hI.set hjd, hE (hsub' _ (hI.set hjd))⟩
/-- What hangs on no memory is taken first. -/
theorem wpAnyD_free {i : Nat} {oi : Oper} {v : Value} {fuel : Nat} {listed : Array Bool} {a : Act} {w : World} (hi : ops[i]? = some oi)
    (hs : Region.noSelect ops = true) (hf : Region.free md ops listed i = true) (hr : (Region.ready md ops listed).contains i = true) (hid : dep.contains i = false)
    (hQ : ∀ c a w, Q (.panic c) (a.put oi.dst v) w → Q (.panic c) a w) (hy : YieldsIf P ops (fun _ => True) oi v a) (hS : Early dep listed → S w)
    (h : (Early dep (listed.setIfInBounds i true) → S w) → wpAnyD P md ops Q S dep fuel (listed.setIfInBounds i true) (a.put oi.dst v) w) : wpAnyD P md ops Q S dep (fuel + 1) listed a w := by
  have hid' : i ∉ dep := by simpa using hid
  exact wpAnyD_first (T := fun _ => True) hi (Region.noSelect_spec hs) hQ hid' (fun _ => True) (fun _ _ _ _ _ _ _ _ => ⟨trivial, trivial⟩) fuel listed a w (Region.free_spec hi hf) (by simpa using hr) trivial hy trivial hS (h fun he => hS (he.of_set hid'))
/-- Each of the operations comes up next. -/
def AllReadyD (P : Program) (md : Region.Mode) (ops : Array Oper) (Q : Exit → Act → World → Prop) (S : World → Prop) (dep : List Nat) (fuel : Nat) (listed : Array Bool) (a : Act) (w : World) (rs : List Nat) : Prop :=
  ∀ i ∈ rs, wpOp P ops Q i (fun a' w' => (Early dep (listed.setIfInBounds i true) → S w') ∧ wpAnyD P md ops Q S dep fuel (listed.setIfInBounds i true) a' w') a w
theorem AllReadyD.nil {fuel : Nat} {listed : Array Bool} {a : Act} {w : World} : AllReadyD P md ops Q S dep fuel listed a w [] := fun _ h => by cases h
theorem AllReadyD.cons {fuel : Nat} {listed : Array Bool} {a : Act} {w : World} {i : Nat} {o : Oper} {rs : List Nat} (ho : ops[i]? = some o)
    (h : ∀ K' : Act → World → Prop, Shut (∀ a w, (Early dep (listed.setIfInBounds i true) → S w) → ((Early dep (listed.setIfInBounds i true) → S w) → wpAnyD P md ops Q S dep fuel (listed.setIfInBounds i true) a w) → K' a w) → if Region.wanted o (yielded ops a.tmps) = true then Oper.wp P o a w K' Q else K' (a.put o.dst undef) w)
    (hs : AllReadyD P md ops Q S dep fuel listed a w rs) : AllReadyD P md ops Q S dep fuel listed a w (i :: rs) := fun j hj => by
  rcases List.mem_cons.1 hj with rfl | hj
  · exact wpOp_step ho (fun K' hK => h K' (fun a w hS hW => hK a w ⟨hS, hW hS⟩))
  · exact hs j hj
theorem wpAnyD_ready {rs : List Nat} {fuel : Nat} {listed : Array Bool} {a : Act} {w : World} (hr : Region.ready md ops listed = rs) (hne : rs ≠ [])
    (h : AllReadyD P md ops Q S dep fuel listed a w rs) : wpAnyD P md ops Q S dep (fuel + 1) listed a w := ⟨fun h0 => absurd (hr ▸ h0) hne, hr ▸ h⟩
theorem wpAnyD_done {listed : Array Bool} {a : Act} {w : World} (hr : Region.ready md ops listed = []) (h : Q .normal a w) :
    ∀ fuel, wpAnyD P md ops Q S dep fuel listed a w
  | 0 => ⟨hr, h⟩
  | _ + 1 => ⟨fun _ => h, by rw [hr]; simp⟩
theorem wp_region_late {id : Nat} {a : Act} {w : World} (hm : P.follows .mixedOrders = true) (hS : S w.drew)
    (h : (Early dep (Array.replicate ops.size false) → S w.drew) → wpAnyD P .any ops Q S dep ops.size (Array.replicate ops.size false) a w.drew) : (Code.region id ops true).wp P Q a w :=
  wp_region_any hm (wpAny_of_late _ _ _ _ (h fun _ => hS))
/-- A late operation has come up: nothing more is asked. -/
theorem late_none {p : Prop} {i : Nat} {listed : Array Bool} (h : earlyB dep (listed.setIfInBounds i true) = false) : Early dep (listed.setIfInBounds i true) → p := fun he => by
  rw [show earlyB dep (listed.setIfInBounds i true) = true from List.all_eq_true.2 fun k hk => by rw [he k hk]; rfl] at h
  cases h
end
end Go.Proofs.YtdjfdopgjlbloaaGreatDoor
