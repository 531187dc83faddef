/- Names after names; a canonical form has the shape of its state; the canonical form of a canonical form. -/
import Derived.Test.YtnhhfbhhglhocaaShapes
import Derived.Test.YtnhhfbhhglhocaaCans
namespace Go.Proofs.Ytnhhfbhhglhocaa

theorem iso_backC {vl hl vm hm p : List Int} (hl8 : hl.length = 8) (h : Iso vl hl vm hm p) : Iso vm hm vl hl (backN p 8) := by
  obtain ⟨p8, hg, hV, hH⟩ := h
  exact ⟨backN_len _ _, back_good hg, by rw [← hV, renV_back hg], by rw [← hH, renH_back hl8 hg]⟩
def idNC : List Int := [1, 2, 3, 4, 5, 6, 7, 8]
theorem nm_idC (v : Int) : nm idNC v = v := by
  by_cases h : isAddrB v = true
  · have := isAddrB_iff.1 h
    rw [nm, if_pos h]
    obtain ⟨k, hk⟩ : ∃ k : Nat, v = (k : Int) + 1 := ⟨(v - 1).toNat, by omega⟩
    subst hk
    have hk8 : k < 8 := by omega
    rw [show ((k : Int) + 1 - 1).toNat = k by omega]
    match k, hk8 with
    | 0, _ => rfl
    | 1, _ => rfl
    | 2, _ => rfl
    | 3, _ => rfl
    | 4, _ => rfl
    | 5, _ => rfl
    | 6, _ => rfl
    | 7, _ => rfl
  · exact nm_not h
theorem id_goodC : goodTo idNC 8 = true := by decide
theorem renV_idC (vl : List Int) : renV idNC vl = vl := by
  unfold renV
  rw [show nm idNC = id from funext nm_idC, List.map_id]
theorem renH_idC {hl : List Int} (h8 : hl.length = 8) : renH idNC hl = hl := by
  refine gi_ext (renH_len _ _) fun i hi => ?_
  rw [renH_len, h8] at hi
  obtain ⟨j, h1, h2, h3⟩ := renH_all h8 id_goodC hi
  have e := nm_at (p := idNC) h1
  rw [nm_idC] at e
  have : j = i := by omega
  rw [h3, nm_idC, this]

theorem nm_comp {q p : List Int} (hp8 : p.length = 8) (v : Int) : nm (renV q p) v = nm q (nm p v) := by
  by_cases h : isAddrB v = true
  · have h' := isAddrB_iff.1 h
    rw [nm, if_pos h, gi_renV (by omega), show nm p v = gi p (v - 1).toNat by rw [nm, if_pos h]]
  · rw [nm_not h, nm_not h, nm_not h]
theorem good_comp {q p : List Int} (hp8 : p.length = 8) (hp : goodTo p 8 = true) (hq : goodTo q 8 = true) : goodTo (renV q p) 8 = true := by
  refine good_of (fun i hi => ?_) (fun i j hi hj e => ?_)
  · rw [gi_renV (by omega)]
    exact nm_addr hq (isAddrB_iff.2 (good_addr hi hp))
  · rw [gi_renV (by omega), gi_renV (by omega)] at e
    exact good_inj hi hj hp (nm_inj hq (good_addr (show i < 8 by omega) hp).2 (good_addr hj hp).2 e)
theorem iso_trans {va H vb hb vc hc p q : List Int} (h8 : H.length = 8) (h : Iso va H vb hb p) (k : Iso vb hb vc hc q) : Iso va H vc hc (renV q p) := by
  obtain ⟨p8, pg, rfl, rfl⟩ := h
  obtain ⟨q8, qg, rfl, rfl⟩ := k
  have hg := good_comp p8 pg qg
  refine ⟨by rw [renV_len, p8], hg, ?_, ?_⟩
  · unfold renV
    rw [List.map_map]
    exact List.map_congr_left fun v _ => nm_comp p8 v
  · refine gi_ext (by rw [renH_len, renH_len, renH_len]) fun i hi => ?_
    rw [renH_len, h8] at hi
    obtain ⟨j, h1, h2, h3⟩ := renH_all h8 hg hi
    have hga := good_addr h1 pg
    have e1 := renH_at h8 pg h1
    have e2 := renH_at (hs := renH p H) (by rw [renH_len, h8]) qg (j := (gi p j - 1).toNat) (by omega)
    rw [gi_renV (by omega)] at h2
    have e3 : gi q (gi p j - 1).toNat = (i : Int) + 1 := by rw [← h2, nm, if_pos (isAddrB_iff.2 hga)]
    rw [e3, e1, show ((i : Int) + 1 - 1).toNat = i by omega] at e2
    rw [h3, nm_comp p8, e2]

theorem can_iso {vl hl : List Int} (hv : validB vl hl = true) : Iso vl hl (canV vl hl) (canH vl hl) (backN (ordL vl hl) 8) := by
  refine ⟨backN_len _ _, back_good (ordL_names _ _), ?_, ?_⟩
  · rw [canV, if_pos hv]
  · rw [canH, if_pos hv]
/-- One canonical form, one shape. -/
theorem can_shape {vl hl vm hm : List Int} (hv : validB vl hl = true) (hw : validB vm hm = true) (e1 : canV vl hl = canV vm hm) (e2 : canH vl hl = canH vm hm) : shapeB vl hl vm hm = true := by
  have h1 := can_iso hv
  have h2 := iso_backC (valid_len hw).2 (can_iso hw)
  rw [e1, e2] at h1
  exact shape_iff.2 ⟨hv, hw, _, iso_trans (valid_len hv).2 h1 h2⟩
theorem can_valid {vl hl : List Int} (hv : validB vl hl = true) : validB (canV vl hl) (canH vl hl) = true := by
  rw [canV, canH, if_pos hv, if_pos hv]
  exact ren_valid (back_good (ordL_names _ _)) hv
theorem shape_can {vl hl : List Int} (hv : validB vl hl = true) : shapeB vl hl (canV vl hl) (canH vl hl) = true :=
  shape_iff.2 ⟨hv, can_valid hv, _, can_iso hv⟩

theorem mem_allA {m : Nat} {v : Int} : v ∈ allA m ↔ 1 ≤ v ∧ v ≤ (m : Int) := by
  unfold allA
  rw [mem_sel]
  constructor
  · rintro ⟨n, rfl, h1, h2, _⟩; omega
  · rintro ⟨h1, h2⟩; exact ⟨v.toNat, by omega, by omega, by omega, rfl⟩
theorem allA_snoc (m : Nat) : allA (m + 1) = allA m ++ [(m : Int) + 1] := by
  unfold allA
  rw [sel_yes (by rfl)]
  congr 2
  omega
theorem allA_len : ∀ m, (allA m).length = m
  | 0 => rfl
  | m + 1 => by rw [allA_snoc, List.length_append, allA_len]; rfl
theorem gi_allA : ∀ {m i : Nat}, i < m → gi (allA m) i = (i : Int) + 1
  | m + 1, i, h => by
    rw [allA_snoc, gi_app, allA_len]
    split
    · rename_i h1; exact gi_allA h1
    · obtain rfl : i = m := by omega
      simp [gi]
theorem pre_map {L l t : List Int} (hL : L.length = 8) (hg : goodTo L 8 = true) (h : L = l ++ t) : renV (backN L 8) l = allA l.length :=
  gi_ext (by rw [renV_len, allA_len]) fun i hi => by
    rw [renV_len] at hi
    have h8 : i < 8 := by have := congrArg List.length h; simp at this; omega
    have e : gi l i = gi L i := by rw [h, gi_app, if_pos hi]
    rw [gi_renV hi, gi_allA hi, e, ← nm_at h8, nm_back hg]
theorem renV_app (p l m : List Int) : renV p (l ++ m) = renV p l ++ renV p m := by simp [renV]
theorem mem_renV {p l : List Int} (hg : goodTo p 8 = true) {v : Int} (hl : ∀ x ∈ l, x ≤ 8) (hv : v ≤ 8) : nm p v ∈ renV p l ↔ v ∈ l := by
  constructor
  · intro h
    obtain ⟨x, hx, e⟩ := List.mem_map.1 h
    rw [← nm_inj hg (hl x hx) hv e]; exact hx
  · intro h; exact List.mem_map.2 ⟨v, h, rfl⟩
theorem walkN_ren {vl hl p : List Int} (hv : validB vl hl = true) (hg : goodTo p 8 = true) : ∀ (f : Nat) (l : List Int) (v : Int), (∀ x ∈ l, x ≤ 8) → v ≤ 8 → walkN (renH p hl) f (renV p l) (nm p v) = renV p (walkN hl f l v)
  | 0, _, _, _, _ => rfl
  | f + 1, l, v, h1, h2 => by
    unfold walkN
    by_cases h : isAddrB v = true ∧ ¬ v ∈ l
    · rw [if_pos h, if_pos ⟨by rw [nm_isAddr hg]; exact h.1, fun e => h.2 ((mem_renV hg h1 h2).1 e)⟩, ct_ren (valid_len hv).2 hg, show renV p l ++ [nm p v] = renV p (l ++ [v]) by rw [renV_app]; rfl]
      exact walkN_ren hv hg f _ _ (fun x hx => by
        rcases List.mem_append.1 hx with hx | hx
        · exact h1 x hx
        · simp at hx; omega) (valid_ct hv v).2
    · rw [if_neg h, if_neg]
      rintro ⟨a, b⟩
      rw [nm_isAddr hg] at a
      exact h ⟨a, fun e => b ((mem_renV hg h1 h2).2 e)⟩
theorem walkL_ren {vl hl p : List Int} (hv : validB vl hl = true) (hg : goodTo p 8 = true) {l : List Int} {v : Int} (h1 : GoodL l) (h2 : v ≤ 8) : walkL (renH p hl) (renV p l) (nm p v) = renV p (walkL hl l v) :=
  walkN_ren hv hg 9 l v (fun _ hx => (goodL_mem h1 hx).2) h2
theorem fold_ren {vl hl p : List Int} (hv : validB vl hl = true) (hg : goodTo p 8 = true) : ∀ (us l : List Int), GoodL l → (∀ u ∈ us, u ≤ 8) → (renV p us).foldl (walkL (renH p hl)) (renV p l) = renV p (us.foldl (walkL hl) l)
  | [], _, _, _ => rfl
  | u :: us, l, h, hu => by
    show (renV p us).foldl _ (walkL (renH p hl) (renV p l) (nm p u)) = _
    rw [walkL_ren hv hg h (hu u List.mem_cons_self), List.foldl_cons]
    exact fold_ren hv hg us _ (walk_good h) fun x hx => hu x (List.mem_cons_of_mem _ hx)
theorem fold_stay {hs : List Int} : ∀ (us l : List Int), (∀ u ∈ us, u ∈ l) → us.foldl (walkL hs) l = l
  | [], _, _ => rfl
  | u :: us, l, h => by
    rw [List.foldl_cons, walkL_no (fun e => e.2 (h u List.mem_cons_self))]
    exact fold_stay us l fun x hx => h x (List.mem_cons_of_mem _ hx)
theorem sel_split (d : Nat → Bool) (a k m : Nat) : sel d a (k + m) = sel d a k ++ sel d (a + k) m := by
  unfold sel
  rw [← List.range'_append_1, List.filter_append, List.map_append]
/-- The starts from m+1 on, walked. -/
def restF (hs : List Int) (d : Nat → Bool) (m : Nat) : List Int := (sel d (m + 1) (8 - m)).foldl (walkL hs) (allA m)
theorem rest_from {hs : List Int} {d : Nat → Bool} {a m : Nat} (h1 : 1 ≤ a) (ha : a ≤ m + 1) (hm : m ≤ 8) : (sel d a (9 - a)).foldl (walkL hs) (allA m) = restF hs d m := by
  have st : (sel d a (m + 1 - a)).foldl (walkL hs) (allA m) = allA m := fold_stay _ _ fun u hu => by
    obtain ⟨n, rfl, h2, h3, _⟩ := mem_sel.1 hu
    exact mem_allA.2 (by omega)
  rw [show 9 - a = (m + 1 - a) + (8 - m) by omega, sel_split, List.foldl_append, st, show a + (m + 1 - a) = m + 1 by omega]
  rfl
theorem rest_one {hs : List Int} {d : Nat → Bool} {m m' : Nat} (hd : d (m + 1) = true) (hm : m < 8) (hw : walkL hs (allA m) ((m : Int) + 1) = allA m') (h1 : m + 1 ≤ m') (h8 : m' ≤ 8) : restF hs d m = restF hs d m' := by
  have e : sel d (m + 1) (8 - m) = ((m : Int) + 1) :: sel d (m + 2) (9 - (m + 2)) := by
    rw [show 8 - m = 1 + (9 - (m + 2)) by omega, sel_split, show m + 1 + 1 = m + 2 by omega]
    have : sel d (m + 1) 1 = [(m : Int) + 1] := by rw [show (1 : Nat) = 0 + 1 from rfl, sel_yes (by simpa using hd), sel_zero]; simp
    rw [this]; rfl
  rw [restF, e, List.foldl_cons, hw, rest_from (by omega) (by omega) h8]
theorem chain {vl hl L : List Int} (hv : validB vl hl = true) (hL : L.length = 8) (hg : goodTo L 8 = true) {ds : Int → Bool} {d : Nat → Bool} (hd : ∀ v : Int, 1 ≤ v → v ≤ 8 → d (nm (backN L 8) v).toNat = ds v) :
    ∀ (us l t : List Int), L = us.foldl (walkL hl) l ++ t → GoodL l → (∀ u ∈ us, (1 ≤ u ∧ u ≤ 8) ∧ ds u = true) → (∀ v : Int, 1 ≤ v → v ≤ 8 → ds v = true → v ∈ l ∨ v ∈ us) →
    restF (renH (backN L 8) hl) d l.length = allA (us.foldl (walkL hl) l).length
  | [], l, t, h, hgl, _, hall => by
    have hp := pre_map hL hg (l := l) (t := t) h
    have h8 := goodL_len hgl
    refine (fold_stay _ _ fun u hu => ?_).trans rfl
    obtain ⟨n, rfl, h2, h3, h4⟩ := mem_sel.1 hu
    exfalso
    have hn8 : n ≤ 8 := by omega
    have hb := back_good hg
    have e : nm (backN L 8) (gi L (n - 1)) = (n : Int) := by rw [← nm_at (p := L) (k := n - 1) (by omega), nm_back hg]; omega
    have ha := good_addr (show n - 1 < 8 by omega) hg
    have hdn := hd _ ha.1 ha.2
    rw [e, show ((n : Int)).toNat = n by omega, h4] at hdn
    rcases hall _ ha.1 ha.2 hdn.symm with hh | hh
    · have : nm (backN L 8) (gi L (n - 1)) ∈ renV (backN L 8) l := List.mem_map.2 ⟨_, hh, rfl⟩
      rw [e, hp, mem_allA] at this
      omega
    · cases hh
  | u :: us, l, t, h, hgl, hu, hall => by
    rw [List.foldl_cons] at h
    have hu0 := hu u List.mem_cons_self
    by_cases hul : u ∈ l
    · have hw : walkL hl l u = l := walkL_no (fun e => e.2 hul)
      rw [List.foldl_cons]
      rw [hw] at h ⊢
      exact chain hv hL hg hd us l t h hgl (fun x hx => hu x (List.mem_cons_of_mem _ hx)) fun v h1 h2 h3 => by
        rcases hall v h1 h2 h3 with hh | hh
        · exact .inl hh
        · rcases List.mem_cons.1 hh with rfl | hh
          · exact .inl hul
          · exact .inr hh
    · have hau : isAddrB u = true := isAddrB_iff.2 hu0.1
      have hgw := walk_good (hs := hl) (v := u) hgl
      obtain ⟨t1, ht1⟩ := fold_pre (hs := hl) us _ hgw
      obtain ⟨t2, ht2⟩ := walk_pre (hs := hl) (v := ct hl u) (goodL_snoc hgl hau hul)
      rw [← walkL_yes hgl hau hul] at ht2
      have h8 := goodL_len hgw
      have hlen : (walkL hl l u).length = l.length + 1 + t2.length := by rw [ht2]; simp; omega
      have hp := pre_map hL hg (l := l) (t := [u] ++ t2 ++ t1 ++ t) (by rw [h, ht1, ht2]; simp)
      have hpu := pre_map hL hg (l := l ++ [u]) (t := t2 ++ t1 ++ t) (by rw [h, ht1, ht2]; simp)
      have hpw := pre_map hL hg (l := walkL hl l u) (t := t1 ++ t) (by rw [h, ht1]; simp)
      have hnu : nm (backN L 8) u = (l.length : Int) + 1 := by
        rw [renV_app, hp, show (l ++ [u]).length = l.length + 1 by simp, allA_snoc] at hpu
        have := List.append_cancel_left hpu
        simpa [renV] using this
      have hw2 := walkL_ren hv (back_good hg) hgl hu0.1.2
      rw [hp, hpw, hnu] at hw2
      have hdu := hd u hu0.1.1 hu0.1.2
      rw [hnu, hu0.2, show ((l.length : Int) + 1).toNat = l.length + 1 by omega] at hdu
      rw [rest_one hdu (by omega) hw2 (by omega) h8, List.foldl_cons]
      exact chain hv hL hg hd us _ t h hgw (fun x hx => hu x (List.mem_cons_of_mem _ hx)) fun v h1 h2 h3 => by
        rcases hall v h1 h2 h3 with hh | hh
        · left; rw [ht2]; simp [hh]
        · rcases List.mem_cons.1 hh with rfl | hh
          · left; rw [ht2]; simp
          · exact .inr hh
/-- The order of a canonical form. -/
theorem ord_can {vl hl : List Int} (hv : validB vl hl = true) : ordL (renV (backN (ordL vl hl) 8) vl) (renH (backN (ordL vl hl) 8) hl) = allA 8 := by
  obtain ⟨L, hLd⟩ : ∃ L, L = ordL vl hl := ⟨_, rfl⟩
  have hL : L.length = 8 := by rw [hLd]; exact ordL_len vl hl
  have hg : goodTo L 8 = true := by rw [hLd]; exact ordL_names vl hl
  rw [← hLd]
  have hb := back_good hg
  obtain ⟨t2, ht2⟩ := fold_pre (hs := hl) (allA 8) _ (ord2_good vl hl)
  obtain ⟨t1, ht1⟩ := fold_pre (hs := hl) (usedA hl) _ (ord1_good vl hl)
  have e2 : L = ord2 vl hl ++ t2 := by rw [hLd]; exact ht2
  have e1 : L = ord1 vl hl ++ (t1 ++ t2) := by rw [e2, ← List.append_assoc]; congr 1
  have hvl : ∀ u ∈ vl, u ≤ 8 := fun u hu => by
    obtain ⟨i, hi, rfl⟩ := List.getElem_of_mem hu
    rw [← gi_of hi]
    exact (valid_vat hv (by have := (valid_len hv).1; omega)).2
  have o1 : ord1 (renV (backN L 8) vl) (renH (backN L 8) hl) = allA (ord1 vl hl).length := by
    rw [← pre_map hL hg e1]
    exact fold_ren hv hb vl [] goodL_nil hvl
  have toN : ∀ v : Int, 1 ≤ v → v ≤ 8 → (((nm (backN L 8) v).toNat : Nat) : Int) = nm (backN L 8) v := fun v h1 h2 => by
    have := nm_addr hb (isAddrB_iff.2 ⟨h1, h2⟩)
    omega
  have o2 : ord2 (renV (backN L 8) vl) (renH (backN L 8) hl) = allA (ord2 vl hl).length := by
    rw [ord2, o1]
    refine (rest_from (a := 1) (by omega) (by omega) (goodL_len (ord1_good vl hl))).trans ?_
    exact chain hv hL hg (ds := alB hl) (fun v h1 h2 => by
      show alB _ (((nm (backN L 8) v).toNat : Nat) : Int) = _
      rw [toN v h1 h2]; exact al_ren hv hb v) (usedA hl) (ord1 vl hl) t2 e2 (ord1_good vl hl) (fun u hu => by
        obtain ⟨n, rfl, h2, h3, h4⟩ := mem_sel.1 hu
        exact ⟨by omega, h4⟩) (fun v h1 h2 h3 => .inr (mem_sel.2 ⟨v.toNat, by omega, by omega, by omega, by rw [show ((v.toNat : Nat) : Int) = v by omega]; exact h3⟩))
  have e3 : L = (sel (fun _ => true) 1 8).foldl (walkL hl) (ord2 vl hl) ++ [] := by rw [List.append_nil, hLd]; rfl
  have c3 := chain hv hL hg (ds := fun _ => true) (d := fun _ => true) (fun v h1 h2 => rfl) (sel (fun _ => true) 1 8) (ord2 vl hl) [] e3 (ord2_good vl hl) (fun u hu => ⟨by obtain ⟨n, rfl, h2, h3, _⟩ := mem_sel.1 hu; omega, rfl⟩) (fun v h1 h2 _ => .inr (mem_sel.2 ⟨v.toNat, by omega, by omega, by omega, rfl⟩))
  rw [List.append_nil] at e3
  rw [← e3, hL] at c3
  have c4 := rest_from (hs := renH (backN L 8) hl) (d := fun _ => true) (a := 1) (m := (ord2 vl hl).length) (by omega) (by omega) (goodL_len (ord2_good vl hl))
  rw [c3, ← o2] at c4
  exact c4
theorem can_can {vl hl : List Int} (hv : validB vl hl = true) : canV (canV vl hl) (canH vl hl) = canV vl hl ∧ canH (canV vl hl) (canH vl hl) = canH vl hl := by
  have hw := can_valid hv
  have ho : ordL (canV vl hl) (canH vl hl) = allA 8 := by
    rw [canV, canH, if_pos hv, if_pos hv]; exact ord_can hv
  have hb : backN (allA 8) 8 = idNC := by decide
  constructor
  · rw [show canV (canV vl hl) (canH vl hl) = renV (backN (ordL (canV vl hl) (canH vl hl)) 8) (canV vl hl) from if_pos hw, ho, hb, renV_idC]
  · rw [show canH (canV vl hl) (canH vl hl) = renH (backN (ordL (canV vl hl) (canH vl hl)) 8) (canH vl hl) from if_pos hw, ho, hb, renH_idC (valid_len hw).2]
end Go.Proofs.Ytnhhfbhhglhocaa
