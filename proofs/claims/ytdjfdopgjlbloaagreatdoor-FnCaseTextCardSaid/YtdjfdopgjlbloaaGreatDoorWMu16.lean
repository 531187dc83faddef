/- Walks: a proof of a case is copied and changed (the reference's l16Mutate). -/
import Derived.Test.YtdjfdopgjlbloaaGreatDoorWUL
import Derived.Test.YtdjfdopgjlbloaaGreatDoorWMtcA
import Derived.Test.YtdjfdopgjlbloaaGreatDoorWPrvA
import Derived.Test.YtdjfdopgjlbloaaGreatDoorWHeldD
import Derived.Deep.RegionLaw
import Derived.Deep.Cut
import Derived.Deep.DeepMust
import Derived.Handy
set_option linter.unusedSimpArgs false
set_option linter.unusedVariables false
namespace Go.Proofs.YtdjfdopgjlbloaaGreatDoor
open Go.RowKit

theorem ints_news {w : World} {S : Nat → Prop} {l : List Int} {news : List Value} (hl : news.length = l.length * Dat.sz Int) (h : ∀ i, i < l.length → Dat.rd w S (gd l i) (nth (Dat.sz Int) news i)) : news = ints l := by
  have hl2 : news.length = l.length := by rw [hl]; exact Nat.mul_one _
  refine List.ext_getElem (by simp [ints, hl2]) fun i h1 h2 => ?_
  have h3 : nth (Dat.sz Int) news i = [.int .i64 (gd l i)] := h i (by omega)
  have h4 := nth_at (sz := Dat.sz Int) (j := 0) (i := i) (xs := news) (u := .int .i64 (gd l i)) (by rw [h3]; rfl)
  rw [show i * Dat.sz Int + 0 = i from Nat.mul_one i, List.getElem?_eq_getElem h1] at h4
  rw [Option.some.inj h4, gd_of (by omega)]
  simp [ints]
/-- append([]int{}, l...). -/
theorem wp_icopy {o : Oper} {a : Act} {K : Act → World → Prop} {Q : Exit → Act → World → Prop} (s x : Operand)
    (ho : o.op = .call { callee := .builtin .append, args := #[s, x], argTypes := #[23, 23] }) {w : World} {g : Nat} (hg : g = w.heap.size) (hs : a.eval s = .slice (some ⟨g, 0, none⟩) 0 0) {vx : Value} {S : Nat → Prop} {l : List Int} (hx : a.eval x = vx)
    (hr : RL w S vx l) (hl : l.length ≤ 1048576) (h : ∀ v' w', w'.ownsRow g 3 1 v' l.length (ints l) → Below w.heap.size w w' → K (a.put o.dst v') w') : o.wp Tryz.prog a (w.alloc (.cells #[] 3)) K Q := by
  subst hg
  have hown := own_empty w w.heap.size 3 (Nat.le_refl _)
  refine wp_app (α := Int) s x _ ho ti_int hs hown hx (hr.alloc _) (by omega) (by simp) fun v' w' news h1 h2 h3 h4 h5 => h v' w' ?_ ?_
  · have e := ints_news h2 h3
    subst e
    have h1' : w'.ownsRow w.heap.size 3 1 v' (0 + l.length) (ints [] ++ ints l) := h1
    simpa [ints] using h1'
  · exact below_own hown h4 (below_alloc w _) (by simp)
theorem app_icopy {ops : Array Oper} {rest : List Oper} {o : Oper} {a : Act} {Q : Exit → Act → World → Prop} (hgd : o.guard = none) (s x : Operand)
    (ho : o.op = .call { callee := .builtin .append, args := #[s, x], argTypes := #[23, 23] }) {w : World} {g : Nat} (hg : g = w.heap.size) (hs : a.eval s = .slice (some ⟨g, 0, none⟩) 0 0) {vx : Value} {S : Nat → Prop} {l : List Int} (hx : a.eval x = vx)
    (hr : RL w S vx l) (hl : l.length ≤ 1048576) (h : ∀ v' w', w'.ownsRow g 3 1 v' l.length (ints l) → Below w.heap.size w w' → wpList Tryz.prog ops Q rest (a.put o.dst v') w') : wpList Tryz.prog ops Q (o :: rest) a (w.alloc (.cells #[] 3)) :=
  wpList_plain hgd fun _ hK => wp_icopy s x ho hg hs hx hr hl fun v' w' h1 h2 => hK _ _ (h v' w' h1 h2)
theorem step_icopy {ops : Array Oper} {o : Oper} {a : Act} {K : Act → World → Prop} {Q : Exit → Act → World → Prop} {E : Prop} (hgd : o.guard = none) (s x : Operand)
    (ho : o.op = .call { callee := .builtin .append, args := #[s, x], argTypes := #[23, 23] }) {w : World} {g : Nat} (hg : g = w.heap.size) (hs : a.eval s = .slice (some ⟨g, 0, none⟩) 0 0) {vx : Value} {S : Nat → Prop} {l : List Int} (hx : a.eval x = vx)
    (hr : RL w S vx l) (hl : l.length ≤ 1048576) (h : ∀ v' w', w'.ownsRow g 3 1 v' l.length (ints l) → Below w.heap.size w w' → K (a.put o.dst v') w') :
    if Region.wanted o (yielded ops a.tmps) = true then Oper.wp Tryz.prog o a (w.alloc (.cells #[] 3)) K Q else E := by
  have hw : Region.wanted o (yielded ops a.tmps) = true := by simp [Region.wanted, hgd]
  rw [if_pos hw]
  exact wp_icopy s x ho hg hs hx hr hl h
/-- What stands behind each draw: the copy's box and classes, the result's box, the reader. -/
structure MB (w0 w : World) (g q P : Nat) (cv uv : Value) (cl : List Int) : Prop where
  c : w.ownsRow (w0.heap.size + 2) 3 1 cv cl.length (ints cl)
  cP : ∀ k, some k = cv.ownBlock → k < P
  boxR : w.heap[w0.heap.size + 1]? = some (.cells #[.slice none 0 0, .slice none 0 0] 26 (0, 0))
  boxP : w.heap[P]? = some (.cells #[cv, uv] 26 (0, 0))
  rdr : Rdr w g q
  fr : Fr (fun j => j = g) w0 w
  hP : w0.heap.size + 2 ≤ P
  hg : g < w0.heap.size
section
variable {w0 w w' : World} {g q q' P : Nat} {cv uv v' : Value} {cl : List Int} {us : List (List Int)}
theorem MB.keep (h : MB w0 w g q P cv uv cl) (hb : Below w.heap.size w w') : MB w0 w' g q P cv uv cl :=
  ⟨own_keep h.c hb, h.cP, box_keep h.boxR hb, box_keep h.boxP hb, h.rdr.keep hb, h.fr.thenB hb, h.hP, h.hg⟩
theorem MB.drawn (h : MB w0 w g q P cv uv cl) (hr : Rdr w' g q') (hf : Fr (fun j => j = g) w w') : MB w0 w' g q' P cv uv cl :=
  ⟨own_kept h.c hf fun k hk e => by have := (own_lt h.c hk).1; have := h.hg; omega, h.cP, box_kept h.boxR hf (by have := h.hg; omega), box_kept h.boxP hf (by have := h.hP; have := h.hg; omega), hr, h.fr.trans hf, h.hP, h.hg⟩
/-- Blocks behind the copy's box have changed. -/
theorem MB.far {T : Nat → Prop} (h : MB w0 w g q P cv uv cl) (hf : Fr T w w') (hT : ∀ j, T j → P < j) : MB w0 w' g q P cv uv cl :=
  ⟨own_kept h.c hf fun k hk e => by have := h.cP k hk; have := hT k e; omega, h.cP, box_kept h.boxR hf (fun e => by have := hT _ e; have := h.hP; omega), box_kept h.boxP hf (fun e => by have := hT _ e; omega),
    h.rdr.kept hf (fun k hk e => by have := hT k e; have := h.hP; have := h.hg; omega), h.fr.then hf (fun i hi e => by have := hT i e; have := h.hP; omega), h.hP, h.hg⟩
/-- The uses are stored anew. -/
theorem MB.uses (h : MB w0 w g q P cv uv cl) (v : Value) : MB w0 (w.setCell ⟨P, 1, none⟩ v) g q P cv v cl :=
  have fr := fr_set w ⟨P, 1, none⟩ v
  ⟨own_kept h.c fr fun k hk e => by have := h.cP k hk; have e2 : k = P := e; omega, h.cP, box_kept h.boxR fr (by have := h.hP; show ¬ _ = P; omega), box_set1 h.boxP v,
    h.rdr.kept fr (fun k hk e => by have e2 : k = P := e; have := h.hP; have := h.hg; omega), h.fr.then fr (fun i hi e => by have e2 : i = P := e; have := h.hP; omega), h.hP, h.hg⟩
/-- A class is stored anew. -/
theorem MB.cls {g1 cap : Nat} (h : MB w0 w g q P (.slice (some ⟨g1, 0, none⟩) cl.length cap) uv cl) (i : Nat) (x : Int) : MB w0 (w.setCell ⟨g1, i, none⟩ (.int .i64 x)) g q P (.slice (some ⟨g1, 0, none⟩) cl.length cap) uv (cl.set i x) :=
  have fr := fr_set w ⟨g1, i, none⟩ (.int .i64 x)
  have h1 := h.cP g1 rfl
  have h2 := (own_lt h.c (k := g1) rfl).1
  have hs := own_set h.c i x
  ⟨hs, h.cP, box_kept h.boxR fr (by show ¬ _ = g1; omega), box_kept h.boxP fr (by show ¬ _ = g1; omega),
    h.rdr.kept fr (fun k hk e => by have e2 : k = g1 := e; have := h.hg; omega), h.fr.then fr (fun i hi e => by have e2 : i = g1 := e; omega), h.hP, h.hg⟩
theorem mb_end (h : MB w0 w g q P cv uv cl) (hu : RL w (fun j => P + 1 ≤ j) uv us) (hq : q ≤ q') :
    (RL ((w.setCell ⟨w0.heap.size + 1, 0, none⟩ cv).setCell ⟨w0.heap.size + 1, 1, none⟩ uv) (fun k => w0.heap.size ≤ k) cv cl ∧ RL ((w.setCell ⟨w0.heap.size + 1, 0, none⟩ cv).setCell ⟨w0.heap.size + 1, 1, none⟩ uv) (fun k => w0.heap.size ≤ k) uv us) ∧
      Rdr ((w.setCell ⟨w0.heap.size + 1, 0, none⟩ cv).setCell ⟨w0.heap.size + 1, 1, none⟩ uv) g q' ∧ Fr (fun j => j = g) w0 ((w.setCell ⟨w0.heap.size + 1, 0, none⟩ cv).setCell ⟨w0.heap.size + 1, 1, none⟩ uv) := by
  have hP := h.hP
  have hg := h.hg
  have hFF : Fr (fun j => j = w0.heap.size + 1) w ((w.setCell ⟨w0.heap.size + 1, 0, none⟩ cv).setCell ⟨w0.heap.size + 1, 1, none⟩ uv) := (fr_set w ⟨w0.heap.size + 1, 0, none⟩ cv).then (fr_set _ ⟨w0.heap.size + 1, 1, none⟩ uv) fun _ _ e => e
  have hc := own_rlP h.c
  exact ⟨⟨(hc.kept hFF (fun k _ hk e => by omega)).more fun k _ hk => by have h2 : w0.heap.size + 2 ≤ k := hk; omega, (hu.kept hFF (fun k _ hk e => by omega)).more fun k _ hk => by have h2 : P + 1 ≤ k := hk; omega⟩,
    (h.rdr.kept hFF (fun k hk e => by omega)).more hq, h.fr.then hFF (fun i hi e => by omega)⟩
theorem mb_drew {X : World} (h : (RL X (fun k => w0.heap.size ≤ k) cv cl ∧ RL X (fun k => w0.heap.size ≤ k) uv us) ∧ Rdr X g q ∧ Fr (fun j => j = g) w0 X) :
    (RL X.drew (fun k => w0.heap.size ≤ k) cv cl ∧ RL X.drew (fun k => w0.heap.size ≤ k) uv us) ∧ Rdr X.drew g q ∧ Fr (fun j => j = g) w0 X.drew :=
  have hd := below_drew X
  ⟨⟨h.1.1.keep hd, h.1.2.keep hd⟩, h.2.1.keep hd, h.2.2.thenB hd⟩
theorem news1g (w : World) (g : Nat) (hg : w.heap.size = g) (u : Value) (e : TypeId) : 0 < 1 → ∃ b o, some (⟨g, 0, none⟩ : Addr) = some ⟨b, o, none⟩ ∧ ∀ j x, [u][j]? = some x → (w.alloc (.cells #[u] e)).cell? ⟨b, o + j, none⟩ = some x := by
  subst hg; exact news1 w u e
end
set_option maxRecDepth 100000 in
set_option maxHeartbeats 12800000 in
theorem l16Mutate_any {S1 S2 : Nat → Prop} (g q : Nat) (v1 v2 : Value) (p : CPf) (w : World) (hr : Rdr w g q) (hq : q ≤ 1000000) (h1 : RL w S1 v1 p.1) (h2 : RL w S2 v2 p.2) (hl1 : p.1.length ≤ 1048576) (hl2 : p.2.length ≤ 1048576) (hl3 : ∀ u ∈ p.2, u.length ≤ 1048576) :
    Calls Tryz.prog 29 #[.pointer (some ⟨g, 0, none⟩), .agg #[v1, v2]] w fun e w' => ∃ (y1 y2 : Value) (p' : CPf), e = .returned (.agg #[y1, y2]) ∧ (RL w' (fun k => w.heap.size ≤ k) y1 p'.1 ∧ RL w' (fun k => w.heap.size ≤ k) y2 p'.2) ∧ Rdr w' g (q + 3) ∧ Fr (fun j => j = g) w w' := by
  obtain ⟨xa1, xc1, rfl⟩ := h1.form
  obtain ⟨xa2, xc2, rfl⟩ := h2.form
  have hgl := hr.lt
  have HL3 := Lib.hid hl3
  clear hl3
  go_enter Tryz.func29, Tryz.ntmps29
  go_wp2_with (at_builtin; go_must (refine app_icopy rfl (.tmp 8) (.tmp 10) rfl (by simp) rfl rfl (h1.keep Bl) hl1 ?_; intro v5 w5 o5 hb5; obtain ⟨ca, cc, rfl, _⟩ := own_form o5))
  have hb5' := bt (bt (below_alloc w (.cells #[.slice xa1 p.1.length xc1, .slice xa2 p.2.length xc2] 26)) (below_alloc _ (.cells #[.slice none 0 0, .slice none 0 0] 26))) hb5
  have hI := box_keep (box_keep (heap_alloc_new w (.cells #[.slice xa1 p.1.length xc1, .slice xa2 p.2.length xc2] 26)) (below_alloc _ (.cells #[.slice none 0 0, .slice none 0 0] 26))) hb5
  have hR := box_keep (heap_alloc_new (w.alloc (.cells #[.slice xa1 p.1.length xc1, .slice xa2 p.2.length xc2] 26)) (.cells #[.slice none 0 0, .slice none 0 0] 26)) hb5
  simp only [World.size_alloc] at hR
  have bl5 := below_alloc w5 (.cells #[.slice ca p.1.length cc, .slice none 0 0] 26)
  have hbox := heap_alloc_new w5 (.cells #[.slice ca p.1.length cc, .slice none 0 0] 26)
  have hs5 := hb5.size
  simp only [World.size_alloc] at hs5
  have hzP : (w5.alloc (.cells #[.slice ca p.1.length cc, .slice none 0 0] 26)).heap.size = w5.heap.size + 1 := by simp
  have hcP : ∀ k, some k = (Value.slice ca p.1.length cc).ownBlock → k < w5.heap.size := fun k hk => (own_lt o5 hk).2
  replace o5 := own_keep o5 bl5
  replace hI := box_keep hI bl5
  replace hR := box_keep hR bl5
  replace hb5' := bt hb5' bl5
  generalize w5.alloc (.cells #[.slice ca p.1.length cc, .slice none 0 0] 26) = wP at bl5 hbox hzP o5 hI hR hb5' ⊢
  obtain ⟨P, hP⟩ : ∃ P, P = w5.heap.size := ⟨_, rfl⟩
  rw [← hP] at hbox hzP hcP hs5 ⊢
  have H0 := Lib.hid (And.intro (And.intro o5 (And.intro hI (And.intro hR hb5'))) (And.intro hcP hbox))
  clear o5 hI hR hb5' hb5 bl5 hcP hbox hP h1
  go_loopg [6] p.2.length (fun q i wr => ∃ (k : Nat) (us : List (List Int)) (vu : Value), k + q = p.2.length ∧ i = .int .i64 k ∧ us = p.2.take k ∧ wr.heap[P]? = some (.cells #[.slice ca p.1.length cc, vu] 26 (0, 0)) ∧ OO wr (P + 1) vu us ∧ Below P wP wr)
  case atStart => exact ⟨0, [], _, by omega, rfl, rfl, H0.out.2.2, OO.nil _ _, Below.refl _ _⟩
  case round =>
    obtain ⟨k, us, vu, hk, rfl, hus, hbox, hu, hb⟩ := hrel
    have HK := Lib.hid hk
    have HB := Lib.hid hb
    have hz := box_lt hbox
    obtain ⟨va, vc, rfl⟩ := hu.form
    have HUL := Lib.hid hu
    have hI1 := box1 (box_kept H0.out.1.2.1 (Below.chg hb) (by omega))
    have hul : us.length ≤ p.2.length := by rw [hus, List.length_take]; omega
    have HUS := Lib.hid hus
    have hbI := H0.out.1.2.2.2
    clear hk hus hu
    by_cases hk8 : k < p.2.length
    · have HK2 := Lib.hid hk8
      have hp2 := (h2.lt.keep hbI).kept (Below.chg hb) (fun j _ hj e => by have : j < w.heap.size := hj; omega)
      obtain ⟨xa, xc, hre, _, _, hrf⟩ := hp2.listAt
      obtain ⟨xb, xo, x, hxa, hs1, hzc, hp, hrow⟩ := hrf k hk8
      simp only [Value.slice.injEq] at hre
      obtain ⟨hre1, _, hre3⟩ := hre
      rw [hxa] at hre1
      subst hre1
      have hs2 : xb < w.heap.size := hs1
      obtain ⟨U, hU⟩ : ∃ U, U = gd p.2 k := ⟨_, rfl⟩
      rw [← hU] at hrow
      have HU := Lib.hid (And.intro hU (show U.length ≤ 1048576 by rw [hU]; exact HL3.out _ (gd_mem hk8)))
      obtain ⟨ra, rc, rfl⟩ := hrow.form
      have hki : (k : Int) < (p.2.length : Int) := by omega
      clear hp2 hrf hU hxa hre3 hs1 hbI hb h2
      have dz := boxz hbox 1
      go_wp2
      refine wp_region_late (S := (fun w' => w'.cell? ⟨P, 1, none⟩ = some (.slice va us.length vc) ∧ w'.cell? ⟨w.heap.size, 1, none⟩ = some (.slice (some ⟨xb, xo, none⟩) p.2.length xc2) ∧ w'.cell? ⟨xb, xo + k, none⟩ = some (.slice ra U.length rc))) (dep := [12]) (by kernel_rfl) (⟨cell_keep (below_drew _) (box1 hbox), ⟨cell_keep (below_drew _) hI1, cell_keep (below_drew _) hp⟩⟩ : _ ∧ _ ∧ _) (fun hHeld => ?_)
      refine wpAnyD_free (i := 0) (oi := _) (v := ?_) rfl (by kernel_rfl) (by kernel_rfl) (by kernel_rfl) (by kernel_rfl) (fun _ _ _ h => h) (Or.inl ⟨by rfl, ?_⟩) hHeld (fun hHeld => ?_)
      rotate_left
      · (intro w _; first | (go_simp; done) | (go_simp; with_reducible rfl))
      try simp only [Act.put, List.setIfInBounds_toArray, List.set_cons_zero, List.set_cons_succ]
      refine wpAnyD_free (i := 3) (oi := _) (v := ?_) rfl (by kernel_rfl) (by kernel_rfl) (by kernel_rfl) (by kernel_rfl) (fun _ _ _ h => h) (Or.inl ⟨by rfl, ?_⟩) hHeld (fun hHeld => ?_)
      rotate_left
      · (intro w _; first | (go_simp; done) | (go_simp; with_reducible rfl))
      try simp only [Act.put, List.setIfInBounds_toArray, List.set_cons_zero, List.set_cons_succ]
      refine wpAnyD_free (i := 5) (oi := _) (v := ?_) rfl (by kernel_rfl) (by kernel_rfl) (by kernel_rfl) (by kernel_rfl) (fun _ _ _ h => h) (Or.inl ⟨by rfl, ?_⟩) hHeld (fun hHeld => ?_)
      rotate_left
      · (intro w _; first | (go_simp; done) | (go_simp; with_reducible rfl))
      try simp only [Act.put, List.setIfInBounds_toArray, List.set_cons_zero, List.set_cons_succ]
      refine wpAnyD_take (i := 1) (oi := _) (v := ?_) rfl (by kernel_rfl) (by kernel_rfl) (by kernel_rfl) (by kernel_rfl) (by kernel_rfl) (fun _ _ _ h => h) (Or.inl ⟨by rfl, ?_⟩) (hHeld (early_of (by kernel_rfl))) ?_
      rotate_left
      · (intro w hSw; (try dsimp only at hSw); first | (go_simp; done) | (go_simp; with_reducible rfl))
      try simp only [Act.put, List.setIfInBounds_toArray, List.set_cons_zero, List.set_cons_succ]
      replace hHeld := fun (he : Early _ _) => hHeld (Early.of_set (i := 1) he (by decide))
      refine wpAnyD_take (i := 4) (oi := _) (v := ?_) rfl (by kernel_rfl) (by kernel_rfl) (by kernel_rfl) (by kernel_rfl) (by kernel_rfl) (fun _ _ _ h => h) (Or.inl ⟨by rfl, ?_⟩) (hHeld (early_of (by kernel_rfl))) ?_
      rotate_left
      · (intro w hSw; (try dsimp only at hSw); first | (go_simp; done) | (go_simp; with_reducible rfl))
      try simp only [Act.put, List.setIfInBounds_toArray, List.set_cons_zero, List.set_cons_succ]
      replace hHeld := fun (he : Early _ _) => hHeld (Early.of_set (i := 4) he (by decide))
      refine wpAnyD_free (i := 6) (oi := _) (v := ?_) rfl (by kernel_rfl) (by kernel_rfl) (by kernel_rfl) (by kernel_rfl) (fun _ _ _ h => h) (Or.inl ⟨by rfl, ?_⟩) hHeld (fun hHeld => ?_)
      rotate_left
      · (intro w _; first | (go_simp; done) | (go_simp; with_reducible rfl))
      try simp only [Act.put, List.setIfInBounds_toArray, List.set_cons_zero, List.set_cons_succ]
      refine wpAnyD_take (i := 7) (oi := _) (v := ?_) rfl (by kernel_rfl) (by kernel_rfl) (by kernel_rfl) (by kernel_rfl) (by kernel_rfl) (fun _ _ _ h => h) (Or.inl ⟨by rfl, ?_⟩) (hHeld (early_of (by kernel_rfl))) ?_
      rotate_left
      · (intro w hSw; (try dsimp only at hSw); first | (go_simp; done) | (go_simp; with_reducible rfl))
      try simp only [Act.put, List.setIfInBounds_toArray, List.set_cons_zero, List.set_cons_succ]
      replace hHeld := fun (he : Early _ _) => hHeld (Early.of_set (i := 7) he (by decide))
      refine wpAnyD_ready (rs := [2]) (by kernel_rfl) (by simp) ?_
      refine (AllReadyD.cons (o := _) rfl (fun K hK => ?_) AllReadyD.nil)
      clear hHeld
      go_simp
      refine hK.out _ _ ?_ (fun hHeld => ?_)
      · exact fun _ => (⟨cell_keep Bl (box1 hbox), ⟨cell_keep Bl hI1, cell_keep Bl hp⟩⟩ : _ ∧ _ ∧ _)
      clear hK K
      try simp only [Act.put, List.setIfInBounds_toArray, List.set_cons_zero, List.set_cons_succ]
      refine wpAnyD_ready (rs := [8]) (by kernel_rfl) (by simp) ?_
      refine (AllReadyD.cons (o := _) rfl (fun K hK => ?_) AllReadyD.nil)
      clear hHeld
      refine step_icopy rfl (.tmp 22) (.tmp 27) rfl (w := wr.drew) (g := wr.heap.size) rfl rfl rfl (hrow.keep (below_drew wr)) HU.out.2 ?_
      intro v7 w7 o7 hb7
      obtain ⟨ga, gc, rfl, _⟩ := own_form o7
      have hb7w : Below wr.heap.size wr w7 := bt (below_drew wr) hb7
      have n1 := cell_keep hb7w (box1 hbox)
      have n2 := cell_keep hb7w hI1
      have n3 := cell_keep hb7w hp
      have hs7 := hb7w.size
      have H7 := Lib.hid (And.intro o7 hb7w)
      clear o7 hb7 hb7w
      refine hK.out _ _ ?_ (fun hHeld => ?_)
      · exact fun _ => (⟨n1, ⟨n2, n3⟩⟩ : _ ∧ _ ∧ _)
      clear hK K
      try simp only [Act.put, List.setIfInBounds_toArray, List.set_cons_zero, List.set_cons_succ]
      refine wpAnyD_ready (rs := [9]) (by kernel_rfl) (by simp) ?_
      refine (AllReadyD.cons (o := _) rfl (fun K hK => ?_) AllReadyD.nil)
      clear hHeld
      go_simp
      refine hK.out _ _ ?_ (fun hHeld => ?_)
      · exact fun _ => (⟨cell_keep (below_alloc _ _) n1, ⟨cell_keep (below_alloc _ _) n2, cell_keep (below_alloc _ _) n3⟩⟩ : _ ∧ _ ∧ _)
      clear hK K
      try simp only [Act.put, List.setIfInBounds_toArray, List.set_cons_zero, List.set_cons_succ]
      refine wpAnyD_ready (rs := [10]) (by kernel_rfl) (by simp) ?_
      refine (AllReadyD.cons (o := _) rfl (fun K hK => ?_) AllReadyD.nil)
      clear hHeld
      have hbA := below_alloc w7 (.cells #[.slice ga U.length gc] 23)
      have hbW := bt H7.out.2 hbA
      obtain ⟨f0, hL0, hnd0⟩ := HUL.out
      obtain ⟨xs, hr, hgrow⟩ := OL.grow hL0 hnd0 (Below.fr hbW) (fun _ _ h => h) (by omega)
      have hOw : Own.own (w7.alloc (.cells #[.slice ga U.length gc] 23)) wr.heap.size U [.slice ga U.length gc] (Value.slice ga U.length gc).ownBlock.toList := ⟨_, rfl, (ints_OL H7.out.1).keep hbA⟩
      have hlo := fun j (e : some j = (Value.slice va us.length vc).ownBlock) => (HUL.out.own_lt e)
      have bx := box_keep hbox hbW
      have HX := Lib.hid (And.intro hOw (And.intro hgrow (And.intro hbW (And.intro hlo bx))))
      clear hOw hgrow hbA hbW hlo bx hL0 hnd0
      refine step_cells (n := us.length) (m := 1) (news := [.slice ga U.length gc]) rfl (.tmp 21) (.tmp 29) _ rfl (B := P + 1) ti_ints rfl hr rfl rfl (news1 _ _ _) (one1 _ _ _) (by omega) (by simp; omega) ?_
      intro v' w8 hr8 hf8 hl8
      obtain ⟨za, zc, rfl, _⟩ := own_form hr8
      have bx8 := box_kept HX.out.2.2.2.2 hf8 (fun e => by have := (HX.out.2.2.2.1 P e).1; omega)
      have k1 := box1 bx8
      have k2 := hf8.cell (fun e => by have := (HX.out.2.2.2.1 _ e).1; simp at this; omega) (cell_keep HX.out.2.2.1 hI1)
      have k3 := hf8.cell (fun e => by have := (HX.out.2.2.2.1 _ e).1; simp at this; omega) (cell_keep HX.out.2.2.1 hp)
      have kz := boxz bx8
      have kl := box_lt bx8
      have H8 := Lib.hid (And.intro hr (And.intro hr8 (And.intro hf8 (And.intro hl8 bx8))))
      clear hr hr8 hf8 hl8 bx8
      refine hK.out _ _ ?_ (fun hHeld => ?_)
      · exact fun _ => (⟨k1, ⟨k2, k3⟩⟩ : _ ∧ _ ∧ _)
      clear hK K
      try simp only [Act.put, List.setIfInBounds_toArray, List.set_cons_zero, List.set_cons_succ]
      refine wpAnyD_free (i := 11) (oi := _) (v := ?_) rfl (by kernel_rfl) (by kernel_rfl) (by kernel_rfl) (by kernel_rfl) (fun _ _ _ h => h) (Or.inl ⟨by rfl, ?_⟩) hHeld (fun hHeld => ?_)
      rotate_left
      · (intro w _; first | (go_simp; done) | (go_simp; with_reducible rfl))
      try simp only [Act.put, List.setIfInBounds_toArray, List.set_cons_zero, List.set_cons_succ]
      refine wpAnyD_ready (rs := [12]) (by kernel_rfl) (by simp) ?_
      refine (AllReadyD.cons (o := _) rfl (fun K hK => ?_) AllReadyD.nil)
      clear hHeld
      go_simp
      refine hK.out _ _ ?_ (fun hHeld => ?_)
      · exact late_none (by kernel_rfl)
      clear hK K
      try simp only [Act.put, List.setIfInBounds_toArray, List.set_cons_zero, List.set_cons_succ]
      refine wpAnyD_done (by kernel_rfl) ?_ _
      clear hHeld
      have hfs := fr_set w8 ⟨P, 1, none⟩ (.slice za (us.length + 1) zc)
      obtain ⟨f9, g91, g92, _⟩ := HX.out.2.1 _ _ _ _ _ HX.out.1 (nodup_own _) H8.out.2.2.1 H8.out.2.1 H8.out.2.2.2.1
      have hu9 := (show OO _ _ _ _ from ⟨f9, g91, g92⟩).kept hfs (fun j hj _ e => by have e2 : j = P := e; omega)
      have hb9 := ((HB.out.trans (HX.out.2.2.1.mono (by omega))).trans (H8.out.2.2.1.below (by have := HX.out.2.2.1.size; omega) fun j hj e => by have := (HX.out.2.2.2.1 j e).1; omega)).trans (hfs.below (by omega) fun j hj e => by have e2 : j = P := e; omega)
      have H9 := Lib.hid (And.intro (box_set1 H8.out.2.2.2.2 (.slice za (us.length + 1) zc)) (And.intro hu9 hb9))
      clear hfs hu9 hb9 g91 g92 k1 k2 k3 kz kl
      go_wp2
      go_roundg (gk - 1)
      case rel => exact ⟨k + 1, us ++ [U], _, by have := HK.out; omega, by go_num, by rw [HUS.out, HU.out.1]; exact (take_gd HK2.out).symm, H9.out.1, H9.out.2.1, H9.out.2.2⟩
      case measure => have := HK.out; omega
    · obtain rfl : k = p.2.length := by have := HK.out; omega
      have hul2 : us.length = p.2.length := by rw [HUS.out, List.take_length]
      have hbw : Below w.heap.size w wr := H0.out.1.2.2.2.trans (HB.out.mono (by omega))
      have D0 : MB w wr g q P (.slice ca p.1.length cc) (.slice va us.length vc) p.1 :=
        ⟨own_kept H0.out.1.1 (Below.chg HB.out) (fun k hk e => by have := H0.out.2.1 k hk; have e2 : P ≤ k := e; omega), H0.out.2.1, box_kept H0.out.1.2.2.1 (Below.chg HB.out) (fun e => by have e2 : P ≤ w.heap.size + 1 := e; omega), hbox, hr.keepB hbw hgl, (Below.fr hbw).mono fun _ _ h => h.elim, by omega, hgl⟩
      have hus2 : us = p.2 := by rw [HUS.out, List.take_length]
      have HLU : Hid (∀ u ∈ us, u.length ≤ 1048576) := Lib.hid fun u hu => HL3.out u (hus2 ▸ hu)
      clear hus2
      have hu := HUL.out
      obtain ⟨n, hn⟩ : ∃ n, us.length = n := ⟨_, rfl⟩
      obtain ⟨m, hm⟩ : ∃ m, p.1.length = m := ⟨_, rfl⟩
      rw [hn] at D0 hu
      rw [hm] at D0 hl1
      have hln : n ≤ 1048576 := by omega
      have HNM := Lib.hid (And.intro hn hm)
      clear hn hul hul2 hbw hbox HUL HUS hr hbI hb hz HK HB h2 hzP hs5
      obtain ⟨cl, hcl⟩ : ∃ cl, cl = p.1 := ⟨_, rfl⟩
      rw [← hcl] at D0 HNM
      clear hcl hm H0 hl2 HL3
      go_wp2_with fail
      refine (pick_any g q 10 _ D0.rdr (by omega) (by decide) (by decide)).mono ?_
      rintro e w6 ⟨k1, rfl, hk1, hr6, hf6⟩
      have D := D0.drawn hr6 hf6
      have HU := Lib.hid (hu.kept hf6 (fun j h1 _ e => by have := D0.hP; omega))
      clear D0 hu hr6 hf6 hI1
      have hzP := box_lt D.boxP
      by_cases e0 : k1 = 0
      · subst e0
        rcases Nat.eq_zero_or_pos n with hn0 | hn0
        · subst hn0
          have HE := Lib.hid (mb_end (q' := q + 3) D HU.out.read (by omega))
          have c0 := box0 D.boxP
          have c1 := box1 D.boxP
          have r0 := box0 D.boxR
          have r1 := box1 D.boxR
          have rz := boxz D.boxR
          have rl := box_lt D.boxR
          clear D
          go_wp2
          refine bodyPost_ret (v := .agg #[.slice ca m cc, .slice va 0 vc]) (by simp [results, Tryz.results29, go_sem, r0, r1]) rfl ?_
          exact ⟨_, _, (cl, us), rfl, HE.out⟩
        · have hi0 : (0 : Int) < (n : Int) := by omega
          obtain ⟨g2, ya, l0, yc, u0, rfl, X0, hg1, hg2⟩ := RX.of HU.out HNM.out.1.symm hn0
          have d0 := X0.cell.1
          have p1 := box1 D.boxP
          have hgP := D.hP
          have hgw := D.hg
          have hlz : l0 ≤ 1048576 := by have h := HLU.out _ (gd_mem X0.h0); rw [← X0.hu, X0.hl] at h; exact h
          go_wp2
          refine wp_region_late (S := (fun w' => w'.cell? ⟨P, 1, none⟩ = some (.slice (some ⟨g2, 0, none⟩) n vc) ∧ w'.cell? ⟨g2, 0, none⟩ = some (.slice ya l0 yc))) (dep := [12]) (by kernel_rfl) (⟨cell_keep (below_drew _) p1, cell_keep (below_drew _) d0⟩ : _ ∧ _) (fun hHeld => ?_)
          refine wpAnyD_free (i := 0) (oi := _) (v := ?_) rfl (by kernel_rfl) (by kernel_rfl) (by kernel_rfl) (by kernel_rfl) (fun _ _ _ h => h) (Or.inl ⟨by rfl, ?_⟩) hHeld (fun hHeld => ?_)
          rotate_left
          · (intro w _; first | (go_simp; done) | (go_simp; with_reducible rfl))
          try simp only [Act.put, List.setIfInBounds_toArray, List.set_cons_zero, List.set_cons_succ]
          refine wpAnyD_free (i := 2) (oi := _) (v := ?_) rfl (by kernel_rfl) (by kernel_rfl) (by kernel_rfl) (by kernel_rfl) (fun _ _ _ h => h) (Or.inl ⟨by rfl, ?_⟩) hHeld (fun hHeld => ?_)
          rotate_left
          · (intro w _; first | (go_simp; done) | (go_simp; with_reducible rfl))
          try simp only [Act.put, List.setIfInBounds_toArray, List.set_cons_zero, List.set_cons_succ]
          refine wpAnyD_free (i := 6) (oi := _) (v := ?_) rfl (by kernel_rfl) (by kernel_rfl) (by kernel_rfl) (by kernel_rfl) (fun _ _ _ h => h) (Or.inl ⟨by rfl, ?_⟩) hHeld (fun hHeld => ?_)
          rotate_left
          · (intro w _; first | (go_simp; done) | (go_simp; with_reducible rfl))
          try simp only [Act.put, List.setIfInBounds_toArray, List.set_cons_zero, List.set_cons_succ]
          refine wpAnyD_take (i := 1) (oi := _) (v := ?_) rfl (by kernel_rfl) (by kernel_rfl) (by kernel_rfl) (by kernel_rfl) (by kernel_rfl) (fun _ _ _ h => h) (Or.inl ⟨by rfl, ?_⟩) (hHeld (early_of (by kernel_rfl))) ?_
          rotate_left
          · (intro w hSw; (try dsimp only at hSw); first | (go_simp; done) | (go_simp; with_reducible rfl))
          try simp only [Act.put, List.setIfInBounds_toArray, List.set_cons_zero, List.set_cons_succ]
          replace hHeld := fun (he : Early _ _) => hHeld (Early.of_set (i := 1) he (by decide))
          refine wpAnyD_take (i := 3) (oi := _) (v := ?_) rfl (by kernel_rfl) (by kernel_rfl) (by kernel_rfl) (by kernel_rfl) (by kernel_rfl) (fun _ _ _ h => h) (Or.inl ⟨by rfl, ?_⟩) (hHeld (early_of (by kernel_rfl))) ?_
          rotate_left
          · (intro w hSw; (try dsimp only at hSw); first | (go_simp; done) | (go_simp; with_reducible rfl))
          try simp only [Act.put, List.setIfInBounds_toArray, List.set_cons_zero, List.set_cons_succ]
          replace hHeld := fun (he : Early _ _) => hHeld (Early.of_set (i := 3) he (by decide))
          refine wpAnyD_free (i := 4) (oi := _) (v := ?_) rfl (by kernel_rfl) (by kernel_rfl) (by kernel_rfl) (by kernel_rfl) (fun _ _ _ h => h) (Or.inl ⟨by rfl, ?_⟩) hHeld (fun hHeld => ?_)
          rotate_left
          · (intro w _; first | (go_simp; done) | (go_simp; with_reducible rfl))
          try simp only [Act.put, List.setIfInBounds_toArray, List.set_cons_zero, List.set_cons_succ]
          refine wpAnyD_take (i := 5) (oi := _) (v := ?_) rfl (by kernel_rfl) (by kernel_rfl) (by kernel_rfl) (by kernel_rfl) (by kernel_rfl) (fun _ _ _ h => h) (Or.inl ⟨by rfl, ?_⟩) (hHeld (early_of (by kernel_rfl))) ?_
          rotate_left
          · (intro w hSw; (try dsimp only at hSw); first | (go_simp; done) | (go_simp; with_reducible rfl))
          try simp only [Act.put, List.setIfInBounds_toArray, List.set_cons_zero, List.set_cons_succ]
          replace hHeld := fun (he : Early _ _) => hHeld (Early.of_set (i := 5) he (by decide))
          refine wpAnyD_ready (rs := [7]) (by kernel_rfl) (by simp) ?_
          refine (AllReadyD.cons (o := _) rfl (fun K hK => ?_) AllReadyD.nil)
          clear hHeld
          go_simp
          refine hK.out _ _ ?_ (fun hHeld => ?_)
          · exact fun _ => (⟨cell_keep (w' := (w6.drew.alloc (.cells #[.int .i64 (0), .int .i64 (1), .int .i64 (9), .int .i64 (-1)] 3))) Bl (box1 D.boxP), cell_keep (w' := (w6.drew.alloc (.cells #[.int .i64 (0), .int .i64 (1), .int .i64 (9), .int .i64 (-1)] 3))) Bl X0.cell.1⟩ : _ ∧ _)
          clear hK K
          try simp only [Act.put, List.setIfInBounds_toArray, List.set_cons_zero, List.set_cons_succ]
          have L7 : RInts (w6.drew.alloc (.cells #[.int .i64 (0), .int .i64 (1), .int .i64 (9), .int .i64 (-1)] 3)) (.slice (some ⟨w6.heap.size, 0, none⟩) 4 4) [0, 1, 9, -1] := by have h := lit_ints w6.drew [0, 1, 9, -1] (by decide); (try simp only [World.size_alloc, World.size_drew] at h); exact h
          refine wpAnyD_ready (rs := [8]) (by kernel_rfl) (by simp) ?_
          refine (AllReadyD.cons (o := _) rfl (fun K hK => ?_) AllReadyD.nil)
          clear hHeld
          go_simp
          (go_at_call 41; refine (num_any g (q + 1) _ [0, 1, 9, -1] _ (D.keep (w' := (w6.drew.alloc (.cells #[.int .i64 (0), .int .i64 (1), .int .i64 (9), .int .i64 (-1)] 3))) Bl).rdr (L7.keep (w' := (w6.drew.alloc (.cells #[.int .i64 (0), .int .i64 (1), .int .i64 (9), .int .i64 (-1)] 3))) Bl) (by omega) (by decide) (by decide) (fun k hk e => by simp [Value.ownBlock] at hk; omega)).mono ?_; rintro e y1 ⟨x1, hx1, rfl, hr1, hf1⟩)
          have D1 := (D.keep (w' := (w6.drew.alloc (.cells #[.int .i64 (0), .int .i64 (1), .int .i64 (9), .int .i64 (-1)] 3))) Bl).drawn hr1 hf1
          have X1 := (X0.keep (w' := (w6.drew.alloc (.cells #[.int .i64 (0), .int .i64 (1), .int .i64 (9), .int .i64 (-1)] 3))) Bl).kept hf1 (fun j h1 e => by have e2 : j = g := e; omega)
          have hg1 := D1.rdr.lt
          have hz1 := hf1.size
          (try simp only [World.size_alloc, World.size_drew] at hz1)
          clear hr1 hf1 L7
          go_wp2_with fail
          refine hK.out _ _ ?_ (fun hHeld => ?_)
          · exact fun _ => (⟨box1 D1.boxP, X1.cell.1⟩ : _ ∧ _)
          clear hK K
          try simp only [Act.put, List.setIfInBounds_toArray, List.set_cons_zero, List.set_cons_succ]
          refine wpAnyD_ready (rs := [9]) (by kernel_rfl) (by simp) ?_
          refine (AllReadyD.cons (o := _) rfl (fun K hK => ?_) AllReadyD.nil)
          clear hHeld
          go_simp
          refine hK.out _ _ ?_ (fun hHeld => ?_)
          · exact fun _ => (⟨cell_keep (w' := (y1.alloc (.cells #[.int .i64 x1] 3))) Bl (box1 D1.boxP), cell_keep (w' := (y1.alloc (.cells #[.int .i64 x1] 3))) Bl X1.cell.1⟩ : _ ∧ _)
          clear hK K
          try simp only [Act.put, List.setIfInBounds_toArray, List.set_cons_zero, List.set_cons_succ]
          refine wpAnyD_ready (rs := [10]) (by kernel_rfl) (by simp) ?_
          refine (AllReadyD.cons (o := _) rfl (fun K hK => ?_) AllReadyD.nil)
          clear hHeld
          have hbA := below_alloc y1 (.cells #[.int .i64 x1] 3)
          have DA := D1.keep hbA
          have XA := X1.keep hbA
          have hrow := XA.row
          refine step_cells (n := l0) (m := 1) (news := [.int .i64 x1]) rfl (.tmp 45) (.tmp 49) _ rfl (B := P + 1) ti_int rfl hrow rfl rfl (news1 _ _ _) (fun u hu => by simp at hu; subst hu; rfl) (by omega) (by simp; omega) ?_
          intro v' w8 hr8 hf8 hl8
          obtain ⟨za, zc, rfl, _⟩ := own_form hr8
          have D8 := DA.far hf8 (fun j e => by have := (own_lt hrow e).1; omega)
          obtain ⟨hu8, dc8, dz8⟩ := XA.fin ⟨by omega, by simp; omega⟩ hr8 hf8 hl8
          have c8 := box1 D8.boxP
          have HU8 := Lib.hid hu8
          clear hbA DA XA hrow hr8 hf8 hl8 hu8
          refine hK.out _ _ ?_ (fun hHeld => ?_)
          · exact fun _ => (⟨c8, dc8⟩ : _ ∧ _)
          clear hK K
          try simp only [Act.put, List.setIfInBounds_toArray, List.set_cons_zero, List.set_cons_succ]
          refine wpAnyD_free (i := 11) (oi := _) (v := ?_) rfl (by kernel_rfl) (by kernel_rfl) (by kernel_rfl) (by kernel_rfl) (fun _ _ _ h => h) (Or.inl ⟨by rfl, ?_⟩) hHeld (fun hHeld => ?_)
          rotate_left
          · (intro w _; first | (go_simp; done) | (go_simp; with_reducible rfl))
          try simp only [Act.put, List.setIfInBounds_toArray, List.set_cons_zero, List.set_cons_succ]
          refine wpAnyD_ready (rs := [12]) (by kernel_rfl) (by simp) ?_
          refine (AllReadyD.cons (o := _) rfl (fun K hK => ?_) AllReadyD.nil)
          clear hHeld
          go_simp
          refine hK.out _ _ ?_ (fun hHeld => ?_)
          · exact late_none (by kernel_rfl)
          clear hK K
          try simp only [Act.put, List.setIfInBounds_toArray, List.set_cons_zero, List.set_cons_succ]
          refine wpAnyD_done (by kernel_rfl) ?_ _
          clear hHeld
          have D9 := D8.far (fr_set w8 ⟨g2, 0, none⟩ (.slice za (l0 + 1) zc)) (fun j e => by have e2 : j = g2 := e; omega)
          clear D8 dc8 dz8 c8
          have HE := Lib.hid (mb_end (q' := q + 3) D9 HU8.out.rl (by omega))
          have e0 := box0 D9.boxP
          have e1 := box1 D9.boxP
          have r0 := box0 D9.boxR
          have r1 := box1 D9.boxR
          have rz := boxz D9.boxR
          have rl := box_lt D9.boxR
          clear D9
          go_wp2
          refine bodyPost_ret (v := .agg #[.slice ca m cc, .slice (some ⟨g2, 0, none⟩) n vc]) (by simp [results, Tryz.results29, go_sem, r0, r1]) rfl ?_
          exact ⟨_, _, (cl, us.set 0 (u0 ++ [x1])), rfl, HE.out⟩
      by_cases e1 : k1 = 1
      · subst e1
        have bA := below_alloc w6 (.cells #[.int .i64 0] 3)
        have bB := below_alloc (w6.alloc (.cells #[.int .i64 0] 3)) (.cells #[.slice (some ⟨w6.heap.size, 0, none⟩) 1 1] 23)
        have hbW := bt bA bB
        obtain ⟨xs, hr, hxs⟩ := HU.out.ul.keep hbW
        have hx := (((lit_ints w6 [0] (by decide)).rl.more (S' := fun j => P + 1 ≤ j ∧ ¬ some j = (Value.slice va n vc).ownBlock) (fun j _ hj => by
          have h2 : j = w6.heap.size := Option.some.inj hj
          exact ⟨by omega, fun e => by have := (HU.out.own_lt e).2; omega⟩)).keep bB)
        have hlo := fun j (e : some j = (Value.slice va n vc).ownBlock) => HU.out.own_lt e
        have HX := Lib.hid (And.intro hx (And.intro hxs (And.intro hbW hlo)))
        have HR := Lib.hid hr
        rw [HNM.out.1] at hr
        have p1 := box1 D.boxP
        clear bA bB hx hxs hlo
        go_wp2_with (at_builtin; go_must (refine app_cells (n := n) (m := 1) (news := [.slice (some ⟨w6.heap.size, 0, none⟩) 1 1]) rfl (.tmp 55) (.tmp 57) _ rfl (B := P + 1) ti_ints rfl hr rfl rfl (news1g _ _ (by simp) _ _) (one1 _ _ _) (by omega) (by simp; omega) ?_; intro v' w8 hr8 hf8 hl8; obtain ⟨za, zc, rfl, _⟩ := own_form hr8; have D8 := (D.keep hbW).far hf8 (fun j e => by have := (HX.out.2.2.2 j e).1; omega); have c0 := box0 D8.boxP; have c1 := box1 D8.boxP; have cz := boxz D8.boxP; have cl8 := box_lt D8.boxP; have r0 := box0 D8.boxR; have r1 := box1 D8.boxR; have rz := boxz D8.boxR; have rl := box_lt D8.boxR; have hne : ¬ P = w.heap.size + 1 := (by have := D8.hP; omega)))
        have hu8 := UL.snoc HR.out HX.out.2.1 (by rw [HNM.out.1]; exact hr8) hf8 hl8 HX.out.1
        have hu9 := hu8.kept (fr_set w8 ⟨P, 1, none⟩ (.slice za (n + 1) zc)) (fun j hj _ e => by have e2 : j = P := e; omega)
        have HE := Lib.hid (mb_end (q' := q + 3) (D8.uses (.slice za (n + 1) zc)) hu9.rl (by omega))
        refine bodyPost_ret (v := .agg #[.slice ca m cc, .slice za (n + 1) zc]) (by simp [results, Tryz.results29, go_sem, r0, r1, hne]) rfl ?_
        exact ⟨_, _, (cl, us ++ [[0]]), rfl, HE.out⟩
      by_cases e2 : k1 = 2
      · subst e2
        rcases Nat.eq_zero_or_pos m with hm0 | hm0
        · subst hm0
          have HE := Lib.hid (mb_end (q' := q + 3) D HU.out.read (by omega))
          have c0 := box0 D.boxP
          have c1 := box1 D.boxP
          have r0 := box0 D.boxR
          have r1 := box1 D.boxR
          have rz := boxz D.boxR
          have rl := box_lt D.boxR
          clear D
          go_wp2
          refine bodyPost_ret (v := .agg #[.slice ca 0 cc, .slice va n vc]) (by simp [results, Tryz.results29, go_sem, r0, r1]) rfl ?_
          exact ⟨_, _, (cl, us), rfl, HE.out⟩
        · have hi0 : (0 : Int) < (m : Int) := by omega
          obtain ⟨ca', cc', he, hca⟩ := own_form D.c
          rw [HNM.out.2] at he hca
          simp only [Value.slice.injEq] at he
          obtain ⟨he1, he2, he3⟩ := he
          subst he1 he3
          clear he2
          obtain ⟨g1, rfl⟩ := hca 0 hm0
          have U0 := HU.out
          have hgP := D.hP
          clear hca
          have p0 := box0 D.boxP
          go_wp2
          refine wp_region_late (S := (fun w' => w'.cell? ⟨P, 0, none⟩ = some (.slice (some ⟨g1, 0, none⟩) m cc))) (dep := [11]) (by kernel_rfl) (cell_keep (below_drew _) p0) (fun hHeld => ?_)
          refine wpAnyD_free (i := 0) (oi := _) (v := ?_) rfl (by kernel_rfl) (by kernel_rfl) (by kernel_rfl) (by kernel_rfl) (fun _ _ _ h => h) (Or.inl ⟨by rfl, ?_⟩) hHeld (fun hHeld => ?_)
          rotate_left
          · (intro w _; first | (go_simp; done) | (go_simp; with_reducible rfl))
          try simp only [Act.put, List.setIfInBounds_toArray, List.set_cons_zero, List.set_cons_succ]
          refine wpAnyD_free (i := 2) (oi := _) (v := ?_) rfl (by kernel_rfl) (by kernel_rfl) (by kernel_rfl) (by kernel_rfl) (fun _ _ _ h => h) (Or.inl ⟨by rfl, ?_⟩) hHeld (fun hHeld => ?_)
          rotate_left
          · (intro w _; first | (go_simp; done) | (go_simp; with_reducible rfl))
          try simp only [Act.put, List.setIfInBounds_toArray, List.set_cons_zero, List.set_cons_succ]
          refine wpAnyD_free (i := 3) (oi := _) (v := ?_) rfl (by kernel_rfl) (by kernel_rfl) (by kernel_rfl) (by kernel_rfl) (fun _ _ _ h => h) (Or.inl ⟨by rfl, ?_⟩) hHeld (fun hHeld => ?_)
          rotate_left
          · (intro w _; first | (go_simp; done) | (go_simp; with_reducible rfl))
          try simp only [Act.put, List.setIfInBounds_toArray, List.set_cons_zero, List.set_cons_succ]
          refine wpAnyD_free (i := 7) (oi := _) (v := ?_) rfl (by kernel_rfl) (by kernel_rfl) (by kernel_rfl) (by kernel_rfl) (fun _ _ _ h => h) (Or.inl ⟨by rfl, ?_⟩) hHeld (fun hHeld => ?_)
          rotate_left
          · (intro w _; first | (go_simp; done) | (go_simp; with_reducible rfl))
          try simp only [Act.put, List.setIfInBounds_toArray, List.set_cons_zero, List.set_cons_succ]
          refine wpAnyD_take (i := 1) (oi := _) (v := ?_) rfl (by kernel_rfl) (by kernel_rfl) (by kernel_rfl) (by kernel_rfl) (by kernel_rfl) (fun _ _ _ h => h) (Or.inl ⟨by rfl, ?_⟩) (hHeld (early_of (by kernel_rfl))) ?_
          rotate_left
          · (intro w hSw; (try dsimp only at hSw); first | (go_simp; done) | (go_simp; with_reducible rfl))
          try simp only [Act.put, List.setIfInBounds_toArray, List.set_cons_zero, List.set_cons_succ]
          replace hHeld := fun (he : Early _ _) => hHeld (Early.of_set (i := 1) he (by decide))
          refine wpAnyD_take (i := 4) (oi := _) (v := ?_) rfl (by kernel_rfl) (by kernel_rfl) (by kernel_rfl) (by kernel_rfl) (by kernel_rfl) (fun _ _ _ h => h) (Or.inl ⟨by rfl, ?_⟩) (hHeld (early_of (by kernel_rfl))) ?_
          rotate_left
          · (intro w hSw; (try dsimp only at hSw); first | (go_simp; done) | (go_simp; with_reducible rfl))
          try simp only [Act.put, List.setIfInBounds_toArray, List.set_cons_zero, List.set_cons_succ]
          replace hHeld := fun (he : Early _ _) => hHeld (Early.of_set (i := 4) he (by decide))
          refine wpAnyD_free (i := 5) (oi := _) (v := ?_) rfl (by kernel_rfl) (by kernel_rfl) (by kernel_rfl) (by kernel_rfl) (fun _ _ _ h => h) (Or.inl ⟨by rfl, ?_⟩) hHeld (fun hHeld => ?_)
          rotate_left
          · (intro w _; first | (go_simp; done) | (go_simp; with_reducible rfl))
          try simp only [Act.put, List.setIfInBounds_toArray, List.set_cons_zero, List.set_cons_succ]
          refine wpAnyD_ready (rs := [6, 8]) (by kernel_rfl) (by simp) ?_
          refine (AllReadyD.cons (o := _) rfl (fun K hK => ?_) (AllReadyD.cons (o := _) rfl (fun K hK => ?_) AllReadyD.nil))
          · clear hHeld
            go_simp
            (go_at_call 40; refine (pick_any g (q + 1) (m : Int) _ (D.keep (w' := w6.drew) Bl).rdr (by omega) (by omega) (by omega)).mono ?_; rintro e y1 ⟨k2, rfl, hk2, hr1, hf1⟩)
            have D1 := (D.keep (w' := w6.drew) Bl).drawn hr1 hf1
            have U1 := (U0.keep (w' := w6.drew) Bl).kept hf1 (fun j h1 _ e => by have e2 : j = g := e; have := D.hg; omega)
            have hg1 := D1.rdr.lt
            have hz1 := hf1.size
            (try simp only [World.size_alloc, World.size_drew] at hz1)
            clear hr1 hf1
            go_wp2_with fail
            refine hK.out _ _ ?_ (fun hHeld => ?_)
            · exact fun _ => (box0 D1.boxP)
            clear hK K
            try simp only [Act.put, List.setIfInBounds_toArray, List.set_cons_zero, List.set_cons_succ]
            refine wpAnyD_ready (rs := [8]) (by kernel_rfl) (by simp) ?_
            refine (AllReadyD.cons (o := _) rfl (fun K hK => ?_) AllReadyD.nil)
            clear hHeld
            go_simp
            refine hK.out _ _ ?_ (fun hHeld => ?_)
            · exact fun _ => cell_keep (w' := (y1.alloc (.cells #[.int .i64 (0), .int .i64 (1), .int .i64 (2), .int .i64 (-1), .int .i64 (-2), .int .i64 (9)] 3))) Bl (box0 D1.boxP)
            clear hK K
            try simp only [Act.put, List.setIfInBounds_toArray, List.set_cons_zero, List.set_cons_succ]
            have L8 : RInts (y1.alloc (.cells #[.int .i64 (0), .int .i64 (1), .int .i64 (2), .int .i64 (-1), .int .i64 (-2), .int .i64 (9)] 3)) (.slice (some ⟨y1.heap.size, 0, none⟩) 6 6) [0, 1, 2, -1, -2, 9] := by have h := lit_ints y1 [0, 1, 2, -1, -2, 9] (by decide); (try simp only [World.size_alloc, World.size_drew] at h); exact h
            refine wpAnyD_ready (rs := [9]) (by kernel_rfl) (by simp) ?_
            refine (AllReadyD.cons (o := _) rfl (fun K hK => ?_) AllReadyD.nil)
            clear hHeld
            go_simp
            (go_at_call 41; refine (num_any g (q + 1 + 1) _ [0, 1, 2, -1, -2, 9] _ (D1.keep (w' := (y1.alloc (.cells #[.int .i64 (0), .int .i64 (1), .int .i64 (2), .int .i64 (-1), .int .i64 (-2), .int .i64 (9)] 3))) Bl).rdr (L8.keep (w' := (y1.alloc (.cells #[.int .i64 (0), .int .i64 (1), .int .i64 (2), .int .i64 (-1), .int .i64 (-2), .int .i64 (9)] 3))) Bl) (by omega) (by decide) (by decide) (fun k hk e => by simp [Value.ownBlock] at hk; omega)).mono ?_; rintro e y2 ⟨x2, hx2, rfl, hr2, hf2⟩)
            have D2 := (D1.keep (w' := (y1.alloc (.cells #[.int .i64 (0), .int .i64 (1), .int .i64 (2), .int .i64 (-1), .int .i64 (-2), .int .i64 (9)] 3))) Bl).drawn hr2 hf2
            have U2 := (U1.keep (w' := (y1.alloc (.cells #[.int .i64 (0), .int .i64 (1), .int .i64 (2), .int .i64 (-1), .int .i64 (-2), .int .i64 (9)] 3))) Bl).kept hf2 (fun j h1 _ e => by have e2 : j = g := e; have := D.hg; omega)
            have hg2 := D2.rdr.lt
            have hz2 := hf2.size
            (try simp only [World.size_alloc, World.size_drew] at hz2)
            clear hr2 hf2 L8
            obtain ⟨oc, oz⟩ : y2.cell? ⟨g1, k2, none⟩ = some (.int .i64 (gi cl k2)) ∧ y2.frozen? ⟨g1, k2, none⟩ = false := own_cell (cap := cc) (by have h := D2.c; rw [HNM.out.2] at h ⊢; exact h) _ (by rw [HNM.out.2]; omega)
            go_wp2_with fail
            refine hK.out _ _ ?_ (fun hHeld => ?_)
            · exact fun _ => (box0 D2.boxP)
            clear hK K
            try simp only [Act.put, List.setIfInBounds_toArray, List.set_cons_zero, List.set_cons_succ]
            refine wpAnyD_free (i := 10) (oi := _) (v := ?_) rfl (by kernel_rfl) (by kernel_rfl) (by kernel_rfl) (by kernel_rfl) (fun _ _ _ h => h) (Or.inl ⟨by rfl, ?_⟩) hHeld (fun hHeld => ?_)
            rotate_left
            · (intro w _; first | (go_simp; done) | (go_simp; with_reducible rfl))
            try simp only [Act.put, List.setIfInBounds_toArray, List.set_cons_zero, List.set_cons_succ]
            refine wpAnyD_ready (rs := [11]) (by kernel_rfl) (by simp) ?_
            refine (AllReadyD.cons (o := _) rfl (fun K hK => ?_) AllReadyD.nil)
            clear hHeld
            go_simp
            refine hK.out _ _ ?_ (fun hHeld => ?_)
            · exact late_none (by kernel_rfl)
            clear hK K
            try simp only [Act.put, List.setIfInBounds_toArray, List.set_cons_zero, List.set_cons_succ]
            refine wpAnyD_done (by kernel_rfl) ?_ _
            clear hHeld
            have D8 : MB w y2 g (q + 1 + 1 + 1) P (.slice (some ⟨g1, 0, none⟩) cl.length cc) (.slice va n vc) cl := by have h := D2; rw [← HNM.out.2] at h; exact h
            have D9 := D8.cls k2 x2
            rw [HNM.out.2] at D9
            have hu9 := U2.read.kept (fr_set y2 ⟨g1, k2, none⟩ (.int .i64 x2)) (fun j _ hj e => by have e2 : j = g1 := e; have h3 : P + 1 ≤ j := hj; have := D2.cP g1 rfl; omega)
            have HU9 := Lib.hid hu9
            clear D8 hu9 oc oz
            have HE := Lib.hid (mb_end (q' := q + 3) D9 HU9.out (by omega))
            have e0 := box0 D9.boxP
            have e1 := box1 D9.boxP
            have r0 := box0 D9.boxR
            have r1 := box1 D9.boxR
            have rz := boxz D9.boxR
            have rl := box_lt D9.boxR
            clear D9
            go_wp2
            refine bodyPost_ret (v := .agg #[.slice (some ⟨g1, 0, none⟩) m cc, .slice va n vc]) (by simp [results, Tryz.results29, go_sem, r0, r1]) rfl ?_
            exact ⟨_, _, (cl.set k2 x2, us), rfl, HE.out⟩
          · clear hHeld
            go_simp
            refine hK.out _ _ ?_ (fun hHeld => ?_)
            · exact fun _ => cell_keep (w' := (w6.drew.alloc (.cells #[.int .i64 (0), .int .i64 (1), .int .i64 (2), .int .i64 (-1), .int .i64 (-2), .int .i64 (9)] 3))) Bl (box0 D.boxP)
            clear hK K
            try simp only [Act.put, List.setIfInBounds_toArray, List.set_cons_zero, List.set_cons_succ]
            have L8 : RInts (w6.drew.alloc (.cells #[.int .i64 (0), .int .i64 (1), .int .i64 (2), .int .i64 (-1), .int .i64 (-2), .int .i64 (9)] 3)) (.slice (some ⟨w6.heap.size, 0, none⟩) 6 6) [0, 1, 2, -1, -2, 9] := by have h := lit_ints w6.drew [0, 1, 2, -1, -2, 9] (by decide); (try simp only [World.size_alloc, World.size_drew] at h); exact h
            refine wpAnyD_ready (rs := [6]) (by kernel_rfl) (by simp) ?_
            refine (AllReadyD.cons (o := _) rfl (fun K hK => ?_) AllReadyD.nil)
            clear hHeld
            go_simp
            (go_at_call 40; refine (pick_any g (q + 1) (m : Int) _ (D.keep (w' := (w6.drew.alloc (.cells #[.int .i64 (0), .int .i64 (1), .int .i64 (2), .int .i64 (-1), .int .i64 (-2), .int .i64 (9)] 3))) Bl).rdr (by omega) (by omega) (by omega)).mono ?_; rintro e y1 ⟨k2, rfl, hk2, hr1, hf1⟩)
            have D1 := (D.keep (w' := (w6.drew.alloc (.cells #[.int .i64 (0), .int .i64 (1), .int .i64 (2), .int .i64 (-1), .int .i64 (-2), .int .i64 (9)] 3))) Bl).drawn hr1 hf1
            have U1 := (U0.keep (w' := (w6.drew.alloc (.cells #[.int .i64 (0), .int .i64 (1), .int .i64 (2), .int .i64 (-1), .int .i64 (-2), .int .i64 (9)] 3))) Bl).kept hf1 (fun j h1 _ e => by have e2 : j = g := e; have := D.hg; omega)
            have hg1 := D1.rdr.lt
            have hz1 := hf1.size
            (try simp only [World.size_alloc, World.size_drew] at hz1)
            replace L8 := RInts.kept (L8.keep (w' := (w6.drew.alloc (.cells #[.int .i64 (0), .int .i64 (1), .int .i64 (2), .int .i64 (-1), .int .i64 (-2), .int .i64 (9)] 3))) Bl) hf1 (fun k hk e => by simp [Value.ownBlock] at hk; omega)
            clear hr1 hf1
            go_wp2_with fail
            refine hK.out _ _ ?_ (fun hHeld => ?_)
            · exact fun _ => (box0 D1.boxP)
            clear hK K
            try simp only [Act.put, List.setIfInBounds_toArray, List.set_cons_zero, List.set_cons_succ]
            refine wpAnyD_ready (rs := [9]) (by kernel_rfl) (by simp) ?_
            refine (AllReadyD.cons (o := _) rfl (fun K hK => ?_) AllReadyD.nil)
            clear hHeld
            go_simp
            (go_at_call 41; refine (num_any g (q + 1 + 1) _ [0, 1, 2, -1, -2, 9] _ (D1.keep (w' := y1) Bl).rdr (L8.keep (w' := y1) Bl) (by omega) (by decide) (by decide) (fun k hk e => by simp [Value.ownBlock] at hk; omega)).mono ?_; rintro e y2 ⟨x2, hx2, rfl, hr2, hf2⟩)
            have D2 := (D1.keep (w' := y1) Bl).drawn hr2 hf2
            have U2 := (U1.keep (w' := y1) Bl).kept hf2 (fun j h1 _ e => by have e2 : j = g := e; have := D.hg; omega)
            have hg2 := D2.rdr.lt
            have hz2 := hf2.size
            (try simp only [World.size_alloc, World.size_drew] at hz2)
            clear hr2 hf2 L8
            obtain ⟨oc, oz⟩ : y2.cell? ⟨g1, k2, none⟩ = some (.int .i64 (gi cl k2)) ∧ y2.frozen? ⟨g1, k2, none⟩ = false := own_cell (cap := cc) (by have h := D2.c; rw [HNM.out.2] at h ⊢; exact h) _ (by rw [HNM.out.2]; omega)
            go_wp2_with fail
            refine hK.out _ _ ?_ (fun hHeld => ?_)
            · exact fun _ => (box0 D2.boxP)
            clear hK K
            try simp only [Act.put, List.setIfInBounds_toArray, List.set_cons_zero, List.set_cons_succ]
            refine wpAnyD_free (i := 10) (oi := _) (v := ?_) rfl (by kernel_rfl) (by kernel_rfl) (by kernel_rfl) (by kernel_rfl) (fun _ _ _ h => h) (Or.inl ⟨by rfl, ?_⟩) hHeld (fun hHeld => ?_)
            rotate_left
            · (intro w _; first | (go_simp; done) | (go_simp; with_reducible rfl))
            try simp only [Act.put, List.setIfInBounds_toArray, List.set_cons_zero, List.set_cons_succ]
            refine wpAnyD_ready (rs := [11]) (by kernel_rfl) (by simp) ?_
            refine (AllReadyD.cons (o := _) rfl (fun K hK => ?_) AllReadyD.nil)
            clear hHeld
            go_simp
            refine hK.out _ _ ?_ (fun hHeld => ?_)
            · exact late_none (by kernel_rfl)
            clear hK K
            try simp only [Act.put, List.setIfInBounds_toArray, List.set_cons_zero, List.set_cons_succ]
            refine wpAnyD_done (by kernel_rfl) ?_ _
            clear hHeld
            have D8 : MB w y2 g (q + 1 + 1 + 1) P (.slice (some ⟨g1, 0, none⟩) cl.length cc) (.slice va n vc) cl := by have h := D2; rw [← HNM.out.2] at h; exact h
            have D9 := D8.cls k2 x2
            rw [HNM.out.2] at D9
            have hu9 := U2.read.kept (fr_set y2 ⟨g1, k2, none⟩ (.int .i64 x2)) (fun j _ hj e => by have e2 : j = g1 := e; have h3 : P + 1 ≤ j := hj; have := D2.cP g1 rfl; omega)
            have HU9 := Lib.hid hu9
            clear D8 hu9 oc oz
            have HE := Lib.hid (mb_end (q' := q + 3) D9 HU9.out (by omega))
            have e0 := box0 D9.boxP
            have e1 := box1 D9.boxP
            have r0 := box0 D9.boxR
            have r1 := box1 D9.boxR
            have rz := boxz D9.boxR
            have rl := box_lt D9.boxR
            clear D9
            go_wp2
            refine bodyPost_ret (v := .agg #[.slice (some ⟨g1, 0, none⟩) m cc, .slice va n vc]) (by simp [results, Tryz.results29, go_sem, r0, r1]) rfl ?_
            exact ⟨_, _, (cl.set k2 x2, us), rfl, HE.out⟩
      by_cases e3 : k1 = 3
      · subst e3
        by_cases hn1 : 1 < n
        · have hi1 : (1 : Int) < (n : Int) := by omega
          have hn0 : 0 < n := by omega
          obtain ⟨g2, cap, hv, hg1, hg2, hcs⟩ := (show UL w6 (P + 1) (.slice va n vc) us from HU.out.ul).at (by rw [HNM.out.1]; omega)
          simp only [Value.slice.injEq] at hv
          obtain ⟨hv1, hv2, hv3⟩ := hv
          subst hv1 hv3
          clear hv2
          obtain ⟨y0, d0, f0, t0⟩ := hcs 0 (by rw [HNM.out.1]; omega)
          obtain ⟨y1, d1, f1, t1⟩ := hcs 1 (by rw [HNM.out.1]; omega)
          obtain ⟨ya, yl, yc, rfl⟩ := t0.forms
          obtain ⟨za, zl, zc, rfl⟩ := t1.forms
          have HT := Lib.hid (And.intro t0 t1)
          have p1 := box1 D.boxP
          have pz := boxz D.boxP 1
          have hne : ¬ P = g2 := by omega
          clear hcs t0 t1
          go_wp2
          refine wp_region_late (S := (fun w' => w'.cell? ⟨P, 1, none⟩ = some (.slice (some ⟨g2, 0, none⟩) n vc) ∧ w'.cell? ⟨g2, 1, none⟩ = some (.slice za zl zc))) (dep := [7]) (by kernel_rfl) (⟨cell_keep (below_drew _) p1, cell_keep (below_drew _) d1⟩ : _ ∧ _) (fun hHeld => ?_)
          refine wpAnyD_free (i := 0) (oi := _) (v := ?_) rfl (by kernel_rfl) (by kernel_rfl) (by kernel_rfl) (by kernel_rfl) (fun _ _ _ h => h) (Or.inl ⟨by rfl, ?_⟩) hHeld (fun hHeld => ?_)
          rotate_left
          · (intro w _; first | (go_simp; done) | (go_simp; with_reducible rfl))
          try simp only [Act.put, List.setIfInBounds_toArray, List.set_cons_zero, List.set_cons_succ]
          refine wpAnyD_free (i := 2) (oi := _) (v := ?_) rfl (by kernel_rfl) (by kernel_rfl) (by kernel_rfl) (by kernel_rfl) (fun _ _ _ h => h) (Or.inl ⟨by rfl, ?_⟩) hHeld (fun hHeld => ?_)
          rotate_left
          · (intro w _; first | (go_simp; done) | (go_simp; with_reducible rfl))
          try simp only [Act.put, List.setIfInBounds_toArray, List.set_cons_zero, List.set_cons_succ]
          refine wpAnyD_take (i := 1) (oi := _) (v := ?_) rfl (by kernel_rfl) (by kernel_rfl) (by kernel_rfl) (by kernel_rfl) (by kernel_rfl) (fun _ _ _ h => h) (Or.inl ⟨by rfl, ?_⟩) (hHeld (early_of (by kernel_rfl))) ?_
          rotate_left
          · (intro w hSw; (try dsimp only at hSw); first | (go_simp; done) | (go_simp; with_reducible rfl))
          try simp only [Act.put, List.setIfInBounds_toArray, List.set_cons_zero, List.set_cons_succ]
          replace hHeld := fun (he : Early _ _) => hHeld (Early.of_set (i := 1) he (by decide))
          refine wpAnyD_take (i := 3) (oi := _) (v := ?_) rfl (by kernel_rfl) (by kernel_rfl) (by kernel_rfl) (by kernel_rfl) (by kernel_rfl) (fun _ _ _ h => h) (Or.inl ⟨by rfl, ?_⟩) (hHeld (early_of (by kernel_rfl))) ?_
          rotate_left
          · (intro w hSw; (try dsimp only at hSw); first | (go_simp; done) | (go_simp; with_reducible rfl))
          try simp only [Act.put, List.setIfInBounds_toArray, List.set_cons_zero, List.set_cons_succ]
          replace hHeld := fun (he : Early _ _) => hHeld (Early.of_set (i := 3) he (by decide))
          refine wpAnyD_free (i := 4) (oi := _) (v := ?_) rfl (by kernel_rfl) (by kernel_rfl) (by kernel_rfl) (by kernel_rfl) (fun _ _ _ h => h) (Or.inl ⟨by rfl, ?_⟩) hHeld (fun hHeld => ?_)
          rotate_left
          · (intro w _; first | (go_simp; done) | (go_simp; with_reducible rfl))
          try simp only [Act.put, List.setIfInBounds_toArray, List.set_cons_zero, List.set_cons_succ]
          refine wpAnyD_take (i := 5) (oi := _) (v := ?_) rfl (by kernel_rfl) (by kernel_rfl) (by kernel_rfl) (by kernel_rfl) (by kernel_rfl) (fun _ _ _ h => h) (Or.inl ⟨by rfl, ?_⟩) (hHeld (early_of (by kernel_rfl))) ?_
          rotate_left
          · (intro w hSw; (try dsimp only at hSw); first | (go_simp; done) | (go_simp; with_reducible rfl))
          try simp only [Act.put, List.setIfInBounds_toArray, List.set_cons_zero, List.set_cons_succ]
          replace hHeld := fun (he : Early _ _) => hHeld (Early.of_set (i := 5) he (by decide))
          refine wpAnyD_free (i := 6) (oi := _) (v := ?_) rfl (by kernel_rfl) (by kernel_rfl) (by kernel_rfl) (by kernel_rfl) (fun _ _ _ h => h) (Or.inl ⟨by rfl, ?_⟩) hHeld (fun hHeld => ?_)
          rotate_left
          · (intro w _; first | (go_simp; done) | (go_simp; with_reducible rfl))
          try simp only [Act.put, List.setIfInBounds_toArray, List.set_cons_zero, List.set_cons_succ]
          refine wpAnyD_ready (rs := [7]) (by kernel_rfl) (by simp) ?_
          refine (AllReadyD.cons (o := _) rfl (fun K hK => ?_) AllReadyD.nil)
          clear hHeld
          have d0w : w6.drew.cell? ⟨g2, 0, none⟩ = some (.slice ya yl yc) := cell_keep (below_drew _) d0
          have f0w : w6.drew.frozen? ⟨g2, 0, none⟩ = false := f0
          go_simp
          refine hK.out _ _ ?_ (fun hHeld => ?_)
          · exact late_none (by kernel_rfl)
          clear hK K
          try simp only [Act.put, List.setIfInBounds_toArray, List.set_cons_zero, List.set_cons_succ]
          refine wpAnyD_done (by kernel_rfl) ?_ _
          clear hHeld
          have hu7 := (show UL w6 (P + 1) (.slice (some ⟨g2, 0, none⟩) n vc) us from HU.out.ul).set HNM.out.1.symm (by rw [HNM.out.1]; omega) (k := 0) HT.out.2
          have t0w := HT.out.1.kept (fr_set w6 ⟨g2, 0, none⟩ (.slice za zl zc)) (fun j _ hj e => hj.2 e)
          have hu8 := hu7.set (by rw [List.length_set]; exact HNM.out.1.symm) (by rw [List.length_set, HNM.out.1]; omega) (k := 1) t0w
          have D8 := (D.far (fr_set w6 ⟨g2, 0, none⟩ (.slice za zl zc)) (fun j e => by have e2 : j = g2 := e; omega)).far (fr_set _ ⟨g2, 1, none⟩ (.slice ya yl yc)) (fun j e => by have e2 : j = g2 := e; omega)
          have HE := Lib.hid (mb_drew (mb_end (q' := q + 3) D8 hu8.rl (by omega)))
          have e0 := box0 D.boxP
          have r0 := box0 D.boxR
          have r1 := box1 D.boxR
          have rz := boxz D.boxR
          have rl := box_lt D.boxR
          have hne2 : ¬ g2 = w.heap.size + 1 := by have := D.hP; omega
          have hne3 : ¬ w.heap.size + 1 = g2 := by have := D.hP; omega
          have hne4 : ¬ g2 = P := by omega
          clear D D8 hu7 t0w hu8
          go_wp2
          refine bodyPost_ret (v := .agg #[.slice ca m cc, .slice (some ⟨g2, 0, none⟩) n vc]) (by simp [results, Tryz.results29, go_sem, r0, r1]) rfl ?_
          exact ⟨_, _, (cl, (us.set 0 (gd us 1)).set 1 (gd us 0)), rfl, HE.out⟩
        · have hi1 : ¬ (1 : Int) < (n : Int) := by omega
          have HE := Lib.hid (mb_end (q' := q + 3) D HU.out.read (by omega))
          have c0 := box0 D.boxP
          have c1 := box1 D.boxP
          have r0 := box0 D.boxR
          have r1 := box1 D.boxR
          have rz := boxz D.boxR
          have rl := box_lt D.boxR
          clear D
          go_wp2
          refine bodyPost_ret (v := .agg #[.slice ca m cc, .slice va n vc]) (by simp [results, Tryz.results29, go_sem, r0, r1]) rfl ?_
          exact ⟨_, _, (cl, us), rfl, HE.out⟩
      have b0 : ((k1 : Int) == 0) = false := by simp; omega
      have b1 : ((k1 : Int) == 1) = false := by simp; omega
      have b2 : ((k1 : Int) == 2) = false := by simp; omega
      have b3 : ((k1 : Int) == 3) = false := by simp; omega
      have HE := Lib.hid (mb_end (q' := q + 3) D HU.out.read (by omega))
      have c0 := box0 D.boxP
      have c1 := box1 D.boxP
      have r0 := box0 D.boxR
      have r1 := box1 D.boxR
      have rz := boxz D.boxR
      have rl := box_lt D.boxR
      clear D
      go_wp2
      refine bodyPost_ret (v := .agg #[.slice ca m cc, .slice va n vc]) (by simp [results, Tryz.results29, go_sem, r0, r1]) rfl ?_
      exact ⟨_, _, (cl, us), rfl, HE.out⟩
end Go.Proofs.YtdjfdopgjlbloaaGreatDoor
