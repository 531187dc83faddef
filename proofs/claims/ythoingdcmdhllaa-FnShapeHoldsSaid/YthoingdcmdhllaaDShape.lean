/- Walk: the reference's draw of two states of one shape. -/
import Derived.Test.YthoingdcmdhllaaDRen1
import Derived.Test.YthoingdcmdhllaaShs2
import Derived.Deep.RegionHeld3
import Derived.Deep.Cut
namespace Go.Proofs.Ythoingdcmdhllaa
open Go.RowKit

theorem fga {S : Nat → Prop} {w x : World} (h : Fr S w x) (o : Obj) : Fr S w (x.alloc o) := h.trans ((Below.fr (below_alloc _ _)).mono fun _ _ h => h.elim)
theorem fgd {S : Nat → Prop} {w x : World} (h : Fr S w x) : Fr S w x.drew := h.trans ((Below.fr (below_drew _)).mono fun _ _ h => h.elim)
theorem fgb {S : Nat → Prop} {w x y : World} (h : Fr S w x) (hb : Below x.heap.size x y) : Fr S w y := h.trans ((Below.fr hb).mono fun _ _ h => h.elim)
theorem fgs {S : Nat → Prop} {w x : World} (h : Fr S w x) (p : Addr) (v : Value) (hp : w.heap.size ≤ p.block) : Fr S w (x.setCell p v) :=
  h.then (fr_set _ _ _) (fun i hi e => by omega)

/-- Where the drawing stands: the results' boxes, the first state and its box, the reader. -/
structure DP (w W : World) (bs : Nat) (s1 s2 : Value) (l1 l2 : List Int) (q : Nat) : Prop where
  A : W.heap[w.heap.size]? = some (.cells #[.slice none 0 0, .slice none 0 0] 25 (0, 0))
  B : W.heap[w.heap.size + 1]? = some (.cells #[.slice none 0 0, .slice none 0 0] 25 (0, 0))
  S : W.heap[bs]? = some (.cells #[s1, s2] 25 (0, 0))
  rs1 : RInts W s1 l1
  rs2 : RInts W s2 l2
  ks1 : ∀ k, s1.ownBlock = some k → w.heap.size + 2 < k ∧ k < bs
  ks2 : ∀ k, s2.ownBlock = some k → w.heap.size + 2 < k ∧ k < bs
  lt : w.heap.size + 2 < bs
  rdr : Rdr W (w.heap.size + 2) q
  fr : Fr (fun k => k = w.heap.size + 2) w W
/-- The same, and the second state and its box. -/
structure DS (w W : World) (bs bt Bt : Nat) (s1 s2 t1 t2 : Value) (l1 l2 m1 m2 : List Int) (q : Nat) : Prop extends DP w W bs s1 s2 l1 l2 q where
  T : W.heap[bt]? = some (.cells #[t1, t2] 25 (0, 0))
  ot : OwnSt W Bt t1 t2 m1 m2
  kt : ∀ k, some k = t1.ownBlock ∨ some k = t2.ownBlock → ¬ k = bt
  b1 : bs < Bt
  b2 : bs < bt
section
variable {w W W' : World} {bs bt Bt q q' : Nat} {s1 s2 t1 t2 : Value} {l1 l2 m1 m2 : List Int}
theorem DP.step (h : DP w W bs s1 s2 l1 l2 q) (hf : Fr (fun k => k = w.heap.size + 2) W W') (hr : Rdr W' (w.heap.size + 2) q') : DP w W' bs s1 s2 l1 l2 q' :=
  ⟨box_kept h.A hf (by omega), box_kept h.B hf (by omega), box_kept h.S hf (by have := h.lt; omega),
    h.rs1.kept hf (fun k hk e => by have := (h.ks1 k hk).1; omega), h.rs2.kept hf (fun k hk e => by have := (h.ks2 k hk).1; omega), h.ks1, h.ks2, h.lt, hr, h.fr.trans hf⟩
theorem DP.keep (h : DP w W bs s1 s2 l1 l2 q) (hb : Below W.heap.size W W') : DP w W' bs s1 s2 l1 l2 q := h.step ((Below.fr hb).mono fun _ _ h => h.elim) (h.rdr.keep hb)
/-- A store behind the first state's box. -/
theorem DP.set (h : DP w W bs s1 s2 l1 l2 q) {p : Addr} (hp : bs < p.block) (v : Value) : DP w (W.setCell p v) bs s1 s2 l1 l2 q := by
  have f := fr_set W p v
  have hl := h.lt
  exact ⟨box_kept h.A f (by omega), box_kept h.B f (by omega), box_kept h.S f (by omega),
    h.rs1.kept f (fun k hk e => by have := (h.ks1 k hk).2; omega), h.rs2.kept f (fun k hk e => by have := (h.ks2 k hk).2; omega), h.ks1, h.ks2, h.lt, h.rdr.kept f (fun k hk e => by omega), h.fr.then f (fun k hk e => by omega)⟩
theorem DS.step (h : DS w W bs bt Bt s1 s2 t1 t2 l1 l2 m1 m2 q) (hf : Fr (fun k => k = w.heap.size + 2) W W') (hr : Rdr W' (w.heap.size + 2) q') : DS w W' bs bt Bt s1 s2 t1 t2 l1 l2 m1 m2 q' :=
  ⟨h.toDP.step hf hr, box_kept h.T hf (by have := h.b2; have := h.lt; omega), h.ot.kept hf (fun k h1 _ e => by have := h.b1; have := h.lt; omega), h.kt, h.b1, h.b2⟩
theorem DS.keep (h : DS w W bs bt Bt s1 s2 t1 t2 l1 l2 m1 m2 q) (hb : Below W.heap.size W W') : DS w W' bs bt Bt s1 s2 t1 t2 l1 l2 m1 m2 q :=
  h.step ((Below.fr hb).mono fun _ _ h => h.elim) (h.rdr.keep hb)
theorem DS.more (h : DS w W bs bt Bt s1 s2 t1 t2 l1 l2 m1 m2 q) (hq : q ≤ q') : DS w W bs bt Bt s1 s2 t1 t2 l1 l2 m1 m2 q' :=
  ⟨⟨h.A, h.B, h.S, h.rs1, h.rs2, h.ks1, h.ks2, h.lt, h.rdr.more hq, h.fr⟩, h.T, h.ot, h.kt, h.b1, h.b2⟩
/-- The second state is written into its box. -/
theorem DP.putT (h : DP w W bs s1 s2 l1 l2 q) {x y : Value} (hT : W.heap[bt]? = some (.cells #[x, y] 25 (0, 0))) (ho : OwnSt W Bt t1 t2 m1 m2) (h1 : bs < Bt) (h2 : bs < bt) (hk : ∀ k, some k = t1.ownBlock ∨ some k = t2.ownBlock → ¬ k = bt) :
    DS w ((W.setCell ⟨bt, 0, none⟩ t1).setCell ⟨bt, 1, none⟩ t2) bs bt Bt s1 s2 t1 t2 l1 l2 m1 m2 q := by
  have f : Fr (fun k => k = bt) W ((W.setCell ⟨bt, 0, none⟩ t1).setCell ⟨bt, 1, none⟩ t2) := (fr_set W ⟨bt, 0, none⟩ t1).trans (fr_set (W.setCell ⟨bt, 0, none⟩ t1) ⟨bt, 1, none⟩ t2)
  exact ⟨(h.set h2 _).set h2 _, box_set1 (box_set0 hT t1) t2, ⟨own_kept ho.one f (fun k hk' e => hk k (.inl hk') e), own_kept ho.two f (fun k hk' e => hk k (.inr hk') e), ho.apart⟩, hk, h1, h2⟩
/-- The second state is laid in a new box. -/
theorem DP.newT (h : DP w W bs s1 s2 l1 l2 q) (ho : OwnSt W Bt t1 t2 m1 m2) (h1 : bs < Bt) : DS w (W.alloc (.cells #[t1, t2] 25)) bs W.heap.size Bt s1 s2 t1 t2 l1 l2 m1 m2 q :=
  ⟨h.keep (below_alloc _ _), heap_alloc_new _ _, ho.keep (below_alloc _ _), fun k hk e => by
    rcases hk with hk | hk
    · have := (own_lt ho.one hk).2; omega
    · have := (own_lt ho.two hk).2; omega, h1, box_lt h.S⟩
/-- One cell of the second state's heap is written. -/
theorem DS.set2 {g2 c2 : Nat} (h : DS w W bs bt Bt s1 s2 t1 (.slice (some ⟨g2, 0, none⟩) m2.length c2) l1 l2 m1 m2 q) (i : Nat) (x : Int) :
    DS w (W.setCell ⟨g2, i, none⟩ (.int .i64 x)) bs bt Bt s1 s2 t1 (.slice (some ⟨g2, 0, none⟩) (m2.set i x).length c2) l1 l2 m1 (m2.set i x) q := by
  have hg := (own_lt h.ot.two (k := g2) rfl).1
  have b1 := h.b1
  have hne := h.kt g2 (.inr rfl)
  have ho := h.ot.set2 i x
  exact ⟨h.toDP.set (by simp; omega) _, by rw [List.length_set]; exact box_other h.T _ _ (fun e => hne e.symm), by rw [List.length_set]; exact ho, h.kt, h.b1, h.b2⟩
end

section
variable {w W : World}
theorem four_set {v1 v2 v3 v4 u1 u2 u3 u4 : Value} {a b : Nat} (hab : ¬ a = b) (ha0 : W.cell? ⟨a, 0, none⟩ = some u1) (ha1 : W.cell? ⟨a, 1, none⟩ = some u2) (hb0 : W.cell? ⟨b, 0, none⟩ = some u3) (hb1 : W.cell? ⟨b, 1, none⟩ = some u4) :
    (((((W.setCell ⟨a, 0, none⟩ v1).setCell ⟨a, 1, none⟩ v2).setCell ⟨b, 0, none⟩ v3).setCell ⟨b, 1, none⟩ v4).cell? ⟨a, 0, none⟩ = some v1 ∧ ((((W.setCell ⟨a, 0, none⟩ v1).setCell ⟨a, 1, none⟩ v2).setCell ⟨b, 0, none⟩ v3).setCell ⟨b, 1, none⟩ v4).cell? ⟨a, 1, none⟩ = some v2) ∧
    (((((W.setCell ⟨a, 0, none⟩ v1).setCell ⟨a, 1, none⟩ v2).setCell ⟨b, 0, none⟩ v3).setCell ⟨b, 1, none⟩ v4).cell? ⟨b, 0, none⟩ = some v3 ∧ ((((W.setCell ⟨a, 0, none⟩ v1).setCell ⟨a, 1, none⟩ v2).setCell ⟨b, 0, none⟩ v3).setCell ⟨b, 1, none⟩ v4).cell? ⟨b, 1, none⟩ = some v4) := by
  have rA := box_two v1 v2 ha0 ha1
  have rB := box_two v3 v4 ((fr_set (W.setCell ⟨a, 0, none⟩ v1) ⟨a, 1, none⟩ v2).cell (fun e => hab e.symm) ((fr_set W ⟨a, 0, none⟩ v1).cell (fun e => hab e.symm) hb0))
    ((fr_set (W.setCell ⟨a, 0, none⟩ v1) ⟨a, 1, none⟩ v2).cell (fun e => hab e.symm) ((fr_set W ⟨a, 0, none⟩ v1).cell (fun e => hab e.symm) hb1))
  exact ⟨⟨(fr_set _ ⟨b, 1, none⟩ v4).cell hab ((fr_set _ ⟨b, 0, none⟩ v3).cell hab rA.1), (fr_set _ ⟨b, 1, none⟩ v4).cell hab ((fr_set _ ⟨b, 0, none⟩ v3).cell hab rA.2)⟩, rB⟩
theorem OwnSt.fin {B : Nat} {y1 y2 : Value} {j1 j2 : List Int} (h : OwnSt W B y1 y2 j1 j2) (hB : w.heap.size + 2 < B) (v1 v2 v3 v4 : Value) :
    RInts ((((W.setCell ⟨w.heap.size, 0, none⟩ v1).setCell ⟨w.heap.size, 1, none⟩ v2).setCell ⟨w.heap.size + 1, 0, none⟩ v3).setCell ⟨w.heap.size + 1, 1, none⟩ v4) y1 j1 ∧ RInts ((((W.setCell ⟨w.heap.size, 0, none⟩ v1).setCell ⟨w.heap.size, 1, none⟩ v2).setCell ⟨w.heap.size + 1, 0, none⟩ v3).setCell ⟨w.heap.size + 1, 1, none⟩ v4) y2 j2 := by
  have f : OwnSt ((((W.setCell ⟨w.heap.size, 0, none⟩ v1).setCell ⟨w.heap.size, 1, none⟩ v2).setCell ⟨w.heap.size + 1, 0, none⟩ v3).setCell ⟨w.heap.size + 1, 1, none⟩ v4) B y1 y2 j1 j2 :=
    ((((h.kept (fr_set _ _ _) (fun k h1 _ e => by simp at e; omega)).kept (fr_set _ _ _) (fun k h1 _ e => by simp at e; omega)).kept (fr_set _ _ _) (fun k h1 _ e => by simp at e; omega)).kept (fr_set _ _ _) (fun k h1 _ e => by simp at e; omega))
  exact ⟨(own_ints f.one).1, (own_ints f.two).1⟩
end

set_option maxRecDepth 100000 in
set_option maxHeartbeats 40000000 in
theorem specDrawSameShape_any (v : Value) (n : Nat) (w : World) (h : RBytes w v n) :
    Calls Try.prog 42 #[v] w fun e w' => ∃ u1 u2 l1 l2 x1 x2 m1 m2, e = .returned (.tuple #[.agg #[u1, u2], .agg #[x1, x2]]) ∧ l1.length ≤ 9 ∧ l2.length ≤ 9 ∧ m1.length ≤ 9 ∧ m2.length ≤ 9 ∧ RInts w' u1 l1 ∧ RInts w' u2 l2 ∧ RInts w' x1 m1 ∧ RInts w' x2 m2 ∧ Below w.heap.size w w' := by
  go_enter Try.func42, Try.ntmps42
  go_wp2_with fail
  refine (l18Open_any v n _ ((h.keep (below_alloc _ _)).keep (below_alloc _ _))).mono ?_
  rintro e w1 ⟨rfl, hr1, hb1⟩
  simp only [World.size_alloc] at hr1
  have hA := box_keep (box_keep (heap_alloc_new w (.cells #[.slice none 0 0, .slice none 0 0] 25)) (below_alloc _ (.cells #[.slice none 0 0, .slice none 0 0] 25))) hb1
  have hB := box_keep (heap_alloc_new (w.alloc (.cells #[.slice none 0 0, .slice none 0 0] 25)) (.cells #[.slice none 0 0, .slice none 0 0] 25)) hb1
  have hF1 : Fr (fun k => k = w.heap.size + 2) w w1 := (Below.fr (bt (ba (below_alloc w _) _) hb1)).mono fun _ _ h => h.elim
  have hg1 := hr1.lt
  simp only [World.size_alloc] at hB
  clear hb1
  simp only [World.size_alloc]
  go_wp2_with fail
  refine (l15State_any _ _ _ hr1 (by omega)).mono ?_
  rintro e w2 ⟨v1, v2, l1, l2, rfl, hl1, hl2, hst, hr2, hf2⟩
  have hz2 := hf2.size
  replace hA := box_kept hA hf2 (by omega)
  replace hB := box_kept hB hf2 (by omega)
  replace hF1 := hF1.trans hf2
  clear hr1 hf2
  obtain ⟨a1, c1, rfl⟩ := (own_ints hst.one).1.form
  obtain ⟨a2, c2, rfl⟩ := (own_ints hst.two).1.form
  have H1 := Lib.hid (And.intro hA (And.intro hB (And.intro hF1 (And.intro hst hr2))))
  have HL := Lib.hid (And.intro hl1 hl2)
  clear hA hB hF1 hst hr2 hl1 hl2
  go_wp2
  have hc0 : (w2.alloc (.cells #[.slice a1 l1.length c1, .slice a2 l2.length c2] 25)).cell? ⟨w2.heap.size, 0, none⟩ = some (.slice a1 l1.length c1) := by simp
  have hc1 : (w2.alloc (.cells #[.slice a1 l1.length c1, .slice a2 l2.length c2] 25)).cell? ⟨w2.heap.size, 1, none⟩ = some (.slice a2 l2.length c2) := by simp
  have hls := own_ub H1.out.2.2.2.1.one
  have hls2 := own_ub H1.out.2.2.2.1.two
  have hP : DP w (w2.alloc (.cells #[.slice a1 l1.length c1, .slice a2 l2.length c2] 25)) w2.heap.size (.slice a1 l1.length c1) (.slice a2 l2.length c2) l1 l2 41 :=
    ⟨box_keep H1.out.1 (below_alloc _ _), box_keep H1.out.2.1 (below_alloc _ _), heap_alloc_new _ _, ((own_ints H1.out.2.2.2.1.one).1).alloc _, ((own_ints H1.out.2.2.2.1.two).1).alloc _,
      fun k hk => by have := hls k hk.symm; omega, fun k hk => by have := hls2 k hk.symm; omega, by omega, (H1.out.2.2.2.2.keep (below_alloc _ _)).more (by omega), fga H1.out.2.2.1 _⟩
  have hzs : w2.heap.size < (w2.alloc (.cells #[.slice a1 l1.length c1, .slice a2 l2.length c2] 25)).heap.size := by simp
  generalize w2.alloc (.cells #[.slice a1 l1.length c1, .slice a2 l2.length c2] 25) = W at *
  clear H1 hls hls2
  have HP := Lib.hid hP
  clear hP
  go_upto_region 3 with fail
  go_cut [6, 7] from 8 (fun s6 s7 wc => ∃ bt Bt ok n1 n2 ta1 tc1 ta2 tc2, s6 = .pointer (some ⟨bt, 0, none⟩) ∧ s7 = .bool ok ∧ (ok = true → n1.length = 8 ∧ n2.length = 8) ∧ DS w wc w2.heap.size bt Bt (.slice a1 l1.length c1) (.slice a2 l2.length c2) (.slice ta1 n1.length tc1) (.slice ta2 n2.length tc2) l1 l2 n1 n2 100)
  case first =>
    go_region_held3 (fun w' => w'.cell? ⟨w2.heap.size, 0, none⟩ = some (.slice a1 l1.length c1) ∧ w'.cell? ⟨w2.heap.size, 1, none⟩ = some (.slice a2 l2.length c2))
      (first
        | (have _h := hy0; exact ⟨(by repeat (first | with_reducible exact hy0 | (with_reducible refine (fr_set _ _ _).cell (by first | (simp; done) | (simp; omega) | omega) ?_) | exact cell_keep (by repeat (first | exact Below.refl _ _ | with_reducible assumption | exact below_alloc _ _ | (refine Below.setCell ?_ (by first | (simp; done) | (simp; omega) | omega) _) | apply bd | apply ba | apply be)) hy0)), (by repeat (first | with_reducible exact hy1 | (with_reducible refine (fr_set _ _ _).cell (by first | (simp; done) | (simp; omega) | omega) ?_) | exact cell_keep (by repeat (first | exact Below.refl _ _ | with_reducible assumption | exact below_alloc _ _ | (refine Below.setCell ?_ (by first | (simp; done) | (simp; omega) | omega) _) | apply bd | apply ba | apply be)) hy1))⟩)
        | (have _h := hd0; exact ⟨(by repeat (first | with_reducible exact hd0 | (with_reducible refine (fr_set _ _ _).cell (by first | (simp; done) | (simp; omega) | omega) ?_) | exact cell_keep (by repeat (first | exact Below.refl _ _ | with_reducible assumption | exact below_alloc _ _ | (refine Below.setCell ?_ (by first | (simp; done) | (simp; omega) | omega) _) | apply bd | apply ba | apply be)) hd0)), (by repeat (first | with_reducible exact hd1 | (with_reducible refine (fr_set _ _ _).cell (by first | (simp; done) | (simp; omega) | omega) ?_) | exact cell_keep (by repeat (first | exact Below.refl _ _ | with_reducible assumption | exact below_alloc _ _ | (refine Below.setCell ?_ (by first | (simp; done) | (simp; omega) | omega) _) | apply bd | apply ba | apply be)) hd1))⟩)
        | exact ⟨(by repeat (first | with_reducible exact hc0 | (with_reducible refine (fr_set _ _ _).cell (by first | (simp; done) | (simp; omega) | omega) ?_) | exact cell_keep (by repeat (first | exact Below.refl _ _ | with_reducible assumption | exact below_alloc _ _ | (refine Below.setCell ?_ (by first | (simp; done) | (simp; omega) | omega) _) | apply bd | apply ba | apply be)) hc0)), (by repeat (first | with_reducible exact hc1 | (with_reducible refine (fr_set _ _ _).cell (by first | (simp; done) | (simp; omega) | omega) ?_) | exact cell_keep (by repeat (first | exact Below.refl _ _ | with_reducible assumption | exact below_alloc _ _ | (refine Below.setCell ?_ (by first | (simp; done) | (simp; omega) | omega) _) | apply bd | apply ba | apply be)) hc1))⟩)
      (first
        | (go_at_call 71; go_must (refine (l15Perm_any (w.heap.size + 2) _ _ (HP.out.rdr.keep (by repeat (first | exact Below.refl _ _ | with_reducible assumption | exact below_alloc _ _ | (refine Below.setCell ?_ (by first | (simp; done) | (simp; omega) | omega) _) | apply bd | apply ba | apply be))) (by omega)).mono ?_; rintro e w6 ⟨l, rfl, hl, hrow, hr6, hf6⟩; have hf6' : Fr (fun j => j = w.heap.size + 2) W w6 := Fr.trans (by repeat (first | exact Fr.refl _ _ | with_reducible assumption | apply fgd | apply fga)) hf6; have hz6 := hf6'.size; have HP6 := Lib.hid (HP.out.step hf6' hr6); have hd0 := box0 HP6.out.S; have hd1 := box1 HP6.out.S; have hN := (own_ints (l := l) (own_of_row (B := 0) (n := 8) (Nat.zero_le _) hl.symm (by unfold maxLen; omega) hrow)).1; (try simp only [World.size_alloc, World.size_drew] at hN); have HN := Lib.hid hN; clear hN; clear hrow hl hr6; (first | ((with_reducible have hT6 := box_kept (heap_alloc_new W.drew (.cells #[.slice none 0 0, .slice none 0 0] 25)) hf6 (fun e => by simp at e; omega)); change w6.heap[W.heap.size]? = _ at hT6) | (with_reducible have hT6 := box_kept (heap_alloc_new W (.cells #[.slice none 0 0, .slice none 0 0] 25)) hf6 (fun e => by simp at e; omega)) | skip); clear hf6))
        | (go_at_call 17; go_must (refine (renameStateS_any _ _ _ l1 l2 l _ (HP6.out.rs1.keep (by repeat (first | exact Below.refl _ _ | with_reducible assumption | exact below_alloc _ _ | (refine Below.setCell ?_ (by first | (simp; done) | (simp; omega) | omega) _) | apply bd | apply ba | apply be))) (HP6.out.rs2.keep (by repeat (first | exact Below.refl _ _ | with_reducible assumption | exact below_alloc _ _ | (refine Below.setCell ?_ (by first | (simp; done) | (simp; omega) | omega) _) | apply bd | apply ba | apply be))) (HN.out.keep (by repeat (first | exact Below.refl _ _ | with_reducible assumption | exact below_alloc _ _ | (refine Below.setCell ?_ (by first | (simp; done) | (simp; omega) | omega) _) | apply bd | apply ba | apply be)))).mono ?_; rintro e w7 ⟨t1, t2, rfl, hst7, hb7'⟩; obtain ⟨ta1, tc1, rfl, _⟩ := own_form hst7.one; obtain ⟨ta2, tc2, rfl, _⟩ := own_form hst7.two; have hb7 : Below w6.heap.size w6 w7 := bt (by repeat (first | exact Below.refl _ _ | with_reducible assumption | exact below_alloc _ _ | (refine Below.setCell ?_ (by first | (simp; done) | (simp; omega) | omega) _) | apply bd | apply ba | apply be)) hb7'; have hz7 := hb7.size; have HP7 := Lib.hid (HP6.out.keep hb7); have hy0 := box0 HP7.out.S; have hy1 := box1 HP7.out.S; (first | have hT7 := box_keep hT6 hb7 | (with_reducible have hT7 := box_keep (heap_alloc_new w6 (.cells #[.slice none 0 0, .slice none 0 0] 25)) hb7') | skip); (first | (have ht0 := box0 hT7; have ht1 := box1 hT7; have htz := boxz hT7; have htl := box_lt hT7) | skip))))
    all_goals
      first
        | (have _h := hT6
           clear _h
           have hlt6 := box_lt hT6
           have V := DP.putT (bt := W.heap.size) HP7.out hT7 hst7 (by omega) hzs (fun k hk e => by rcases hk with hk | hk; (have := (own_lt hst7.one hk).1; omega); (have := (own_lt hst7.two hk).1; omega))
           obtain ⟨W', hWd⟩ : ∃ W', W' = (w7.setCell ⟨W.heap.size, 0, none⟩ (.slice ta1 (renSV l1 l2 l).length tc1)).setCell ⟨W.heap.size, 1, none⟩ (.slice ta2 (renSH l1 l2 l).length tc2) := ⟨_, rfl⟩
           rw [← hWd] at V ⊢
           clear hWd
           obtain ⟨bt, ht⟩ : ∃ t, t = W.heap.size := ⟨_, rfl⟩
           rw [← ht] at V ⊢
           have HV := Lib.hid V
           clear V ht hst7 hb7 hb7' HN hT6 hT7 ht0 ht1 htz htl)
        | (have _h := hT7
           clear _h
           have V := DP.putT (bt := w6.heap.size) HP7.out hT7 hst7 (by simp; omega) (by omega) (fun k hk e => by rcases hk with hk | hk; (have := (own_lt hst7.one hk).1; simp at this; omega); (have := (own_lt hst7.two hk).1; simp at this; omega))
           obtain ⟨W', hWd⟩ : ∃ W', W' = (w7.setCell ⟨w6.heap.size, 0, none⟩ (.slice ta1 (renSV l1 l2 l).length tc1)).setCell ⟨w6.heap.size, 1, none⟩ (.slice ta2 (renSH l1 l2 l).length tc2) := ⟨_, rfl⟩
           rw [← hWd] at V ⊢
           clear hWd
           obtain ⟨bt, ht⟩ : ∃ t, t = w6.heap.size := ⟨_, rfl⟩
           rw [← ht] at V ⊢
           have HV := Lib.hid V
           clear V ht hst7 hb7 hb7' HN hT7 ht0 ht1 htz htl)
        | (have V := DP.newT HP7.out hst7 (by omega)
           obtain ⟨W', hWd⟩ : ∃ W', W' = w7.alloc (.cells #[(.slice ta1 (renSV l1 l2 l).length tc1), (.slice ta2 (renSH l1 l2 l).length tc2)] 25) := ⟨_, rfl⟩
           rw [← hWd] at V ⊢
           clear hWd
           obtain ⟨bt, ht⟩ : ∃ t, t = w7.heap.size := ⟨_, rfl⟩
           rw [← ht] at V ⊢
           have HV := Lib.hid V
           clear V ht hst7 hb7 hb7' HN)
      have hl8 : renOk l1 l2 l = true → (renSV l1 l2 l).length = 8 ∧ (renSH l1 l2 l).length = 8 := fun h => by
        have hh : validB l1 l2 = true ∧ namesB l = true := by simpa [renOk] using h
        rw [renSH, renSV, if_pos h, if_pos h, renH_len, renV_len, (valid_len hh.1).2, (valid_len hh.1).1]; exact ⟨rfl, rfl⟩
      generalize renOk l1 l2 l = ok at *
      generalize renSV l1 l2 l = n1 at *
      generalize renSH l1 l2 l = n2 at *
      go_wp2_with fail
      go_meet
      case rel => exact ⟨bt, _, ok, n1, n2, ta1, tc1, ta2, tc2, rfl, rfl, hl8, DS.more HV.out (by omega)⟩
  case rest =>
    obtain ⟨bt, Bt, ok, n1, n2, ta1, tc1, ta2, tc2, rfl, rfl, hl8, V⟩ := hcut
    have HV := Lib.hid V
    have HL8 := Lib.hid hl8
    clear V hl8 HP hzs hc0 hc1
    go_upto_region 4 with fail
    go_cut [25] from 8 (fun s25 wd => ∃ b, s25 = .bool b ∧ (b = false → n1.length = 8 ∧ n2.length = 8) ∧ DS w wd w2.heap.size bt Bt (.slice a1 l1.length c1) (.slice a2 l2.length c2) (.slice ta1 n1.length tc1) (.slice ta2 n2.length tc2) l1 l2 n1 n2 200)
    case first =>
      cases ok
      · go_wp2_with fail
        go_meet
        case rel => exact ⟨true, rfl, (fun h => by cases h), HV.out.more (by omega)⟩
      · go_wp2_with fail
        refine (pick_any (w.heap.size + 2) _ 4 _ HV.out.rdr (by omega) (by decide) (by decide)).mono ?_
        rintro e wa ⟨x, rfl, hx8, hra, hfa⟩
        have HV' := Lib.hid (HV.out.step hfa hra)
        clear hra hfa
        by_cases hx0 : x = 0
        · subst hx0
          go_wp2_with fail
          go_meet
          case rel => exact ⟨true, rfl, (fun h => by cases h), HV'.out.more (by omega)⟩
        · have hxb : ((x : Int) == 0) = false := by rw [beq_eq_false_iff_ne]; omega
          go_wp2_with fail
          go_meet
          case rel => exact ⟨false, rfl, (fun _ => HL8.out (by simp)), HV'.out.more (by omega)⟩
    case rest =>
      obtain ⟨b, rfl, hb8, V⟩ := hcut
      clear HV HL8
      have HV := Lib.hid V
      have HL8 := Lib.hid hb8
      clear V hb8
      go_upto_if 25 with fail
      go_cut [] from 8 (fun wd => ∃ Bt m1 m2 xa1 xc1 xa2 xc2, m1.length = 8 ∧ m2.length = 8 ∧ DS w wd w2.heap.size bt Bt (.slice a1 l1.length c1) (.slice a2 l2.length c2) (.slice xa1 m1.length xc1) (.slice xa2 m2.length xc2) l1 l2 m1 m2 300)
      case first =>
        cases b
        · go_wp2_with fail
          go_meet
          case rel => exact ⟨_, n1, n2, ta1, tc1, ta2, tc2, (HL8.out (by simp)).1, (HL8.out (by simp)).2, HV.out.more (by omega)⟩
        · clear HL8
          go_wp2_with fail
          refine (l15State_any (w.heap.size + 2) _ _ HV.out.rdr (by omega)).mono ?_
          rintro e w8 ⟨x1, x2, k1, k2, rfl, hk1, hk2, hst8, hr8, hf8⟩
          have h8 := HV.out.step hf8 hr8
          obtain ⟨xa1, xc1, rfl, _⟩ := own_form hst8.one
          obtain ⟨xa2, xc2, rfl, _⟩ := own_form hst8.two
          have hbs := box_lt HV.out.S
          have hbt := box_lt HV.out.T
          have V := DP.putT (bt := bt) h8.toDP h8.T hst8 hbs h8.b2 (fun k hk e => by rcases hk with hk | hk; (have := (own_lt hst8.one hk).1; omega); (have := (own_lt hst8.two hk).1; omega))
          have ht0 := box0 h8.T
          have ht1 := box1 h8.T
          have htz := boxz h8.T
          have htl := box_lt h8.T
          have HN8 := Lib.hid hk2; have HN7 := Lib.hid hk1
          have HW := Lib.hid V
          clear h8 hst8 hr8 hf8 HV hk1 hk2 V
          go_wp2_with fail
          go_meet
          case rel => exact ⟨_, k1, k2, xa1, xc1, xa2, xc2, HN7.out, HN8.out, HW.out.more (by omega)⟩
      case rest =>
        clear HV HL8
        obtain ⟨Bt, n1, n2, ta1, tc1, ta2, tc2, hk1, hk2, V⟩ := hcut
        have HV := Lib.hid V
        have HN8 := Lib.hid hk2; have HN7 := Lib.hid hk1
        clear V hk1 hk2
        go_wp2_with fail
        refine (pick_any (w.heap.size + 2) 300 4 _ HV.out.rdr (by omega) (by decide) (by decide)).mono ?_
        rintro e wa ⟨x6, rfl, hx6, hra, hfa⟩
        have HV' := Lib.hid (HV.out.step hfa hra)
        clear hra hfa HV
        have HV := HV'
        clear HV'
        go_upto_if 30 with fail
        go_cut [] from 8 (fun wd => ∃ Bt m1 m2 xa1 xc1 xa2 xc2, m1.length = 8 ∧ m2.length = 8 ∧ DS w wd w2.heap.size bt Bt (.slice a1 l1.length c1) (.slice a2 l2.length c2) (.slice xa1 m1.length xc1) (.slice xa2 m2.length xc2) l1 l2 m1 m2 400)
        case first =>
          by_cases hx60 : x6 = 0
          · subst hx60
            obtain ⟨g2, cc2, hg2e, hg2B, hg2L⟩ := own_at HV.out.ot.two (by rw [HN8.out]; omega)
            simp only [Value.slice.injEq] at hg2e
            obtain ⟨rfl, _h8, rfl⟩ := hg2e
            clear _h8
            have hgne := HV.out.kt g2 (.inr rfl)
            have D0 := HV.out
            have ht1 := box1 D0.T
            have hbt2 := D0.b2
            have hb1 := D0.b1
            clear D0
            have hgr := HV.out.rdr.lt
            have hlit := lit_ints wa [0, 1, 2, -1] (by decide)
            go_wp2_with fail
            go_region_held3 (fun w' => w'.cell? ⟨bt, 1, none⟩ = some (.slice (some ⟨g2, 0, none⟩) n2.length tc2))
              (first
                | (have _h := hn1; exact (by repeat (first | with_reducible exact hn1 | (with_reducible refine (fr_set _ _ _).cell (by first | (simp; done) | (simp; omega) | omega) ?_) | exact cell_keep (by repeat (first | exact Below.refl _ _ | with_reducible assumption | exact below_alloc _ _ | (refine Below.setCell ?_ (by first | (simp; done) | (simp; omega) | omega) _) | apply bd | apply ba | apply be)) hn1)))
                | (have _h := hp1; exact (by repeat (first | with_reducible exact hp1 | (with_reducible refine (fr_set _ _ _).cell (by first | (simp; done) | (simp; omega) | omega) ?_) | exact cell_keep (by repeat (first | exact Below.refl _ _ | with_reducible assumption | exact below_alloc _ _ | (refine Below.setCell ?_ (by first | (simp; done) | (simp; omega) | omega) _) | apply bd | apply ba | apply be)) hp1)))
                | exact (by repeat (first | with_reducible exact ht1 | (with_reducible refine (fr_set _ _ _).cell (by first | (simp; done) | (simp; omega) | omega) ?_) | exact cell_keep (by repeat (first | exact Below.refl _ _ | with_reducible assumption | exact below_alloc _ _ | (refine Below.setCell ?_ (by first | (simp; done) | (simp; omega) | omega) _) | apply bd | apply ba | apply be)) ht1)))
              (first
                | (go_at_call 113; go_must (refine (pick_any (w.heap.size + 2) (300 + 1) 8 _ (HV.out.rdr.keep (by repeat (first | exact Below.refl _ _ | with_reducible assumption | exact below_alloc _ _ | (refine Below.setCell ?_ (by first | (simp; done) | (simp; omega) | omega) _) | apply bd | apply ba | apply be))) (by omega) (by decide) (by decide)).mono ?_; rintro e w5 ⟨i0, rfl, hi0, hr5, hf5⟩; have hf5' : Fr (fun k => k = w.heap.size + 2) wa w5 := Fr.trans (by repeat (first | exact Fr.refl _ _ | with_reducible assumption | apply fgd | apply fga)) hf5; have HV5 := Lib.hid (HV.out.step hf5' hr5); have hp1 := box1 HV5.out.T; have hz5 := hf5'.size; have hii : (i0 : Int) < (n2.length : Int) := (by rw [HN8.out]; exact hi0); (first | have HLIT := Lib.hid (RInts.kept (lit_ints wa.drew [0, 1, 2, -1] (by decide)) hf5 (fun k hk e => by simp [Value.ownBlock] at hk; omega)) | skip); (first | have HLIT2 := Lib.hid (RInts.kept (lit_ints wa [0, 1, 2, -1] (by decide)) hf5 (fun k hk e => by simp [Value.ownBlock] at hk; omega)) | skip); clear hr5 hf5))
                | (go_at_call 114; (first | have hL := HLIT.out | have hL := lit_ints w5 [0, 1, 2, -1] (by decide)); go_must (refine (num_any (w.heap.size + 2) (300 + 1 + 1) _ [0, 1, 2, -1] _ (HV5.out.rdr.keep (by repeat (first | exact Below.refl _ _ | with_reducible assumption | exact below_alloc _ _ | (refine Below.setCell ?_ (by first | (simp; done) | (simp; omega) | omega) _) | apply bd | apply ba | apply be))) (by exact hL) (by omega) (by decide) (by decide) (fun k hk e => by simp [Value.ownBlock] at hk; omega)).mono ?_; rintro e w6 ⟨x5, _, rfl, hr6, hf6⟩; have hf6' : Fr (fun k => k = w.heap.size + 2) w5 w6 := Fr.trans (by repeat (first | exact Fr.refl _ _ | with_reducible assumption | apply fgd | apply fga)) hf6; have HV6 := Lib.hid (HV5.out.step hf6' hr6); have hn1 := box1 HV6.out.T; obtain ⟨hck6, hfz6⟩ := own_cell HV6.out.ot.two i0 (by rw [HN8.out]; omega); clear hr6 hf6)))
            all_goals
              have HN8' := Lib.hid (show (n2.set i0 x5).length = 8 by rw [List.length_set]; exact HN8.out)
              have HW := Lib.hid (HV6.out.set2 i0 x5)
              clear HV5 HV hn1 hp1 ht1
              go_wp2_with fail
              go_meet
              case rel => exact ⟨_, n1, n2.set i0 x5, ta1, tc1, _, tc2, HN7.out, HN8'.out, HW.out.more (by omega)⟩
          · have hxb6 : ((x6 : Int) == 0) = false := by rw [beq_eq_false_iff_ne]; omega
            go_wp2_with fail
            go_meet
            case rel => exact ⟨_, n1, n2, ta1, tc1, ta2, tc2, HN7.out, HN8.out, HV.out.more (by omega)⟩
        case rest =>
          clear HV HN7 HN8
          obtain ⟨Bt, n1, n2, ta1, tc1, ta2, tc2, hk1, hk2, V⟩ := hcut
          have HV := Lib.hid V
          have HN8 := Lib.hid hk2; have HN7 := Lib.hid hk1
          clear V hk1 hk2
          have D0 := HV.out
          have hs0 := box0 D0.S
          have hs1 := box1 D0.S
          have ht0 := box0 D0.T
          have ht1 := box1 D0.T
          have hbt2 := D0.b2
          clear D0
          go_wp2_with fail
          go_region_held3 (fun w' => (w'.cell? ⟨w2.heap.size, 0, none⟩ = some (.slice a1 l1.length c1) ∧ w'.cell? ⟨w2.heap.size, 1, none⟩ = some (.slice a2 l2.length c2)) ∧ (w'.cell? ⟨bt, 0, none⟩ = some (.slice ta1 n1.length tc1) ∧ w'.cell? ⟨bt, 1, none⟩ = some (.slice ta2 n2.length tc2)))
            (first
              | (have _h := hz0'; exact ⟨⟨(by repeat (first | with_reducible exact hy0 | (with_reducible refine (fr_set _ _ _).cell (by first | (simp; done) | (simp; omega) | omega) ?_) | exact cell_keep (by repeat (first | exact Below.refl _ _ | with_reducible assumption | exact below_alloc _ _ | (refine Below.setCell ?_ (by first | (simp; done) | (simp; omega) | omega) _) | apply bd | apply ba | apply be)) hy0)), (by repeat (first | with_reducible exact hy1 | (with_reducible refine (fr_set _ _ _).cell (by first | (simp; done) | (simp; omega) | omega) ?_) | exact cell_keep (by repeat (first | exact Below.refl _ _ | with_reducible assumption | exact below_alloc _ _ | (refine Below.setCell ?_ (by first | (simp; done) | (simp; omega) | omega) _) | apply bd | apply ba | apply be)) hy1))⟩, ⟨(by repeat (first | with_reducible exact hz0' | (with_reducible refine (fr_set _ _ _).cell (by first | (simp; done) | (simp; omega) | omega) ?_) | exact cell_keep (by repeat (first | exact Below.refl _ _ | with_reducible assumption | exact below_alloc _ _ | (refine Below.setCell ?_ (by first | (simp; done) | (simp; omega) | omega) _) | apply bd | apply ba | apply be)) hz0')), (by repeat (first | with_reducible exact hz1' | (with_reducible refine (fr_set _ _ _).cell (by first | (simp; done) | (simp; omega) | omega) ?_) | exact cell_keep (by repeat (first | exact Below.refl _ _ | with_reducible assumption | exact below_alloc _ _ | (refine Below.setCell ?_ (by first | (simp; done) | (simp; omega) | omega) _) | apply bd | apply ba | apply be)) hz1'))⟩⟩)
              | (have _h := hp0; exact ⟨⟨(by repeat (first | with_reducible exact hp0 | (with_reducible refine (fr_set _ _ _).cell (by first | (simp; done) | (simp; omega) | omega) ?_) | exact cell_keep (by repeat (first | exact Below.refl _ _ | with_reducible assumption | exact below_alloc _ _ | (refine Below.setCell ?_ (by first | (simp; done) | (simp; omega) | omega) _) | apply bd | apply ba | apply be)) hp0)), (by repeat (first | with_reducible exact hp1 | (with_reducible refine (fr_set _ _ _).cell (by first | (simp; done) | (simp; omega) | omega) ?_) | exact cell_keep (by repeat (first | exact Below.refl _ _ | with_reducible assumption | exact below_alloc _ _ | (refine Below.setCell ?_ (by first | (simp; done) | (simp; omega) | omega) _) | apply bd | apply ba | apply be)) hp1))⟩, ⟨(by repeat (first | with_reducible exact hq0 | (with_reducible refine (fr_set _ _ _).cell (by first | (simp; done) | (simp; omega) | omega) ?_) | exact cell_keep (by repeat (first | exact Below.refl _ _ | with_reducible assumption | exact below_alloc _ _ | (refine Below.setCell ?_ (by first | (simp; done) | (simp; omega) | omega) _) | apply bd | apply ba | apply be)) hq0)), (by repeat (first | with_reducible exact hq1 | (with_reducible refine (fr_set _ _ _).cell (by first | (simp; done) | (simp; omega) | omega) ?_) | exact cell_keep (by repeat (first | exact Below.refl _ _ | with_reducible assumption | exact below_alloc _ _ | (refine Below.setCell ?_ (by first | (simp; done) | (simp; omega) | omega) _) | apply bd | apply ba | apply be)) hq1))⟩⟩)
              | exact ⟨⟨(by repeat (first | with_reducible exact hs0 | (with_reducible refine (fr_set _ _ _).cell (by first | (simp; done) | (simp; omega) | omega) ?_) | exact cell_keep (by repeat (first | exact Below.refl _ _ | with_reducible assumption | exact below_alloc _ _ | (refine Below.setCell ?_ (by first | (simp; done) | (simp; omega) | omega) _) | apply bd | apply ba | apply be)) hs0)), (by repeat (first | with_reducible exact hs1 | (with_reducible refine (fr_set _ _ _).cell (by first | (simp; done) | (simp; omega) | omega) ?_) | exact cell_keep (by repeat (first | exact Below.refl _ _ | with_reducible assumption | exact below_alloc _ _ | (refine Below.setCell ?_ (by first | (simp; done) | (simp; omega) | omega) _) | apply bd | apply ba | apply be)) hs1))⟩, ⟨(by repeat (first | with_reducible exact ht0 | (with_reducible refine (fr_set _ _ _).cell (by first | (simp; done) | (simp; omega) | omega) ?_) | exact cell_keep (by repeat (first | exact Below.refl _ _ | with_reducible assumption | exact below_alloc _ _ | (refine Below.setCell ?_ (by first | (simp; done) | (simp; omega) | omega) _) | apply bd | apply ba | apply be)) ht0)), (by repeat (first | with_reducible exact ht1 | (with_reducible refine (fr_set _ _ _).cell (by first | (simp; done) | (simp; omega) | omega) ?_) | exact cell_keep (by repeat (first | exact Below.refl _ _ | with_reducible assumption | exact below_alloc _ _ | (refine Below.setCell ?_ (by first | (simp; done) | (simp; omega) | omega) _) | apply bd | apply ba | apply be)) ht1))⟩⟩)
            (first
              | (go_at_call 69; (with_reducible refine (l2Mutate_any (w.heap.size + 2) 400 (.slice a1 l1.length c1) (.slice a2 l2.length c2) l1 l2 _ (HV.out.rdr.keep (by repeat (first | exact Below.refl _ _ | with_reducible assumption | exact below_alloc _ _ | (refine Below.setCell ?_ (by first | (simp; done) | (simp; omega) | omega) _) | apply bd | apply ba | apply be))) (by omega) (HV.out.rs1.keep (by repeat (first | exact Below.refl _ _ | with_reducible assumption | exact below_alloc _ _ | (refine Below.setCell ?_ (by first | (simp; done) | (simp; omega) | omega) _) | apply bd | apply ba | apply be))) (HV.out.rs2.keep (by repeat (first | exact Below.refl _ _ | with_reducible assumption | exact below_alloc _ _ | (refine Below.setCell ?_ (by first | (simp; done) | (simp; omega) | omega) _) | apply bd | apply ba | apply be))) HL.out.1 HL.out.2).mono ?_); rintro e wm ⟨y1, y2, j1, j2, rfl, hj1, hj2, hst1, hr1, hf1⟩; obtain ⟨ya1, yc1, rfl, _⟩ := own_form hst1.one; obtain ⟨ya2, yc2, rfl, _⟩ := own_form hst1.two; have HV1 := Lib.hid (HV.out.step (Fr.trans (by repeat (first | exact Fr.refl _ _ | with_reducible assumption | apply fgd | apply fga)) hf1) hr1); have hp0 := box0 HV1.out.S; have hp1 := box1 HV1.out.S; have hq0 := box0 HV1.out.T; have hq1 := box1 HV1.out.T; have HJ1 := Lib.hid (And.intro hj1 hj2); clear hj1 hj2 hr1 hf1)
              | (go_at_call 69; go_must (refine (l2Mutate_any (w.heap.size + 2) (400 + 2) _ _ n1 n2 _ (HV1.out.rdr.keep (by repeat (first | exact Below.refl _ _ | with_reducible assumption | exact below_alloc _ _ | (refine Below.setCell ?_ (by first | (simp; done) | (simp; omega) | omega) _) | apply bd | apply ba | apply be))) (by omega) ((own_ints HV1.out.ot.one).1.keep (by repeat (first | exact Below.refl _ _ | with_reducible assumption | exact below_alloc _ _ | (refine Below.setCell ?_ (by first | (simp; done) | (simp; omega) | omega) _) | apply bd | apply ba | apply be))) ((own_ints HV1.out.ot.two).1.keep (by repeat (first | exact Below.refl _ _ | with_reducible assumption | exact below_alloc _ _ | (refine Below.setCell ?_ (by first | (simp; done) | (simp; omega) | omega) _) | apply bd | apply ba | apply be))) HN7.out HN8.out).mono ?_; rintro e wn ⟨z1, z2, i1, i2, rfl, hi1, hi2, hst2, hr2, hf2⟩; obtain ⟨za1, zc1, rfl, _⟩ := own_form hst2.one; obtain ⟨za2, zc2, rfl, _⟩ := own_form hst2.two; have hf2' : Fr (fun k => k = w.heap.size + 2) wm wn := Fr.trans (by repeat (first | exact Fr.refl _ _ | with_reducible assumption | apply fgd | apply fga)) hf2; have HV2 := Lib.hid (HV1.out.step hf2' hr2); have hy0 := box0 HV2.out.S; have hy1 := box1 HV2.out.S; have hz0' := box0 HV2.out.T; have hz1' := box1 HV2.out.T; have HJ2 := Lib.hid (And.intro hi1 hi2); have ha0 := box0 HV2.out.A; have ha1 := box1 HV2.out.A; have haz := boxz HV2.out.A; have hal := box_lt HV2.out.A; have hb0 := box0 HV2.out.B; have hb1 := box1 HV2.out.B; have hbz := boxz HV2.out.B; have hbl := box_lt HV2.out.B; clear hi1 hi2 hr2 hf2)))
          all_goals
            have hst1' := hst1.kept hf2' (fun k h1 _ e => absurd (Nat.lt_of_lt_of_le HV.out.rdr.lt h1) (by omega))
            have g1 := OwnSt.fin (w := w) hst1' HV.out.rdr.lt (.slice ya1 j1.length yc1) (.slice ya2 j2.length yc2) (.slice za1 i1.length zc1) (.slice za2 i2.length zc2)
            have g2 := OwnSt.fin (w := w) hst2 HV1.out.rdr.lt (.slice ya1 j1.length yc1) (.slice ya2 j2.length yc2) (.slice za1 i1.length zc1) (.slice za2 i2.length zc2)
            have g3 : Below w.heap.size w ((((wn.setCell ⟨w.heap.size, 0, none⟩ (.slice ya1 j1.length yc1)).setCell ⟨w.heap.size, 1, none⟩ (.slice ya2 j2.length yc2)).setCell ⟨w.heap.size + 1, 0, none⟩ (.slice za1 i1.length zc1)).setCell ⟨w.heap.size + 1, 1, none⟩ (.slice za2 i2.length zc2)) :=
              ((((HV2.out.fr.below (Nat.le_refl _) (fun k hk e => by omega)).setCell (by simp) _).setCell (by simp) _).setCell (by simp) _).setCell (by simp) _
            have r := four_set (v1 := .slice ya1 j1.length yc1) (v2 := .slice ya2 j2.length yc2) (v3 := .slice za1 i1.length zc1) (v4 := .slice za2 i2.length zc2) (show ¬ w.heap.size = w.heap.size + 1 by omega) ha0 ha1 hb0 hb1
            have HO := Lib.hid (And.intro g1 (And.intro g2 g3))
            clear g1 g2 g3 hst1 hst1' hst2 hf2'
            go_wp2
            refine bodyPost_ret (v := .tuple #[.agg #[.slice ya1 j1.length yc1, .slice ya2 j2.length yc2], .agg #[.slice za1 i1.length zc1, .slice za2 i2.length zc2]]) (by simp [results, Try.results42, go_sem, r.1.1, r.1.2, r.2.1, r.2.2]) rfl ?_
            exact ⟨_, _, j1, j2, _, _, i1, i2, rfl, HJ1.out.1, HJ1.out.2, HJ2.out.1, HJ2.out.2, HO.out.1.1, HO.out.1.2, HO.out.2.1.1, HO.out.2.1.2, HO.out.2.2⟩
end Go.Proofs.Ythoingdcmdhllaa
