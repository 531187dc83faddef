/- Lists of lists of numbers in a row of the call's own, the inner lists elsewhere (they may share blocks). -/
import Derived.Test.YtdjfdopgjlbloaaGreatDoorWPrvA
namespace Go.Proofs.YtdjfdopgjlbloaaGreatDoor
open Go.RowKit

/-- The outer row is the call's own; the inner rows lie in other blocks behind the mark. -/
def UL (w : World) (B : Nat) (v : Value) (us : List (List Int)) : Prop :=
  ∃ xs : List Value, w.ownsRow B 23 1 v us.length xs ∧ ∀ k, k < us.length → ∃ x, xs[k]? = some x ∧ RL w (fun j => B ≤ j ∧ ¬ some j = v.ownBlock) x (gd us k)
section
variable {w w' : World} {B : Nat} {v : Value} {us : List (List Int)} {T : Nat → Prop}
theorem UL.nil (w : World) (B : Nat) : UL w B (.slice none 0 0) [] :=
  ⟨[], ⟨rfl, .inl ⟨rfl, rfl⟩⟩, fun k hk => absurd hk (Nat.not_lt_zero k)⟩
theorem UL.kept (h : UL w B v us) (hf : Fr T w w') (hT : ∀ k, B ≤ k → k < w.heap.size → ¬ T k) : UL w' B v us := by
  obtain ⟨xs, hr, hx⟩ := h
  refine ⟨xs, own_kept hr hf (fun k hk => hT k (own_lt hr hk).1 (own_lt hr hk).2), fun k hk => ?_⟩
  obtain ⟨x, e, hR⟩ := hx k hk
  exact ⟨x, e, hR.kept hf fun j hj hS => hT j hS.1 hj⟩
theorem UL.keep (h : UL w B v us) (hb : Below w.heap.size w w') : UL w' B v us := by
  obtain ⟨xs, hr, hx⟩ := h
  refine ⟨xs, own_keep hr hb, fun k hk => ?_⟩
  obtain ⟨x, e, hR⟩ := hx k hk
  exact ⟨x, e, hR.keep hb⟩
theorem UL.form (h : UL w B v us) : ∃ a cap, v = .slice a us.length cap := by
  obtain ⟨xs, hr, hx⟩ := h
  obtain ⟨a, cap, e, _⟩ := own_form hr
  exact ⟨a, cap, e⟩
theorem UL.lt (h : UL w B v us) {k : Nat} (hk : some k = v.ownBlock) : B ≤ k ∧ k < w.heap.size := by
  obtain ⟨xs, hr, hx⟩ := h
  exact own_lt hr hk
theorem UL.at (h : UL w B v us) (h0 : 0 < us.length) : ∃ g cap, v = .slice (some ⟨g, 0, none⟩) us.length cap ∧ B ≤ g ∧ g < w.heap.size ∧
    ∀ k, k < us.length → ∃ x, w.cell? ⟨g, k, none⟩ = some x ∧ w.frozen? ⟨g, k, none⟩ = false ∧ RL w (fun j => B ≤ j ∧ ¬ j = g) x (gd us k) := by
  obtain ⟨xs, hr, hx⟩ := h
  obtain ⟨a, cap, rfl, ha⟩ := own_form hr
  obtain ⟨g, rfl⟩ := ha 0 h0
  have hl := own_lt hr (k := g) rfl
  refine ⟨g, cap, rfl, hl.1, hl.2, fun k hk => ?_⟩
  obtain ⟨x, e, hR⟩ := hx k hk
  exact ⟨x, by rw [hr.cellAt k (by omega)]; exact e, hr.frozenAt k, hR.more fun j _ hj => ⟨hj.1, fun e => hj.2 (by rw [e]; rfl)⟩⟩
/-- One inner list is laid anew; what stood there is not asked for. -/
theorem ul_set {g n cap k : Nat} {x : Value} {u : List Int} {xs : List Value} (hr : w.ownsRow B 23 1 (.slice (some ⟨g, 0, none⟩) n cap) n xs) (hn : n = us.length) (hk : k < us.length)
    (hxs : ∀ i, i < us.length → i ≠ k → ∃ y, xs[i]? = some y ∧ RL w (fun j => B ≤ j ∧ ¬ j = g) y (gd us i)) (hx : RL w (fun j => B ≤ j ∧ ¬ j = g) x u) :
    UL (w.setCell ⟨g, k, none⟩ x) B (.slice (some ⟨g, 0, none⟩) n cap) (us.set k u) := by
  subst hn
  have hlen : xs.length = us.length := by have := hr.1; omega
  have fr := fr_set w ⟨g, k, none⟩ x
  refine ⟨xs.set k x, by rw [List.length_set]; exact (hr.stored k x).1, fun i hi => ?_⟩
  rw [List.length_set] at hi
  by_cases e : i = k
  · subst e
    refine ⟨x, by rw [List.getElem?_set_self (by omega)], ?_⟩
    rw [gd_set hk, if_pos rfl]
    exact (hx.kept fr fun j _ hj e => hj.2 e).more fun j _ hj => ⟨hj.1, fun e => hj.2 (Option.some.inj e)⟩
  · obtain ⟨y, ey, hR⟩ := hxs i hi e
    refine ⟨y, by rw [List.getElem?_set_ne (fun e2 => e e2.symm)]; exact ey, ?_⟩
    rw [gd_set hk, if_neg e]
    exact (hR.kept fr fun j _ hj e => hj.2 e).more fun j _ hj => ⟨hj.1, fun e => hj.2 (Option.some.inj e)⟩
theorem UL.set {g n cap k : Nat} {x : Value} {u : List Int} (h : UL w B (.slice (some ⟨g, 0, none⟩) n cap) us) (hn : n = us.length) (hk : k < us.length) (hx : RL w (fun j => B ≤ j ∧ ¬ j = g) x u) :
    UL (w.setCell ⟨g, k, none⟩ x) B (.slice (some ⟨g, 0, none⟩) n cap) (us.set k u) := by
  obtain ⟨xs, hr, hxs⟩ := h
  refine ul_set (by rw [hn]; rw [hn] at hr; exact hr) hn hk (fun i hi _ => ?_) hx
  obtain ⟨y, ey, hR⟩ := hxs i hi
  exact ⟨y, ey, hR.more fun j _ hj => ⟨hj.1, fun e => hj.2 (by rw [e]; rfl)⟩⟩
/-- An owned list of lists: its rows, all different. -/
theorem oo_rows (h : OO w B v us) : ∃ xs : List Value, w.ownsRow B 23 1 v us.length xs ∧ ∀ i, i < us.length → ∃ y, xs[i]? = some y ∧ w.ownsRow B 3 1 y (gd us i).length (ints (gd us i)) ∧
    (∀ j, some j = y.ownBlock → ¬ some j = v.ownBlock) ∧ ∀ i', i' < us.length → i' ≠ i → ∀ y', xs[i']? = some y' → ∀ j, some j = y.ownBlock → ¬ some j = y'.ownBlock := by
  obtain ⟨fp, ⟨xs, fps, hr, hfl, rfl, ho⟩, hn⟩ := h
  have hlen : xs.length = us.length := by have := hr.1; exact this.trans (Nat.mul_one _)
  obtain ⟨n1, n2, n3⟩ := List.nodup_append.1 hn
  have K : ∀ i, i < us.length → ∃ y, xs[i]? = some y ∧ w.ownsRow B 3 1 y (gd us i).length (ints (gd us i)) ∧ gd fps i = y.ownBlock.toList := fun i hi => by
    obtain ⟨y, ey, hy⟩ := ho i hi
    have hy2 := hy.ints
    have hi2 : i < xs.length := by omega
    refine ⟨y, ?_, hy2.1, hy2.2⟩
    unfold nth at ey
    rw [show i * Dat.sz (List Int) = i from Nat.mul_one i, List.drop_eq_getElem_cons hi2] at ey
    rw [List.getElem?_eq_getElem hi2]
    have ey2 : [xs[i]] = [y] := ey
    rw [List.cons.inj ey2 |>.1]
  refine ⟨xs, hr, fun i hi => ?_⟩
  obtain ⟨y, e1, e2, e3⟩ := K i hi
  refine ⟨y, e1, e2, fun j hj e => ?_, fun i' hi' hne y' e1' j hj e => ?_⟩
  · exact n3 j (mem_ownBlock.2 e) j (mem_flat (i := i) (by omega) (by rw [e3]; exact mem_ownBlock.2 hj)) rfl
  · obtain ⟨y2, f1, f2, f3⟩ := K i' hi'
    rw [f1] at e1'
    obtain rfl := Option.some.inj e1'
    have hp := (List.pairwise_iff_getElem.1 (List.pairwise_flatten.1 n2).2)
    have m1 : j ∈ gd fps i := by rw [e3]; exact mem_ownBlock.2 hj
    have m2 : j ∈ gd fps i' := by rw [f3]; exact mem_ownBlock.2 e
    rw [gd_of (by omega)] at m1 m2
    rcases Nat.lt_or_gt_of_ne hne with h | h
    · exact hp i' i (by omega) (by omega) h j m2 j m1 rfl
    · exact hp i i' (by omega) (by omega) h j m1 j m2 rfl
theorem OO.ul (h : OO w B v us) : UL w B v us := by
  obtain ⟨xs, hr, hx⟩ := oo_rows h
  refine ⟨xs, hr, fun k hk => ?_⟩
  obtain ⟨y, e1, e2, e3, _⟩ := hx k hk
  refine ⟨y, e1, ((own_ints e2).1.rl).more fun j _ hj => ⟨(Go.Proofs.YtdjfdopgjlbloaaGreatDoor.own_lt e2 hj).1, e3 j hj⟩⟩
theorem UL.snoc {w1 : World} {v' x : Value} {u : List Int} {xs : List Value} (hr : w.ownsRow B 23 1 v us.length xs) (hxs : ∀ k, k < us.length → ∃ x, xs[k]? = some x ∧ RL w (fun j => B ≤ j ∧ ¬ some j = v.ownBlock) x (gd us k))
    (hr1 : w1.ownsRow B 23 1 v' (us.length + 1) (xs ++ [x])) (hf : Fr (fun k => some k = v.ownBlock) w w1) (hv : v'.ownBlock = v.ownBlock ∨ v'.ownBlock = some w.heap.size) (hx : RL w (fun j => B ≤ j ∧ ¬ some j = v.ownBlock) x u) :
    UL w1 B v' (us ++ [u]) := by
  have hlen : xs.length = us.length := by have := hr.1; omega
  have K : ∀ {y : Value} {l : List Int}, RL w (fun j => B ≤ j ∧ ¬ some j = v.ownBlock) y l → RL w1 (fun j => B ≤ j ∧ ¬ some j = v'.ownBlock) y l := fun {y l} h =>
    (h.more (S' := fun j => B ≤ j ∧ ¬ some j = v.ownBlock ∧ ¬ some j = v'.ownBlock) fun j hj hS => ⟨hS.1, hS.2, fun e => by
      rcases hv with hv | hv
      · rw [hv] at e; exact hS.2 e
      · rw [hv] at e; have := Option.some.inj e; omega⟩).kept hf (fun j _ hS e => hS.2.1 e) |>.more fun j _ hS => ⟨hS.1, hS.2.2⟩
  refine ⟨xs ++ [x], by rw [List.length_append]; exact hr1, fun i hi => ?_⟩
  rw [List.length_append] at hi
  have hi1 : i < us.length + 1 := hi
  by_cases e : i < us.length
  · obtain ⟨y, ey, hR⟩ := hxs i e
    refine ⟨y, by rw [List.getElem?_append_left (by omega)]; exact ey, ?_⟩
    rw [show gd (us ++ [u]) i = gd us i from gd_app1 e]
    exact K hR
  · obtain rfl : i = us.length := by omega
    refine ⟨x, by rw [List.getElem?_append_right (by omega), hlen, Nat.sub_self]; rfl, ?_⟩
    rw [gd_snoc]
    exact K hx
theorem UL.rl (h : UL w B v us) : RL w (fun j => B ≤ j) v us := by
  obtain ⟨xs, hr, hx⟩ := h
  have hlen : xs.length = us.length := by have := hr.1; omega
  refine (RowE.rl (α := List Int) (S := fun j => B ≤ j) (.inr hr) fun i hi => ?_).more fun k _ hk => hk.elim id id
  obtain ⟨x, e, hR⟩ := hx i hi
  refine ⟨x, ?_, hR.more fun _ _ h => h.1⟩
  unfold nth
  rw [show i * Dat.sz (List Int) = i from Nat.mul_one i]
  have hi2 : i < xs.length := by omega
  rw [List.drop_eq_getElem_cons hi2, List.getElem?_eq_getElem hi2] at *
  have e2 := Option.some.inj e
  rw [e2]; rfl
end
/-- The first inner row is held apart: it may be appended to. -/
structure RX (w : World) (B g2 n cap : Nat) (ya : Option Addr) (l0 yc : Nat) (u : List Int) (us : List (List Int)) : Prop where
  out : ∃ xs : List Value, w.ownsRow B 23 1 (.slice (some ⟨g2, 0, none⟩) n cap) n xs ∧ xs[0]? = some (.slice ya l0 yc) ∧ ∀ i, i < us.length → i ≠ 0 → ∃ z, xs[i]? = some z ∧ RL w (fun j => B ≤ j ∧ ¬ j = g2 ∧ ¬ some j = (Value.slice ya l0 yc).ownBlock) z (gd us i)
  row : w.ownsRow B 3 1 (.slice ya l0 yc) l0 (ints u)
  ne : ∀ j, some j = (Value.slice ya l0 yc).ownBlock → ¬ j = g2
  hl : u.length = l0
  hu : u = gd us 0
  hn : n = us.length
  h0 : 0 < us.length
section
variable {w w' : World} {B g2 n cap : Nat} {ya : Option Addr} {l0 yc : Nat} {u : List Int} {us : List (List Int)} {T : Nat → Prop}
theorem RX.of {va : Option Addr} {vc : Nat} (h : OO w B (.slice va n vc) us) (hn : n = us.length) (h0 : 0 < n) : ∃ (g2 : Nat) (ya : Option Addr) (l0 yc : Nat) (u : List Int), va = some ⟨g2, 0, none⟩ ∧ RX w B g2 n vc ya l0 yc u us ∧ B ≤ g2 ∧ g2 < w.heap.size := by
  obtain ⟨xs, hr, hx⟩ := oo_rows h
  rw [← hn] at hr
  obtain ⟨a, cap, he, ha⟩ := own_form hr
  obtain ⟨g2, e2⟩ := ha 0 h0
  simp only [Value.slice.injEq] at he
  obtain ⟨e1, _, e3⟩ := he
  subst e2 e1 e3
  obtain ⟨y, y1, y2, y3, y4⟩ := hx 0 (by omega)
  obtain ⟨ya, yc, rfl, _⟩ := own_form y2
  have hlt := own_lt hr (k := g2) rfl
  refine ⟨g2, ya, _, yc, gd us 0, rfl, ⟨⟨xs, hr, y1, fun i hi hne => ?_⟩, y2, fun j hj e => y3 j hj (by rw [e]; rfl), rfl, rfl, hn, by omega⟩, hlt.1, hlt.2⟩
  obtain ⟨z, z1, z2, z3, z4⟩ := hx i hi
  exact ⟨z, z1, (own_ints z2).1.rl.more fun j _ hj => ⟨(own_lt z2 hj).1, fun e => z3 j hj (by rw [e]; rfl), fun e => z4 0 (by omega) (fun e => hne e.symm) _ y1 j hj e⟩⟩
theorem RX.kept (h : RX w B g2 n cap ya l0 yc u us) (hf : Fr T w w') (hT : ∀ j, B ≤ j → ¬ T j) : RX w' B g2 n cap ya l0 yc u us := by
  obtain ⟨⟨xs, h1, h2, h3⟩, h4, h5, h6, hu, h7, h8⟩ := h
  refine ⟨⟨xs, own_kept h1 hf (fun k hk => hT k (own_lt h1 hk).1), h2, fun i hi hne => ?_⟩, own_kept h4 hf (fun k hk => hT k (own_lt h4 hk).1), h5, h6, hu, h7, h8⟩
  obtain ⟨z, z1, z2⟩ := h3 i hi hne
  exact ⟨z, z1, z2.kept hf fun j _ hj => hT j hj.1⟩
theorem RX.keep (h : RX w B g2 n cap ya l0 yc u us) (hb : Below w.heap.size w w') : RX w' B g2 n cap ya l0 yc u us := h.kept (Below.fr hb) fun _ _ h => h
theorem RX.cell (h : RX w B g2 n cap ya l0 yc u us) : w.cell? ⟨g2, 0, none⟩ = some (.slice ya l0 yc) ∧ w.frozen? ⟨g2, 0, none⟩ = false := by
  obtain ⟨⟨xs, h1, h2, h3⟩, h4, h5, h6, hu, h7, h8⟩ := h
  exact ⟨by rw [h1.cellAt 0 (by omega)]; exact h2, h1.frozenAt 0⟩
theorem RX.fin {v' : Value} {x : Int} (h : RX w B g2 n cap ya l0 yc u us) (hg : B ≤ g2 ∧ g2 < w.heap.size) (hr : w'.ownsRow B 3 1 v' (l0 + 1) (ints u ++ [.int .i64 x])) (hf : Fr (fun k => some k = (Value.slice ya l0 yc).ownBlock) w w')
    (hv : v'.ownBlock = (Value.slice ya l0 yc).ownBlock ∨ v'.ownBlock = some w.heap.size) :
    UL (w'.setCell ⟨g2, 0, none⟩ v') B (.slice (some ⟨g2, 0, none⟩) n cap) (us.set 0 (u ++ [x])) ∧ w'.cell? ⟨g2, 0, none⟩ = some (.slice ya l0 yc) ∧ w'.frozen? ⟨g2, 0, none⟩ = false := by
  have hc := h.cell
  obtain ⟨⟨xs, h1, h2, h3⟩, h4, h5, h6, hu, h7, h8⟩ := h
  have hr1 := own_kept h1 hf (fun k hk e => h5 k e (Option.some.inj hk))
  have e1 : ints u ++ [.int .i64 x] = ints (u ++ [x]) := by simp [ints]
  rw [e1] at hr
  have hlen : (u ++ [x]).length = l0 + 1 := by simp [h6]
  rw [← hlen] at hr
  refine ⟨ul_set hr1 h7 h8 (fun i hi hne => ?_) ?_, ?_, ?_⟩
  · obtain ⟨z, z1, z2⟩ := h3 i hi hne
    exact ⟨z, z1, (z2.kept hf fun j _ hj e => hj.2.2 e).more fun j _ hj => ⟨hj.1, hj.2.1⟩⟩
  · refine (own_ints hr).1.rl.more fun j _ hj => ⟨(own_lt hr hj).1, fun e => ?_⟩
    rcases hv with h | h
    · rw [h] at hj; exact h5 j hj e
    · rw [h] at hj; have := Option.some.inj hj; omega
  · exact hf.cell (fun e => h5 g2 e rfl) hc.1
  · rw [hr1.frozenAt 0]
end
end Go.Proofs.YtdjfdopgjlbloaaGreatDoor
