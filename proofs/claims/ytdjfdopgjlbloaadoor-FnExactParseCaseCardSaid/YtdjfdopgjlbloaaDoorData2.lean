/- Data2: texts Mk, Lx1, Lx2, ExKit in one. -/
import Derived.Test.YtdjfdopgjlbloaaDoorData1
/- How the laws measure and mark data, in plain Lean; the helpers for lists of numbers, facts and atoms in one form. -/
namespace Go.Proofs.YtdjfdopgjlbloaaDoor
open Go.RowKit

class Mk (α : Type) where
  size : α → Nat
  cnt : α → Nat
  mark : Int → α → α
  le : ∀ a, cnt a ≤ 3 * size a
def mkL {α : Type} [Mk α] (k : Int) : List α → List α
  | [] => []
  | x :: r => Mk.mark k x :: mkL (k + Mk.cnt x) r
theorem sum_le3 {α : Type} [Mk α] : ∀ l : List α, (l.map (Mk.cnt (α := α))).sum ≤ 3 * (l.map (Mk.size (α := α))).sum
  | [] => by simp
  | x :: r => by
    have h1 := Mk.le x
    have h2 := sum_le3 r
    simp only [List.map_cons, List.sum_cons]
    omega
instance : Mk (List Int) := ⟨fun l => l.length, fun l => l.length, fun k l => mks k l.length, fun l => by show l.length ≤ 3 * l.length; omega⟩
instance : Mk (List Fact) := ⟨fun l => l.length, fun l => 3 * l.length, fun k l => mkFacts k l.length, fun _ => Nat.le_refl _⟩
instance : Mk (List Atom) := ⟨fun l => l.length, fun l => 3 * l.length, fun k l => mkAtoms k l.length, fun _ => Nat.le_refl _⟩
instance {α β : Type} [Mk α] [Mk β] : Mk (α × β) :=
  ⟨fun p => Mk.size p.1 + Mk.size p.2, fun p => Mk.cnt p.1 + Mk.cnt p.2, fun k p => (Mk.mark k p.1, Mk.mark (k + Mk.cnt p.1) p.2), fun p => by
    have := Mk.le p.1
    have := Mk.le p.2
    show Mk.cnt p.1 + Mk.cnt p.2 ≤ 3 * (Mk.size p.1 + Mk.size p.2)
    omega⟩
instance {α : Type} [Mk α] : Mk (List α) :=
  ⟨fun l => l.length + (l.map Mk.size).sum, fun l => (l.map Mk.cnt).sum, mkL, fun l => by
    have := sum_le3 l
    show (l.map Mk.cnt).sum ≤ 3 * (l.length + (l.map Mk.size).sum)
    omega⟩

/-- What is left of a measure. -/
def szF (left : Int) (s : Nat) : Int := if (s : Int) ≤ left then left - s else -1
theorem szF_fit {left : Int} {s : Nat} (h : (s : Int) ≤ left) : szF left s = left - s := if_pos h
theorem szF_big {left : Int} {s : Nat} (h : left < (s : Int)) : szF left s = -1 := if_neg (by omega)

def psum {α : Type} (f : α → Nat) (l : List α) (k : Nat) : Nat := ((l.take k).map f).sum
theorem psum_zero {α : Type} (f : α → Nat) (l : List α) : psum f l 0 = 0 := rfl
theorem psum_all {α : Type} {f : α → Nat} {l : List α} : psum f l l.length = (l.map f).sum := by rw [psum, List.take_length]
theorem psum_le {α : Type} {f : α → Nat} {l : List α} (k : Nat) : psum f l k ≤ (l.map f).sum := by
  unfold psum
  have e : (l.map f).sum = ((l.take k).map f).sum + ((l.drop k).map f).sum := by
    rw [← List.sum_append, ← List.map_append, List.take_append_drop]
  omega
section
variable {α : Type} [Inhabited α] {f : α → Nat} {l : List α} {k : Nat}
theorem psum_succ (h : k < l.length) : psum f l (k + 1) = psum f l k + f (gd l k) := by
  unfold psum
  rw [take_gd h, List.map_append, List.sum_append]
  simp
theorem psum_mem (h : k < l.length) : f (gd l k) ≤ (l.map f).sum := by
  have h1 := psum_succ (f := f) h
  have h2 := psum_le (f := f) (l := l) (k + 1)
  omega
theorem psum_cnt {β : Type} [Mk β] {l : List β} (k : Nat) : psum (Mk.cnt (α := β)) l k ≤ 3 * psum (Mk.size (α := β)) l k := sum_le3 _
end
/-- The first k elements are marked. -/
def mkTo {α : Type} [Inhabited α] [Mk α] (k0 : Int) (l : List α) (k : Nat) : List α := mkL k0 (l.take k) ++ l.drop k
theorem mkL_len {α : Type} [Mk α] : ∀ (k0 : Int) (l : List α), (mkL k0 l).length = l.length
  | _, [] => rfl
  | k0, x :: r => by rw [mkL, List.length_cons, mkL_len, List.length_cons]
theorem mkL_app {α : Type} [Mk α] : ∀ (k0 : Int) (l m : List α), mkL k0 (l ++ m) = mkL k0 l ++ mkL (k0 + ((l.map Mk.cnt).sum : Nat)) m
  | k0, [], m => by simp [mkL]
  | k0, x :: r, m => by
    rw [List.cons_append, mkL, mkL_app, mkL, List.cons_append, List.map_cons, List.sum_cons]
    congr 3
    omega
section
variable {α : Type} [Inhabited α] [Mk α] {k0 : Int} {l : List α} {k : Nat}
theorem mkTo_zero : mkTo k0 l 0 = l := rfl
theorem mkTo_all : mkTo k0 l l.length = mkL k0 l := by rw [mkTo, List.take_length, List.drop_length, List.append_nil]
theorem mkTo_len : (mkTo k0 l k).length = l.length := by
  rw [mkTo, List.length_append, mkL_len, List.length_take, List.length_drop]; omega
theorem mkTo_gd (h : k < l.length) : gd (mkTo k0 l k) k = gd l k := by
  have hl : (mkL k0 (l.take k)).length = k := by rw [mkL_len, List.length_take]; omega
  rw [mkTo, gd_app2 (by omega), hl, Nat.sub_self]
  rw [List.drop_eq_getElem_cons h, gd_cons0, gd_of h]
theorem mkTo_set (h : k < l.length) : (mkTo k0 l k).set k (Mk.mark (k0 + (psum Mk.cnt l k : Nat)) (gd l k)) = mkTo k0 l (k + 1) := by
  have hl : (mkL k0 (l.take k)).length = k := by rw [mkL_len, List.length_take]; omega
  rw [mkTo, mkTo, take_gd h, mkL_app, List.set_append_right _ _ (by omega), hl, Nat.sub_self, List.append_assoc]
  congr 1
  rw [List.drop_eq_getElem_cons h, List.set_cons_zero]
  rfl
/-- The i-th of a marked list. -/
theorem gd_mkL (h : k < l.length) : gd (mkL k0 l) k = Mk.mark (k0 + (psum Mk.cnt l k : Nat)) (gd l k) := by
  have e : l = l.take k ++ gd l k :: l.drop (k + 1) := by
    rw [gd_of h, ← List.drop_eq_getElem_cons h, List.take_append_drop]
  have hl : (mkL k0 (l.take k)).length = k := by rw [mkL_len, List.length_take]; omega
  conv => lhs; rw [e]
  rw [mkL_app, gd_app2 (by omega), hl, Nat.sub_self, mkL, gd_cons0]
  rfl
end

theorem szIntS_rl {S : Nat → Prop} (v : Value) (l : List Int) (left : Int) (w : World) (h : RL w S v l) (h0 : 0 ≤ left) (h1 : left ≤ 1048576) :
    Calls Tryd.prog 14 #[v, .int .i64 left] w fun e w' => e = .returned (.int .i64 (szF left (Mk.size l))) ∧ Below w.heap.size w w' := by
  have hm := h.len
  obtain ⟨a, c, rfl⟩ := h.form
  by_cases hf : (l.length : Int) ≤ left
  · refine (szIntS_fit a l.length c left w h1 hf).mono ?_
    rintro e w' ⟨rfl, rfl⟩
    exact ⟨by rw [show Mk.size l = l.length from rfl, szF_fit hf], Below.refl _ _⟩
  · refine (szIntS_big a l.length c left w h0 (by omega) hm).mono ?_
    rintro e w' ⟨rfl, rfl⟩
    exact ⟨by rw [show Mk.size l = l.length from rfl, szF_big (by omega)], Below.refl _ _⟩
theorem own_cInt (w : World) (B : Nat) (x : Int) : Own.own w B x [.int .i64 x] [] := ⟨rfl, rfl⟩
theorem fp_int {w : World} {B : Nat} {a : Int} {cs : List Value} {fp : List Nat} (h : Own.own w B a cs fp) : fp = [] := h.2
theorem nth_ints {l : List Int} {i : Nat} (h : i < l.length) : nth 1 (ints l) i = [.int .i64 (gd l i)] := by
  have hl : (ints l).length = l.length := by simp
  unfold nth
  rw [Nat.mul_one, List.drop_eq_getElem_cons (by omega)]
  simp [ints, gd_of h]
theorem ints_OL {w : World} {B : Nat} {v : Value} {l : List Int} (h : w.ownsRow B 3 1 v l.length (ints l)) : OL w B v l v.ownBlock.toList :=
  flat_OL (c := fun x => [.int .i64 x]) own_cInt h fun _ hi => nth_ints hi
theorem OL.ints {w : World} {B : Nat} {v : Value} {l : List Int} {fp : List Nat} (h : OL w B v l fp) : w.ownsRow B 3 1 v l.length (ints l) ∧ fp = v.ownBlock.toList := by
  have hfp := (h.row fp_int).2
  refine ⟨?_, hfp⟩
  obtain ⟨xs, fps, hr, hl, _, ho⟩ := h
  have : xs = Go.Proofs.YtdjfdopgjlbloaaDoor.ints l := by
    have h1 : xs.length = l.length := by rw [hr.1]; exact Nat.mul_one _
    refine List.ext_getElem (by rw [h1]; simp) fun i h2 h3 => ?_
    have h0 : nth 1 xs i = [.int .i64 (gd l i)] := (ho i (by omega)).1
    have h4 := nth_at (sz := 1) (i := i) (j := 0) (xs := xs) (u := .int .i64 (gd l i)) (by rw [h0]; rfl)
    rw [Nat.mul_one, Nat.add_zero, List.getElem?_eq_getElem h2] at h4
    injection h4 with h4
    rw [h4]
    simp [gd_of (show i < l.length by omega)]
  rw [this] at hr
  exact hr
theorem nodup_own (v : Value) : v.ownBlock.toList.Nodup := by cases v.ownBlock <;> simp
theorem toIntS_rl {S : Nat → Prop} (v : Value) (l : List Int) (w : World) (h : RL w S v l) (hl : Mk.size l ≤ 1048576) :
    Calls Tryd.prog 18 #[v] w fun e w' => ∃ v', e = .returned v' ∧ OO w' w.heap.size v' l ∧ Below w.heap.size w w' :=
  (toIntS_any v l w h.ints hl).mono fun _ _ ⟨v', he, ho, hb⟩ => ⟨v', he, ⟨_, ints_OL ho, nodup_own v'⟩, hb⟩
theorem eqIntS_rl {S1 S2 : Nat → Prop} (v1 v2 : Value) (l1 l2 : List Int) (w : World) (h1 : RL w S1 v1 l1) (h2 : RL w S2 v2 l2) :
    Calls Tryd.prog 24 #[v1, v2] w fun e w' => e = .returned (.bool (decide (l1 = l2))) ∧ Below w.heap.size w w' := eqIntS_any v1 v2 l1 l2 w h1.ints h2.ints
theorem markIntS_rl (B : Nat) (v : Value) (l : List Int) (fp : List Nat) (k0 : Int) (w : World) (h : OL w B v l fp) (_hn : fp.Nodup) (h0 : 0 ≤ k0) (h1 : k0 + 3 * Mk.size l ≤ 1099511627776) (hl : Mk.size l ≤ 1048576) :
    Calls Tryd.prog 31 #[v, .int .i64 k0] w fun e w' => e = .returned (.int .i64 (k0 + Mk.cnt l)) ∧ OL w' B v (Mk.mark k0 l) fp ∧ Fr (fun k => k ∈ fp) w w' := by
  obtain ⟨hr, rfl⟩ := h.ints
  refine (markIntS_any B v l k0 w hr h0 (by omega) (Nat.le_trans (show l.length ≤ 1048576 from hl) (by decide))).mono ?_
  rintro e w' ⟨rfl, ho, hf⟩
  refine ⟨rfl, ints_OL (l := mks k0 l.length) (by rw [mks_len]; exact ho), hf.mono fun k _ hk => mem_ownBlock.2 hk⟩
theorem heldIntS_rl {S : Nat → Prop} (v : Value) (l : List Int) (k0 : Int) (w : World) (h : RL w S v (Mk.mark k0 l)) (h0 : 0 ≤ k0) (h1 : k0 + 3 * Mk.size l ≤ 1099511627776) (hl : Mk.size l ≤ 1048576) :
    Calls Tryd.prog 33 #[v, .int .i64 k0] w fun e w' => e = .returned (.int .i64 (k0 + Mk.cnt l)) ∧ Below w.heap.size w w' :=
  (heldIntS_any v l.length k0 w h.ints h0 (by omega) (by have : l.length ≤ 1048576 := hl; omega)).mono fun _ _ ⟨he, hw⟩ => ⟨he, hw ▸ Below.refl _ _⟩
end Go.Proofs.YtdjfdopgjlbloaaDoor
/- Walks: the helpers of the laws for structs of two lists. -/
namespace Go.Proofs.YtdjfdopgjlbloaaDoor
open Go.RowKit

theorem OL.setB {α : Type} [Own α] [Tid α] {w : World} {B : Nat} {v : Value} {l : List α} {fp : List Nat} {p : Addr} {u : Value} (h : OL w B v l fp) (hp : p.block < B) : OL (w.setCell p u) B v l fp :=
  h.okept (fr_set _ _ _) fun k hk e => by have := (h.lt k hk).1; omega

theorem RL.ext {α : Type} [Dat α] {w : World} {S : Nat → Prop} {v : Value} {l : List α} (h : RL w S v l) (x : Ext w) : RL (ext w x) S v l := h.keep x.below
theorem RL.cpfAt {w : World} {S : Nat → Prop} {v : Value} {l : List CPf} (h : RL w S v l) : ∃ a cap, v = .slice a l.length cap ∧ l.length ≤ cap ∧ cap ≤ maxLen ∧
    ∀ i, i < l.length → ∃ b o v1 v2, a = some ⟨b, o, none⟩ ∧ S b ∧ b < w.heap.size ∧ w.cell? ⟨b, o + i * 2, none⟩ = some v1 ∧ w.cell? ⟨b, o + i * 2 + 1, none⟩ = some v2 ∧ RL w S v1 (gd l i).1 ∧ RL w S v2 (gd l i).2 := by
  obtain ⟨a, cap, e, h1, h2, h3⟩ := h.cells
  refine ⟨a, cap, e, h1, h2, fun i hi => ?_⟩
  obtain ⟨b, o, ea, hs, hb, cs, hr, hc⟩ := h3 i hi
  obtain ⟨v1, v2, rfl, r1, r2⟩ := rd_cpf hr
  exact ⟨b, o, v1, v2, ea, hs, hb, hc 0 _ rfl, hc 1 _ rfl, r1, r2⟩

end Go.Proofs.YtdjfdopgjlbloaaDoor
/- Walks: the helpers of the laws for lists of assertions and lists of lists of numbers. -/
namespace Go.Proofs.YtdjfdopgjlbloaaDoor
open Go.RowKit

set_option maxHeartbeats 1600000 in
theorem szIntSS_rl {S : Nat → Prop} (v : Value) (l : List (List Int)) (left : Int) (w : World) (h : RL w S v l) (h0 : 0 ≤ left) (h1 : left ≤ 1048576) :
    Calls Tryd.prog 15 #[v, .int .i64 left] w fun e w' => e = .returned (.int .i64 (szF left (Mk.size l))) ∧ Below w.heap.size w w' := by
  have hm := h.len
  unfold maxLen at hm
  obtain ⟨a, c, rfl, _, _, hf⟩ := h.listAt
  have F1 := Lib.hid hf
  have hsz : Mk.size l = l.length + (l.map Mk.size).sum := rfl
  clear hf h
  by_cases hl : (l.length : Int) ≤ left
  rotate_left
  · have hfin : szF left (Mk.size l) = -1 := szF_big (by rw [hsz]; omega)
    have HF := Lib.hid hfin
    clear hfin hsz
    go_enter Tryd.func15, Tryd.ntmps15
    go_wp2
    go_ret
    exact ⟨by rw [HF.out]; rfl, Below.refl _ _⟩
  go_enter Tryd.func15, Tryd.ntmps15
  go_wp2
  go_loopg [1, 5] l.length (fun q x i wr => ∃ k : Nat, k + q = l.length ∧ i = .int .i64 k ∧ x = .int .i64 (left - l.length - (psum Mk.size l k : Nat)) ∧ ((psum Mk.size l k : Nat) : Int) ≤ left - l.length ∧ Below w.heap.size w wr)
  case atStart => exact ⟨0, by omega, rfl, by simp [psum_zero], by rw [psum_zero]; omega, Below.refl _ _⟩
  case round =>
    obtain ⟨k, hk, rfl, rfl, hp0, hb⟩ := hrel
    have HK := Lib.hid hk
    clear hk
    by_cases hk8 : k < l.length
    · obtain ⟨b1, o1, u1, rfl, _, hbl1, hp1, r1⟩ := F1.out k hk8
      obtain ⟨ua1, uc1, rfl⟩ := r1.form
      replace hp1 := cell_keep hb hp1
      have hs := hb.size
      have i1 : (k : Int) < (l.length : Int) := by omega
      have hzb : b1 < wr.heap.size := by omega
      have hps := psum_succ (f := Mk.size) hk8
      have hle := psum_le (f := Mk.size) (l := l) (k + 1)
      by_cases hfit : ((Mk.size (gd l k) : Nat) : Int) ≤ left - l.length - (psum Mk.size l k : Nat)
      rotate_left
      · have hfin : szF left (Mk.size l) = -1 := szF_big (by rw [hsz]; omega)
        have HF := Lib.hid (And.intro hfin (szF_big (left := left - l.length - (psum Mk.size l k : Nat)) (s := Mk.size (gd l k)) (by omega)))
        clear hfin hsz hps hle hfit
        go_wp2_with fail
        refine (szIntS_rl _ (gd l k) _ _ (r1.keep hb) (by omega) (by omega)).mono ?_
        rw [HF.out.2]
        rintro e w2 ⟨rfl, hb2⟩
        go_wp2
        go_ret
        exact ⟨by rw [HF.out.1]; rfl, bt hb hb2⟩
      · have HF := Lib.hid (And.intro (szF_fit hfit) hps)
        have hnn : ¬ left - (l.length : Int) - ((psum Mk.size l k : Nat) : Int) - ((Mk.size (gd l k) : Nat) : Int) < 0 := by omega
        clear hps hle
        go_wp2_with fail
        refine (szIntS_rl _ (gd l k) _ _ (r1.keep hb) (by omega) (by omega)).mono ?_
        rw [HF.out.1]
        rintro e w2 ⟨rfl, hb2⟩
        go_wp2
        go_roundg (gk - 1)
        case rel => exact ⟨k + 1, by have := HK.out; omega, by go_num, by rw [HF.out.2, show left - (l.length : Int) - ((psum Mk.size l k + Mk.size (gd l k) : Nat) : Int) = left - l.length - (psum Mk.size l k : Nat) - (Mk.size (gd l k) : Nat) by omega], by rw [HF.out.2]; omega, bt hb hb2⟩
        case measure => have := HK.out; omega
    · obtain rfl : k = l.length := by have := HK.out; omega
      have hall := psum_all (f := Mk.size) (l := l)
      have hfin : szF left (Mk.size l) = left - l.length - (psum Mk.size l l.length : Nat) := by rw [szF_fit (by rw [hsz, ← hall]; omega), hsz, ← hall]; omega
      have HF := Lib.hid hfin
      clear hfin hsz hall
      go_wp2
      go_ret
      exact ⟨by rw [HF.out]; rfl, hb⟩
set_option maxHeartbeats 1600000 in
theorem eqIntSS_rl {S1 S2 : Nat → Prop} (v1 v2 : Value) (l1 l2 : List (List Int)) (w : World) (h1 : RL w S1 v1 l1) (h2 : RL w S2 v2 l2) :
    Calls Tryd.prog 25 #[v1, v2] w fun e w' => e = .returned (.bool (decide (l1 = l2))) ∧ Below w.heap.size w w' := by
  have hm1 := h1.len
  have hm2 := h2.len
  unfold maxLen at hm1 hm2
  obtain ⟨a1, c1, rfl, _, _, hf1⟩ := h1.listAt
  obtain ⟨a2, c2, rfl, _, _, hf2⟩ := h2.listAt
  by_cases hl : l1.length = l2.length
  rotate_left
  · have hne : ((l1.length : Int) != (l2.length : Int)) = true := by simp; omega
    have hfin : decide (l1 = l2) = false := by simpa using fun h => hl (by rw [h])
    have HF := Lib.hid hfin
    clear hl hfin hf1 hf2
    go_enter Tryd.func25, Tryd.ntmps25
    go_wp2
    go_ret
    exact ⟨by rw [HF.out]; rfl, Below.refl _ _⟩
  have HL := Lib.hid hl
  have F1 := Lib.hid hf1
  have F2 := Lib.hid hf2
  have hne : ((l1.length : Int) != (l2.length : Int)) = false := by simp [hl]
  have hle : l1.length ≤ l2.length := by omega
  clear hl hf1 hf2 h1 h2
  go_enter Tryd.func25, Tryd.ntmps25
  go_wp2
  go_loopg [5] l1.length (fun q i wr => ∃ k : Nat, k + q = l1.length ∧ i = .int .i64 k ∧ l1.take k = l2.take k ∧ Below w.heap.size w wr)
  case atStart => exact ⟨0, by omega, rfl, by simp, Below.refl _ _⟩
  case round =>
    obtain ⟨k, hk, rfl, ht, hb⟩ := hrel
    have HK := Lib.hid hk
    have HT := Lib.hid ht
    clear hk ht
    by_cases hk8 : k < l1.length
    · have hk2 : k < l2.length := by omega
      obtain ⟨b1, o1, u1, rfl, _, hbl1, hp1, r1⟩ := F1.out k hk8
      obtain ⟨b2, o2, z1, rfl, _, hbl2, hq1, s1⟩ := F2.out k hk2
      replace hp1 := cell_keep hb hp1; replace hq1 := cell_keep hb hq1
      have hs := hb.size
      have g1 : b1 < wr.heap.size := by omega
      have g2 : b2 < wr.heap.size := by omega
      have i1 : (k : Int) < (l1.length : Int) := by omega
      have i2 : (k : Int) < (l2.length : Int) := by omega
      by_cases he : gd l1 k = gd l2 k
      · have hd : decide (gd l1 k = gd l2 k) = true := by simpa using he
        have HE := Lib.hid (And.intro he hd)
        clear he hd
        go_wp2
        refine wp_region_ext (by kernel_rfl) (by kernel_rfl) ?_
        repeat (go_big_quiet_step ((go_at_call 24; exact ext_c (cb (eqIntS_rl _ _ (gd l1 k) (gd l2 k) _ ((r1.keep hb).ext _) ((s1.keep hb).ext _)) HE.out.2))))
        refine wpQuiet_nil ?_
        intro w2 hb2
        go_wp2
        go_roundg (gk - 1)
        case rel => exact ⟨k + 1, by have := HK.out; omega, by go_num, gd_take_succ hk8 hk2 HT.out HE.out.1, hb.trans (hb2.mono hs)⟩
        case measure => have := HK.out; omega
      · have hd : decide (gd l1 k = gd l2 k) = false := by simpa using he
        have hfin : decide (l1 = l2) = false := by simpa using ne_of_gd he
        have HF := Lib.hid (And.intro hfin hd)
        clear he hfin hd
        go_wp2
        refine wp_region_ext (by kernel_rfl) (by kernel_rfl) ?_
        repeat (go_big_quiet_step ((go_at_call 24; exact ext_c (cb (eqIntS_rl _ _ (gd l1 k) (gd l2 k) _ ((r1.keep hb).ext _) ((s1.keep hb).ext _)) HF.out.2))))
        refine wpQuiet_nil ?_
        intro w2 hb2
        go_wp2
        go_ret
        exact ⟨by rw [HF.out.1]; rfl, hb.trans (hb2.mono hs)⟩
    · obtain rfl : k = l1.length := by have := HK.out; omega
      have hfin : decide (l1 = l2) = true := by
        have := HT.out
        rw [List.take_length, HL.out, List.take_length] at this
        simpa using this
      have HF := Lib.hid hfin
      clear hfin HT
      go_wp2
      go_ret
      exact ⟨by rw [HF.out]; rfl, hb⟩
theorem info_IntSS : (Tryd.prog.info? 22).map (fun i => (i.zero, i.size, i.bytes)) = some (some (.slice none 0 0), 1, 24) := by kernel_rfl
set_option maxHeartbeats 1600000 in
theorem toIntSS_rl {S : Nat → Prop} (v : Value) (l : List (List Int)) (w : World) (h : RL w S v l) (hl : Mk.size l ≤ 1048576) :
    Calls Tryd.prog 19 #[v] w fun e w' => ∃ v', e = .returned v' ∧ OO w' w.heap.size v' l ∧ Below w.heap.size w w' := by
  have hsz : Mk.size l = l.length + (l.map Mk.size).sum := rfl
  have hln : l.length ≤ 1048576 := by omega
  have HSZ := Lib.hid hsz
  obtain ⟨a1, c1, rfl, _, _, hf1⟩ := h.listAt
  have F1 := Lib.hid hf1
  clear hf1 h hsz
  obtain ⟨i0, hi, hz0, hz1, hz2⟩ := info_parts info_IntSS
  go_enter Tryd.func19, Tryd.ntmps19
  go_wp2_with (at_make; refine wpList_make_full _ rfl _ _ 23 rfl w.heap.size 22 i0 (.slice none 0 0) 1 Tryd.underlying23 hi hz0 hz1 _ _ _ _ l.length rfl rfl rfl rfl (by rw [hz2]; omega) (by unfold maxLen; omega) (Nat.le_refl _) ?_; intro w1 hown hgr)
  have hb1 := (grown_fr hgr).below (B := w.heap.size) (Nat.le_refl _) (by intro k _ e; cases e)
  have hP := PL.zero (α := List Int) hown l
  clear hown hi hz0 hz1 hz2 hgr
  go_loopg [4] l.length (fun q i wr => ∃ k : Nat, k + q = l.length ∧ i = .int .i64 k ∧ PL wr w.heap.size (.slice (some ⟨w.heap.size, 0, none⟩) l.length l.length) l.length l k ∧ Below w.heap.size w wr)
  case atStart => exact ⟨0, by omega, rfl, hP, hb1⟩
  case round =>
    clear hb1 hP
    obtain ⟨k, hk, rfl, hP, hb⟩ := hrel
    have HK := Lib.hid hk
    clear hk
    by_cases hk8 : k < l.length
    · obtain ⟨b1, o1, u1, rfl, _, hbl1, hp1, r1⟩ := F1.out k hk8
      obtain ⟨ua1, uc1, rfl⟩ := r1.form
      replace hp1 := cell_keep hb hp1
      have hki : (k : Int) < (l.length : Int) := by omega
      have hs := hb.size
      have hzb : b1 < wr.heap.size := by omega
      have hse : Mk.size (gd l k) ≤ 1048576 := by have := psum_mem (f := Mk.size) hk8; have := HSZ.out; omega
      have HP := Lib.hid hP
      clear hP
      go_wp2_with fail
      refine (toIntS_rl _ (gd l k) _ (r1.keep hb) hse).mono ?_
      rintro e w2 ⟨z1, rfl, ⟨f1, ho1, hn2⟩, hb2⟩
      obtain ⟨za1, zc1, rfl⟩ := ho1.read.form
      have ho : Own.own w2 wr.heap.size (gd l k) [.slice za1 (gd l k).length zc1] f1 := ⟨_, rfl, ho1⟩
      clear ho1
      have hfz : ∀ i, w2.frozen? ⟨w.heap.size, i, none⟩ = false := fun i => (HP.out.keep hb2).row.elim fun _ hr => hr.frozenAt i
      obtain ⟨y1, hy1⟩ : ∃ u, w2.cell? ⟨w.heap.size, k, none⟩ = some u := (HP.out.keep hb2).row.elim fun _ hr => row_cell hr (show k < l.length * 1 by omega)
      have hbb := bt hb hb2
      have hP2 := PL.set1 (α := List Int) rfl HP.out hk8 hb2 ho hn2
      have HP2 := Lib.hid hP2
      clear hP2 ho hn2
      go_wp2
      go_roundg (gk - 1)
      case rel => exact ⟨k + 1, by have := HK.out; omega, by go_num, HP2.out, Bl⟩
      case measure => have := HK.out; omega
    · obtain rfl : k = l.length := by have := HK.out; omega
      go_wp2
      go_ret
      exact ⟨_, rfl, hP.done, hb⟩
set_option maxHeartbeats 1600000 in
theorem markIntSS_rl (B : Nat) (v : Value) (l : List (List Int)) (fp : List Nat) (k0 : Int) (w : World) (h : OL w B v l fp) (hn : fp.Nodup) (h0 : 0 ≤ k0) (h1 : k0 + 3 * Mk.size l ≤ 1099511627776) (hl : Mk.size l ≤ 1048576) :
    Calls Tryd.prog 32 #[v, .int .i64 k0] w fun e w' => e = .returned (.int .i64 (k0 + Mk.cnt l)) ∧ OL w' B v (Mk.mark k0 l) fp ∧ Fr (fun k => k ∈ fp) w w' := by
  have hsz : Mk.size l = l.length + (l.map Mk.size).sum := rfl
  have hct : Mk.cnt l = (l.map Mk.cnt).sum := rfl
  obtain ⟨a, c, rfl⟩ := h.read.form
  have HS := Lib.hid (And.intro hsz hct)
  have HN0 := Lib.hid hn
  have hln : l.length ≤ 1048576 := by omega
  clear hct hn
  go_enter Tryd.func32, Tryd.ntmps32
  go_wp2
  go_loopg [1, 5] l.length (fun q x i wr => ∃ k : Nat, k + q = l.length ∧ i = .int .i64 k ∧ x = .int .i64 (k0 + (psum Mk.cnt l k : Nat)) ∧ OL wr B (.slice a l.length c) (mkTo k0 l k) fp ∧ Fr (fun k => k ∈ fp) w wr)
  case atStart => exact ⟨0, by omega, rfl, by simp [psum_zero], h, Fr.refl _ _⟩
  case round =>
    obtain ⟨k, hk, rfl, rfl, ho, hf⟩ := hrel
    have HK := Lib.hid hk
    have HF := Lib.hid hf
    clear hk hf
    by_cases hk8 : k < l.length
    · have hps := psum_succ (f := Mk.cnt) hk8
      have hpz := psum_le (f := Mk.size) (l := l) (k + 1)
      have hpy := psum_succ (f := Mk.size) hk8
      have hcl := psum_cnt (l := l) k
      obtain ⟨cs, f, g, cap', hv, hgl, hgf, hown, hnf, hsub, hcell, hback⟩ := ho.open HN0.out (k := k) (by rw [mkTo_len]; exact hk8)
      rw [mkTo_gd hk8] at hown
      obtain ⟨z1, rfl, ho1⟩ := hown
      simp only [Value.slice.injEq] at hv
      obtain ⟨rfl, hx0, rfl⟩ := hv
      clear hx0
      obtain ⟨za1, zc1, rfl⟩ := ho1.read.form
      have hki : (k : Int) < (l.length : Int) := by omega
      have HB := Lib.hid hback
      have HC := Lib.hid hps
      have HSUB := Lib.hid hsub
      have HNF := Lib.hid hnf
      have hp1 : wr.cell? ⟨g, k, none⟩ = some (.slice za1 (gd l k).length zc1) := by have := hcell 0 _ rfl; rwa [show Dat.sz (List Int) = 1 from rfl, Nat.mul_one, Nat.add_zero] at this
      have q0 : 0 ≤ k0 + ((psum Mk.cnt l k : Nat) : Int) := by omega
      have q1 : k0 + ((psum Mk.cnt l k : Nat) : Int) + 3 * ((Mk.size (gd l k) : Nat) : Int) ≤ 1099511627776 := by omega
      have q3 : Mk.size (gd l k) ≤ 1048576 := by omega
      clear hps hpz hpy hcl hback hcell ho hsub hnf
      go_wp2_with fail
      refine (markIntS_rl B _ (gd l k) f _ _ ho1 HNF.out q0 q1 q3).mono ?_
      rintro e w2 ⟨rfl, p1, hf1⟩
      have hnew := (HB.out w2 (Mk.mark (k0 + (psum Mk.cnt l k : Nat)) (gd l k)) hf1 ⟨_, rfl, p1⟩).1
      rw [mkTo_set hk8] at hnew
      have HO := Lib.hid (And.intro hnew (HF.out.trans (hf1.mono fun j _ hj => HSUB.out j hj)))
      clear hnew p1 hf1 hp1 ho1
      go_wp2
      go_roundg (gk - 1)
      case rel => exact ⟨k + 1, by have := HK.out; omega, by go_num, by rw [HC.out, show k0 + ((psum Mk.cnt l k + Mk.cnt (gd l k) : Nat) : Int) = k0 + (psum Mk.cnt l k : Nat) + (Mk.cnt (gd l k) : Nat) by omega], HO.out.1, HO.out.2⟩
      case measure => have := HK.out; omega
    · obtain rfl : k = l.length := by have := HK.out; omega
      have hall := psum_all (f := Mk.cnt) (l := l)
      have hmk : mkTo k0 l l.length = Mk.mark k0 l := mkTo_all
      rw [hmk] at ho
      have HA := Lib.hid hall
      clear hall hmk
      go_wp2
      go_ret
      exact ⟨by rw [HS.out.2, ← HA.out]; rfl, ho, HF.out⟩
set_option maxHeartbeats 1600000 in
theorem heldIntSS_rl {S : Nat → Prop} (v : Value) (l : List (List Int)) (k0 : Int) (w : World) (h : RL w S v (Mk.mark k0 l)) (h0 : 0 ≤ k0) (h1 : k0 + 3 * Mk.size l ≤ 1099511627776) (hl : Mk.size l ≤ 1048576) :
    Calls Tryd.prog 34 #[v, .int .i64 k0] w fun e w' => e = .returned (.int .i64 (k0 + Mk.cnt l)) ∧ Below w.heap.size w w' := by
  have hsz : Mk.size l = l.length + (l.map Mk.size).sum := rfl
  have hct : Mk.cnt l = (l.map Mk.cnt).sum := rfl
  have hmL : Mk.mark k0 l = mkL k0 l := rfl
  rw [hmL] at h
  obtain ⟨a, c, hvv, _, _, hf⟩ := h.listAt
  rw [mkL_len] at hf hvv
  subst hvv
  have F1 := Lib.hid hf
  have HS := Lib.hid (And.intro hsz hct)
  have hln : l.length ≤ 1048576 := by omega
  clear hct hf h hmL
  go_enter Tryd.func34, Tryd.ntmps34
  go_wp2
  go_loopg [1, 5] l.length (fun q x i wr => ∃ k : Nat, k + q = l.length ∧ i = .int .i64 k ∧ x = .int .i64 (k0 + (psum Mk.cnt l k : Nat)) ∧ Below w.heap.size w wr)
  case atStart => exact ⟨0, by omega, rfl, by simp [psum_zero], Below.refl _ _⟩
  case round =>
    obtain ⟨k, hk, rfl, rfl, hb⟩ := hrel
    have HK := Lib.hid hk
    clear hk
    by_cases hk8 : k < l.length
    · have hps := psum_succ (f := Mk.cnt) hk8
      have hpz := psum_le (f := Mk.size) (l := l) (k + 1)
      have hpy := psum_succ (f := Mk.size) hk8
      have hcl := psum_cnt (l := l) k
      obtain ⟨b1, o1, u1, rfl, _, hbl1, hp1, r1⟩ := F1.out k hk8
      rw [gd_mkL hk8] at r1
      obtain ⟨ua1, uc1, rfl⟩ := r1.form
      replace hp1 := cell_keep hb hp1
      have hs := hb.size
      have hki : (k : Int) < (l.length : Int) := by omega
      have hzb : b1 < wr.heap.size := by omega
      have HC := Lib.hid hps
      have q0 : 0 ≤ k0 + ((psum Mk.cnt l k : Nat) : Int) := by omega
      have q1 : k0 + ((psum Mk.cnt l k : Nat) : Int) + 3 * ((Mk.size (gd l k) : Nat) : Int) ≤ 1099511627776 := by omega
      have q3 : Mk.size (gd l k) ≤ 1048576 := by omega
      have q6 : ¬ k0 + ((psum Mk.cnt l k : Nat) : Int) + ((Mk.cnt (gd l k) : Nat) : Int) < 0 := by omega
      clear hps hpz hpy hcl
      go_wp2_with fail
      refine (heldIntS_rl _ (gd l k) _ _ (r1.keep hb) q0 q1 q3).mono ?_
      rintro e w2 ⟨rfl, hb2⟩
      go_wp2
      go_roundg (gk - 1)
      case rel => exact ⟨k + 1, by have := HK.out; omega, by go_num, by rw [HC.out, show k0 + ((psum Mk.cnt l k + Mk.cnt (gd l k) : Nat) : Int) = k0 + (psum Mk.cnt l k : Nat) + (Mk.cnt (gd l k) : Nat) by omega], bt hb hb2⟩
      case measure => have := HK.out; omega
    · obtain rfl : k = l.length := by have := HK.out; omega
      have hall := psum_all (f := Mk.cnt) (l := l)
      have HA := Lib.hid hall
      clear hall
      go_wp2
      go_ret
      exact ⟨by rw [HS.out.2, ← HA.out]; rfl, hb⟩
end Go.Proofs.YtdjfdopgjlbloaaDoor
/- Small words for the walks of exact laws. -/
namespace Go.Proofs.YtdjfdopgjlbloaaDoor
open Go.RowKit
theorem RL.lt {α : Type} [Dat α] {w : World} {S : Nat → Prop} {v : Value} {l : List α} (h : RL w S v l) : RL w (fun k => k < w.heap.size) v l := h.more fun _ hk _ => hk
end Go.Proofs.YtdjfdopgjlbloaaDoor
