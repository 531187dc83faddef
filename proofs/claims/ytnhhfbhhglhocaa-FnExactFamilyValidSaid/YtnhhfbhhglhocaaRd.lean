/- Walks: the reader of random bytes of the reference. -/
import Derived.Test.YtnhhfbhhglhocaaW6
import Derived.Test.YtnhhfbhhglhocaaQuiet
import Derived.Laws.BitsAllLaws
namespace Go.Proofs.Ytnhhfbhhglhocaa
open Go.RowKit

/-- Block `g` is a reader that has made at most `q` picks; its bytes lie below it. -/
def Rdr (w : World) (g q : Nat) : Prop :=
  ∃ (a : Option Addr) (n cap : Nat) (c : Nat → Int) (p : Nat), RSl w 1 (.slice a n cap) n (fun i => .int .u8 (c i)) ∧ (∀ i, 0 ≤ c i ∧ c i ≤ 255) ∧ n ≤ 2000 ∧ p ≤ q ∧
    (0 < n → ∀ k, (Value.slice a n cap).ownBlock = some k → k < g) ∧ w.heap[g]? = some (.cells #[.slice a n cap, .int .i64 p] 157 (0, 0))

theorem Rdr.lt {w : World} {g q : Nat} (h : Rdr w g q) : g < w.heap.size := by
  obtain ⟨_, _, _, _, _, _, _, _, _, _, hb⟩ := h
  exact (Array.getElem?_eq_some_iff.1 hb).1

theorem Rdr.kept {w w' : World} {g q : Nat} {S : Nat → Prop} (h : Rdr w g q) (hf : Fr S w w') (hs : ∀ k, k ≤ g → S k → False) : Rdr w' g q := by
  obtain ⟨a, n, cap, c, p, h1, h2, h3, h4, h5, hb⟩ := h
  have hg := (Array.getElem?_eq_some_iff.1 hb).1
  refine ⟨a, n, cap, c, p, ?_, h2, h3, h4, h5, ?_⟩
  · rcases h1 with h | ⟨b, o, cap', hv, q1, q2, q3⟩
    · exact .inl h
    · refine .inr ⟨b, o, cap', hv, q1, q2, fun i hi => hf.cell (fun hS => ?_) (q3 i hi)⟩
      have := h5 (by omega) b (by rw [hv]; rfl)
      exact hs b (by omega) hS
  · rw [hf.block g hg (fun hS => hs g (Nat.le_refl _) hS)]; exact hb

theorem Rdr.keep {w w' : World} {g q : Nat} (h : Rdr w g q) (hf : Below w.heap.size w w') : Rdr w' g q := h.kept (Below.fr hf) fun _ _ h => h
theorem Rdr.keepB {w w' : World} {g q B : Nat} (h : Rdr w g q) (hf : Below B w w') (hB : g < B) : Rdr w' g q := h.kept (Below.chg hf) fun k hk hS => by omega
theorem Rdr.more {w : World} {g q q' : Nat} (h : Rdr w g q) (hq : q ≤ q') : Rdr w g q' := by
  obtain ⟨a, n, cap, c, p, h1, h2, h3, h4, h5, hb⟩ := h
  exact ⟨a, n, cap, c, p, h1, h2, h3, Nat.le_trans h4 hq, h5, hb⟩

theorem xor_i64 (a b : Int) (ha : 0 ≤ a) (ha2 : a < 4611686018427387904) (hb : 0 ≤ b) (hb2 : b < 4611686018427387904) : 0 ≤ bits .xor .i64 a b ∧ bits .xor .i64 a b < 4611686018427387904 := by
  obtain ⟨x, rfl⟩ := Int.eq_ofNat_of_zero_le ha
  obtain ⟨y, rfl⟩ := Int.eq_ofNat_of_zero_le hb
  have hx : x ^^^ y < 2 ^ 62 := Nat.xor_lt_two_pow (by omega) (by omega)
  have h1 : (BitVec.ofInt 64 (x : Int)).toNat = x := by
    rw [BitVec.ofInt_natCast, BitVec.toNat_ofNat]; exact Nat.mod_eq_of_lt (by omega)
  have h2 : (BitVec.ofInt 64 (y : Int)).toNat = y := by
    rw [BitVec.ofInt_natCast, BitVec.toNat_ofNat]; exact Nat.mod_eq_of_lt (by omega)
  have e : bits .xor .i64 (x : Int) (y : Int) = ((x ^^^ y : Nat) : Int) := by
    show IntKind.i64.wrap ((BitVec.ofInt 64 (x : Int) ^^^ BitVec.ofInt 64 (y : Int)).toNat : Int) = _
    rw [BitVec.toNat_xor, h1, h2, IntKind.wrap_i64]
    omega
  rw [e]
  omega

/-- What a pick leaves: a small number, the reader one pick on, all else as it was. -/
def Picked (g q : Nat) (n : Int) (w : World) (e : Ending) (w' : World) : Prop :=
  ∃ k : Nat, e = .returned (.int .i64 k) ∧ (k : Int) < n ∧ Rdr w' g (q + 1) ∧ Fr (fun j => j = g) w w'

theorem set_rdr {w : World} {g : Nat} {v u : Value} {T : TypeId} (hb : w.heap[g]? = some (.cells #[v, u] T (0, 0))) (x : Value) :
    (w.setCell ⟨g, 1, none⟩ x).heap[g]? = some (.cells #[v, x] T (0, 0)) := by
  rw [heap_setCell_same w g 1 _ T x hb]; rfl

set_option maxHeartbeats 1600000 in
theorem pick_any (g q : Nat) (n : Int) (w : World) (h : Rdr w g q) (hq : q ≤ 1073741824) (hn : 1 ≤ n) (hn2 : n ≤ 1048576) :
    Calls Try.prog 85 #[.pointer (some ⟨g, 0, none⟩), .int .i64 n] w (Picked g q n w) := by
  obtain ⟨a, m, cap, c, p, hr, hcb, hm, hp, hab, hb⟩ := h
  have hgl := (Array.getElem?_eq_some_iff.1 hb).1
  have hc0 : w.cell? ⟨g, 0, none⟩ = some (.slice a m cap) := cell_of_row w g 0 _ _ _ hb
  have hc1 : w.cell? ⟨g, 1, none⟩ = some (.int .i64 p) := cell_of_row w g 1 _ _ _ hb
  have hz : w.frozen? ⟨g, 1, none⟩ = false := frozen_of_row w g 1 _ _ hb
  have hset := set_rdr hb (.int .i64 ((p : Int) + 1))
  have HSET := Lib.hid hset
  have hfr : Fr (fun j => j = g) w (w.setCell ⟨g, 1, none⟩ (.int .i64 ((p : Int) + 1))) :=
    ⟨rfl, rfl, rfl, by simp [World.setCell], fun k _ hk => Below.heap_setCell _ _ _ _ (by simpa using hk)⟩
  have hn1 : (n < 1) = False := by simp; omega
  have hend : ∀ w' : World, Below w.heap.size (w.setCell ⟨g, 1, none⟩ (.int .i64 ((p : Int) + 1))) w' → Rdr w' g (q + 1) ∧ Fr (fun j => j = g) w w' := by
    intro w' hbw
    have hf' : Fr (fun j => j = g) w w' := hfr.trans ((Below.fr (w := w.setCell ⟨g, 1, none⟩ (.int .i64 ((p : Int) + 1))) (by simpa [World.setCell] using hbw)).mono fun _ _ h => h.elim)
    refine ⟨⟨a, m, cap, c, p + 1, ?_, hcb, hm, by omega, hab, ?_⟩, hf'⟩
    · rcases hr with h | ⟨b, o, cap', hv, q1, q2, q3⟩
      · exact .inl h
      · refine .inr ⟨b, o, cap', hv, q1, q2, fun i hi => hf'.cell (fun e => ?_) (q3 i hi)⟩
        have := hab (by omega) b (by rw [hv]; rfl)
        simp at e; omega
    · rw [hbw.block g (by omega), HSET.out]; rfl
  have HEND := Lib.hid hend
  clear hend hset hb hfr
  by_cases hm0 : m = 0
  · subst hm0
    go_enter Try.func85, Try.ntmps85
    go_wp2
    go_ret
    obtain ⟨r1, r2⟩ := HEND.out _ (Below.refl _ _)
    exact ⟨0, rfl, by omega, r1, r2⟩
  · obtain ⟨b, o, cap', hv, q1, q2, q3⟩ : ∃ b o cap', Value.slice a m cap = .slice (some ⟨b, o, none⟩) m cap' ∧ m ≤ cap' ∧ cap' ≤ maxLen ∧ ∀ i, i < m → w.cell? ⟨b, o + i, none⟩ = some (.int .u8 (c i)) := by
      rcases hr with ⟨_, _, _, h, _⟩ | ⟨b, o, cap', hv, q1, q2, q3⟩
      · omega
      · exact ⟨b, o, cap', hv, q1, q2, fun i hi => q3 i (by omega)⟩
    obtain rfl : a = some ⟨b, o, none⟩ := by simp at hv; exact hv.1
    have hbg := hab (by omega) b rfl
    have hne : ¬ b = g := by omega
    have hbl : b < w.heap.size := by omega
    have hm0' : ((m : Int) == 0) = false := by simp; omega
    have Q3 := Lib.hid q3
    clear q3 hr hv hab
    by_cases hpm : p < m
    · have hck := Q3.out p hpm
      have hcp := hcb p
      have hpi : (p : Int) < (m : Int) := by omega
      go_enter Try.func85, Try.ntmps85
      go_wp2
      go_ret
      obtain ⟨r1, r2⟩ := HEND.out _ (Below.refl _ _)
      have hmod := Int.emod_nonneg (c p) (show n ≠ 0 by omega)
      have hmod2 := Int.emod_lt_of_pos (c p) (show 0 < n by omega)
      exact ⟨(c p % n).toNat, by rw [Int.toNat_of_nonneg hmod]; rfl, by omega, r1, r2⟩
    · have hpi : ¬ (p : Int) < (m : Int) := by omega
      have hi1 : p % m < m := Nat.mod_lt _ (by omega)
      have hi2 : (p * 7 + 3) % m < m := Nat.mod_lt _ (by omega)
      have hck1 := Q3.out (p % m) hi1
      have hck2 := Q3.out ((p * 7 + 3) % m) hi2
      have hcp1 := hcb (p % m)
      have hcp2 := hcb ((p * 7 + 3) % m)
      have hj1 : (p : Int) % (m : Int) < (m : Int) := Int.emod_lt_of_pos _ (by omega)
      have hj2 : ((p : Int) * 7 + 3) % (m : Int) < (m : Int) := Int.emod_lt_of_pos _ (by omega)
      have hj3 : (0 : Int) ≤ (p : Int) % (m : Int) := Int.emod_nonneg _ (by omega)
      have hj4 : (0 : Int) ≤ ((p : Int) * 7 + 3) % (m : Int) := Int.emod_nonneg _ (by omega)
      have hmp : (1 : Int) ≤ (m : Int) := by omega
      have hpm1 : (0 : Int) ≤ (p : Int) / (m : Int) := Int.ediv_nonneg (by omega) (by omega)
      have hpm2 : (p : Int) / (m : Int) ≤ (p : Int) := Int.ediv_le_self _ (by omega)
      go_enter Try.func85, Try.ntmps85
      go_wp2
      refine wp_region_ext (by kernel_rfl) (by kernel_rfl) ?_
      repeat (go_big_quiet_step (fail))
      refine wpQuiet_nil ?_
      intro w2 hb2
      obtain ⟨r1, r2⟩ := HEND.out _ (by simpa [World.setCell] using hb2)
      have R1 := Lib.hid r1
      have R2 := Lib.hid r2
      clear r1 r2 HEND hb2 HSET Q3 hck1 hck2 hj1 hj2 hj3 hj4 hc0 hc1 hz
      generalize c (p % m) = c1 at *
      generalize c ((p * 7 + 3) % m) = c2 at *
      generalize (p : Int) / (m : Int) = d at *
      have hx := xor_i64 (c1 * 131 + c2 * 1117 + (p : Int) * 29 + d * 53) ((c1 * 131 + c2 * 1117 + (p : Int) * 29 + d * 53) / 64) (by omega) (by omega) (by omega) (by omega)
      go_wp2
      go_ret
      generalize bits BinOp.xor IntKind.i64 (c1 * 131 + c2 * 1117 + (p : Int) * 29 + d * 53) ((c1 * 131 + c2 * 1117 + (p : Int) * 29 + d * 53) / 64) = x at *
      have hmod := Int.emod_nonneg x (show n ≠ 0 by omega)
      have hmod2 := Int.emod_lt_of_pos x (show 0 < n by omega)
      exact ⟨(x % n).toNat, by rw [Int.toNat_of_nonneg hmod]; rfl, by omega, R1.out, R2.out⟩

/-- What a drawn number leaves. -/
def Drawn (g q : Nat) (l : List Int) (w : World) (e : Ending) (w' : World) : Prop :=
  ∃ n : Int, n ∈ l ∧ e = .returned (.int .i64 n) ∧ Rdr w' g (q + 1) ∧ Fr (fun j => j = g) w w'

set_option maxHeartbeats 400000 in
theorem num_any (g q : Nat) (v : Value) (l : List Int) (w : World) (h : Rdr w g q) (hl : RInts w v l) (hq : q ≤ 1073741824) (h0 : 0 < l.length) (h1 : l.length ≤ 1048576) (hne : ∀ k, v.ownBlock = some k → ¬ k = g) :
    Calls Try.prog 86 #[.pointer (some ⟨g, 0, none⟩), v] w (Drawn g q l w) := by
  obtain ⟨b, o, cap, rfl, _, _, hcell⟩ := hl.ne h0
  have hnb : ¬ b = g := hne b rfl
  go_enter Try.func86, Try.ntmps86
  go_wp2_with fail
  refine (pick_any g q _ _ h hq (by omega) (by omega)).mono ?_
  rintro e w' ⟨k, rfl, hk, hr, hf⟩
  have hck := hf.cell (fun e => hnb (by simpa using e)) (hcell k (by omega))
  have hmem : gi l k ∈ l := gi_mem (by omega)
  have HM := Lib.hid hmem
  clear hcell hmem
  go_wp2
  go_ret
  exact ⟨gi l k, HM.out, rfl, hr, hf⟩
end Go.Proofs.Ytnhhfbhhglhocaa
