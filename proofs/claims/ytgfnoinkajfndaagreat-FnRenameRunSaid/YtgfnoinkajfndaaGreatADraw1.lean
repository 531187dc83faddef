/- Draw1: texts Rd, Dr1, Dr2, FrameB in one. -/
import Derived.Test.YtgfnoinkajfndaaGreatABase1
import Derived.Laws.BitsAllLaws
import Derived.Test.YtgfnoinkajfndaaGreatABase3
import Derived.Deep.RegionHeld3
/- Walks: the reader of random bytes of the reference. -/
namespace Go.Proofs.YtgfnoinkajfndaaGreat
open Go.RowKit

/-- Block `g` is a reader that has made at most `q` picks; its bytes lie below it. -/
def Rdr (w : World) (g q : Nat) : Prop :=
  ∃ (a : Option Addr) (n cap : Nat) (c : Nat → Int) (p : Nat), RSl w 1 (.slice a n cap) n (fun i => .int .u8 (c i)) ∧ (∀ i, 0 ≤ c i ∧ c i ≤ 255) ∧ n ≤ 2000 ∧ p ≤ q ∧
    (0 < n → ∀ k, (Value.slice a n cap).ownBlock = some k → k < g) ∧ w.heap[g]? = some (.cells #[.slice a n cap, .int .i64 p] 110 (0, 0))

theorem Rdr.lt {w : World} {g q : Nat} (h : Rdr w g q) : g < w.heap.size := by
  obtain ⟨_, _, _, _, _, _, _, _, _, _, hb⟩ := h
  exact (Array.getElem?_eq_some_iff.1 hb).1

theorem Rdr.kept {w w' : World} {g q : Nat} {S : Nat → Prop} (h : Rdr w g q) (hf : Fr S w w') (hs : ∀ k, k ≤ g → S k → False) : Rdr w' g q := by
  obtain ⟨a, n, cap, c, p, h1, h2, h3, h4, h5, hb⟩ := h
  have hg := (Array.getElem?_eq_some_iff.1 hb).1
  refine ⟨a, n, cap, c, p, ?_, h2, h3, h4, h5, ?_⟩
  · rcases h1 with h | ⟨b, o, cap', hv, q1, q2, q3⟩
    · exact .inl h
    · refine .inr ⟨b, o, cap', hv, q1, q2, fun i hi => hf.cell (fun hS => ?_) (q3 i hi)⟩
      have := h5 (by omega) b (by rw [hv]; rfl)
      exact hs b (by omega) hS
  · rw [hf.block g hg (fun hS => hs g (Nat.le_refl _) hS)]; exact hb

theorem Rdr.keep {w w' : World} {g q : Nat} (h : Rdr w g q) (hf : Below w.heap.size w w') : Rdr w' g q := h.kept (Below.fr hf) fun _ _ h => h
theorem Rdr.more {w : World} {g q q' : Nat} (h : Rdr w g q) (hq : q ≤ q') : Rdr w g q' := by
  obtain ⟨a, n, cap, c, p, h1, h2, h3, h4, h5, hb⟩ := h
  exact ⟨a, n, cap, c, p, h1, h2, h3, Nat.le_trans h4 hq, h5, hb⟩

theorem xor_i64 (a b : Int) (ha : 0 ≤ a) (ha2 : a < 4611686018427387904) (hb : 0 ≤ b) (hb2 : b < 4611686018427387904) : 0 ≤ bits .xor .i64 a b ∧ bits .xor .i64 a b < 4611686018427387904 := by
  obtain ⟨x, rfl⟩ := Int.eq_ofNat_of_zero_le ha
  obtain ⟨y, rfl⟩ := Int.eq_ofNat_of_zero_le hb
  have hx : x ^^^ y < 2 ^ 62 := Nat.xor_lt_two_pow (by omega) (by omega)
  have h1 : (BitVec.ofInt 64 (x : Int)).toNat = x := by
    rw [BitVec.ofInt_natCast, BitVec.toNat_ofNat]; exact Nat.mod_eq_of_lt (by omega)
  have h2 : (BitVec.ofInt 64 (y : Int)).toNat = y := by
    rw [BitVec.ofInt_natCast, BitVec.toNat_ofNat]; exact Nat.mod_eq_of_lt (by omega)
  have e : bits .xor .i64 (x : Int) (y : Int) = ((x ^^^ y : Nat) : Int) := by
    show IntKind.i64.wrap ((BitVec.ofInt 64 (x : Int) ^^^ BitVec.ofInt 64 (y : Int)).toNat : Int) = _
    rw [BitVec.toNat_xor, h1, h2, IntKind.wrap_i64]
    omega
  rw [e]
  omega

/-- What a pick leaves: a small number, the reader one pick on, all else as it was. -/
def Picked (g q : Nat) (n : Int) (w : World) (e : Ending) (w' : World) : Prop :=
  ∃ k : Nat, e = .returned (.int .i64 k) ∧ (k : Int) < n ∧ Rdr w' g (q + 1) ∧ Fr (fun j => j = g) w w'

theorem set_rdr {w : World} {g : Nat} {v u : Value} {T : TypeId} (hb : w.heap[g]? = some (.cells #[v, u] T (0, 0))) (x : Value) :
    (w.setCell ⟨g, 1, none⟩ x).heap[g]? = some (.cells #[v, x] T (0, 0)) := by
  rw [heap_setCell_same w g 1 _ T x hb]; rfl

set_option maxHeartbeats 1600000 in
theorem pick_any (g q : Nat) (n : Int) (w : World) (h : Rdr w g q) (hq : q ≤ 1073741824) (hn : 1 ≤ n) (hn2 : n ≤ 1048576) :
    Calls Tryz.prog 59 #[.pointer (some ⟨g, 0, none⟩), .int .i64 n] w (Picked g q n w) := by
  obtain ⟨a, m, cap, c, p, hr, hcb, hm, hp, hab, hb⟩ := h
  have hgl := (Array.getElem?_eq_some_iff.1 hb).1
  have hc0 : w.cell? ⟨g, 0, none⟩ = some (.slice a m cap) := cell_of_row w g 0 _ _ _ hb
  have hc1 : w.cell? ⟨g, 1, none⟩ = some (.int .i64 p) := cell_of_row w g 1 _ _ _ hb
  have hz : w.frozen? ⟨g, 1, none⟩ = false := frozen_of_row w g 1 _ _ hb
  have hset := set_rdr hb (.int .i64 ((p : Int) + 1))
  have HSET := Lib.hid hset
  have hfr : Fr (fun j => j = g) w (w.setCell ⟨g, 1, none⟩ (.int .i64 ((p : Int) + 1))) :=
    ⟨rfl, rfl, rfl, by simp [World.setCell], fun k _ hk => Below.heap_setCell _ _ _ _ (by simpa using hk)⟩
  have hn1 : (n < 1) = False := by simp; omega
  have hend : ∀ w' : World, Below w.heap.size (w.setCell ⟨g, 1, none⟩ (.int .i64 ((p : Int) + 1))) w' → Rdr w' g (q + 1) ∧ Fr (fun j => j = g) w w' := by
    intro w' hbw
    have hf' : Fr (fun j => j = g) w w' := hfr.trans ((Below.fr (w := w.setCell ⟨g, 1, none⟩ (.int .i64 ((p : Int) + 1))) (by simpa [World.setCell] using hbw)).mono fun _ _ h => h.elim)
    refine ⟨⟨a, m, cap, c, p + 1, ?_, hcb, hm, by omega, hab, ?_⟩, hf'⟩
    · rcases hr with h | ⟨b, o, cap', hv, q1, q2, q3⟩
      · exact .inl h
      · refine .inr ⟨b, o, cap', hv, q1, q2, fun i hi => hf'.cell (fun e => ?_) (q3 i hi)⟩
        have := hab (by omega) b (by rw [hv]; rfl)
        simp at e; omega
    · rw [hbw.block g (by omega), HSET.out]; rfl
  have HEND := Lib.hid hend
  clear hend hset hb hfr
  by_cases hm0 : m = 0
  · subst hm0
    go_enter Tryz.func59, Tryz.ntmps59
    go_wp2
    go_ret
    obtain ⟨r1, r2⟩ := HEND.out _ (Below.refl _ _)
    exact ⟨0, rfl, by omega, r1, r2⟩
  · obtain ⟨b, o, cap', hv, q1, q2, q3⟩ : ∃ b o cap', Value.slice a m cap = .slice (some ⟨b, o, none⟩) m cap' ∧ m ≤ cap' ∧ cap' ≤ maxLen ∧ ∀ i, i < m → w.cell? ⟨b, o + i, none⟩ = some (.int .u8 (c i)) := by
      rcases hr with ⟨_, _, _, h, _⟩ | ⟨b, o, cap', hv, q1, q2, q3⟩
      · omega
      · exact ⟨b, o, cap', hv, q1, q2, fun i hi => q3 i (by omega)⟩
    obtain rfl : a = some ⟨b, o, none⟩ := by simp at hv; exact hv.1
    have hbg := hab (by omega) b rfl
    have hne : ¬ b = g := by omega
    have hbl : b < w.heap.size := by omega
    have hm0' : ((m : Int) == 0) = false := by simp; omega
    have Q3 := Lib.hid q3
    clear q3 hr hv hab
    by_cases hpm : p < m
    · have hck := Q3.out p hpm
      have hcp := hcb p
      have hpi : (p : Int) < (m : Int) := by omega
      go_enter Tryz.func59, Tryz.ntmps59
      go_wp2
      go_ret
      obtain ⟨r1, r2⟩ := HEND.out _ (Below.refl _ _)
      have hmod := Int.emod_nonneg (c p) (show n ≠ 0 by omega)
      have hmod2 := Int.emod_lt_of_pos (c p) (show 0 < n by omega)
      exact ⟨(c p % n).toNat, by rw [Int.toNat_of_nonneg hmod]; rfl, by omega, r1, r2⟩
    · have hpi : ¬ (p : Int) < (m : Int) := by omega
      have hi1 : p % m < m := Nat.mod_lt _ (by omega)
      have hi2 : (p * 7 + 3) % m < m := Nat.mod_lt _ (by omega)
      have hck1 := Q3.out (p % m) hi1
      have hck2 := Q3.out ((p * 7 + 3) % m) hi2
      have hcp1 := hcb (p % m)
      have hcp2 := hcb ((p * 7 + 3) % m)
      have hj1 : (p : Int) % (m : Int) < (m : Int) := Int.emod_lt_of_pos _ (by omega)
      have hj2 : ((p : Int) * 7 + 3) % (m : Int) < (m : Int) := Int.emod_lt_of_pos _ (by omega)
      have hj3 : (0 : Int) ≤ (p : Int) % (m : Int) := Int.emod_nonneg _ (by omega)
      have hj4 : (0 : Int) ≤ ((p : Int) * 7 + 3) % (m : Int) := Int.emod_nonneg _ (by omega)
      have hmp : (1 : Int) ≤ (m : Int) := by omega
      have hpm1 : (0 : Int) ≤ (p : Int) / (m : Int) := Int.ediv_nonneg (by omega) (by omega)
      have hpm2 : (p : Int) / (m : Int) ≤ (p : Int) := Int.ediv_le_self _ (by omega)
      go_enter Tryz.func59, Tryz.ntmps59
      go_wp2
      refine wp_region_ext (by kernel_rfl) (by kernel_rfl) ?_
      repeat (go_big_quiet_step (fail))
      refine wpQuiet_nil ?_
      intro w2 hb2
      obtain ⟨r1, r2⟩ := HEND.out _ (by simpa [World.setCell] using hb2)
      have R1 := Lib.hid r1
      have R2 := Lib.hid r2
      clear r1 r2 HEND hb2 HSET Q3 hck1 hck2 hj1 hj2 hj3 hj4 hc0 hc1 hz
      generalize c (p % m) = c1 at *
      generalize c ((p * 7 + 3) % m) = c2 at *
      generalize (p : Int) / (m : Int) = d at *
      have hx := xor_i64 (c1 * 131 + c2 * 1117 + (p : Int) * 29 + d * 53) ((c1 * 131 + c2 * 1117 + (p : Int) * 29 + d * 53) / 64) (by omega) (by omega) (by omega) (by omega)
      go_wp2
      go_ret
      generalize bits BinOp.xor IntKind.i64 (c1 * 131 + c2 * 1117 + (p : Int) * 29 + d * 53) ((c1 * 131 + c2 * 1117 + (p : Int) * 29 + d * 53) / 64) = x at *
      have hmod := Int.emod_nonneg x (show n ≠ 0 by omega)
      have hmod2 := Int.emod_lt_of_pos x (show 0 < n by omega)
      exact ⟨(x % n).toNat, by rw [Int.toNat_of_nonneg hmod]; rfl, by omega, R1.out, R2.out⟩

/-- What a drawn number leaves. -/
def Drawn (g q : Nat) (l : List Int) (w : World) (e : Ending) (w' : World) : Prop :=
  ∃ n : Int, n ∈ l ∧ e = .returned (.int .i64 n) ∧ Rdr w' g (q + 1) ∧ Fr (fun j => j = g) w w'

set_option maxHeartbeats 400000 in
theorem num_any (g q : Nat) (v : Value) (l : List Int) (w : World) (h : Rdr w g q) (hl : RInts w v l) (hq : q ≤ 1073741824) (h0 : 0 < l.length) (h1 : l.length ≤ 1048576) (hne : ∀ k, v.ownBlock = some k → ¬ k = g) :
    Calls Tryz.prog 60 #[.pointer (some ⟨g, 0, none⟩), v] w (Drawn g q l w) := by
  obtain ⟨b, o, cap, rfl, _, _, hcell⟩ := hl.ne h0
  have hnb : ¬ b = g := hne b rfl
  go_enter Tryz.func60, Tryz.ntmps60
  go_wp2_with fail
  refine (pick_any g q _ _ h hq (by omega) (by omega)).mono ?_
  rintro e w' ⟨k, rfl, hk, hr, hf⟩
  have hck := hf.cell (fun e => hnb (by simpa using e)) (hcell k (by omega))
  have hmem : gi l k ∈ l := gi_mem (by omega)
  have HM := Lib.hid hmem
  clear hcell hmem
  go_wp2
  go_ret
  exact ⟨gi l k, HM.out, rfl, hr, hf⟩
end Go.Proofs.YtgfnoinkajfndaaGreat
/- Walks: drawing states: opening the reader, blank states, places. -/
namespace Go.Proofs.YtgfnoinkajfndaaGreat
open Go.RowKit

/-- `v1`, `v2` are two apart owned slices of integers, from block `B` on. -/
structure OwnSt (w : World) (B : Nat) (v1 v2 : Value) (l1 l2 : List Int) : Prop where
  one : w.ownsRow B 3 1 v1 l1.length (ints l1)
  two : w.ownsRow B 3 1 v2 l2.length (ints l2)
  apart : ∀ k, some k = v1.ownBlock → ¬ some k = v2.ownBlock

theorem OwnSt.keep {w w' : World} {B : Nat} {v1 v2 : Value} {l1 l2 : List Int} (h : OwnSt w B v1 v2 l1 l2) (hb : Below w.heap.size w w') : OwnSt w' B v1 v2 l1 l2 :=
  ⟨own_keep h.one hb, own_keep h.two hb, h.apart⟩
theorem OwnSt.kept {w w' : World} {B : Nat} {v1 v2 : Value} {l1 l2 : List Int} {S : Nat → Prop} (h : OwnSt w B v1 v2 l1 l2) (hf : Fr S w w') (hs : ∀ k, B ≤ k → k < w.heap.size → ¬ S k) : OwnSt w' B v1 v2 l1 l2 :=
  ⟨own_kept h.one hf (fun k hk => hs k (own_lt h.one hk).1 (own_lt h.one hk).2), own_kept h.two hf (fun k hk => hs k (own_lt h.two hk).1 (own_lt h.two hk).2), h.apart⟩
theorem OwnSt.mono {w : World} {B B' : Nat} {v1 v2 : Value} {l1 l2 : List Int} (h : OwnSt w B v1 v2 l1 l2) (hB : B' ≤ B) : OwnSt w B' v1 v2 l1 l2 :=
  ⟨own_mono h.one hB, own_mono h.two hB, h.apart⟩

/-- A slice of bytes that came in. -/
def RBytes (w : World) (v : Value) (n : Nat) : Prop := ∃ c : Nat → Int, RSl w 1 v n (fun i => .int .u8 (c i)) ∧ ∀ i, 0 ≤ c i ∧ c i ≤ 255

set_option maxHeartbeats 400000 in
theorem l18Open_any (v : Value) (n : Nat) (w : World) (h : RBytes w v n) :
    Calls Tryz.prog 17 #[v] w fun e w' => e = .returned (.pointer (some ⟨w.heap.size, 0, none⟩)) ∧ Rdr w' w.heap.size 0 ∧ Below w.heap.size w w' := by
  obtain ⟨c, hr, hc⟩ := h
  have hform : ∃ a cap, v = .slice a n cap ∧ n ≤ cap ∧ cap ≤ maxLen ∧ (0 < n → ∃ b o, a = some ⟨b, o, none⟩ ∧ b < w.heap.size ∧ ∀ i, i < n → w.cell? ⟨b, o + i, none⟩ = some (.int .u8 (c i))) := by
    rcases hr with ⟨a, cap, rfl, h0, hcap, _⟩ | ⟨b, o, cap, rfl, h1, h2, h3⟩
    · exact ⟨a, cap, by rw [h0], by omega, hcap, fun h => by omega⟩
    · exact ⟨_, cap, rfl, h1, h2, fun hn => ⟨b, o, rfl, by have := World.block_lt_of_cell? w _ (h3 0 (by omega)); simpa using this, fun i hi => h3 i (by omega)⟩⟩
  obtain ⟨a, cap, rfl, hnc, hcm, hcells⟩ := hform
  have HC := Lib.hid hcells
  have HR := Lib.hid hr
  clear hcells hr
  unfold maxLen at hcm
  by_cases hn : n ≤ 2000
  · go_enter Tryz.func17, Tryz.ntmps17
    go_wp2
    go_ret
    refine ⟨rfl, ⟨a, n, cap, c, 0, (RSl.keep HR.out (below_alloc _ _)), hc, hn, Nat.le_refl _, ?_, heap_alloc_new w _⟩, below_alloc _ _⟩
    intro h0 k hk
    obtain ⟨b, o, rfl, hb, _⟩ := HC.out h0
    simp [Value.ownBlock] at hk
    omega
  · obtain ⟨b, o, rfl, hb, hcell⟩ := HC.out (by omega)
    clear HR
    go_enter Tryz.func17, Tryz.ntmps17
    go_wp2
    go_ret
    refine ⟨rfl, ⟨_, 2000, cap, c, 0, .inr ⟨b, o, cap, rfl, by omega, by unfold maxLen; omega, fun i hi => cell_keep (below_alloc _ _) (hcell i (by omega))⟩, hc, Nat.le_refl _, Nat.le_refl _, ?_, heap_alloc_new w _⟩, below_alloc _ _⟩
    intro _ k hk
    simp [Value.ownBlock] at hk
    omega

/-! ### A box of two cells -/
section
variable {w w' : World} {b : Nat} {x y z : Value} {T : TypeId}
theorem box0 (h : w.heap[b]? = some (.cells #[x, y] T (0, 0))) : w.cell? ⟨b, 0, none⟩ = some x := cell_of_row w b 0 _ _ _ h
theorem box1 (h : w.heap[b]? = some (.cells #[x, y] T (0, 0))) : w.cell? ⟨b, 1, none⟩ = some y := cell_of_row w b 1 _ _ _ h
theorem boxz (h : w.heap[b]? = some (.cells #[x, y] T (0, 0))) (i : Nat) : w.frozen? ⟨b, i, none⟩ = false := frozen_of_row w b i _ _ h
theorem box_set0 (h : w.heap[b]? = some (.cells #[x, y] T (0, 0))) (z : Value) : (w.setCell ⟨b, 0, none⟩ z).heap[b]? = some (.cells #[z, y] T (0, 0)) := by
  rw [heap_setCell_same w b 0 _ T z h]; rfl
theorem box_set1 (h : w.heap[b]? = some (.cells #[x, y] T (0, 0))) (z : Value) : (w.setCell ⟨b, 1, none⟩ z).heap[b]? = some (.cells #[x, z] T (0, 0)) := by
  rw [heap_setCell_same w b 1 _ T z h]; rfl
theorem box_lt {o : Obj} (h : w.heap[b]? = some o) : b < w.heap.size := (Array.getElem?_eq_some_iff.1 h).1
theorem box_kept {o : Obj} {S : Nat → Prop} (h : w.heap[b]? = some o) (hf : Fr S w w') (hs : ¬ S b) : w'.heap[b]? = some o := by
  rw [hf.block b (box_lt h) hs]; exact h
theorem box_keep {o : Obj} (h : w.heap[b]? = some o) (hf : Below w.heap.size w w') : w'.heap[b]? = some o := by
  rw [hf.block b (box_lt h)]; exact h
theorem box_other {o : Obj} (h : w.heap[b]? = some o) (p : Addr) (v : Value) (hp : ¬ b = p.block) : (w.setCell p v).heap[b]? = some o := by
  rw [Below.heap_setCell _ _ _ _ hp]; exact h
theorem fr_set (w : World) (p : Addr) (v : Value) : Fr (fun k => k = p.block) w (w.setCell p v) :=
  ⟨rfl, rfl, rfl, by simp [World.setCell], fun k _ hk => Below.heap_setCell _ _ _ _ hk⟩
end

/-- `k` times `x`. -/
def reps (x : Int) (k : Nat) : List Int := List.replicate k x
theorem reps_len (x : Int) (k : Nat) : (reps x k).length = k := by simp [reps]
theorem reps_succ (x : Int) (k : Nat) : reps x k ++ [x] = reps x (k + 1) := by
  unfold reps; rw [List.replicate_succ']

set_option maxHeartbeats 1600000 in
theorem l2Blank_any (w : World) :
    Calls Tryz.prog 61 #[] w fun e w' => ∃ v1 v2, e = .returned (.agg #[v1, v2]) ∧ OwnSt w' w.heap.size v1 v2 (reps 0 8) (reps (-1) 8) ∧ Below w.heap.size w w' := by
  go_enter Tryz.func61, Tryz.ntmps61
  go_wp2
  go_loopg [2] 8 (fun q i wr => ∃ (k : Nat) (v : Value), k + q = 8 ∧ i = .int .i64 k ∧ wr.ownsRow (w.heap.size + 2) 3 1 v (reps 0 k).length (ints (reps 0 k)) ∧
    wr.heap[w.heap.size]? = some (.cells #[.slice none 0 0, .slice none 0 0] 25 (0, 0)) ∧ wr.heap[w.heap.size + 1]? = some (.cells #[v, .slice none 0 0] 25 (0, 0)) ∧ Below w.heap.size w wr)
  case atStart =>
    refine ⟨0, .slice none 0 0, by omega, rfl, World.ownsRow_nil _ _ _ _, ?_, ?_, bt (below_alloc _ _) (below_alloc _ _)⟩
    · exact box_keep (heap_alloc_new w _) (below_alloc _ _)
    · have := heap_alloc_new (w.alloc (.cells #[.slice none 0 0, .slice none 0 0] 25)) (.cells #[.slice none 0 0, .slice none 0 0] 25)
      simpa using this
  case round =>
    obtain ⟨k, v, hk, rfl, hown, hbA, hbB, hb⟩ := hrel
    have HK := Lib.hid hk
    clear hk
    have hszr := box_lt hbB
    have hrl : (reps 0 k).length ≤ k := Nat.le_of_eq (reps_len 0 k)
    obtain ⟨a, cap, rfl, _⟩ := own_form hown
    have HBA := Lib.hid hbA
    have HBB := Lib.hid hbB
    have hc0 := box0 hbB
    have hc1 := box1 hbB
    have hz0 := boxz hbB 0
    clear hbA hbB
    by_cases hk8 : k < 8
    · have HN := Lib.hid (own_keep hown (below_alloc wr (.cells #[.int .i64 0] 3)))
      have hsz := hb.size
      go_wp2_with (at_builtin; refine app_int _ rfl _ _ rfl (w.heap.size + 2) _ _ rfl HN.out ⟨wr.heap.size, 0, none⟩ _ rfl (cell_new1 _ _ _) (by omega) (by simp; omega) ?_; intro v' w1 hown1 hf1; have hbA1 := Lib.hid (box_kept (box_keep HBA.out (below_alloc _ _)) hf1 (fun hS => by have := (own_lt HN.out hS).1; omega)); have hbB1 := Lib.hid (box_kept (box_keep HBB.out (below_alloc _ _)) hf1 (fun hS => by have := (own_lt HN.out hS).1; omega)); have hb1 := below_own (own_mono (B' := w.heap.size) HN.out (by omega)) hf1 (hb.trans ((below_alloc _ _).mono hb.size)) (by simp; omega); obtain ⟨a', cap', rfl, _⟩ := own_form hown1; have g0 := box0 hbB1.out; have gz := boxz hbB1.out 0; rw [reps_succ] at hown1)
      go_roundg (gk - 1)
      case rel =>
        have hlen : (reps 0 k).length + 1 = (reps 0 (k + 1)).length := by simp [reps_len]
        rw [hlen]
        refine ⟨k + 1, .slice a' (reps 0 (k + 1)).length cap', by have := HK.out; omega, by go_num, ?_, ?_, ?_, ?_⟩
        · exact RowKit.ownsRow_setCell_below hown1 (by simp) _
        · exact box_other hbA1.out _ _ (by simp)
        · exact box_set0 hbB1.out _
        · exact hb1.setCell (by simp) _
      case measure => have := HK.out; omega
    · obtain rfl : k = 8 := by have := HK.out; omega
      have hx1 := hb.size
      obtain ⟨wo, rfl⟩ : ∃ wo : World, wo = wr := ⟨_, rfl⟩
      clear hc0 hc1 hz0
      go_wp2
      go_loopg [3] 8 (fun q i wr => ∃ (k : Nat) (u : Value), k + q = 8 ∧ i = .int .i64 k ∧ wr.ownsRow (w.heap.size + 2) 3 1 (.slice a (reps 0 8).length cap) (reps 0 8).length (ints (reps 0 8)) ∧ wr.ownsRow (w.heap.size + 2) 3 1 u (reps (-1) k).length (ints (reps (-1) k)) ∧
        (∀ j, some j = (Value.slice a (reps 0 8).length cap).ownBlock → ¬ some j = u.ownBlock) ∧
        wr.heap[w.heap.size]? = some (.cells #[.slice none 0 0, .slice none 0 0] 25 (0, 0)) ∧ wr.heap[w.heap.size + 1]? = some (.cells #[.slice a (reps 0 8).length cap, u] 25 (0, 0)) ∧ Below w.heap.size w wr)
      case atStart => exact ⟨0, .slice none 0 0, by omega, rfl, hown, World.ownsRow_nil _ _ _ _, fun j _ h => by simp [Value.ownBlock] at h, HBA.out, HBB.out, hb⟩
      case round =>
        clear hown HBA HBB hb
        obtain ⟨k, u, hk, rfl, hown, hown2, hne, hbA, hbB, hb⟩ := hrel
        have HK := Lib.hid hk
        clear hk
        have hrl2 : (reps (-1) k).length ≤ k := Nat.le_of_eq (reps_len (-1) k)
        obtain ⟨a2, cap2, rfl, _⟩ := own_form hown2
        have hszr := box_lt hbB
        have HBA := Lib.hid hbA
        have HBB := Lib.hid hbB
        have hc0 := box0 hbB
        have hc1 := box1 hbB
        have hz1 := boxz hbB 1
        have HO1 := Lib.hid hown
        have HNE := Lib.hid hne
        clear hbA hbB hown hne
        by_cases hk8 : k < 8
        · have HN := Lib.hid (own_keep hown2 (below_alloc wr (.cells #[.int .i64 (-1)] 3)))
          have hsz := hb.size
          go_wp2_with (at_builtin; refine app_int2 _ rfl _ _ rfl (w.heap.size + 2) _ _ rfl HN.out ⟨wr.heap.size, 0, none⟩ _ rfl (cell_new1 _ _ _) (by omega) (by simp; omega) ?_; intro v' w1 hown1 hf1 hlie; have hbA1 := Lib.hid (box_kept (box_keep HBA.out (below_alloc _ _)) hf1 (fun hS => by have := (own_lt HN.out hS).1; omega)); have hbB1 := Lib.hid (box_kept (box_keep HBB.out (below_alloc _ _)) hf1 (fun hS => by have := (own_lt HN.out hS).1; omega)); have hO11 := Lib.hid (own_kept (own_keep HO1.out (below_alloc _ _)) hf1 (fun j hj => HNE.out j hj)); have hb1 := below_own (own_mono (B' := w.heap.size) HN.out (by omega)) hf1 (hb.trans ((below_alloc _ _).mono hb.size)) (by simp; omega); obtain ⟨a', cap', rfl, _⟩ := own_form hown1; have g0 := box0 hbB1.out; have g1 := box1 hbB1.out; have gz := boxz hbB1.out 1; have HLIE := Lib.hid hlie; clear hlie; rw [reps_succ] at hown1)
          go_roundg (gk - 1)
          case rel =>
            have hlen : (reps (-1) k).length + 1 = (reps (-1) (k + 1)).length := by simp [reps_len]
            have hl := HLIE.out
            rw [reps_succ] at hl
            rw [hlen]
            refine ⟨k + 1, .slice a' (reps (-1) (k + 1)).length cap', by have := HK.out; omega, by go_num, ?_, ?_, ?_, ?_, ?_, ?_⟩
            · exact RowKit.ownsRow_setCell_below hO11.out (by simp) _
            · exact RowKit.ownsRow_setCell_below hown1 (by simp) _
            · intro j h1 h2
              rcases hl j h2 with h | h
              · exact HNE.out j h1 h
              · have := (own_lt HO1.out h1).2; simp at h; omega
            · exact box_other hbA1.out _ _ (by simp)
            · exact box_set1 hbB1.out _
            · exact hb1.setCell (by simp) _
          case measure => have := HK.out; omega
        · obtain rfl : k = 8 := by have := HK.out; omega
          have ha0 := box0 HBA.out
          have ha1 := box1 HBA.out
          have haz := boxz HBA.out 0
          have haz1 := boxz HBA.out 1
          go_wp2
          refine bodyPost_ret (v := .agg #[.slice a (reps 0 8).length cap, .slice a2 (reps (-1) 8).length cap2]) (by simp [results, Tryz.results61, go_sem, ha0, ha1]) rfl ?_
          refine ⟨_, _, rfl, ⟨?_, ?_, HNE.out⟩, ?_⟩
          · exact own_mono (RowKit.ownsRow_setCell_below (RowKit.ownsRow_setCell_below HO1.out (by simp) _) (by simp) _) (by omega)
          · exact own_mono (RowKit.ownsRow_setCell_below (RowKit.ownsRow_setCell_below hown2 (by simp) _) (by simp) _) (by omega)
          · exact (hb.setCell (by simp) _).setCell (by simp) _
end Go.Proofs.YtgfnoinkajfndaaGreat
/- Walks: drawing states. -/
namespace Go.Proofs.YtgfnoinkajfndaaGreat
open Go.RowKit

theorem own_set {w : World} {B g cap : Nat} {l : List Int} (h : w.ownsRow B 3 1 (.slice (some ⟨g, 0, none⟩) l.length cap) l.length (ints l)) (i : Nat) (x : Int) :
    (w.setCell ⟨g, i, none⟩ (.int .i64 x)).ownsRow B 3 1 (.slice (some ⟨g, 0, none⟩) l.length cap) (l.set i x).length (ints (l.set i x)) := by
  have := (h.stored i (.int .i64 x)).1
  rw [List.length_set]
  have e : (ints l).set i (.int .i64 x) = ints (l.set i x) := by simp [ints, List.map_set]
  rwa [e] at this

theorem OwnSt.set1 {w : World} {B g cap : Nat} {v2 : Value} {l1 l2 : List Int} (h : OwnSt w B (.slice (some ⟨g, 0, none⟩) l1.length cap) v2 l1 l2) (i : Nat) (x : Int) :
    OwnSt (w.setCell ⟨g, i, none⟩ (.int .i64 x)) B (.slice (some ⟨g, 0, none⟩) l1.length cap) v2 (l1.set i x) l2 :=
  ⟨own_set h.one i x, own_kept h.two (fr_set w _ _) (fun k hk e => h.apart k (by rw [e]; rfl) hk), fun k h1 => h.apart k (by simpa [Value.ownBlock] using h1)⟩

theorem OwnSt.set2 {w : World} {B g cap : Nat} {v1 : Value} {l1 l2 : List Int} (h : OwnSt w B v1 (.slice (some ⟨g, 0, none⟩) l2.length cap) l1 l2) (i : Nat) (x : Int) :
    OwnSt (w.setCell ⟨g, i, none⟩ (.int .i64 x)) B v1 (.slice (some ⟨g, 0, none⟩) l2.length cap) l1 (l2.set i x) :=
  ⟨own_kept h.one (fr_set w _ _) (fun k hk e => h.apart k hk (by rw [e]; rfl)), own_set h.two i x, fun k h1 h2 => h.apart k h1 (by simpa [Value.ownBlock] using h2)⟩

/-- A slice of 8 that is owned lies in memory. -/
theorem own_at {w : World} {B : Nat} {v : Value} {l : List Int} (h : w.ownsRow B 3 1 v l.length (ints l)) (hl : 0 < l.length) : ∃ g cap, v = .slice (some ⟨g, 0, none⟩) l.length cap ∧ B ≤ g ∧ g < w.heap.size := by
  rcases h.2 with ⟨_, h0⟩ | ⟨g, cap, cur, rfl, hb, hg, _⟩
  · omega
  · exact ⟨g, cap, rfl, hb, (Array.getElem?_eq_some_iff.1 hg).1⟩

theorem own_cell {w : World} {B g cap : Nat} {l : List Int} (h : w.ownsRow B 3 1 (.slice (some ⟨g, 0, none⟩) l.length cap) l.length (ints l)) (i : Nat) (hi : i < l.length) :
    w.cell? ⟨g, i, none⟩ = some (.int .i64 (gi l i)) ∧ w.frozen? ⟨g, i, none⟩ = false := by
  refine ⟨?_, h.frozenAt i⟩
  rw [h.cellAt i (by omega)]
  simp [ints, hi, gi]

theorem lit_ints (w : World) (l : List Int) (hl : l.length ≤ 1048576) : RInts (w.alloc (.cells (ints l).toArray 3)) (.slice (some ⟨w.heap.size, 0, none⟩) l.length l.length) l := by
  have := World.ownsRow_lit (size := 1) w (ints l).toArray l.length (Nat.le_refl _) (by unfold maxLen; omega) (by simp) (e := 3)
  exact (own_ints (l := l) (by simpa using this)).1

theorem Fr.then {S S' : Nat → Prop} {a b c : World} (h : Fr S a b) (k : Fr S' b c) (hs : ∀ i, i < a.heap.size → S' i → S i) : Fr S a c :=
  ⟨k.os.trans h.os, k.tape.trans h.tape, k.output.trans h.output, Nat.le_trans h.size k.size,
    fun i hi hn => (k.block i (Nat.lt_of_lt_of_le hi h.size) (fun hS => hn (hs i hi hS))).trans (h.block i hi hn)⟩
theorem Fr.thenB {S : Nat → Prop} {a b c : World} (h : Fr S a b) (k : Below b.heap.size b c) : Fr S a c := h.then (Below.fr k) fun _ _ h => h.elim

/-- A state that is being drawn: its slices, the reader, the box of the result, its own box; what was there when the call began. -/
structure DrSt (w0 w : World) (g q B bA bB : Nat) (v1 v2 : Value) (l1 l2 : List Int) : Prop where
  own : OwnSt w B v1 v2 l1 l2
  rdr : Rdr w g q
  boxA : w.heap[bA]? = some (.cells #[.slice none 0 0, .slice none 0 0] 25 (0, 0))
  boxB : w.heap[bB]? = some (.cells #[v1, v2] 25 (0, 0))
  fr : Fr (fun j => j = g) w0 w

section
variable {w0 w w' : World} {g q q' B bA bB : Nat} {v1 v2 : Value} {l1 l2 : List Int}
theorem DrSt.keep (h : DrSt w0 w g q B bA bB v1 v2 l1 l2) (hb : Below w.heap.size w w') : DrSt w0 w' g q B bA bB v1 v2 l1 l2 :=
  ⟨h.own.keep hb, h.rdr.keep hb, box_keep h.boxA hb, box_keep h.boxB hb, h.fr.thenB hb⟩
theorem DrSt.drawn (h : DrSt w0 w g q B bA bB v1 v2 l1 l2) (hr : Rdr w' g q') (hf : Fr (fun j => j = g) w w') (hB : g < B) (hA : ¬ bA = g) (hbB : ¬ bB = g) : DrSt w0 w' g q' B bA bB v1 v2 l1 l2 :=
  ⟨h.own.kept hf (fun k h1 _ e => by omega), hr, box_kept h.boxA hf hA, box_kept h.boxB hf hbB, h.fr.trans hf⟩
theorem DrSt.set2 {g2 c2 : Nat} (h : DrSt w0 w g q B bA bB v1 (.slice (some ⟨g2, 0, none⟩) l2.length c2) l1 l2) (i : Nat) (x : Int) (h0 : w0.heap.size ≤ g2) (hA : ¬ bA = g2) (hB : ¬ bB = g2) (hg : g < g2) :
    DrSt w0 (w.setCell ⟨g2, i, none⟩ (.int .i64 x)) g q B bA bB v1 (.slice (some ⟨g2, 0, none⟩) l2.length c2) l1 (l2.set i x) :=
  ⟨h.own.set2 i x, h.rdr.kept (fr_set _ _ _) (fun k hk e => by simp at e; omega), box_other h.boxA _ _ hA, box_other h.boxB _ _ hB, h.fr.then (fr_set _ _ _) (fun k hk e => by simp at e; omega)⟩
theorem DrSt.set1 {g1 c1 : Nat} (h : DrSt w0 w g q B bA bB (.slice (some ⟨g1, 0, none⟩) l1.length c1) v2 l1 l2) (i : Nat) (x : Int) (h0 : w0.heap.size ≤ g1) (hA : ¬ bA = g1) (hB : ¬ bB = g1) (hg : g < g1) :
    DrSt w0 (w.setCell ⟨g1, i, none⟩ (.int .i64 x)) g q B bA bB (.slice (some ⟨g1, 0, none⟩) l1.length c1) v2 (l1.set i x) l2 :=
  ⟨h.own.set1 i x, h.rdr.kept (fr_set _ _ _) (fun k hk e => by simp at e; omega), box_other h.boxA _ _ hA, box_other h.boxB _ _ hB, h.fr.then (fr_set _ _ _) (fun k hk e => by simp at e; omega)⟩
end

set_option maxHeartbeats 3200000 in
theorem l2Draw_any (g q : Nat) (w : World) (hr : Rdr w g q) (hq : q ≤ 1000000) :
    Calls Tryz.prog 66 #[.pointer (some ⟨g, 0, none⟩)] w fun e w' => ∃ v1 v2 l1 l2, e = .returned (.agg #[v1, v2]) ∧ l1.length = 8 ∧ l2.length = 8 ∧ OwnSt w' w.heap.size v1 v2 l1 l2 ∧ Rdr w' g (q + 40) ∧ Fr (fun j => j = g) w w' := by
  have hgl := hr.lt
  go_enter Tryz.func66, Tryz.ntmps66
  go_wp2_with fail
  refine (l2Blank_any _).mono ?_
  rintro e w1 ⟨v1, v2, rfl, hst, hb⟩
  obtain ⟨g1, c1, rfl, hg1, _⟩ := own_at hst.one (by rw [reps_len]; omega)
  obtain ⟨g2, c2, rfl, hg2, _⟩ := own_at hst.two (by rw [reps_len]; omega)
  have hres := box_keep (heap_alloc_new w (.cells #[.slice none 0 0, .slice none 0 0] 25)) hb
  have hr1 := (hr.keep (below_alloc w _)).keep hb
  have hz1 : w.heap.size < w1.heap.size := by have := hb.size; simp at this; omega
  have hb01 := bt (below_alloc w _) hb
  simp at hg1 hg2
  have hst' : OwnSt w1 (w.heap.size + 1) (.slice (some ⟨g1, 0, none⟩) (reps 0 8).length c1) (.slice (some ⟨g2, 0, none⟩) (reps (-1) 8).length c2) (reps 0 8) (reps (-1) 8) := by simpa using hst
  have e8 : (reps 0 8).length = 8 := reps_len 0 8
  have e8' : (reps (-1) 8).length = 8 := reps_len (-1) 8
  clear hst hb
  rw [e8, e8'] at hst'
  rw [e8, e8']
  go_wp2
  go_loopg [4] 8 (fun k i wr => ∃ (j : Nat) (l1 : List Int), j + k = 8 ∧ i = .int .i64 j ∧ l1.length = 8 ∧ OwnSt wr (w.heap.size + 1) (.slice (some ⟨g1, 0, none⟩) 8 c1) (.slice (some ⟨g2, 0, none⟩) 8 c2) l1 (reps (-1) 8) ∧ Rdr wr g (q + j) ∧
    wr.heap[w.heap.size]? = some (.cells #[.slice none 0 0, .slice none 0 0] 25 (0, 0)) ∧ wr.heap[w1.heap.size]? = some (.cells #[.slice (some ⟨g1, 0, none⟩) 8 c1, .slice (some ⟨g2, 0, none⟩) 8 c2] 25 (0, 0)) ∧ Fr (fun j => j = g) w wr)
  case atStart => exact ⟨0, _, by omega, rfl, e8, hst'.keep (below_alloc _ _), hr1.keep (below_alloc _ _), box_keep hres (below_alloc _ _), by have := heap_alloc_new w1 (.cells #[.slice (some ⟨g1, 0, none⟩) 8 c1, .slice (some ⟨g2, 0, none⟩) 8 c2] 25); exact this, ((Below.fr hb01).mono fun _ _ h => h.elim).thenB (below_alloc _ _)⟩
  case round =>
    obtain ⟨j, l1, hk, rfl, hl1, hst, hr, hbA, hbB, hf⟩ := hrel
    have HK := Lib.hid hk
    have HBA := Lib.hid hbA
    have HBB := Lib.hid hbB
    have HL1 := Lib.hid hl1
    have hst1 : OwnSt wr (w.heap.size + 1) (.slice (some ⟨g1, 0, none⟩) l1.length c1) (.slice (some ⟨g2, 0, none⟩) 8 c2) l1 (reps (-1) 8) := by rw [hl1]; exact hst
    have hzz := box_lt hbB
    have hc0 := box0 hbB
    have hc1 := box1 hbB
    clear hk hbA hbB hst hl1
    by_cases hk8 : j < 8
    · obtain ⟨hck, hfz⟩ := own_cell hst1.one j (by rw [HL1.out]; exact hk8)
      have hgs := own_ub hst1.one g1 rfl
      have n1 : ¬ w1.heap.size = g := by have := hr1.lt; omega
      have hji : (j : Int) < 8 := by omega
      go_wp2
      go_region_held3 (fun w' => w'.cell? ⟨w1.heap.size, 0, none⟩ = some (.slice (some ⟨g1, 0, none⟩) 8 c1))
        (first
          | exact hc0
          | exact cell_keep (bt (below_alloc wr _) (below_drew _)) hc0
          | exact hf3.cell n1 (cell_keep (bt (below_alloc wr _) (below_drew _)) hc0)
          | (rw [World.cell?_of_block (w := w3) (Below.heap_setCell _ _ _ _ (by simp; omega))]; exact hf3.cell n1 (cell_keep (bt (below_alloc wr _) (below_drew _)) hc0)))
        (first
          | (go_at_call 60; refine (num_any g (q + j) _ [1, 2, 0, 3, 4, 1, 5] _ ((hr.keep (below_drew _)).keep (below_alloc _ _)) (lit_ints _ [1, 2, 0, 3, 4, 1, 5] (by decide)) (by omega) (by decide) (by decide) (fun k hk e => by simp [Value.ownBlock] at hk; omega)).mono ?_; rintro e w3 ⟨n, _, rfl, hr3, hf3⟩; have hst3 := OwnSt.kept (hst1.keep (bt (below_alloc wr _) (below_drew _))) hf3 (fun k h1 h2 e => by omega); obtain ⟨hck3, hfz3⟩ := own_cell hst3.one j (by rw [HL1.out]; exact hk8)))
      have hfw : Fr (fun j => j = g) w (w3.setCell ⟨g1, j, none⟩ (.int .i64 n)) :=
        ((hf.thenB (bt (below_alloc wr _) (below_drew _))).trans hf3).then (fr_set _ _ _) (fun i hi e => by simp at e; omega)
      have HS := Lib.hid (hst3.set1 j n)
      have HR := Lib.hid (hr3.kept (fr_set w3 ⟨g1, j, none⟩ (.int .i64 n)) (fun k hk e => by simp at e; omega))
      have HA := Lib.hid (box_other (box_kept (box_keep HBA.out (bt (below_alloc wr _) (below_drew _))) hf3 (by omega)) ⟨g1, j, none⟩ (.int .i64 n) (by simp; omega))
      have HB := Lib.hid (box_other (box_kept (box_keep HBB.out (bt (below_alloc wr _) (below_drew _))) hf3 n1) ⟨g1, j, none⟩ (.int .i64 n) (by simp; omega))
      clear hf3 hst3 hck3 hfz3 hr3 hst1 hck hfz hf hr
      go_wp2
      go_roundg (gk - 1)
      case rel => exact ⟨j + 1, l1.set j n, by have := HK.out; omega, by go_num, by rw [List.length_set]; exact HL1.out, by rw [HL1.out] at HS; exact HS.out, HR.out, HA.out, HB.out, hfw⟩
      case measure => have := HK.out; omega
    · obtain rfl : j = 8 := by have := HK.out; omega
      obtain ⟨wo, rfl⟩ : ∃ wo : World, wo = wr := ⟨_, rfl⟩
      have hgs := own_ub hst1.one g1 rfl
      have n1 : ¬ w1.heap.size = g := by have := hr1.lt; omega
      have hzo := hf.size
      go_wp2_with fail
      refine (num_any g (q + 8) _ [3, 4, 2, 5, 1, 0, 8] _ (hr.keep (below_alloc _ _)) (lit_ints _ [3, 4, 2, 5, 1, 0, 8] (by decide)) (by omega) (by decide) (by decide) (fun k hk e => by simp [Value.ownBlock] at hk; omega)).mono ?_
      rintro e w4 ⟨n0, hn0, rfl, hr4, hf4⟩
      have hst4 := OwnSt.kept (hst1.keep (below_alloc wo _)) hf4 (fun k h1 h2 e => by omega)
      have hA4 := box_kept (box_keep HBA.out (below_alloc wo _)) hf4 (by omega)
      have hB4 := box_kept (box_keep HBB.out (below_alloc wo _)) hf4 n1
      have hfw4 := (hf.thenB (below_alloc wo _)).trans hf4
      have hn8 : 0 ≤ n0 ∧ n0 ≤ 8 := by simp at hn0; omega
      clear hr hst1 hf4 hf hc0 hc1 HBA HBB hn0
      go_wp2
      go_loopg [5] 8 (fun k i wr => ∃ (j : Nat) (l1 l2 : List Int), j ≤ k ∧ k ≤ 8 ∧ i = .int .i64 j ∧ l1.length = 8 ∧ l2.length = 8 ∧ OwnSt wr (w.heap.size + 1) (.slice (some ⟨g1, 0, none⟩) 8 c1) (.slice (some ⟨g2, 0, none⟩) 8 c2) l1 l2 ∧ Rdr wr g (q + 9 + 2 * (8 - k)) ∧
        wr.heap[w.heap.size]? = some (.cells #[.slice none 0 0, .slice none 0 0] 25 (0, 0)) ∧ wr.heap[w1.heap.size]? = some (.cells #[.slice (some ⟨g1, 0, none⟩) 8 c1, .slice (some ⟨g2, 0, none⟩) 8 c2] 25 (0, 0)) ∧ Fr (fun j => j = g) w wr)
      case atStart => exact ⟨n0.toNat, l1, _, by omega, Nat.le_refl _, by rw [Int.toNat_of_nonneg hn8.1], HL1.out, e8', by rw [HL1.out] at hst4; exact hst4, hr4, hA4, hB4, hfw4⟩
      case round =>
        clear hst4 hr4 hA4 hB4 hfw4
        obtain ⟨j, m1, l2, hjk, hk8, rfl, hm1, hl2, hst, hr, hbA, hbB, hf⟩ := hrel
        have HBA := Lib.hid hbA
        have HBB := Lib.hid hbB
        have HM1 := Lib.hid hm1
        have HL2 := Lib.hid hl2
        have hst2 : OwnSt wr (w.heap.size + 1) (.slice (some ⟨g1, 0, none⟩) 8 c1) (.slice (some ⟨g2, 0, none⟩) l2.length c2) m1 l2 := by rw [hl2]; exact hst
        have hzz := box_lt hbB
        have hc0 := box0 hbB
        have hc1 := box1 hbB
        clear hbA hbB hst hm1 hl2
        by_cases hj0 : 0 < j
        · have hgs2 := own_ub hst2.two g2 rfl
          go_wp2
          have D0 : DrSt w wr g (q + 9 + 2 * (8 - gk)) (w.heap.size + 1) w.heap.size w1.heap.size (.slice (some ⟨g1, 0, none⟩) 8 c1) (.slice (some ⟨g2, 0, none⟩) l2.length c2) m1 l2 := ⟨hst2, hr, HBA.out, by rw [HL2.out]; exact HBB.out, hf⟩
          have hlit := lit_ints wr [0, 2, 3, 1, 4, 5] (by decide)
          have HLIT := Lib.hid hlit
          clear hlit hst2 hr hf HBA HBB hc0
          go_region_held3 (fun w' => w'.cell? ⟨w1.heap.size, 1, none⟩ = some (.slice (some ⟨g2, 0, none⟩) 8 c2))
            (first
              | exact hc1
              | exact cell_keep (bt (below_alloc wr _) (below_drew _)) hc1
              | (have hh := box1 D6.boxB; rw [HL2.out] at hh; rw [World.cell?_of_block (w := w6) (Below.heap_setCell _ _ _ _ (by simp; omega))]; exact hh)
              | (have hh := box1 D6.boxB; rw [HL2.out] at hh; exact hh)
              | (have hh := box1 D5.boxB; rw [HL2.out] at hh; exact hh)
              | (have hh := box1 D5.boxB; rw [HL2.out] at hh; exact cell_keep (below_alloc w5 _) hh))
            (first
              | (go_at_call 59; refine (pick_any g (q + 9 + 2 * (8 - gk)) _ _ (by first | exact (D0.keep (below_drew wr)).rdr | exact (D0.keep (bt (below_alloc wr _) (below_drew _))).rdr) (by omega) (by omega) (by omega)).mono ?_; rintro e w5 ⟨i0, rfl, hi0, hr5, hf5⟩; have D5 : DrSt w w5 g (q + 9 + 2 * (8 - gk) + 1) (w.heap.size + 1) w.heap.size w1.heap.size (.slice (some ⟨g1, 0, none⟩) 8 c1) (.slice (some ⟨g2, 0, none⟩) l2.length c2) m1 l2 := (by first | exact (D0.keep (below_drew wr)).drawn hr5 hf5 (by omega) (by omega) (by omega) | exact (D0.keep (bt (below_alloc wr _) (below_drew _))).drawn hr5 hf5 (by omega) (by omega) (by omega)); have LIT5 : wr.heap.size < w5.heap.size → RInts w5 (.slice (some ⟨wr.heap.size, 0, none⟩) 6 6) [0, 2, 3, 1, 4, 5] ∨ True := (fun _ => by first | exact .inl (RInts.kept (HLIT.out.keep (below_drew _)) hf5 (fun k hk e => by simp [Value.ownBlock] at hk; omega)) | exact .inr trivial))
              | (go_at_call 60; refine (num_any g (q + 9 + 2 * (8 - gk) + 1) _ [0, 2, 3, 1, 4, 5] _ (by first | exact D5.rdr | exact (D5.keep (below_alloc w5 _)).rdr) (by first | exact lit_ints w5 [0, 2, 3, 1, 4, 5] (by decide) | exact RInts.kept (HLIT.out.keep (below_drew _)) hf5 (fun k hk e => by simp [Value.ownBlock] at hk; omega)) (by omega) (by decide) (by decide) (fun k hk e => by simp [Value.ownBlock] at hk; have := D5.rdr.lt; omega)).mono ?_; rintro e w6 ⟨n, _, rfl, hr6, hf6⟩; have D6 : DrSt w w6 g (q + 9 + 2 * (8 - gk) + 1 + 1) (w.heap.size + 1) w.heap.size w1.heap.size (.slice (some ⟨g1, 0, none⟩) 8 c1) (.slice (some ⟨g2, 0, none⟩) l2.length c2) m1 l2 := (by first | exact D5.drawn hr6 hf6 (by omega) (by omega) (by omega) | exact (D5.keep (below_alloc w5 _)).drawn hr6 hf6 (by omega) (by omega) (by omega)); obtain ⟨hck6, hfz6⟩ := own_cell D6.own.two i0 (by rw [HL2.out]; omega)))
          all_goals
            have D7 := D6.set2 i0 n (by omega) (by omega) (by omega) (by omega)
            have HD7 := Lib.hid D7
            clear D7 D6 D5 D0 hf5 hf6 hck6 hfz6 hr5 hr6 HLIT
            go_wp2
            go_roundg (gk - 1)
            case rel => exact ⟨j - 1, m1, l2.set i0 n, by omega, by omega, by rw [show ((j - 1 : Nat) : Int) = (j : Int) - 1 by omega], HM1.out, by rw [List.length_set]; exact HL2.out, by have := HD7.out.own; rw [HL2.out] at this; exact this, HD7.out.rdr.more (by omega), HD7.out.boxA, by have := HD7.out.boxB; rw [HL2.out] at this; exact this, HD7.out.fr⟩
            case measure => omega
        · obtain rfl : j = 0 := by omega
          have ha0 := box0 HBA.out
          have ha1 := box1 HBA.out
          have haz := boxz HBA.out 0
          have haz1 := boxz HBA.out 1
          go_wp2
          refine bodyPost_ret (v := .agg #[.slice (some ⟨g1, 0, none⟩) 8 c1, .slice (some ⟨g2, 0, none⟩) 8 c2]) (by simp [results, Tryz.results66, go_sem, ha0, ha1]) rfl ?_
          refine ⟨_, _, m1, l2, rfl, HM1.out, HL2.out, ?_, ?_, ?_⟩
          · have h1 := OwnSt.kept hst2 (fr_set wr ⟨w.heap.size, 0, none⟩ (.slice (some ⟨g1, 0, none⟩) 8 c1)) (fun k h1 h2 e => by simp at e; omega)
            have h2 := OwnSt.kept h1 (fr_set _ ⟨w.heap.size, 1, none⟩ (.slice (some ⟨g2, 0, none⟩) 8 c2)) (fun k h1 h2 e => by simp at e; omega)
            rw [HL2.out] at h2
            exact h2.mono (by omega)
          · have h1 := hr.kept (fr_set wr ⟨w.heap.size, 0, none⟩ (.slice (some ⟨g1, 0, none⟩) 8 c1)) (fun k h1 e => by simp at e; omega)
            have h2 := h1.kept (fr_set _ ⟨w.heap.size, 1, none⟩ (.slice (some ⟨g2, 0, none⟩) 8 c2)) (fun k h1 e => by simp at e; omega)
            exact h2.more (by omega)
          · exact (hf.then (fr_set _ _ _) (fun i hi e => by simp at e; omega)).then (fr_set _ _ _) (fun i hi e => by simp at e; omega)
end Go.Proofs.YtgfnoinkajfndaaGreat
/- Bytes that come in. -/
namespace Go.Proofs.YtgfnoinkajfndaaGreat
open Go.ChangeShapes Go.WideShapes Go.ChangeAt Go.RowKit Go.Joins

/-- A slice of bytes that came in can be read. -/
theorem bytes_of_trod {H : Type} {enc : TypeId × Value → H} {P : Program} {W : World} {t e : TypeId} {fuel : Nat} {v : Value} {y : DataW H × List MemPlace}
    (ht : P.underlying t = some (.slice e)) (he : P.underlying e = some (.int .u8)) (hc : P.cellsOf e = 1) (h : DataW.trod enc P W 0 (fun _ => true) true fuel t [v] = some y) :
    ∃ n, RBytes W v n := by
  rcases open_ints ht he hc h with ⟨hcs, _⟩ | ⟨a, len, cap, zs, hcs, _, hl, hm, hz, _, hcell, hwz⟩
  · simp at hcs; subst hcs; exact ⟨0, fun _ => 0, .inl ⟨none, 0, rfl, rfl, Nat.zero_le _, fun _ => rfl⟩, fun _ => by constructor <;> simp⟩
  · simp at hcs; subst hcs
    simp only [if_true] at hz
    refine ⟨len, fun i => zs.getD i 0, ?_, ?_⟩
    · by_cases h0 : len = 0
      · subst h0
        exact .inl ⟨some a, cap, rfl, rfl, hm, by simp⟩
      · obtain ⟨b, o, sp⟩ := a
        have hc0 := hcell 0 (by omega)
        have hsp : sp = none := by simpa [Addr.add] using World.cell?_spot hc0
        subst hsp
        refine .inr ⟨b, o, cap, rfl, by omega, hm, fun i hi => ?_⟩
        have := hcell i (by omega)
        have e : (⟨b, o, none⟩ : Addr).add i = ⟨b, o + i, none⟩ := by unfold Addr.add; split <;> simp_all
        rw [e] at this
        simpa using this
    · intro i
      have := range_u8 hwz i
      simpa [List.getD_eq_getElem?_getD] using this
end Go.Proofs.YtgfnoinkajfndaaGreat
