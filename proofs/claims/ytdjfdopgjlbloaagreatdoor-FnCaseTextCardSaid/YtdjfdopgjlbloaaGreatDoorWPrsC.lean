/- Walks: impl.parseDigit. -/
import Derived.Test.YtdjfdopgjlbloaaGreatDoorWPrsP
import Derived.Shelf.Strings.Builder1
import Derived.Shelf.Utf8.RuneCount
import Derived.Shelf.Strconv.Itoa0
import Derived.Shelf.Strconv.Itoa1
import Derived.Shelf.LaysM
import Derived.Shelf.Strconv.Itoa2
import Derived.Shelf.Strconv.Itoa3
import Derived.Shelf.Strings.Search1
import Derived.Shelf.Strings.Search2
import Derived.Shelf.Strings.Search3
import Derived.Shelf.Strings.Count
import Derived.Shelf.Strings.Shaped
import Derived.Shelf.Strings.Split
import Derived.Shelf.Strings.SplitShaped
import Derived.Shelf.Unicode.Decode
import Derived.Shelf.Strings.RuneCount
import Derived.Shelf.Strings.Explode
import Derived.Shelf.Unicode.DecodeSlow
import Derived.Shelf.Unicode.DecodeAny
import Derived.Test.YtdjfdopgjlbloaaGreatDoorProg
namespace Go.Proofs.YtdjfdopgjlbloaaGreatDoor
open Go.RowKit

theorem digO_len {t : List UInt8} (h : t.length ≠ 1) : digO t = none := by
  match t, h with
  | [], _ => rfl
  | [b], h => exact absurd rfl h
  | a :: b :: r, _ => rfl
set_option maxHeartbeats 1600000 in
theorem digitI_any (t : List UInt8) (w : World) :
    Calls Tryz.prog 34 #[.string (btx t)] w fun e w' => e = .returned (.tuple #[.int .i64 ((digO t).getD 0), .bool (digO t).isSome]) ∧ w' = w := by
  by_cases h1 : t.length = 1
  · match t, h1 with
    | [b], _ =>
    have hsz : (btx [b]).size = 1 := rfl
    obtain ⟨d, hd⟩ : ∃ d, b.toNat = d := ⟨_, rfl⟩
    have hg : ((btx [b])[0].toNat : Int) = (d : Int) := by rw [← hd]; rfl
    have hd255 : d < 256 := by rw [← hd]; exact UInt8.toNat_lt _
    have HD := Lib.hid hd
    clear hd
    by_cases c1 : 48 ≤ d
    · have t1 : decide ((d : Int) < 48) = false := by simp; omega
      by_cases c2 : d ≤ 56
      · have t2 : decide (56 < (d : Int)) = false := by simp; omega
        have hv : digO [b] = some ((d : Int) - 48) := by rw [digO, HD.out, if_pos ⟨c1, c2⟩]
        have HV := Lib.hid hv
        clear hv
        go_enter Tryz.func34, Tryz.ntmps34
        go_wp2
        refine bodyPost_ret (v := .tuple #[.int .i64 ((d : Int) - 48), .bool true]) (by simp [results, Tryz.results34, go_sem]) rfl ?_
        exact ⟨by rw [HV.out]; rfl, rfl⟩
      · have t2 : decide (56 < (d : Int)) = true := by simp; omega
        have hv : digO [b] = none := by rw [digO, HD.out, if_neg (by omega)]
        have HV := Lib.hid hv
        clear hv c2
        go_enter Tryz.func34, Tryz.ntmps34
        go_wp2
        refine bodyPost_ret (v := .tuple #[.int .i64 0, .bool false]) (by simp [results, Tryz.results34, go_sem]) rfl ?_
        exact ⟨by rw [HV.out]; rfl, rfl⟩
    · have t1 : decide ((d : Int) < 48) = true := by simp; omega
      have hv : digO [b] = none := by rw [digO, HD.out, if_neg (by omega)]
      have HV := Lib.hid hv
      clear hv c1
      go_enter Tryz.func34, Tryz.ntmps34
      go_wp2
      refine bodyPost_ret (v := .tuple #[.int .i64 0, .bool false]) (by simp [results, Tryz.results34, go_sem]) rfl ?_
      exact ⟨by rw [HV.out]; rfl, rfl⟩
  · have HV := Lib.hid (digO_len h1)
    obtain ⟨m, hm⟩ : ∃ m, (btx t).size = m := ⟨_, rfl⟩
    have h2 : ((m : Int) != 1) = true := by
      have : m ≠ 1 := fun e => h1 (by rw [← e, ← hm]; rfl)
      simp; omega
    clear h1
    go_enter Tryz.func34, Tryz.ntmps34
    go_wp2
    refine bodyPost_ret (v := .tuple #[.int .i64 0, .bool false]) (by simp [results, Tryz.results34, go_sem]) rfl ?_
    exact ⟨by rw [HV.out]; rfl, rfl⟩
/-- What the reference reads of a row of numbers is a row of numbers. -/
theorem ReadTo.back {l m : List Int} (hl : ∀ n ∈ l, -1 ≤ n ∧ n ≤ 8) (h9 : l.length ≤ 9) (h : ReadTo (l.map numT) (min (l.map numT).length 9) m) : m = l :=
  reads_back hl h9 ⟨h.len, fun i n hi h0 h1 e => h.at_ i n (by rw [h.len] at hi; exact hi) h0 h1 e⟩
end Go.Proofs.YtdjfdopgjlbloaaGreatDoor
/- Contracts of the library at this seat's numbers: cut by shelfcut.py out of what lay-shelf.mjs and lay-plain.mjs wrote (Ytdjfdopgjlbloaa.ZD). -/
namespace Go.Proofs
open Go.Shelf
def Tryz.lays146_ren : Go.Shelf.Ren := ⟨fun | 146 => 16 | 221 => 33 | 268 => 49 | 138 => 50 | 143 => 51 | 195 => 68 | 197 => 69 | 218 => 70 | 219 => 71 | 260 => 87 | 217 => 88 | 225 => 89 | 224 => 90 | 267 => 91 | 266 => 98 | 314 => 99 | n => n, fun | 9 => 9 | 31 => 50 | 3 => 3 | 4 => 4 | 0 => 0 | 105 => 109 | 21 => 21 | 5 => 5 | 46 => 128 | 119 => 135 | 139 => 138 | 138 => 137 | 146 => 139 | 51 => 126 | n => n, fun | 1 => 1 | 3 => 2 | 4 => 3 | n => n⟩
theorem Tryz.lays146 : Go.Proofs.Lays.n146 Tryz.prog Tryz.lays146_ren := {
  mixed := by kernel_rfl
  f138 := Tryz.func50.trans (congrArg some (by kernel_rfl))
  f143 := Tryz.func51.trans (congrArg some (by kernel_rfl))
  f146 := Tryz.func16.trans (congrArg some (by kernel_rfl))
  f195 := Tryz.func68.trans (congrArg some (by kernel_rfl))
  f197 := Tryz.func69.trans (congrArg some (by kernel_rfl))
  f217 := Tryz.func88.trans (congrArg some (by kernel_rfl))
  f218 := Tryz.func70.trans (congrArg some (by kernel_rfl))
  f219 := Tryz.func71.trans (congrArg some (by kernel_rfl))
  f221 := Tryz.func33.trans (congrArg some (by kernel_rfl))
  f224 := Tryz.func90.trans (congrArg some (by kernel_rfl))
  f225 := Tryz.func89.trans (congrArg some (by kernel_rfl))
  f260 := Tryz.func87.trans (congrArg some (by kernel_rfl))
  f266 := Tryz.func98.trans (congrArg some (by kernel_rfl))
  f267 := Tryz.func91.trans (congrArg some (by kernel_rfl))
  f268 := Tryz.func49.trans (congrArg some (by kernel_rfl))
  f314 := Tryz.func99.trans (congrArg some (by kernel_rfl))
  t0 := Tryz.underlying0
  a0 := Tryz.isAgg0
  z0 := Tryz.sizeOf0
  v0 := Tryz.zeroValue0
  t3 := Tryz.underlying3
  a3 := Tryz.isAgg3
  z3 := Tryz.sizeOf3
  v3 := Tryz.zeroValue3
  t4 := Tryz.underlying4
  a4 := Tryz.isAgg4
  z4 := Tryz.sizeOf4
  v4 := Tryz.zeroValue4
  t5 := Tryz.underlying5
  a5 := Tryz.isAgg5
  z5 := Tryz.sizeOf5
  v5 := Tryz.zeroValue5
  t9 := Tryz.underlying9
  a9 := Tryz.isAgg9
  z9 := Tryz.sizeOf9
  v9 := Tryz.zeroValue9
  t21 := Tryz.underlying21
  a21 := Tryz.isAgg21
  z21 := Tryz.sizeOf21
  v21 := Tryz.zeroValue21
  t31 := Tryz.underlying50
  a31 := Tryz.isAgg50
  z31 := Tryz.sizeOf50
  v31 := Tryz.zeroValue50
  t46 := Tryz.underlying128
  a46 := Tryz.isAgg128
  z46 := Tryz.sizeOf128
  v46 := Tryz.zeroValue128
  t51 := Tryz.underlying126
  a51 := Tryz.isAgg126
  z51 := Tryz.sizeOf126
  v51 := Tryz.zeroValue126
  t105 := Tryz.underlying109
  a105 := Tryz.isAgg109
  z105 := Tryz.sizeOf109
  v105 := Tryz.zeroValue109
  t119 := Tryz.underlying135
  a119 := Tryz.isAgg135
  z119 := Tryz.sizeOf135
  t138 := Tryz.underlying137
  a138 := Tryz.isAgg137
  z138 := Tryz.sizeOf137
  v138 := Tryz.zeroValue137
  t139 := Tryz.underlying138
  a139 := Tryz.isAgg138
  z139 := Tryz.sizeOf138
  v139 := Tryz.zeroValue138
  t146 := Tryz.underlying139
  a146 := Tryz.isAgg139
  z146 := Tryz.sizeOf139
  v146 := Tryz.zeroValue139
  g1 := by kernel_rfl
  g3 := by kernel_rfl
  g4 := by kernel_rfl }
open Go.RowKit Go.Lib in
theorem Tryz.strings_Split (s sep : ByteArray) (m : Int) (w : World) (hs : s.size < 4294967281) (hm : w.cell? ⟨1, 0, none⟩ = some (.int .i64 m)) (h1 : 1 ≤ sep.size) :
    Calls Tryz.prog 16 #[.string s, .string sep] w fun e w' =>
      e = .returned (.slice (some ⟨w.heap.size, 0, none⟩) (Lib.countB s sep + 1) (Lib.countB s sep + 1)) ∧ w' = w.alloc (.cells ((Lib.splitB sep 0 (Lib.countB s sep) s).map Value.string).toArray 9) := Any.strings_Split Tryz.lays146 (by kernel_rfl) s sep m w hs hm h1
end Go.Proofs
/- strings.Split at a sign of one byte cuts as cutL does. -/
namespace Go.Proofs.YtdjfdopgjlbloaaGreatDoor
open Go.RowKit

theorem idx_none {c : UInt8} : ∀ {s : List UInt8}, c ∉ s → Lib.indexByte s c = -1
  | [], _ => rfl
  | b :: s, h => by
    rw [List.mem_cons, not_or] at h
    have hb : (b == c) = false := beq_eq_false_iff_ne.2 fun e => h.1 e.symm
    rw [Lib.indexByte, hb, idx_none h.2]; rfl
theorem idx_app {c : UInt8} : ∀ {x : List UInt8} (s : List UInt8), c ∉ x → Lib.indexByte (x ++ c :: s) c = x.length
  | [], s, _ => by rw [List.nil_append, Lib.indexByte]; simp
  | b :: x, s, h => by
    rw [List.mem_cons, not_or] at h
    have hb : (b == c) = false := beq_eq_false_iff_ne.2 fun e => h.1 e.symm
    rw [List.cons_append, Lib.indexByte, hb, idx_app s h.2]
    have : ((x.length : Int) == -1) = false := beq_eq_false_iff_ne.2 (by omega)
    rw [this]; simp
theorem idxB (t : List UInt8) (c : UInt8) : Lib.indexB (btx t) (btx [c]) = Lib.indexByte t c := Lib.index_one t c
theorem split_cut (c : UInt8) : ∀ (n : Nat) (t : List UInt8), t.length ≤ n → Lib.splitB (btx [c]) 0 (Lib.countB (btx t) (btx [c])) (btx t) = (cutL c t).map btx ∧ Lib.countB (btx t) (btx [c]) + 1 = (cutL c t).length := fun n => by
  induction n with
  | zero =>
    intro t ht
    have : t = [] := List.length_eq_zero_iff.1 (by omega)
    subst this
    have h : Lib.indexB (btx []) (btx [c]) = -1 := by rw [idxB]; rfl
    rw [Lib.countB_miss _ _ h, Lib.splitB_zero]
    exact ⟨rfl, rfl⟩
  | succ n ih =>
    intro t ht
    by_cases hc : c ∈ t
    · obtain ⟨x, r, rfl, hx⟩ := List.eq_append_cons_of_mem hc
      have h : Lib.indexB (btx (x ++ c :: r)) (btx [c]) = (x.length : Nat) := by rw [idxB, idx_app r hx]
      have e1 : (btx (x ++ c :: r)).extract (x.length + (btx [c]).size) (btx (x ++ c :: r)).size = btx r := by
        rw [btx_extract, piece, show (btx (x ++ c :: r)).size = (x ++ c :: r).length from rfl, List.take_length, show (btx [c]).size = 1 from rfl]
        congr 1; simp
      have e2 : (btx (x ++ c :: r)).extract 0 (x.length + 0) = btx x := by
        rw [btx_extract, piece, Nat.add_zero]; simp
      have hr := ih r (by simp at ht; omega)
      rw [Lib.countB_hit _ _ x.length (Nat.le_refl _) h, e1, Nat.add_comm 1, Lib.splitB_hit _ _ _ _ x.length h, e1, e2, cutL_app r hx]
      exact ⟨by rw [List.map_cons, hr.1], by rw [List.length_cons, hr.2]⟩
    · have h : Lib.indexB (btx t) (btx [c]) = -1 := by rw [idxB, idx_none hc]
      rw [Lib.countB_miss _ _ h, Lib.splitB_zero, cutL_none hc]
      exact ⟨rfl, rfl⟩
end Go.Proofs.YtdjfdopgjlbloaaGreatDoor
