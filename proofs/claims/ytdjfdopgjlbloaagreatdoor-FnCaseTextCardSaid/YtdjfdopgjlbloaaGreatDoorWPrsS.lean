/- Walks: spec.l18Cut (a text cut at a sign). -/
import Derived.Test.YtdjfdopgjlbloaaGreatDoorWFmtS
import Derived.Handy
import Derived.Deep.DeepMust
namespace Go.Proofs.YtdjfdopgjlbloaaGreatDoor
open Go.RowKit

def strs (l : List (List UInt8)) : List Value := l.map fun x => Value.string (btx x)
theorem info_string : (Tryz.prog.info? 9).map (fun i => (i.zero, i.size, i.bytes)) = some (some (.string ⟨#[]⟩), 1, 16) := by kernel_rfl
/-- `append(s, x)` where `s` is the call's own row of texts. -/
theorem app_str {ops : Array Oper} {rest : List Oper} {o : Oper} {a : Act} {Q : Exit → Act → World → Prop} (w : World) (hgd : o.guard = none) (s x : Operand)
    (ho : o.op = .call { callee := .builtin .append, args := #[s, x], argTypes := #[50, 50] })
    (B : Nat) (v : Value) (l : List (List UInt8)) (hs : a.eval s = v) (hown : w.ownsRow B 9 1 v l.length (strs l))
    (ad : Addr) (n : List UInt8) (hx : a.eval x = .slice (some ad) 1 1) (hnew : w.cell? ad = some (.string (btx n))) (hlen : l.length < 1099511627776) (hB : B ≤ w.heap.size)
    (h : ∀ v' w', w'.ownsRow B 9 1 v' (l ++ [n]).length (strs (l ++ [n])) → Fr (fun k => some k = v.ownBlock) w w' → wpList Tryz.prog ops Q rest (a.put o.dst v') w') :
    wpList Tryz.prog ops Q (o :: rest) a w := by
  obtain ⟨i0, hi, hz0, hz1, hz2⟩ := info_parts info_string
  refine wpList_append_own w hgd s x 50 ho B 9 i0 (.string ⟨#[]⟩) 1 16 Tryz.underlying50 hi hz0 hz1 hz2 rfl (by decide) v l.length (strs l) hs hown ad 1 1 [.string (btx n)] hx rfl ?_ ?_ ?_ ?_ hB ?_
  · intro j u hj
    cases j with
    | zero => simp at hj; subst hj; simpa [Addr.add] using hnew
    | succ j => simp at hj
  · intro u hu; simp at hu; subst hu; rfl
  · unfold maxLen; omega
  · omega
  · intro v' w' h1 h2 _
    refine h v' w' ?_ (grown_fr h2)
    simpa [strs] using h1
/-- The piece from f to k. -/
def piece (t : List UInt8) (f k : Nat) : List UInt8 := (t.take k).drop f
theorem btx_extract (t : List UInt8) (f k : Nat) : (btx t).extract f k = btx (piece t f k) := by
  apply ByteArray.ext
  rw [ByteArray.data_extract]
  apply Array.toList_inj.1
  simp [btx, piece, List.drop_take]
structure CutAt (c : UInt8) (t : List UInt8) (k f : Nat) (ds : List (List UInt8)) : Prop where
  le : f ≤ k
  cut : cutL c t = ds ++ cutL c (t.drop f)
  free : c ∉ piece t f k
theorem CutAt.start (c : UInt8) (t : List UInt8) : CutAt c t 0 0 [] := ⟨Nat.le_refl _, rfl, by simp [piece]⟩
theorem piece_succ {t : List UInt8} {f k : Nat} (h : k < t.length) (hf : f ≤ k) : piece t f (k + 1) = piece t f k ++ [gd t k] := by
  rw [piece, take_gd h, List.drop_append_of_le_length (by rw [List.length_take]; omega)]; rfl
theorem CutAt.step {c : UInt8} {t : List UInt8} {k f : Nat} {ds : List (List UInt8)} (h : CutAt c t k f ds) (hk : k < t.length) (hc : gd t k ≠ c) : CutAt c t (k + 1) f ds :=
  ⟨by have := h.le; omega, h.cut, by
    rw [piece_succ hk h.le, List.mem_append]
    rintro (e | e)
    · exact h.free e
    · simp at e; exact hc e.symm⟩
theorem drop_split {t : List UInt8} {f k : Nat} (hk : k < t.length) (hf : f ≤ k) : t.drop f = piece t f k ++ gd t k :: t.drop (k + 1) := by
  have h1 : t.drop f = (t.take (k + 1)).drop f ++ t.drop (k + 1) := by
    conv => lhs; rw [← List.take_append_drop (k + 1) t]
    rw [List.drop_append_of_le_length (by rw [List.length_take]; omega)]
  rw [h1, show (t.take (k + 1)).drop f = piece t f (k + 1) from rfl, piece_succ hk hf]; simp
theorem CutAt.hit {c : UInt8} {t : List UInt8} {k f : Nat} {ds : List (List UInt8)} (h : CutAt c t k f ds) (hk : k < t.length) (hc : gd t k = c) : CutAt c t (k + 1) (k + 1) (ds ++ [piece t f k]) :=
  ⟨Nat.le_refl _, by rw [h.cut, drop_split hk h.le, hc, cutL_app _ h.free]; simp, by simp [piece]⟩
theorem CutAt.done {c : UInt8} {t : List UInt8} {f : Nat} {ds : List (List UInt8)} (h : CutAt c t t.length f ds) : cutL c t = ds ++ [piece t f t.length] := by
  have hf := h.free
  rw [piece, List.take_length] at hf ⊢
  rw [h.cut, cutL_none hf]
theorem CutAt.few {c : UInt8} {t : List UInt8} {k f : Nat} {ds : List (List UInt8)} (h : CutAt c t k f ds) : ds.length ≤ t.length := by
  have h1 := cutL_len c t
  rw [h.cut, List.length_append] at h1
  have h2 : 0 < (cutL c (t.drop f)).length := List.length_pos_iff.2 (cutL_ne c _)
  omega
attribute [local go_sem] btx_extract
set_option maxRecDepth 100000 in
set_option maxHeartbeats 1600000 in
theorem cutS_any (t : List UInt8) (c : UInt8) (w : World) (hl : t.length ≤ 1048576) :
    Calls Tryz.prog 27 #[.string (btx t), .int .u8 c.toNat] w fun e w' => ∃ v, e = .returned v ∧ w'.ownsRow w.heap.size 9 1 v (cutL c t).length (strs (cutL c t)) ∧ Below w.heap.size w w' := by
  obtain ⟨m, hm⟩ : ∃ m, t.length = m := ⟨_, rfl⟩
  have hsz : (btx t).size = m := hm
  rw [hm] at hl
  have HM := Lib.hid hm
  clear hm
  go_enter Tryz.func27, Tryz.ntmps27
  go_wp2
  go_loopg [5, 6, 7] (m + 1) (fun q v f i wr => ∃ (k g : Nat) (ds : List (List UInt8)), k + q = m + 1 ∧ i = .int .i64 k ∧ f = .int .i64 g ∧ wr.ownsRow w.heap.size 9 1 v ds.length (strs ds) ∧ (k ≤ m → CutAt c t k g ds) ∧ (k = m + 1 → ds = cutL c t) ∧ Below w.heap.size w wr)
  case atStart =>
    exact ⟨0, 0, [], by omega, rfl, rfl, World.ownsRow_lit (size := 1) w #[] 0 (Nat.le_refl _) (by decide) (by simp) (e := 9), fun _ => CutAt.start c t, fun h => by omega, Bl⟩
  case round =>
    obtain ⟨k, g, ds, hk, rfl, rfl, hown, hcut, hend, hb⟩ := hrel
    have HK := Lib.hid hk
    have HE := Lib.hid hend
    have HC := Lib.hid hcut
    clear hk hend hcut
    have hs := hb.size
    by_cases hk8 : k < m
    · have i1 : (k : Int) < (m : Int) := by omega
      have i2 : (k : Int) ≤ (m : Int) := by omega
      have i3 : ((k : Int) == (m : Int)) = false := beq_eq_false_iff_ne.2 (by omega)
      have hC := HC.out (by omega)
      have i5 : (g : Int) ≤ (k : Int) := by have := hC.le; omega
      have hkt : k < (btx t).size := by rw [hsz]; exact hk8
      have hget : (btx t)[k] = gd t k := by
        rw [gd_of (show k < t.length from hkt)]; rfl
      have FEW := hC.few
      rw [HM.out] at FEW
      by_cases hc : gd t k = c
      · have i4 : (((btx t)[k].toNat : Int) == (c.toNat : Int)) = true := by rw [hget, hc]; exact beq_self_eq_true _
        have HN := Lib.hid (hC.hit (by rw [HM.out]; exact hk8) hc)
        clear hget hC hc
        go_wp2_with (at_builtin; go_must (refine app_str _ rfl _ _ rfl w.heap.size _ ds rfl (own_keep hown (below_alloc _ _)) ⟨wr.heap.size, 0, none⟩ (piece t g k) rfl (cell_new1 _ _ _) (by omega) (by simp; omega) ?_); intro v' w1 hown1 hf1)
        go_roundg (gk - 1)
        case rel => exact ⟨k + 1, k + 1, ds ++ [piece t g k], by have := HK.out; omega, by go_num, by go_num, hown1, fun _ => HN.out, fun e => by omega, below_own (own_keep hown (below_alloc _ _)) hf1 (hb.trans ((below_alloc _ _).mono hs)) (by simp; omega)⟩
        case measure => have := HK.out; omega
      · have i4 : (((btx t)[k].toNat : Int) == (c.toNat : Int)) = false := by
          rw [hget]; refine beq_eq_false_iff_ne.2 fun e => hc (UInt8.toNat_inj.1 (by omega))
        have HN := Lib.hid (hC.step (by rw [HM.out]; exact hk8) hc)
        clear hget hC hc
        go_wp2
        go_roundg (gk - 1)
        case rel => exact ⟨k + 1, g, ds, by have := HK.out; omega, by go_num, rfl, hown, fun _ => HN.out, fun e => by omega, hb⟩
        case measure => have := HK.out; omega
    · by_cases hk9 : k = m
      · subst hk9
        have i3 : ((k : Int) == (k : Int)) = true := beq_self_eq_true _
        have hC := HC.out (Nat.le_refl _)
        have i5 : (g : Int) ≤ (k : Int) := by have := hC.le; omega
        have FEW := hC.few
        rw [HM.out] at FEW
        have hD : CutAt c t t.length g ds := by rw [HM.out]; exact hC
        have hdone := hD.done
        rw [HM.out] at hdone
        have HN := Lib.hid hdone
        clear hC hD hdone hk8
        go_wp2_with (at_builtin; go_must (refine app_str _ rfl _ _ rfl w.heap.size _ ds rfl (own_keep hown (below_alloc _ _)) ⟨wr.heap.size, 0, none⟩ (piece t g k) rfl (cell_new1 _ _ _) (by omega) (by simp; omega) ?_); intro v' w1 hown1 hf1)
        go_roundg (gk - 1)
        case rel => exact ⟨k + 1, k + 1, ds ++ [piece t g k], by have := HK.out; omega, by go_num, by go_num, hown1, fun e => by omega, fun _ => HN.out.symm, below_own (own_keep hown (below_alloc _ _)) hf1 (hb.trans ((below_alloc _ _).mono hs)) (by simp; omega)⟩
        case measure => have := HK.out; omega
      · have hke : k = m + 1 := by have := HK.out; omega
        have hds := HE.out hke
        have i2 : ¬ (k : Int) ≤ (m : Int) := by omega
        rw [hds] at hown
        clear hke hds
        go_wp2
        go_ret
        exact ⟨_, rfl, hown, hb⟩
/-- The number that digits spell. -/
def valD (l : List UInt8) : Int := l.foldl (fun x b => x * 10 + ((b.toNat : Int) - 48)) 0
theorem valD_succ {s : List UInt8} {k : Nat} (h : k < s.length) : valD (s.take (k + 1)) = valD (s.take k) * 10 + (((gd s k).toNat : Int) - 48) := by
  rw [take_gd h, valD, List.foldl_append]; rfl
theorem valD_num {n : Int} (h0 : 0 ≤ n) (h1 : n ≤ 8) : valD (numT n) = n := by
  rw [numT, if_neg (by omega)]
  have : (UInt8.ofNat (48 + n.toNat)).toNat = 48 + n.toNat := by simp; omega
  show 0 * 10 + (((UInt8.ofNat (48 + n.toNat)).toNat : Int) - 48) = n
  rw [this]; omega
theorem num_digit {n : Int} (h0 : 0 ≤ n) (h1 : n ≤ 8) {k : Nat} (hk : k < (numT n).length) : 48 ≤ (gd (numT n) k).toNat ∧ (gd (numT n) k).toNat ≤ 57 := by
  have : (UInt8.ofNat (48 + n.toNat)).toNat = 48 + n.toNat := by simp; omega
  rw [numT_len] at hk
  obtain rfl : k = 0 := by omega
  rw [numT, if_neg (by omega)]
  show 48 ≤ (UInt8.ofNat (48 + n.toNat)).toNat ∧ (UInt8.ofNat (48 + n.toNat)).toNat ≤ 57
  omega
theorem pow_small {k : Nat} (h : k ≤ 16) : (10 : Int) ^ k ≤ 10000000000000000 := by
  have := Nat.pow_le_pow_right (show 0 < 10 by decide) h
  have h2 : ((10 ^ k : Nat) : Int) ≤ ((10 ^ 16 : Nat) : Int) := Int.ofNat_le.2 this
  simpa using h2
theorem pow_small17 {k : Nat} (h : k ≤ 17) : (10 : Int) ^ k ≤ 100000000000000000 := by
  have := Nat.pow_le_pow_right (show 0 < 10 by decide) h
  have h2 : ((10 ^ k : Nat) : Int) ≤ ((10 ^ 17 : Nat) : Int) := Int.ofNat_le.2 this
  simpa using h2
theorem num_not {t : List UInt8} (h : t.length ≠ 1 ∨ gd t 0 = 45) : ∀ n : Int, 0 ≤ n → n ≤ 8 → ¬ t = numT n := fun n h0 h1 e => by
  have := num_digit h0 h1 (k := 0) (by rw [numT_len]; omega)
  rw [← e] at this
  rcases h with h | h
  · exact h (by rw [e]; exact numT_len n)
  · rw [h] at this; exact absurd this.1 (by decide)
/-- What l18Num leaves: a number, which is the digit where the text is one. -/
def NumRes (t : List UInt8) (w : World) (e : Ending) (w' : World) : Prop :=
  ∃ (x : Int) (b : Bool), e = .returned (.tuple #[.int .i64 x, .bool b]) ∧ (∀ n : Int, 0 ≤ n → n ≤ 8 → t = numT n → x = n) ∧ Below w.heap.size w w'
theorem NumRes.mk {t : List UInt8} {w w' : World} {e : Ending} (r : Int × Bool) (h : e = .returned (.tuple #[.int .i64 r.1, .bool r.2])) (h1 : ∀ n : Int, 0 ≤ n → n ≤ 8 → t = numT n → r.1 = n) (h2 : Below w.heap.size w w') : NumRes t w e w' :=
  ⟨r.1, r.2, h, h1, h2⟩
attribute [local go_sem] btx_extract
set_option maxRecDepth 100000 in
set_option maxHeartbeats 3200000 in
theorem numS_any (t : List UInt8) (w : World) (hl : t.length ≤ 1048576) :
    Calls Tryz.prog 46 #[.string (btx t)] w (NumRes t w) := by
  obtain ⟨m, hm⟩ : ∃ m, t.length = m := ⟨_, rfl⟩
  have hsz : (btx t).size = m := hm
  rw [hm] at hl
  have HM := Lib.hid hm
  clear hm
  by_cases hm0 : m = 0
  · subst hm0
    have NOT := num_not (t := t) (.inl (by rw [HM.out]; decide))
    go_enter Tryz.func46, Tryz.ntmps46
    go_wp2
    refine bodyPost_ret (v := .tuple #[.int .i64 (0), .bool false]) (by simp [results, Tryz.results46, go_sem]) rfl ?_
    exact NumRes.mk (0, false) rfl (fun n h0 h1 e => absurd e (NOT n h0 h1)) (Below.refl _ _)
  have m0 : (0 : Int) < (m : Int) := by omega
  have m1 : ((m : Int) == 0) = false := beq_eq_false_iff_ne.2 (by omega)
  have hk0 : 0 < (btx t).size := by rw [hsz]; omega
  have hg0 : (btx t)[0] = gd t 0 := by rw [gd_of (show 0 < t.length from hk0)]; rfl
  obtain ⟨b, hb0⟩ : ∃ b, (gd t 0).toNat = b := ⟨_, rfl⟩
  have hgb : ((btx t)[0].toNat : Int) = (b : Int) := by rw [hg0, hb0]
  have HB0 := Lib.hid hb0
  clear hg0 hb0
  by_cases h45 : b = 45
  · have NOT := num_not (t := t) (.inr (UInt8.toNat_inj.1 (by rw [HB0.out, h45]; rfl)))
    have j1 : ((b : Int) == 45) = true := beq_iff_eq.2 (by omega)
    have s1 : (1 : Int) ≤ (m : Int) := by omega
    obtain ⟨r, hr⟩ : ∃ r, piece t 1 m = r := ⟨_, rfl⟩
    obtain ⟨q, hq⟩ : ∃ q, r.length = q := ⟨_, rfl⟩
    have hqm : q + 1 = m := by rw [← hq, ← hr, piece, List.length_drop, List.length_take, HM.out]; omega
    have hqs : (btx r).size = q := hq
    have HQ := Lib.hid hq
    clear h45 hq
    by_cases hq0 : q = 0
    · have j5 : ((q : Int) == 0) = true := beq_iff_eq.2 (by omega)
      clear hq0 hm0 hqm
      go_enter Tryz.func46, Tryz.ntmps46
      go_wp2
      refine bodyPost_ret (v := .tuple #[.int .i64 (0), .bool false]) (by simp [results, Tryz.results46, go_sem]) rfl ?_
      exact NumRes.mk (0, false) rfl (fun n h0 h1 e => absurd e (NOT n h0 h1)) (Below.refl _ _)
    · have j5 : ((q : Int) == 0) = false := beq_eq_false_iff_ne.2 (by omega)
      by_cases h17 : q ≤ 17
      · have j2 : decide (17 < (q : Int)) = false := by simp; omega
        have hk1 : 0 < (btx r).size := by rw [hqs]; omega
        have hk1q : (0 : Int) < (q : Int) := by omega
        obtain ⟨b1, hb1⟩ : ∃ b, ((btx r)[0].toNat : Int) = b := ⟨_, rfl⟩
        by_cases hz : b1 = 48
        · have j3 : (b1 == 48) = true := beq_iff_eq.2 hz
          obtain ⟨c2, hc2⟩ : ∃ c, decide (1 < (q : Int)) = c := ⟨_, rfl⟩
          clear hz hq0 hm0 hqm
          go_enter Tryz.func46, Tryz.ntmps46
          cases c2
          · go_wp2
            refine bodyPost_ret (v := .tuple #[.int .i64 (0), .bool false]) (by simp [results, Tryz.results46, go_sem]) rfl ?_
            exact NumRes.mk (0, false) rfl (fun n h0 h1 e => absurd e (NOT n h0 h1)) (Below.refl _ _)
          · go_wp2
            refine bodyPost_ret (v := .tuple #[.int .i64 (0), .bool false]) (by simp [results, Tryz.results46, go_sem]) rfl ?_
            exact NumRes.mk (0, false) rfl (fun n h0 h1 e => absurd e (NOT n h0 h1)) (Below.refl _ _)
        · have j3 : (b1 == 48) = false := beq_eq_false_iff_ne.2 hz
          clear hz hq0 hm0 hqm
          go_enter Tryz.func46, Tryz.ntmps46
          go_wp2
          go_loopg [5, 6] q (fun z x i wr => ∃ k : Nat, k + z = q ∧ i = .int .i64 k ∧ x = .int .i64 (valD (r.take k)) ∧ (0 ≤ valD (r.take k) ∧ valD (r.take k) + 1 ≤ (10 : Int) ^ k) ∧ Below w.heap.size w wr)
          case atStart => exact ⟨0, by omega, rfl, rfl, by simp [valD], Below.refl _ _⟩
          case round =>
            obtain ⟨k, hk, rfl, rfl, ⟨hx0, hx1⟩, hb⟩ := hrel
            have HK := Lib.hid hk
            clear hk
            by_cases hk8' : k < q
            · have hk8 : k < r.length := by rw [HQ.out]; exact hk8'
              have i1 : (k : Int) < (q : Int) := by omega
              have hkt : k < (btx r).size := hk8
              have hget : (btx r)[k] = gd r k := by rw [gd_of hk8]; rfl
              have hst := valD_succ hk8
              obtain ⟨x, hx⟩ : ∃ x, valD (r.take k) = x := ⟨_, rfl⟩
              rw [hx] at hx0 hx1 hst ⊢
              have hpw : (10 : Int) ^ k ≤ 10000000000000000 := pow_small (by omega)
              obtain ⟨d, hd⟩ : ∃ d, (gd r k).toNat = d := ⟨_, rfl⟩
              have hgd : ((btx r)[k].toNat : Int) = (d : Int) := by rw [hget, hd]
              rw [hd] at hst
              have hd255 : d < 256 := by rw [← hd]; exact UInt8.toNat_lt _
              have HX := Lib.hid (And.intro hx hst)
              have HD := Lib.hid hd
              have HP := Lib.hid (And.intro hx1 hpw)
              clear hx hst hget hd
              by_cases hd1 : 48 ≤ d
              · by_cases hd2 : d ≤ 57
                · have t1 : decide ((d : Int) < 48) = false := by simp; omega
                  have t2 : decide (57 < (d : Int)) = false := by simp; omega
                  have hx1 := HP.out.1
                  have hpw := HP.out.2
                  go_wp2
                  go_roundg (gk - 1)
                  case rel => exact ⟨k + 1, by have := HK.out; omega, by go_num, by rw [HX.out.2], by rw [HX.out.2, Int.pow_succ]; have := HP.out.1; omega, hb⟩
                  case measure => have := HK.out; omega
                · have t1 : decide ((d : Int) < 48) = false := by simp; omega
                  have t2 : decide (57 < (d : Int)) = true := by simp; omega
                  have HB := Lib.hid (show ¬ (48 ≤ (gd r k).toNat ∧ (gd r k).toNat ≤ 57) by rw [HD.out]; omega)
                  clear hd1 hd2
                  go_wp2
                  refine bodyPost_ret (v := .tuple #[.int .i64 (0), .bool false]) (by simp [results, Tryz.results46, go_sem]) rfl ?_
                  exact NumRes.mk (0, false) rfl (fun n h0 h1 e => absurd e (NOT n h0 h1)) (hb)
              · have t1 : decide ((d : Int) < 48) = true := by simp; omega
                have HB := Lib.hid (show ¬ (48 ≤ (gd r k).toNat ∧ (gd r k).toNat ≤ 57) by rw [HD.out]; omega)
                clear hd1
                go_wp2
                refine bodyPost_ret (v := .tuple #[.int .i64 (0), .bool false]) (by simp [results, Tryz.results46, go_sem]) rfl ?_
                exact NumRes.mk (0, false) rfl (fun n h0 h1 e => absurd e (NOT n h0 h1)) (hb)
            · obtain rfl : k = q := by have := HK.out; omega
              have hx : valD (r.take k) = valD r := by rw [List.take_of_length_le (by rw [HQ.out]; exact Nat.le_refl _)]
              rw [hx] at hx0 hx1 ⊢
              have hpw : (10 : Int) ^ k ≤ 100000000000000000 := pow_small17 (by omega)
              have HX := Lib.hid (rfl : valD r = valD r)
              clear hx
              go_wp2
              refine bodyPost_ret (v := .tuple #[.int .i64 (-valD r), .bool true]) (by simp [results, Tryz.results46, go_sem]) rfl ?_
              exact NumRes.mk (-valD r, true) rfl (fun n h0 h1 e => absurd e (NOT n h0 h1)) (hb)
      · have j2 : decide (17 < (q : Int)) = true := by simp; omega
        clear hq0 hm0 hqm h17
        go_enter Tryz.func46, Tryz.ntmps46
        go_wp2
        refine bodyPost_ret (v := .tuple #[.int .i64 (0), .bool false]) (by simp [results, Tryz.results46, go_sem]) rfl ?_
        exact NumRes.mk (0, false) rfl (fun n h0 h1 e => absurd e (NOT n h0 h1)) (Below.refl _ _)
  · have j1 : ((b : Int) == 45) = false := beq_eq_false_iff_ne.2 (by omega)
    by_cases h17 : m ≤ 17
    · have j2 : decide (17 < (m : Int)) = false := by simp; omega
      by_cases hz : b = 48 ∧ 1 < m
      · have j3 : ((b : Int) == 48) = true := beq_iff_eq.2 (by omega)
        have j4 : decide (1 < (m : Int)) = true := by simp; omega
        have NOT := num_not (t := t) (.inl (by rw [HM.out]; omega))
        clear h45 hz hm0
        go_enter Tryz.func46, Tryz.ntmps46
        go_wp2
        refine bodyPost_ret (v := .tuple #[.int .i64 (0), .bool false]) (by simp [results, Tryz.results46, go_sem]) rfl ?_
        exact NumRes.mk (0, false) rfl (fun n h0 h1 e => absurd e (NOT n h0 h1)) (Below.refl _ _)
      · obtain ⟨c1, hc1⟩ : ∃ c, ((b : Int) == 48) = c := ⟨_, rfl⟩
        obtain ⟨q, hq⟩ : ∃ q, m = q := ⟨_, rfl⟩
        have HQ := Lib.hid (HM.out.trans hq)
        have hqs : (btx t).size = q := HQ.out
        by_cases hz1 : b = 48
        · have j3 : ((b : Int) == 48) = true := beq_iff_eq.2 (by omega)
          have j4 : decide (1 < (m : Int)) = false := by simp; omega
          subst hq
          clear h45 hz hm0 hc1 hqs hz1
          go_enter Tryz.func46, Tryz.ntmps46
          go_wp2
          go_loopg [5, 6] m (fun z x i wr => ∃ k : Nat, k + z = m ∧ i = .int .i64 k ∧ x = .int .i64 (valD (t.take k)) ∧ (0 ≤ valD (t.take k) ∧ valD (t.take k) + 1 ≤ (10 : Int) ^ k) ∧ Below w.heap.size w wr)
          case atStart => exact ⟨0, by omega, rfl, rfl, by simp [valD], Below.refl _ _⟩
          case round =>
            obtain ⟨k, hk, rfl, rfl, ⟨hx0, hx1⟩, hb⟩ := hrel
            have HK := Lib.hid hk
            clear hk
            by_cases hk8' : k < m
            · have hk8 : k < t.length := by rw [HQ.out]; exact hk8'
              have i1 : (k : Int) < (m : Int) := by omega
              have hkt : k < (btx t).size := hk8
              have hget : (btx t)[k] = gd t k := by rw [gd_of hk8]; rfl
              have hst := valD_succ hk8
              obtain ⟨x, hx⟩ : ∃ x, valD (t.take k) = x := ⟨_, rfl⟩
              rw [hx] at hx0 hx1 hst ⊢
              have hpw : (10 : Int) ^ k ≤ 10000000000000000 := pow_small (by omega)
              obtain ⟨d, hd⟩ : ∃ d, (gd t k).toNat = d := ⟨_, rfl⟩
              have hgd : ((btx t)[k].toNat : Int) = (d : Int) := by rw [hget, hd]
              rw [hd] at hst
              have hd255 : d < 256 := by rw [← hd]; exact UInt8.toNat_lt _
              have HX := Lib.hid (And.intro hx hst)
              have HD := Lib.hid hd
              have HP := Lib.hid (And.intro hx1 hpw)
              clear hx hst hget hd
              by_cases hd1 : 48 ≤ d
              · by_cases hd2 : d ≤ 57
                · have t1 : decide ((d : Int) < 48) = false := by simp; omega
                  have t2 : decide (57 < (d : Int)) = false := by simp; omega
                  have hx1 := HP.out.1
                  have hpw := HP.out.2
                  go_wp2
                  go_roundg (gk - 1)
                  case rel => exact ⟨k + 1, by have := HK.out; omega, by go_num, by rw [HX.out.2], by rw [HX.out.2, Int.pow_succ]; have := HP.out.1; omega, hb⟩
                  case measure => have := HK.out; omega
                · have t1 : decide ((d : Int) < 48) = false := by simp; omega
                  have t2 : decide (57 < (d : Int)) = true := by simp; omega
                  have HB := Lib.hid (show ¬ (48 ≤ (gd t k).toNat ∧ (gd t k).toNat ≤ 57) by rw [HD.out]; omega)
                  clear hd1 hd2
                  go_wp2
                  refine bodyPost_ret (v := .tuple #[.int .i64 (0), .bool false]) (by simp [results, Tryz.results46, go_sem]) rfl ?_
                  exact NumRes.mk (0, false) rfl (fun n h0 h1 e => absurd e (fun e => HB.out (by rw [e] at hk8 ⊢; exact num_digit h0 h1 hk8))) (hb)
              · have t1 : decide ((d : Int) < 48) = true := by simp; omega
                have HB := Lib.hid (show ¬ (48 ≤ (gd t k).toNat ∧ (gd t k).toNat ≤ 57) by rw [HD.out]; omega)
                clear hd1
                go_wp2
                refine bodyPost_ret (v := .tuple #[.int .i64 (0), .bool false]) (by simp [results, Tryz.results46, go_sem]) rfl ?_
                exact NumRes.mk (0, false) rfl (fun n h0 h1 e => absurd e (fun e => HB.out (by rw [e] at hk8 ⊢; exact num_digit h0 h1 hk8))) (hb)
            · obtain rfl : k = m := by have := HK.out; omega
              have hx : valD (t.take k) = valD t := by rw [List.take_of_length_le (by rw [HQ.out]; exact Nat.le_refl _)]
              rw [hx] at hx0 hx1 ⊢
              have hpw : (10 : Int) ^ k ≤ 100000000000000000 := pow_small17 (by omega)
              have HX := Lib.hid (rfl : valD t = valD t)
              clear hx
              go_wp2
              refine bodyPost_ret (v := .tuple #[.int .i64 (valD t), .bool true]) (by simp [results, Tryz.results46, go_sem]) rfl ?_
              exact NumRes.mk (valD t, true) rfl (fun n h0 h1 e => by rw [e, valD_num h0 h1]) (hb)
        · have j3 : ((b : Int) == 48) = false := beq_eq_false_iff_ne.2 (by omega)
          subst hq
          clear h45 hz hm0 hc1 hqs hz1
          go_enter Tryz.func46, Tryz.ntmps46
          go_wp2
          go_loopg [5, 6] m (fun z x i wr => ∃ k : Nat, k + z = m ∧ i = .int .i64 k ∧ x = .int .i64 (valD (t.take k)) ∧ (0 ≤ valD (t.take k) ∧ valD (t.take k) + 1 ≤ (10 : Int) ^ k) ∧ Below w.heap.size w wr)
          case atStart => exact ⟨0, by omega, rfl, rfl, by simp [valD], Below.refl _ _⟩
          case round =>
            obtain ⟨k, hk, rfl, rfl, ⟨hx0, hx1⟩, hb⟩ := hrel
            have HK := Lib.hid hk
            clear hk
            by_cases hk8' : k < m
            · have hk8 : k < t.length := by rw [HQ.out]; exact hk8'
              have i1 : (k : Int) < (m : Int) := by omega
              have hkt : k < (btx t).size := hk8
              have hget : (btx t)[k] = gd t k := by rw [gd_of hk8]; rfl
              have hst := valD_succ hk8
              obtain ⟨x, hx⟩ : ∃ x, valD (t.take k) = x := ⟨_, rfl⟩
              rw [hx] at hx0 hx1 hst ⊢
              have hpw : (10 : Int) ^ k ≤ 10000000000000000 := pow_small (by omega)
              obtain ⟨d, hd⟩ : ∃ d, (gd t k).toNat = d := ⟨_, rfl⟩
              have hgd : ((btx t)[k].toNat : Int) = (d : Int) := by rw [hget, hd]
              rw [hd] at hst
              have hd255 : d < 256 := by rw [← hd]; exact UInt8.toNat_lt _
              have HX := Lib.hid (And.intro hx hst)
              have HD := Lib.hid hd
              have HP := Lib.hid (And.intro hx1 hpw)
              clear hx hst hget hd
              by_cases hd1 : 48 ≤ d
              · by_cases hd2 : d ≤ 57
                · have t1 : decide ((d : Int) < 48) = false := by simp; omega
                  have t2 : decide (57 < (d : Int)) = false := by simp; omega
                  have hx1 := HP.out.1
                  have hpw := HP.out.2
                  go_wp2
                  go_roundg (gk - 1)
                  case rel => exact ⟨k + 1, by have := HK.out; omega, by go_num, by rw [HX.out.2], by rw [HX.out.2, Int.pow_succ]; have := HP.out.1; omega, hb⟩
                  case measure => have := HK.out; omega
                · have t1 : decide ((d : Int) < 48) = false := by simp; omega
                  have t2 : decide (57 < (d : Int)) = true := by simp; omega
                  have HB := Lib.hid (show ¬ (48 ≤ (gd t k).toNat ∧ (gd t k).toNat ≤ 57) by rw [HD.out]; omega)
                  clear hd1 hd2
                  go_wp2
                  refine bodyPost_ret (v := .tuple #[.int .i64 (0), .bool false]) (by simp [results, Tryz.results46, go_sem]) rfl ?_
                  exact NumRes.mk (0, false) rfl (fun n h0 h1 e => absurd e (fun e => HB.out (by rw [e] at hk8 ⊢; exact num_digit h0 h1 hk8))) (hb)
              · have t1 : decide ((d : Int) < 48) = true := by simp; omega
                have HB := Lib.hid (show ¬ (48 ≤ (gd t k).toNat ∧ (gd t k).toNat ≤ 57) by rw [HD.out]; omega)
                clear hd1
                go_wp2
                refine bodyPost_ret (v := .tuple #[.int .i64 (0), .bool false]) (by simp [results, Tryz.results46, go_sem]) rfl ?_
                exact NumRes.mk (0, false) rfl (fun n h0 h1 e => absurd e (fun e => HB.out (by rw [e] at hk8 ⊢; exact num_digit h0 h1 hk8))) (hb)
            · obtain rfl : k = m := by have := HK.out; omega
              have hx : valD (t.take k) = valD t := by rw [List.take_of_length_le (by rw [HQ.out]; exact Nat.le_refl _)]
              rw [hx] at hx0 hx1 ⊢
              have hpw : (10 : Int) ^ k ≤ 100000000000000000 := pow_small17 (by omega)
              have HX := Lib.hid (rfl : valD t = valD t)
              clear hx
              go_wp2
              refine bodyPost_ret (v := .tuple #[.int .i64 (valD t), .bool true]) (by simp [results, Tryz.results46, go_sem]) rfl ?_
              exact NumRes.mk (valD t, true) rfl (fun n h0 h1 e => by rw [e, valD_num h0 h1]) (hb)
    · have j2 : decide (17 < (m : Int)) = true := by simp; omega
      have NOT := num_not (t := t) (.inl (by rw [HM.out]; omega))
      clear h45 h17 hm0
      go_enter Tryz.func46, Tryz.ntmps46
      go_wp2
      refine bodyPost_ret (v := .tuple #[.int .i64 (0), .bool false]) (by simp [results, Tryz.results46, go_sem]) rfl ?_
      exact NumRes.mk (0, false) rfl (fun n h0 h1 e => absurd e (NOT n h0 h1)) (Below.refl _ _)
end Go.Proofs.YtdjfdopgjlbloaaGreatDoor
