/- Walks: impl.parseUses. -/
import Derived.Test.YtdjfdopgjlbloaaGreatDoorWPrsC
namespace Go.Proofs.YtdjfdopgjlbloaaGreatDoor
open Go.RowKit

/-- What the parsers of rows leave. -/
def RowRes (o : Option (List Int)) (w : World) (e : Ending) (w' : World) : Prop :=
  (∀ l, o = some l → ∃ v, e = .returned (.tuple #[v, .bool true]) ∧ w'.ownsRow w.heap.size 3 1 v l.length (ints l)) ∧ (o = none → e = .returned (.tuple #[.slice none 0 0, .bool false])) ∧ Below w.heap.size w w'
theorem RowRes.yes {o : Option (List Int)} {w w' : World} {e : Ending} (l : List Int) (v : Value) (h : o = some l) (he : e = .returned (.tuple #[v, .bool true])) (hr : w'.ownsRow w.heap.size 3 1 v l.length (ints l)) (hb : Below w.heap.size w w') : RowRes o w e w' :=
  ⟨fun l' h' => by rw [h] at h'; obtain rfl := Option.some.inj h'; exact ⟨v, he, hr⟩, fun h' => by rw [h] at h'; (cases h'), hb⟩
theorem RowRes.no {o : Option (List Int)} {w w' : World} {e : Ending} (h : o = none) (he : e = .returned (.tuple #[.slice none 0 0, .bool false])) (hb : Below w.heap.size w w') : RowRes o w e w' :=
  ⟨fun l' h' => by rw [h] at h'; (cases h'), fun _ => he, hb⟩
theorem optL_step {α β : Type} [Inhabited α] {f : α → Option β} {ps : List α} {k : Nat} {l : List β} {y : β} (hk : k < ps.length) (h : optL f (ps.take k) = some l) (hy : f (gd ps k) = some y) : optL f (ps.take (k + 1)) = some (l ++ [y]) := by
  rw [optL_some] at h ⊢
  rw [take_gd hk, List.map_append, h, List.map_append, List.map_singleton, List.map_singleton, hy]
theorem optL_none {α β : Type} [Inhabited α] {f : α → Option β} {ps : List α} {k : Nat} (hk : k < ps.length) (hy : f (gd ps k) = none) : optL f ps = none := by
  cases h : optL f ps with
  | none => rfl
  | some l =>
    rw [optL_some] at h
    have h2 : none ∈ ps.map f := by rw [← hy]; exact List.mem_map_of_mem (gd_mem hk)
    rw [h] at h2
    obtain ⟨x, _, hx⟩ := List.mem_map.1 h2
    cases hx
attribute [local go_sem] btx_nil
set_option maxRecDepth 100000 in
set_option maxHeartbeats 3200000 in
theorem parseUsesI_any (t : List UInt8) (mx : Int) (w : World) (hl : t.length ≤ 1048576) (hm : w.cell? ⟨1, 0, none⟩ = some (.int .i64 mx)) :
    Calls Tryz.prog 18 #[.string (btx t)] w (RowRes (useO t) w) := by
  by_cases h0 : t = []
  · have j0 : ((btx t).toList == (btx []).toList) = true := by rw [btx_leq, h0]; rfl
    go_enter Tryz.func18, Tryz.ntmps18
    go_wp2
    refine bodyPost_ret (v := .tuple #[.slice none 0 0, .bool true]) (by simp [results, Tryz.results18, go_sem]) rfl ?_
    exact RowRes.yes [] _ (by rw [h0]; rfl) rfl ⟨rfl, .inl ⟨rfl, rfl⟩⟩ (Below.refl _ _)
  · have j0 : ((btx t).toList == (btx []).toList) = false := by rw [btx_leq]; exact decide_eq_false h0
    have H0 := Lib.hid h0
    clear h0
    go_enter Tryz.func18, Tryz.ntmps18
    go_wp2_with fail
    refine (Tryz.strings_Split (btx t) (btx [43]) mx _ (by show t.length < _; omega) hm (Nat.le_refl _)).mono ?_
    rintro e w2 ⟨rfl, rfl⟩
    obtain ⟨hsp, hcn⟩ := split_cut 43 t.length t (Nat.le_refl _)
    rw [hsp, hcn]
    have hu0 : useO t = if (cutL 43 t).length ≤ 9 then optL digO (cutL 43 t) else none := by rw [useO, if_neg H0.out]
    have hne : 0 < (cutL 43 t).length := List.length_pos_iff.2 (cutL_ne 43 t)
    have hcl := cutL_len 43 t
    obtain ⟨ps, hps⟩ : ∃ ps, cutL 43 t = ps := ⟨_, rfl⟩
    rw [hps] at hu0 hne hcl ⊢
    clear hps hsp hcn
    have hcell : ∀ i, i < ps.length → (w.alloc (.cells (List.map Value.string (List.map btx ps)).toArray 9)).cell? ⟨w.heap.size, i, none⟩ = some (.string (btx (gd ps i))) := fun i hi => by
      rw [World.cell?_alloc_mark, List.getElem?_toArray, List.getElem?_map, List.getElem?_map, gd_of hi, List.getElem?_eq_getElem hi]; rfl
    have hb0 := below_alloc w (.cells (List.map Value.string (List.map btx ps)).toArray 9)
    have hgz : w.heap.size < (w.alloc (.cells (List.map Value.string (List.map btx ps)).toArray 9)).heap.size := by rw [World.size_alloc]; omega
    generalize w.alloc (.cells (List.map Value.string (List.map btx ps)).toArray 9) = wz at hcell hb0 hgz ⊢
    obtain ⟨m, hmm⟩ : ∃ m, ps.length = m := ⟨_, rfl⟩
    rw [hmm] at hu0 hne hcl hcell ⊢
    have HU := Lib.hid hu0
    have HM := Lib.hid hmm
    have HC := Lib.hid hcell
    clear hu0 hmm hcell
    go_wp2
    go_loopg [4, 15] m (fun q v i wr => ∃ (k : Nat) (l : List Int), k + q = m ∧ k ≤ 9 ∧ i = .int .i64 k ∧ optL digO (ps.take k) = some l ∧ l.length = k ∧ wr.ownsRow (w.heap.size + 1) 3 1 v k (ints l) ∧ Below w.heap.size w wr ∧ w.heap.size < wr.heap.size ∧ (∀ i, i < m → wr.cell? ⟨w.heap.size, i, none⟩ = some (.string (btx (gd ps i)))))
    case atStart => exact ⟨0, [], by omega, by omega, rfl, rfl, rfl, ⟨rfl, .inl ⟨rfl, rfl⟩⟩, hb0, hgz, HC.out⟩
    case round =>
      clear hb0 hgz
      obtain ⟨k, l, hk, hk9, rfl, hop, hll, hown, hb, hg2, hce⟩ := hrel
      have HK := Lib.hid hk
      have HOP := Lib.hid hop
      have HLL := Lib.hid hll
      have HCE := Lib.hid hce
      obtain ⟨va, vc, rfl, _⟩ := own_form hown
      clear hk hop hll hce
      by_cases hk8 : k < m
      · have i1 : (k : Int) < (m : Int) := by omega
        have hp := HCE.out k hk8
        cases hd : digO (gd ps k) with
        | none =>
          have hfin : useO t = none := by rw [HU.out]; split; exact optL_none (by rw [HM.out]; exact hk8) hd; rfl
          have HF := Lib.hid (And.intro hfin hd)
          clear hfin hd
          go_wp2_with fail
          refine (digitI_any _ _).mono ?_
          rw [HF.out.2]
          rintro e w3 ⟨rfl, rfl⟩
          go_wp2
          refine bodyPost_ret (v := .tuple #[.slice none 0 0, .bool false]) (by simp [results, Tryz.results18, go_sem]) rfl ?_
          exact RowRes.no HF.out.1 rfl hb
        | some y =>
          have HD := Lib.hid hd
          clear hd
          by_cases h9 : k ≤ 8
          · have i2 : decide (8 < (k : Int)) = false := by simp; omega
            have hst := Lib.hid (optL_step (by rw [HM.out]; exact hk8) HOP.out HD.out)
            go_wp2_with fail
            refine (digitI_any _ _).mono ?_
            rw [HD.out]
            rintro e w3 ⟨rfl, rfl⟩
            have hown2 : w3.ownsRow (w.heap.size + 1) 3 1 (.slice va k vc) l.length (ints l) := by rw [HLL.out]; exact hown
            have hs := hb.size
            go_wp2_with (at_builtin; go_must (refine app_int _ rfl _ _ rfl (w.heap.size + 1) _ l rfl (own_keep hown2 (below_alloc _ _)) ⟨w3.heap.size, 0, none⟩ y rfl (cell_new1 _ _ _) (by rw [HLL.out]; omega) (by simp; omega) ?_); intro v' w1 hown1 hf1)
            go_roundg (gk - 1)
            have hbz := below_own (own_keep hown2 (below_alloc _ _)) hf1 ((below_alloc w3 (.cells #[.int .i64 y] 3)).mono (Nat.succ_le_of_lt hg2)) (by simp; omega)
            have hsz := hf1.size
            rw [World.size_alloc] at hsz
            case rel => exact ⟨k + 1, l ++ [y], by have := HK.out; omega, by omega, by go_num, hst.out, by simp [HLL.out], by simpa [HLL.out] using hown1, hb.trans (hbz.mono (Nat.le_succ _)), by omega, fun i hi => hf1.cell (fun e => absurd (own_lt hown2 e).1 (Nat.not_succ_le_self _)) (cell_keep (below_alloc _ _) (HCE.out i hi))⟩
            case measure => have := HK.out; omega
          · have i2 : decide (8 < (k : Int)) = true := by simp; omega
            have hfin : useO t = none := by rw [HU.out, if_neg (by omega)]
            have HF := Lib.hid hfin
            clear hfin
            go_wp2_with fail
            refine (digitI_any _ _).mono ?_
            rw [HD.out]
            rintro e w3 ⟨rfl, rfl⟩
            go_wp2
            refine bodyPost_ret (v := .tuple #[.slice none 0 0, .bool false]) (by simp [results, Tryz.results18, go_sem]) rfl ?_
            exact RowRes.no HF.out rfl hb
      · obtain rfl : k = m := by have := HK.out; omega
        have hop := HOP.out
        rw [List.take_of_length_le (by rw [HM.out]; exact Nat.le_refl _)] at hop
        have hfin : useO t = some l := by rw [HU.out, if_pos hk9]; exact hop
        have HF := Lib.hid hfin
        clear hfin hop
        go_wp2
        refine bodyPost_ret (v := .tuple #[.slice va k vc, .bool true]) (by simp [results, Tryz.results18, go_sem]) rfl ?_
        exact RowRes.yes l _ HF.out rfl (by rw [HLL.out]; exact own_mono hown (by omega)) hb
end Go.Proofs.YtdjfdopgjlbloaaGreatDoor
/- Plain: what the reference reads of a text that a proof has. -/
namespace Go.Proofs.YtdjfdopgjlbloaaGreatDoor
open Go.RowKit

/-- A row of numbers as the reference reads it. -/
def ReadRow (c : UInt8) (t : List UInt8) (l : List Int) : Prop := (t = [] → l = []) ∧ (t ≠ [] → ReadTo (cutL c t) (min (cutL c t).length 9) l)
theorem ReadRow.same {c : UInt8} {l m : List Int} (hl : ∀ n ∈ l, -1 ≤ n ∧ n ≤ 8) (h9 : l.length ≤ 9) (h1 : c ≠ 45) (h2 : c.toNat < 48) (h : ReadRow c (numsT c l) m) : m = l := by
  by_cases h0 : l = []
  · subst h0; exact h.1 rfl
  · have hr := h.2 (nums_ne h0)
    rw [cut_nums (fun n hn => (hl n hn).2) h1 h2 h0] at hr
    exact ReadTo.back hl h9 hr
theorem read_same {t : List UInt8} {p q : Pf} (hp : Shaped p) (ht : textB p = t) (h1 : ReadRow 44 (gd (cutL 32 t) 0) q.1) (hl : q.2.length + 1 = (cutL 32 t).length) (h2 : ∀ i, i < q.2.length → ReadRow 43 (gd (cutL 32 t) (i + 1)) (gd q.2 i)) : q = p := by
  have hc := hp.cut
  rw [ht] at hc
  rw [hc] at h1 hl h2
  have e1 : q.1 = p.1 := ReadRow.same hp.cl (by rw [hp.c9]; exact Nat.le_refl _) (by decide) (by decide) h1
  have el : q.2.length = p.2.length := by simpa using hl
  have e2 : q.2 = p.2 := gd_ext el fun i hi => by
    have hr := h2 i hi
    have hi2 : i < p.2.length := by omega
    have hg : gd (numsT 44 p.1 :: p.2.map (numsT 43)) (i + 1) = numsT 43 (gd p.2 i) := by
      rw [gd_of (by simpa using hi2), List.getElem_cons_succ, List.getElem_map, gd_of hi2]
    rw [hg] at hr
    exact ReadRow.same (fun n hn => by have := hp.ul _ (gd_mem hi2) n hn; omega) (hp.u9 _ (gd_mem hi2)) (by decide) (by decide) hr
  exact Prod.ext e1 e2
theorem parse_yes {t : List UInt8} {q : Pf} (h0 : t ≠ []) (h : fmtB q = t) : parseO t = some q := parse_iff.2 ((fmt_iff h0).1 h)
theorem parse_no {t : List UInt8} {q : Pf} (h1 : ReadRow 44 (gd (cutL 32 t) 0) q.1) (hl : q.2.length + 1 = (cutL 32 t).length) (h2 : ∀ i, i < q.2.length → ReadRow 43 (gd (cutL 32 t) (i + 1)) (gd q.2 i)) (h : fmtB q ≠ t) : parseO t = none := by
  cases hp : parseO t with
  | none => rfl
  | some p =>
    obtain ⟨hs, ht⟩ := parse_iff.1 hp
    obtain rfl := read_same hs ht h1 hl h2
    exact absurd (by rw [fmtB, if_pos (shaped_iff.2 hs), ht]) h
theorem parse_nil : parseO [] = none := by
  cases hp : parseO [] with
  | none => rfl
  | some p => obtain ⟨hs, ht⟩ := parse_iff.1 hp; exact absurd ht (text_ne hs)
theorem parse_long {t : List UInt8} (h : 200 < t.length) : parseO t = none := by
  cases hp : parseO t with
  | none => rfl
  | some p => obtain ⟨hs, ht⟩ := parse_iff.1 hp; have := text_len hs; rw [ht] at this; omega
theorem parse_many {t : List UInt8} (h : 7 < (cutL 32 t).length) : parseO t = none := by rw [parseO, if_neg (by omega)]
theorem hdL_gd (l : List (List UInt8)) : hdL l = gd l 0 := by cases l <;> rfl
theorem gd_tail {α : Type} [Inhabited α] (l : List α) (k : Nat) : gd l.tail k = gd l (k + 1) := by cases l <;> simp [gd]
theorem parse_nocls {t : List UInt8} {ps : List (List UInt8)} (hp : cutL 32 t = ps) (h : clsO (gd ps 0) = none) : parseO t = none := by
  rw [parseO, hp]
  split
  · rw [hdL_gd, h]; rfl
  · rfl
theorem parse_nouse {t : List UInt8} {ps : List (List UInt8)} (hp : cutL 32 t = ps) {k : Nat} (hk : k + 1 < ps.length) (h : useO (gd ps (k + 1)) = none) : parseO t = none := by
  rw [parseO, hp]
  split
  · have hn : optL useO ps.tail = none := optL_none (k := k) (by rw [List.length_tail]; omega) (by rw [gd_tail]; exact h)
    rw [hn]
    cases clsO (hdL ps) <;> rfl
  · rfl
theorem parse_done {t : List UInt8} {ps : List (List UInt8)} (hp : cutL 32 t = ps) (h7 : ps.length ≤ 7) {c : List Int} (hc : clsO (gd ps 0) = some c) {us : List (List Int)} (hu : optL useO ps.tail = some us) : parseO t = some (c, us) := by
  rw [parseO, hp, if_pos h7, hdL_gd, hc, hu]; rfl
/-- What the program and the reference parse. -/
def parseR (t : List UInt8) : CPf := (parseO t).getD ([], [])
def parseB (t : List UInt8) : Bool := (parseO t).isSome
theorem parseR_none {t : List UInt8} (h : parseO t = none) : parseR t = ([], []) := by rw [parseR, h]; rfl
theorem parseR_some {t : List UInt8} {p : Pf} (h : parseO t = some p) : parseR t = p := by rw [parseR, h]; rfl
theorem parseB_none {t : List UInt8} (h : parseO t = none) : parseB t = false := by rw [parseB, h]; rfl
theorem parseB_some {t : List UInt8} {p : Pf} (h : parseO t = some p) : parseB t = true := by rw [parseB, h]; rfl
end Go.Proofs.YtdjfdopgjlbloaaGreatDoor
