/- Walks: programs are read out of texts (reference: ParseProgram). -/
import Derived.Test.YtgfnoinkajfndaaGreatABlk
import Derived.Handy
import Derived.Deep.DeepMust
import Derived.Test.YtgfnoinkajfndaaGreatABtxA
import Derived.Test.YtgfnoinkajfndaaGreatADraw1
set_option linter.unusedVariables false
set_option linter.unusedSimpArgs false
namespace Go.Proofs.YtgfnoinkajfndaaGreat
open Go.RowKit

/-- The lines that remain. -/
def restL (L : List (List UInt8)) (p : Int) : Nat := if p < 0 then 0 else ((L.length : Int) - p).toNat
def subSz {e : Nat} (L : List (List UInt8)) (sub : Int → Option (Blk e)) : Prop := ∀ (p : Int) (r : Blk e), 0 ≤ p → sub p = some r → szC e r.1 + restL L r.2 ≤ restL L p
theorem rest_up {L : List (List UInt8)} {p : Int} : restL L (upB p) ≤ restL L p := by
  have h := upB_le (p := p)
  rw [restL, restL]
  by_cases h0 : 0 ≤ p
  · rw [h.2.2 h0, if_neg (by omega), if_neg (by omega)]; omega
  · rw [h.2.1 (by omega)]; exact Nat.le_refl _
theorem rest_next {L : List (List UInt8)} {p : Int} (h : 0 ≤ p) : restL L (p + 1) ≤ restL L p := by
  rw [restL, restL]; split <;> split <;> omega
theorem rest_go {L : List (List UInt8)} {p : Int} (h : goesOn L p = true) : 1 + restL L (p + 1) ≤ restL L p := by
  have := goesOn_iff h
  rw [restL, restL]; split <;> split <;> omega
theorem sz_one {e : Nat} (c : Cm (e + 1)) (l : List (Cm (e + 1))) : szC (e + 1) (c :: l) = 1 + szC e c.body + szC e c.els + szC (e + 1) l := rfl
theorem sz_nil : ∀ e : Nat, szC e ([] : List (Cm e)) = 0
  | 0 => rfl
  | _ + 1 => rfl
theorem cmdF_sz {e : Nat} {L : List (List UInt8)} {sub : Int → Option (Blk e)} (hs : subSz L sub) {p : Int} (hp : goesOn L p = true) {x : Cm (e + 1) × Int} (h : cmdF L sub p = some x) :
    1 + szC e x.1.body + szC e x.1.els + restL L x.2 ≤ restL L p := by
  have hp1 := goesOn_iff hp
  have hg := rest_go hp
  cases hb : isBlk (headR (gd L p.toNat)) with
  | false =>
    rw [cmdF_plain rfl hb] at h
    obtain rfl := Option.some.inj h
    show 1 + szC e ([] : List (Cm e)) + szC e ([] : List (Cm e)) + restL L (p + 1) ≤ _
    rw [sz_nil]; omega
  | true =>
    cases h1 : sub (p + 1) with
    | none => rw [cmdF_none rfl hb h1] at h; cases h
    | some r =>
      have a1 := hs _ _ (by omega) h1
      cases he : elseAt L r.2 with
      | false =>
        rw [cmdF_one rfl hb h1 he] at h
        obtain rfl := Option.some.inj h
        show 1 + szC e r.1 + szC e ([] : List (Cm e)) + restL L (upB r.2) ≤ _
        have := rest_up (L := L) (p := r.2)
        rw [sz_nil]; omega
      | true =>
        have he1 := elseAt_iff he
        cases h2 : sub (r.2 + 1) with
        | none =>
          have hx : cmdF L sub p = none := by
            show (if isBlk (headR (gd L p.toNat)) = true then _ else _) = _
            rw [if_pos hb, h1]
            show (if elseAt L r.2 = true then _ else _) = _
            rw [if_pos he, h2]
          rw [hx] at h; cases h
        | some s =>
          rw [cmdF_two rfl hb h1 he h2] at h
          obtain rfl := Option.some.inj h
          have a2 := hs _ _ (by omega) h2
          have a3 := rest_next (L := L) he1.1
          have := rest_up (L := L) (p := s.2)
          show 1 + szC e r.1 + szC e s.1 + restL L (upB s.2) ≤ _
          omega
theorem seqF_sz {e : Nat} {L : List (List UInt8)} {sub : Int → Option (Blk e)} (hs : subSz L sub) : ∀ (n : Nat) (p : Int), szC (e + 1) (seqF L sub n p).1 + restL L (seqF L sub n p).2 ≤ restL L p
  | 0, p => by
    show szC (e + 1) ([] : List (Cm (e + 1))) + restL L p ≤ _
    rw [sz_nil]; omega
  | n + 1, p => by
    by_cases hg : goesOn L p = true
    · cases h : cmdF L sub p with
      | none =>
        rw [seqF_none hg h]
        show szC (e + 1) ([] : List (Cm (e + 1))) + restL L (-1) ≤ _
        rw [sz_nil, show restL L (-1) = 0 from rfl]; omega
      | some x =>
        rw [seqF_step hg h]
        have a1 := cmdF_sz hs hg h
        have a2 := seqF_sz hs n x.2
        show szC (e + 1) (x.1 :: (seqF L sub n x.2).1) + restL L (seqF L sub n x.2).2 ≤ _
        rw [sz_one]; omega
    · rw [seqF_stop hg]
      show szC (e + 1) ([] : List (Cm (e + 1))) + restL L p ≤ _
      rw [sz_nil]; omega
theorem block_sz (L : List (List UInt8)) : ∀ (d : Nat) (p : Int), szC (d + 1) (blockF L d p).1 + restL L (blockF L d p).2 ≤ restL L p
  | 0, p => seqF_sz (fun p r _ h => by cases h) _ p
  | d + 1, p => seqF_sz (fun p r _ h => by
      obtain rfl := Option.some.inj h
      exact block_sz L d p) _ p
/-- The program that a text holds. -/
def blk0 (x : List UInt8) : List (Cm 5) := (blockF (cutL 10 x) 4 0).1
def progO (x : List UInt8) : Option (List (Cm 5)) := if x.length ≤ 4000 then (if fmtP 5 (blk0 x) = x ∧ progOkB (blk0 x) = true then some (blk0 x) else none) else none
def progR (x : List UInt8) : List (Cm 5) := (progO x).getD []
theorem progO_ok {x : List UInt8} {l : List (Cm 5)} (h : progO x = some l) : progOkB l = true ∧ progT 5 l = x := by
  rw [progO] at h
  split at h
  · split at h
    · rename_i h1
      obtain rfl := Option.some.inj h
      refine ⟨h1.2, ?_⟩
      have := h1.1
      rwa [fmtP, if_pos h1.2] at this
    · cases h
  · cases h
/-- A valid program is not great. -/
theorem few_shape : ∀ (d : Nat) (l : List (Cm d)) (D : Int), shpB d l D = true → szC d l ≤ 2000 → FewC d l
  | 0, _, _, _, _ => trivial
  | d + 1, l, D, h, hs => by
    have hh := shape_succ h
    refine ⟨?_, fun c hc => ?_⟩
    · have : ∀ m : List (Cm (d + 1)), m.length ≤ szC (d + 1) m := by
        intro m
        induction m with
        | nil => exact Nat.zero_le _
        | cons c r ih => rw [sz_one, List.length_cons]; omega
      exact Nat.le_trans (this l) hs
    · obtain ⟨h1, h2, h3⟩ := hh c hc
      have hm := size_mem hc
      refine ⟨?_, few_shape d _ _ h2 (by omega), few_shape d _ _ h3 (by omega)⟩
      have hn : ∀ a : Asn, noinvB a = true → asSz a := fun a h => by
        simp only [noinvB, Bool.and_eq_true, decide_eq_true_eq] at h
        exact ⟨by omega, by omega⟩
      rw [headOk] at h1
      split at h1
      · simp only [Bool.and_eq_true] at h1; exact hn _ h1.2.2.2
      · split at h1
        · simp only [Bool.and_eq_true] at h1
          have := asnB_len h1.2.2.2.1
          exact ⟨by omega, by omega⟩
        · simp only [basicB, Bool.and_eq_true] at h1; exact hn _ h1.2.1
theorem cut_len (c : UInt8) (x : List UInt8) : 0 < (cutL c x).length ∧ (cutL c x).length ≤ x.length + 1 := by
  have h0 := List.length_pos_iff.2 (cutL_ne c x)
  refine ⟨h0, ?_⟩
  clear h0
  induction x with
  | nil => rw [cutL]; simp
  | cons b r ih =>
    rw [cutL]; split
    · simp only [List.length_cons]; omega
    · cases h : cutL c r with
      | nil => exact absurd h (cutL_ne c r)
      | cons y z =>
        rw [h] at ih
        simp only [consH, List.length_cons] at ih ⊢; omega
set_option maxRecDepth 100000 in
set_option maxHeartbeats 3200000 in
theorem parseProgS_any (x : List UInt8) (w : World) (hl : x.length ≤ 1048576) :
    Calls Tryz.prog 64 #[.string (btx x)] w fun e w' => ∃ u, e = .returned (.tuple #[u, .bool (progO x).isSome]) ∧ UC w' w.heap.size u (progR x) ∧ Below w.heap.size w w' := by
  have NIL : ∀ (W : World), progO x = none → Below w.heap.size w W → UC (W.alloc (.cells #[] 77)) w.heap.size (.slice (some ⟨W.heap.size, 0, none⟩) 0 0) (progR x) ∧ Below w.heap.size w (W.alloc (.cells #[] 77)) := by
    intro W hn hb
    rw [progR, hn]
    exact ⟨⟨[], World.ownsRow_lit (base := w.heap.size) (size := 10) W #[] 0 hb.size (by decide) (by simp) (e := 77), fun k hk => absurd hk (Nat.not_lt_zero k)⟩, bt hb (below_alloc _ _)⟩
  have HNIL := Lib.hid NIL
  clear NIL
  have hsz : (btx x).size = x.length := rfl
  by_cases hx : x.length ≤ 4000
  · obtain ⟨n, hn⟩ : ∃ n, x.length = n := ⟨_, rfl⟩
    have hc := cut_len 10 x
    have hcs : ∀ y ∈ cutL 10 x, y.length ≤ 1048576 := fun y hy => Nat.le_trans (cut_short hy) hl
    rw [hn] at hsz hx hc
    have HC := Lib.hid (And.intro hc hcs)
    have hbs := block_sz (cutL 10 x) 4 0
    have hr0 : restL (cutL 10 x) 0 = (cutL 10 x).length := by rw [restL]; simp
    have HSZ := Lib.hid (show szC 5 (blk0 x) ≤ 1000000000000000000 by rw [hr0] at hbs; show szC (4 + 1) (blockF (cutL 10 x) 4 0).1 ≤ _; omega)
    have HX := Lib.hid (show progO x = if fmtP 5 (blk0 x) = x ∧ progOkB (blk0 x) = true then some (blk0 x) else none by rw [progO, if_pos (by omega)])
    clear hc hcs hbs hr0 hn
    go_enter Tryz.func64, Tryz.ntmps64
    go_wp2_with fail
    refine (cutS_any x 10 _ hl).mono ?_
    rintro e w2 ⟨vl, rfl, hown, hb2⟩
    go_wp2_with fail
    refine (l8Block_any (cutL 10 x) ⟨HC.out.1.1, by have := HC.out.1.2; omega⟩ HC.out.2 _ 4 0 _ (by decide) ⟨by decide, by omega⟩ hown).mono ?_
    rintro e w3 ⟨u, rfl, huc, hb3⟩
    obtain ⟨ua, ucp, rfl⟩ := huc.form
    have HUC := Lib.hid huc
    have HB := Lib.hid (bt hb2 hb3)
    have HZ := Lib.hid hb2.size
    clear huc hown hb2 hb3
    go_wp2_with fail
    refine (formatPS_any 5 _ (blk0 x) _ HUC.out.rl HSZ.out (by decide)).mono ?_
    rintro e w4 ⟨rfl, hb4⟩
    have HB4 := Lib.hid (bt HB.out hb4)
    by_cases hf : fmtP 5 (blk0 x) = x
    · have j1 : ((btx (fmtP 5 (blk0 x))).toList == (btx x).toList) = true := by rw [btx_leq]; exact decide_eq_true hf
      have HF := Lib.hid hf
      clear hf
      go_wp2_with fail
      cases hv : progOkB (blk0 x) with
      | false =>
        have HV := Lib.hid hv
        clear hv
        refine (cb (progValidS_any 5 _ (blk0 x) _ (HUC.out.rl.keep hb4) HSZ.out (by decide)) HV.out).mono ?_
        rintro e w5 ⟨rfl, hb5⟩
        have HN := Lib.hid (show progO x = none by rw [HX.out, if_neg (by rw [HV.out]; simp)])
        go_wp2
        refine bodyPost_ret (v := .tuple #[.slice (some ⟨w5.heap.size, 0, none⟩) 0 0, .bool false]) (by simp [results, Tryz.results64, go_sem]) rfl ?_
        exact ⟨_, by rw [HN.out]; rfl, HNIL.out _ HN.out (bt HB4.out hb5)⟩
      | true =>
        have HV := Lib.hid hv
        clear hv
        refine (cb (progValidS_any 5 _ (blk0 x) _ (HUC.out.rl.keep hb4) HSZ.out (by decide)) HV.out).mono ?_
        rintro e w5 ⟨rfl, hb5⟩
        have HN := Lib.hid (show progO x = some (blk0 x) by rw [HX.out, if_pos ⟨HF.out, HV.out⟩])
        go_wp2
        refine bodyPost_ret (v := .tuple #[.slice ua (blk0 x).length ucp, .bool true]) (by simp [results, Tryz.results64, go_sem]; rfl) rfl ?_
        exact ⟨_, by rw [HN.out]; rfl, by rw [progR, HN.out]; exact ((HUC.out.keep hb4).keep hb5).mono HZ.out, bt HB4.out hb5⟩
    · have j1 : ((btx (fmtP 5 (blk0 x))).toList == (btx x).toList) = false := by rw [btx_leq]; exact decide_eq_false hf
      have HN := Lib.hid (show progO x = none by rw [HX.out, if_neg (fun h => hf h.1)])
      clear hf
      go_wp2
      refine bodyPost_ret (v := .tuple #[.slice (some ⟨w4.heap.size, 0, none⟩) 0 0, .bool false]) (by simp [results, Tryz.results64, go_sem]) rfl ?_
      exact ⟨_, by rw [HN.out]; rfl, HNIL.out _ HN.out HB4.out⟩
  · have HN := Lib.hid (show progO x = none by rw [progO, if_neg hx])
    go_enter Tryz.func64, Tryz.ntmps64
    go_wp2
    refine bodyPost_ret (v := .tuple #[.slice (some ⟨w.heap.size, 0, none⟩) 0 0, .bool false]) (by simp [results, Tryz.results64, go_sem]) rfl ?_
    exact ⟨_, by rw [HN.out]; rfl, HNIL.out _ HN.out (Below.refl _ _)⟩
end Go.Proofs.YtgfnoinkajfndaaGreat
/- Walks: a text is drawn from a literal. -/
set_option linter.unusedSimpArgs false
namespace Go.Proofs.YtgfnoinkajfndaaGreat
open Go.RowKit

/-- A literal of texts. -/
def RStrs (w : World) (g : Nat) (l : List (List UInt8)) : Prop := ∀ i, i < l.length → w.cell? ⟨g, i, none⟩ = some (.string (btx (gd l i)))
theorem RStrs.keep {w w' : World} {g : Nat} {l : List (List UInt8)} (h : RStrs w g l) (hb : Below w.heap.size w w') : RStrs w' g l := fun i hi => cell_keep hb (h i hi)
theorem RStrs.kept {w w' : World} {g : Nat} {l : List (List UInt8)} {S : Nat → Prop} (h : RStrs w g l) (hf : Fr S w w') (hg : ¬ S g) : RStrs w' g l := fun i hi => hf.cell hg (h i hi)
set_option maxHeartbeats 400000 in
theorem of_any (g q b m cap : Nat) (l : List (List UInt8)) (w : World) (h : Rdr w g q) (hq : q ≤ 1073741824) (hm : l.length = m) (h0 : 0 < m) (h1 : m ≤ 1048576) (hb : ¬ b = g) (hc : RStrs w b l) :
    Calls Tryz.prog 63 #[.pointer (some ⟨g, 0, none⟩), .slice (some ⟨b, 0, none⟩) m cap] w fun e w' => ∃ x, x ∈ l ∧ e = .returned (.string (btx x)) ∧ Rdr w' g (q + 1) ∧ Fr (fun j => j = g) w w' := by
  have HC := Lib.hid hc
  have HM0 := Lib.hid hm
  clear hc hm
  go_enter Tryz.func63, Tryz.ntmps63
  go_wp2_with fail
  refine (pick_any g q _ _ h hq (by omega) (by omega)).mono ?_
  rintro e w' ⟨k, rfl, hk, hr, hf⟩
  have hck := HC.out.kept hf (by simpa using hb) k (by have := HM0.out; omega)
  have hmem : gd l k ∈ l := gd_mem (by have := HM0.out; omega)
  have HM := Lib.hid hmem
  clear hmem
  go_wp2
  go_ret
  exact ⟨gd l k, HM.out, rfl, hr, hf⟩
end Go.Proofs.YtgfnoinkajfndaaGreat
