/- Walks: draws of a state in which an assertion often holds. -/
import Derived.Test.YtapoillhgimdiaaSDHolds2
import Derived.Test.YtapoillhgimdiaaSDHolds1
import Derived.Test.YtapoillhgimdiaaSHold1
import Derived.Test.YtapoillhgimdiaaSHeldD
import Derived.Deep.CutRange
import Derived.Deep.CutBlock
import Derived.Deep.Cut
namespace Go.Proofs.Ytapoillhgimdiaa
open Go.RowKit

/-- A state that is being drawn for an assertion. -/
structure SB (w0 w : World) (g q bS : Nat) (p1 p2 : Value) (g1 c1 g2 c2 : Nat) (vl hl : List Int) : Prop where
  val : w.ownsRow (w0.heap.size + 2) 3 1 (.slice (some ⟨g1, 0, none⟩) 8 c1) 8 (ints vl)
  hp : w.ownsRow (w0.heap.size + 2) 3 1 (.slice (some ⟨g2, 0, none⟩) 8 c2) 8 (ints hl)
  ne : ¬ g1 = g2
  lt : g1 < bS ∧ g2 < bS
  boxP : w.heap[w0.heap.size]? = some (.cells #[p1, p2] 33 (0, 0))
  boxR : w.heap[w0.heap.size + 1]? = some (.cells #[.slice none 0 0, .slice none 0 0] 77 (0, 0))
  boxS : w.heap[bS]? = some (.cells #[.slice (some ⟨g1, 0, none⟩) 8 c1, .slice (some ⟨g2, 0, none⟩) 8 c2] 77 (0, 0))
  rdr : Rdr w g q
  fr : Fr (fun j => j = g) w0 w
  len : vl.length = 8 ∧ hl.length = 8
  bnd : ∀ x ∈ vl, 0 ≤ x ∧ x ≤ 8
  gl : g < w0.heap.size
section
variable {w0 w w' : World} {g q q' bS g1 c1 g2 c2 : Nat} {p1 p2 : Value} {vl hl vl' : List Int}
theorem SB.ge (h : SB w0 w g q bS p1 p2 g1 c1 g2 c2 vl hl) : w0.heap.size + 2 ≤ g1 ∧ w0.heap.size + 2 ≤ g2 := ⟨(own_lt h.val rfl).1, (own_lt h.hp rfl).1⟩
theorem SB.more (h : SB w0 w g q bS p1 p2 g1 c1 g2 c2 vl hl) (hq : q ≤ q') : SB w0 w g q' bS p1 p2 g1 c1 g2 c2 vl hl :=
  ⟨h.val, h.hp, h.ne, h.lt, h.boxP, h.boxR, h.boxS, h.rdr.more hq, h.fr, h.len, h.bnd, h.gl⟩
theorem SB.keep (h : SB w0 w g q bS p1 p2 g1 c1 g2 c2 vl hl) (hb : Below w.heap.size w w') : SB w0 w' g q bS p1 p2 g1 c1 g2 c2 vl hl :=
  ⟨own_keep h.val hb, own_keep h.hp hb, h.ne, h.lt, box_keep h.boxP hb, box_keep h.boxR hb, box_keep h.boxS hb, h.rdr.keep hb, h.fr.thenB hb, h.len, h.bnd, h.gl⟩
theorem SB.drawn (h : SB w0 w g q bS p1 p2 g1 c1 g2 c2 vl hl) (hr : Rdr w' g q') (hf : Fr (fun j => j = g) w w') : SB w0 w' g q' bS p1 p2 g1 c1 g2 c2 vl hl :=
  have hg := h.ge
  have hl2 := h.lt
  have hgl := h.gl
  ⟨own_kept h.val hf (fun k hk e => by simp [Value.ownBlock] at hk; omega), own_kept h.hp hf (fun k hk e => by simp [Value.ownBlock] at hk; omega), h.ne, h.lt, box_kept h.boxP hf (by omega), box_kept h.boxR hf (by omega), box_kept h.boxS hf (by omega), hr, h.fr.trans hf, h.len, h.bnd, h.gl⟩
/-- The values have changed. -/
theorem SB.setV (h : SB w0 w g q bS p1 p2 g1 c1 g2 c2 vl hl) (hf : Fr (fun k => k = g1) w w') (h1 : w'.ownsRow (w0.heap.size + 2) 3 1 (.slice (some ⟨g1, 0, none⟩) 8 c1) 8 (ints vl')) (hl' : vl'.length = 8) (hb : ∀ x ∈ vl', 0 ≤ x ∧ x ≤ 8) :
    SB w0 w' g q bS p1 p2 g1 c1 g2 c2 vl' hl :=
  have hg := h.ge
  have hl2 := h.lt
  have hgl := h.gl
  ⟨h1, own_kept h.hp hf (fun k hk e => by simp [Value.ownBlock] at hk; have := h.ne; omega), h.ne, h.lt, box_kept h.boxP hf (by omega), box_kept h.boxR hf (by omega), box_kept h.boxS hf (by omega),
    h.rdr.kept hf (fun k hk e => by omega), h.fr.then hf (fun i hi e => by omega), ⟨hl', h.len.2⟩, hb, h.gl⟩
/-- The state is stored anew. -/
theorem SB.store (h : SB w0 w g q bS p1 p2 g1 c1 g2 c2 vl hl) (hbS : w0.heap.size + 2 ≤ bS) :
    SB w0 ((w.setCell ⟨bS, 0, none⟩ (.slice (some ⟨g1, 0, none⟩) 8 c1)).setCell ⟨bS, 1, none⟩ (.slice (some ⟨g2, 0, none⟩) 8 c2)) g q bS p1 p2 g1 c1 g2 c2 vl hl :=
  have hg := h.ge
  have hl2 := h.lt
  have hgl := h.gl
  have hf : Fr (fun k => k = bS) w ((w.setCell ⟨bS, 0, none⟩ (.slice (some ⟨g1, 0, none⟩) 8 c1)).setCell ⟨bS, 1, none⟩ (.slice (some ⟨g2, 0, none⟩) 8 c2)) := (fr_set w ⟨bS, 0, none⟩ _).trans (fr_set _ ⟨bS, 1, none⟩ _)
  ⟨own_kept h.val hf (fun k hk e => by simp [Value.ownBlock] at hk; omega), own_kept h.hp hf (fun k hk e => by simp [Value.ownBlock] at hk; omega), h.ne, h.lt, box_kept h.boxP hf (by omega), box_kept h.boxR hf (by omega), box_set1 (box_set0 h.boxS _) _,
    h.rdr.kept hf (fun k hk e => by omega), h.fr.then hf (fun i hi e => by omega), h.len, h.bnd, h.gl⟩
/-- A cell of the heap is stored. -/
theorem SB.setH (h : SB w0 w g q bS p1 p2 g1 c1 g2 c2 vl hl) (i : Nat) (x : Int) : SB w0 (w.setCell ⟨g2, i, none⟩ (.int .i64 x)) g q bS p1 p2 g1 c1 g2 c2 vl (hl.set i x) := by
  have hg := h.ge
  have hl2 := h.lt
  have hgl := h.gl
  have hf : Fr (fun k => k = g2) w (w.setCell ⟨g2, i, none⟩ (.int .i64 x)) := fr_set w ⟨g2, i, none⟩ _
  have hh := h.hp
  rw [← h.len.2] at hh
  have h2 := own_set hh i x
  rw [List.length_set, h.len.2] at h2
  exact ⟨own_kept h.val hf (fun k hk e => by simp [Value.ownBlock] at hk; have := h.ne; omega), h2, h.ne, h.lt, box_kept h.boxP hf (by omega), box_kept h.boxR hf (by omega), box_kept h.boxS hf (by omega),
    h.rdr.kept hf (fun k hk e => by omega), h.fr.then hf (fun i hi e => by omega), ⟨h.len.1, by rw [List.length_set]; exact h.len.2⟩, h.bnd, h.gl⟩
theorem SB.rv (h : SB w0 w g q bS p1 p2 g1 c1 g2 c2 vl hl) : RInts w (.slice (some ⟨g1, 0, none⟩) 8 c1) vl := by
  have := h.val
  rw [← h.len.1] at this ⊢
  exact (own_ints this).1
theorem SB.hcell (h : SB w0 w g q bS p1 p2 g1 c1 g2 c2 vl hl) (i : Nat) (hi : i < 8) : w.cell? ⟨g2, i, none⟩ = some (.int .i64 (gi hl i)) ∧ w.frozen? ⟨g2, i, none⟩ = false := by
  have := h.hp
  rw [← h.len.2] at this
  exact own_cell this i (by rw [h.len.2]; exact hi)
theorem SB.tv (h : SB w0 w g q bS p1 p2 g1 c1 g2 c2 vl hl) (t : Int) (h0 : 0 ≤ t) (h8 : t ≤ 8) : 0 ≤ tv vl t ∧ tv vl t ≤ 8 := by
  unfold Go.Proofs.Ytapoillhgimdiaa.tv
  split
  · omega
  · have hl := h.len.1
    have : gi vl (t - 1).toNat ∈ vl := by rw [gi_gd]; exact gd_mem (by omega)
    exact h.bnd _ this
end
theorem SB.done {w0 w : World} {g q bS g1 c1 g2 c2 : Nat} {p1 p2 : Value} {vl hl : List Int} (h : SB w0 w g q bS p1 p2 g1 c1 g2 c2 vl hl) (x y : Value) :
    OwnSt ((w.setCell ⟨w0.heap.size + 1, 0, none⟩ x).setCell ⟨w0.heap.size + 1, 1, none⟩ y) w0.heap.size (.slice (some ⟨g1, 0, none⟩) 8 c1) (.slice (some ⟨g2, 0, none⟩) 8 c2) vl hl ∧
    Rdr ((w.setCell ⟨w0.heap.size + 1, 0, none⟩ x).setCell ⟨w0.heap.size + 1, 1, none⟩ y) g q ∧ Fr (fun j => j = g) w0 ((w.setCell ⟨w0.heap.size + 1, 0, none⟩ x).setCell ⟨w0.heap.size + 1, 1, none⟩ y) := by
  have hg := h.ge
  have hgl := h.gl
  have hf : Fr (fun k => k = w0.heap.size + 1) w ((w.setCell ⟨w0.heap.size + 1, 0, none⟩ x).setCell ⟨w0.heap.size + 1, 1, none⟩ y) := (fr_set w ⟨w0.heap.size + 1, 0, none⟩ _).trans (fr_set _ ⟨w0.heap.size + 1, 1, none⟩ _)
  refine ⟨⟨?_, ?_, fun k hk e => h.ne ?_⟩, h.rdr.kept hf (fun k hk e => by omega), h.fr.then hf (fun i hi e => by omega)⟩
  · rw [h.len.1]; exact own_mono (own_kept h.val hf fun k hk e => by simp [Value.ownBlock] at hk; omega) (by omega)
  · rw [h.len.2]; exact own_mono (own_kept h.hp hf fun k hk e => by simp [Value.ownBlock] at hk; omega) (by omega)
  · simp [Value.ownBlock] at hk e; omega
theorem l4Value8_any (g1 c1 : Nat) (a2 : Option Addr) (n2 c2 : Nat) (vl : List Int) (t n : Int) (B : Nat) (w : World) (h : w.ownsRow B 3 1 (.slice (some ⟨g1, 0, none⟩) 8 c1) 8 (ints vl)) (hl : vl.length = 8) (hb : ∀ x ∈ vl, 0 ≤ x ∧ x ≤ 8) (h0 : 0 ≤ t) (ht : t ≤ 8) (hn : 0 ≤ n ∧ n ≤ 8) :
    Calls Try.prog 203 #[.agg #[.slice (some ⟨g1, 0, none⟩) 8 c1, .slice a2 n2 c2], .int .i64 t, .int .i64 n] w fun e w' => e = .returned (.agg #[.slice (some ⟨g1, 0, none⟩) 8 c1, .slice a2 n2 c2]) ∧
      ∃ vl' : List Int, vl'.length = 8 ∧ (∀ x ∈ vl', 0 ≤ x ∧ x ≤ 8) ∧ w'.ownsRow B 3 1 (.slice (some ⟨g1, 0, none⟩) 8 c1) 8 (ints vl') ∧ Fr (fun k => k = g1) w w' := by
  have := l4Value_any g1 c1 a2 n2 c2 vl t n B w (by rw [hl]; exact h) h0 (by omega) (by omega)
  rw [hl] at this
  refine this.mono ?_
  rintro e w' ⟨rfl, l', h1, h2, h3, h4⟩
  exact ⟨rfl, l', h1, fun x hx => (h2 x hx).elim (hb x) (fun e => e ▸ hn), h3, h4⟩
theorem asn_facts_all {a : Asn} (h : asnB a = true) : (∀ f ∈ a.1, factB f = true) ∧ (∀ x ∈ a.2, atomB x = true) := by
  simp only [asnB, factsB, Bool.and_eq_true, List.all_eq_true] at h
  exact ⟨h.1.2, h.2.2⟩
theorem atomB_bd {x : Atom} (h : atomB x = true) : (x.1 = 1 ∨ x.1 = 2) ∧ 0 ≤ x.2.1 ∧ x.2.1 ≤ 8 ∧ 0 ≤ x.2.2 ∧ x.2.2 ≤ 8 := by
  simp only [atomB, Bool.and_eq_true, Bool.or_eq_true, beq_iff_eq] at h
  have h1 := isTermB_iff.1 h.2.1
  have h2 := isTermB_iff.1 h.2.2
  exact ⟨h.1, h1.1, h1.2, h2.1, h2.2⟩
set_option maxRecDepth 100000 in
set_option maxHeartbeats 12800000 in
theorem l4Build_any (g q : Nat) (v1 v2 : Value) (a : Asn) (w : World) (hr : Rdr w g q) (hq : q ≤ 900000) (ha : asnB a = true) (h1 : RL w (fun k => ¬ k = g) v1 a.1) (h2 : RL w (fun k => ¬ k = g) v2 a.2) :
    Calls Try.prog 140 #[.pointer (some ⟨g, 0, none⟩), .agg #[v1, v2]] w fun e w' => ∃ (u1 u2 : Value) (l1 l2 : List Int), e = .returned (.agg #[u1, u2]) ∧ l1.length = 8 ∧ l2.length = 8 ∧ OwnSt w' w.heap.size u1 u2 l1 l2 ∧ Rdr w' g (q + 30) ∧ Fr (fun j => j = g) w w' := by
  have hgl := hr.lt
  obtain ⟨p1, k1, rfl⟩ := h1.form
  obtain ⟨p2, k2, rfl⟩ := h2.form
  go_enter Try.func140, Try.ntmps140
  go_wp2_with fail
  refine (l2Blank_any _).mono ?_
  rintro e w5 ⟨x1, x2, rfl, hst, hb⟩
  obtain ⟨g1, c1, rfl, hg1, hgu1⟩ := own_at hst.one (by decide)
  obtain ⟨g2, c2, rfl, hg2, hgu2⟩ := own_at hst.two (by decide)
  have hz5 : w.heap.size + 2 ≤ w5.heap.size := by have := hb.size; simp at this; omega
  have hP := box_keep (box_keep (heap_alloc_new w (.cells #[.slice p1 a.1.length k1, .slice p2 a.2.length k2] 33)) (below_alloc _ (.cells #[.slice none 0 0, .slice none 0 0] 77))) hb
  have hR := box_keep (heap_alloc_new (w.alloc (.cells #[.slice p1 a.1.length k1, .slice p2 a.2.length k2] 33)) (.cells #[.slice none 0 0, .slice none 0 0] 77)) hb
  rw [World.size_alloc] at hR
  have hbA : Below w5.heap.size w5 (w5.alloc (.cells #[.slice (some ⟨g1, 0, none⟩) 8 c1, .slice (some ⟨g2, 0, none⟩) 8 c2] 77)) := below_alloc _ _
  have D0 : SB w (w5.alloc (.cells #[.slice (some ⟨g1, 0, none⟩) 8 c1, .slice (some ⟨g2, 0, none⟩) 8 c2] 77)) g q w5.heap.size (.slice p1 a.1.length k1) (.slice p2 a.2.length k2) g1 c1 g2 c2 (reps 0 8) (reps (-1) 8) :=
    ⟨own_keep (own_mono hst.one (by simp)) hbA, own_keep (own_mono hst.two (by simp)) hbA, fun e => hst.apart g1 rfl (by rw [e]; rfl), ⟨hgu1, hgu2⟩, box_keep hP hbA, box_keep hR hbA, heap_alloc_new _ _,
      hr.keep (bt (bt (bt (below_alloc _ _) (below_alloc _ _)) hb) hbA), (Below.fr (bt (bt (bt (below_alloc _ _) (below_alloc _ _)) hb) hbA)).mono fun _ _ h => h.elim, ⟨rfl, rfl⟩, by decide, hgl⟩
  have HA := Lib.hid ha
  clear hst hb hP hR hbA hr ha hg1 hg2 hgu1 hgu2
  go_wp2
  go_loopg [7] 8 (fun qq t wr => ∃ (k : Nat) (vl : List Int), 1 ≤ k ∧ k + qq = 9 ∧ t = .int .i64 k ∧ SB w wr g (q + 2 * (k - 1)) w5.heap.size (.slice p1 a.1.length k1) (.slice p2 a.2.length k2) g1 c1 g2 c2 vl (reps (-1) 8))
  case atStart => exact ⟨1, _, by omega, by omega, rfl, D0⟩
  case round =>
    clear D0
    obtain ⟨k, vl, hk1, hk, rfl, D⟩ := hrel
    have HK := Lib.hid (And.intro hk1 hk)
    clear hk
    by_cases hk8 : k ≤ 8
    · have hki : (k : Int) ≤ 8 := by omega
      have hki0 : (0 : Int) ≤ k := by omega
      have hc0 := box0 D.boxS
      have hc1 := box1 D.boxS
      have hgr := D.rdr.lt
      have hbS := box_lt D.boxS
      have HD := Lib.hid D
      clear D
      go_wp2
      go_region_held3 (fun w' => w'.cell? ⟨w5.heap.size, 0, none⟩ = some (.slice (some ⟨g1, 0, none⟩) 8 c1) ∧ w'.cell? ⟨w5.heap.size, 1, none⟩ = some (.slice (some ⟨g2, 0, none⟩) 8 c2))
        (first
          | (have _h := hz0; first | exact ⟨hz0, hz1⟩ | exact box_two _ _ hz0 hz1)
          | (have _h := hy0; exact ⟨cell_keep Bl hy0, cell_keep Bl hy1⟩)
          | (have _h := hx0; exact ⟨cell_keep Bl hx0, cell_keep Bl hx1⟩)
          | exact ⟨cell_keep Bl hc0, cell_keep Bl hc1⟩)
        (first
          | (go_at_call 139; go_must (refine (pick_any g _ 5 _ (HD.out.rdr.keep Bl) (by omega) (by decide) (by decide)).mono ?_; rintro e w6 ⟨kk, rfl, hkk, hr6, hf6⟩; have D6 := Lib.hid ((HD.out.keep (below_drew wr)).drawn hr6 hf6); have hx0 := box0 D6.out.boxS; have hx1 := box1 D6.out.boxS; have hadd : IntKind.i64.wrap (1 + (kk : Int)) = 1 + (kk : Int) := IntWalk.i64_in _ (by omega); have hlit := Lib.hid (lit_ints w6 [0, (k : Int), (k : Int), 1 + (kk : Int)] (by simp)); have hg6 := D6.out.rdr.lt; clear hr6 hf6))
          | (go_at_call 182; go_must (refine (num_any g _ _ [0, (k : Int), (k : Int), 1 + (kk : Int)] _ (D6.out.rdr.keep Bl) hlit.out (by omega) (by simp) (by simp) (fun k hk e => by simp [Value.ownBlock] at hk; omega)).mono ?_; rintro e w7 ⟨x, hx, rfl, hr7, hf7⟩; have hx8 : 0 ≤ x ∧ x ≤ 8 := (by simp at hx; omega); have D7 := Lib.hid ((D6.out.keep (below_alloc _ _)).drawn hr7 hf7); have hy0 := box0 D7.out.boxS; have hy1 := box1 D7.out.boxS; clear hr7 hf7 hlit))
          | (go_at_call 203; go_must (refine (l4Value8_any g1 c1 _ _ _ vl (k : Int) x _ _ D7.out.val D7.out.len.1 D7.out.bnd (by omega) (by omega) hx8).mono ?_; rintro e w8 ⟨rfl, vl', hl', hb', h8, hf8⟩; have D8 := Lib.hid (D7.out.setV hf8 h8 hl' hb'); have hz0 := box0 D8.out.boxS; have hz1 := box1 D8.out.boxS; have hzz := boxz D8.out.boxS; have hzl := box_lt D8.out.boxS; clear h8 hf8)))
      all_goals
        have DE := Lib.hid (D8.out.store (by omega))
        clear hz0 hz1 hy0 hy1 hx0 hx1
        go_wp2
        go_roundg (gk - 1)
        case rel => exact ⟨k + 1, vl', by omega, by have := HK.out; omega, by go_num, DE.out.more (by have := HK.out; omega)⟩
        case measure => have := HK.out; omega
    · obtain rfl : k = 9 := by have := HK.out; omega
      have D1 := D.more (q' := q + 16) (by omega)
      have HVA := HA.out
      have hl12 : a.1.length ≤ 12 ∧ a.2.length ≤ 6 := by simp only [asnB, factsB, Bool.and_eq_true, decide_eq_true_eq] at HVA; exact ⟨HVA.1.1, HVA.2.1⟩
      have HFV := Lib.hid (asn_facts_all HVA)
      have HL12 := Lib.hid hl12
      clear D HK hl12 HVA
      go_wp2
      go_loopg [8] a.1.length (fun qq t wr => ∃ (k : Nat) (vl : List Int), k + qq = a.1.length ∧ t = .int .i64 k ∧ SB w wr g (q + 16) w5.heap.size (.slice p1 a.1.length k1) (.slice p2 a.2.length k2) g1 c1 g2 c2 vl (reps (-1) 8))
      case atStart => exact ⟨0, vl, by omega, rfl, D1⟩
      case round =>
        clear D1 vl
        obtain ⟨k, vl, hk, rfl, D⟩ := hrel
        have HK := Lib.hid hk
        clear hk
        have ha0 := box0 D.boxP
        have hk12 : k ≤ 12 := by have := HL12.out; have := HK.out; omega
        by_cases hk8 : k < a.1.length
        · have hki : (k : Int) < (a.1.length : Int) := by omega
          have hq1 := (h1.more (S' := fun j => ¬ j = g ∧ j < w.heap.size) fun j hj h => ⟨h, hj⟩).kept D.fr fun _ _ h e => h.1 e
          obtain ⟨fa, fc, hfe, _, _, hfr⟩ := hq1.factAt
          simp only [Value.slice.injEq] at hfe
          obtain ⟨rfl, _, rfl⟩ := hfe
          obtain ⟨b1, o1, rfl, hs1, hbl1, f1, f2, f3⟩ := hfr k hk8
          have hb1w : b1 < w.heap.size := hs1.2
          obtain ⟨F, hF⟩ : ∃ F, F = gd a.1 k := ⟨_, rfl⟩
          have hFB : factB F = true := by rw [hF]; exact HFV.out.1 _ (gd_mem hk8)
          rw [← hF] at f1 f2 f3
          have hc0 := box0 D.boxS
          have hc1 := box1 D.boxS
          have hgr := D.rdr.lt
          have hbS := box_lt D.boxS
          have hge := D.ge
          have HD := Lib.hid D
          obtain ⟨t1, t2, t3, t4⟩ := factB_le hFB
          clear D hF hFB hfr hq1 hs1
          obtain ⟨F1, F2, F3⟩ := F
          simp only at f1 f2 f3 t1 t2 t3 t4
          cases F1 with
          | false =>
            go_wp2
            go_roundg (gk - 1)
            case rel => exact ⟨k + 1, vl, by have := HK.out; omega, by go_num, HD.out⟩
            case measure => have := HK.out; omega
          | true =>
            go_wp2
            go_region_held3 (fun w' => (w'.cell? ⟨w5.heap.size, 0, none⟩ = some (.slice (some ⟨g1, 0, none⟩) 8 c1) ∧ w'.cell? ⟨w5.heap.size, 1, none⟩ = some (.slice (some ⟨g2, 0, none⟩) 8 c2)) ∧ w'.cell? ⟨w.heap.size, 0, none⟩ = some (.slice (some ⟨b1, o1, none⟩) a.1.length k1) ∧ w'.cell? ⟨b1, o1 + k * 3 + 1, none⟩ = some (.int .i64 F2) ∧ w'.cell? ⟨b1, o1 + k * 3 + 2, none⟩ = some (.int .i64 F3))
              (first
                | (have _h := hz0; first | exact ⟨⟨hz0, hz1⟩, hza, hzf, hzg⟩ | exact ⟨box_two _ _ hz0 hz1, (by repeat (first | with_reducible exact hza | (with_reducible refine (fr_set _ _ _).cell (by first | (simp; done) | (simp; omega) | omega) ?_) | exact cell_keep Bl hza)), (by repeat (first | with_reducible exact hzf | (with_reducible refine (fr_set _ _ _).cell (by first | (simp; done) | (simp; omega) | omega) ?_) | exact cell_keep Bl hzf)), (by repeat (first | with_reducible exact hzg | (with_reducible refine (fr_set _ _ _).cell (by first | (simp; done) | (simp; omega) | omega) ?_) | exact cell_keep Bl hzg))⟩)
                | exact ⟨⟨cell_keep Bl hc0, cell_keep Bl hc1⟩, cell_keep Bl ha0, cell_keep Bl f2, cell_keep Bl f3⟩)
              (first
                | (go_at_call 204; go_must (refine (l1Value_any _ vl F3 _ (HD.out.rv.keep Bl) (by omega) (by have := HD.out.len.1; omega)).mono ?_; rintro e w' ⟨rfl, rfl⟩))
                | (go_at_call 203; go_must (refine (l4Value8_any g1 c1 _ _ _ vl F2 (tv vl F3) _ _ (HD.out.keep Bl).val HD.out.len.1 HD.out.bnd (by omega) (by omega) (HD.out.tv F3 (by omega) (by omega))).mono ?_; rintro e w8 ⟨rfl, vl', hl', hb', h8, hf8⟩; have D7 := HD.out.keep (w' := wr.drew) (below_drew _); have D8 := Lib.hid (D7.setV hf8 h8 hl' hb'); have hz0 := box0 D8.out.boxS; have hz1 := box1 D8.out.boxS; have hza := box0 D8.out.boxP; have hzf := hf8.cell (by show ¬ b1 = g1; omega) (cell_keep (below_drew wr) f2); have hzg := hf8.cell (by show ¬ b1 = g1; omega) (cell_keep (below_drew wr) f3); have hzz := boxz D8.out.boxS; have hzl := box_lt D8.out.boxS; clear h8 hf8 D7)))
            all_goals
              have DE := Lib.hid (D8.out.store (by omega))
              clear hz0 hz1 hza hzf hzg
              go_wp2
              go_roundg (gk - 1)
              case rel => exact ⟨k + 1, vl', by have := HK.out; omega, by go_num, DE.out⟩
              case measure => have := HK.out; omega
        · obtain rfl : k = a.1.length := by have := HK.out; omega
          clear HK
          go_wp2
          go_loopg [6, 9] a.2.length (fun qq nx t wr => ∃ (k n : Nat) (hl : List Int), k + qq = a.2.length ∧ t = .int .i64 k ∧ nx = .int .i64 ((n : Int) + 1) ∧ n < 8 ∧ SB w wr g (q + 16 + k) w5.heap.size (.slice p1 a.1.length k1) (.slice p2 a.2.length k2) g1 c1 g2 c2 vl hl)
          case atStart => exact ⟨0, 0, _, by omega, rfl, rfl, by omega, D⟩
          case round =>
            clear D
            obtain ⟨k, n, hl, hk, rfl, rfl, hn8, D⟩ := hrel
            have HK := Lib.hid hk
            clear hk
            have ha1 := box1 D.boxP
            have hk12 : k ≤ 12 := by have := HL12.out; have := HK.out; omega
            by_cases hk8 : k < a.2.length
            · have hki : (k : Int) < (a.2.length : Int) := by omega
              have hq2 := (h2.more (S' := fun j => ¬ j = g ∧ j < w.heap.size) fun j hj h => ⟨h, hj⟩).kept D.fr fun _ _ h e => h.1 e
              obtain ⟨fa, fc, hfe, _, _, hfr⟩ := hq2.atomAt
              simp only [Value.slice.injEq] at hfe
              obtain ⟨rfl, _, rfl⟩ := hfe
              obtain ⟨b1, o1, rfl, hs1, hbl1, f1, f2, f3⟩ := hfr k hk8
              have hb1w : b1 < w.heap.size := hs1.2
              obtain ⟨F, hF⟩ : ∃ F, F = gd a.2 k := ⟨_, rfl⟩
              have hFB : atomB F = true := by rw [hF]; exact HFV.out.2 _ (gd_mem hk8)
              rw [← hF] at f1 f2 f3
              have hc0 := box0 D.boxS
              have hc1 := box1 D.boxS
              have hgr := D.rdr.lt
              have hbS := box_lt D.boxS
              have hge := D.ge
              have hltS := D.lt
              have HD := Lib.hid D
              obtain ⟨hK, t1, t2, t3, t4⟩ := atomB_bd hFB
              clear D hF hFB hfr hq2 hs1
              obtain ⟨F1, F2, F3⟩ := F
              simp only at f1 f2 f3 t1 t2 t3 t4 hK
              obtain ⟨X, hX⟩ : ∃ X, tv vl F2 = X := ⟨_, rfl⟩
              obtain ⟨Y, hY⟩ : ∃ Y, tv vl F3 = Y := ⟨_, rfl⟩
              have hXb := HD.out.tv F2 t1 t2
              rw [hX] at hXb
              have HX := Lib.hid hX
              have HY := Lib.hid hY
              clear hX hY
              obtain ⟨xn, hxn⟩ : ∃ xn : Nat, X = 0 ∨ (X = (xn : Int) + 1 ∧ xn < 8) := ⟨(X - 1).toNat, by omega⟩
              clear hXb
              rcases hxn with rfl | ⟨rfl, hx8⟩
              · go_wp2
                go_region_held3 (fun w' => w'.cell? ⟨w5.heap.size, 0, none⟩ = some (.slice (some ⟨g1, 0, none⟩) 8 c1) ∧ w'.cell? ⟨w.heap.size, 1, none⟩ = some (.slice (some ⟨b1, o1, none⟩) a.2.length k2) ∧ w'.cell? ⟨b1, o1 + k * 3 + 1, none⟩ = some (.int .i64 F2))
                  (exact ⟨cell_keep Bl hc0, cell_keep Bl ha1, cell_keep Bl f2⟩)
                  (first
                    | (go_at_call 204; go_must (refine (l1Value_any _ vl F2 _ (HD.out.rv.keep Bl) (by omega) (by have := HD.out.len.1; omega)).mono ?_; rw [HX.out]; rintro e w' ⟨rfl, rfl⟩)))
                replace HD := Lib.hid (HD.out.keep (below_drew wr))
                replace hc0 := cell_keep (below_drew wr) hc0; replace hc1 := cell_keep (below_drew wr) hc1; replace ha1 := cell_keep (below_drew wr) ha1; replace f1 := cell_keep (below_drew wr) f1; replace f2 := cell_keep (below_drew wr) f2; replace f3 := cell_keep (below_drew wr) f3
                go_wp2
                go_region_held3 (fun w' => w'.cell? ⟨w5.heap.size, 0, none⟩ = some (.slice (some ⟨g1, 0, none⟩) 8 c1) ∧ w'.cell? ⟨w.heap.size, 1, none⟩ = some (.slice (some ⟨b1, o1, none⟩) a.2.length k2) ∧ w'.cell? ⟨b1, o1 + k * 3 + 2, none⟩ = some (.int .i64 F3))
                  (exact ⟨cell_keep Bl hc0, cell_keep Bl ha1, cell_keep Bl f3⟩)
                  (first
                    | (go_at_call 204; go_must (refine (l1Value_any _ vl F3 _ (HD.out.rv.keep Bl) (by omega) (by have := HD.out.len.1; omega)).mono ?_; rw [HY.out]; rintro e w' ⟨rfl, rfl⟩)))
                replace HD := Lib.hid (HD.out.keep (below_drew wr.drew))
                replace hc0 := cell_keep (below_drew wr.drew) hc0; replace hc1 := cell_keep (below_drew wr.drew) hc1; replace ha1 := cell_keep (below_drew wr.drew) ha1; replace f1 := cell_keep (below_drew wr.drew) f1; replace f2 := cell_keep (below_drew wr.drew) f2; replace f3 := cell_keep (below_drew wr.drew) f3
                go_wp2
                go_roundg (gk - 1)
                case rel => exact ⟨k + 1, n, hl, by have := HK.out; omega, by go_num, rfl, hn8, HD.out.more (by omega)⟩
                case measure => have := HK.out; omega
              · have hx0 : ((xn : Int) + 1 == 0) = false := by rw [beq_eq_false_iff_ne]; omega
                have hxi : (xn : Int) < 8 := by omega
                rcases hK with rfl | rfl
                · by_cases hxy : (xn : Int) + 1 = Y
                  · have hb : ((xn : Int) + 1 == Y) = true := by rw [beq_iff_eq]; exact hxy
                    clear hxy
                    go_wp2
                    go_region_held3 (fun w' => w'.cell? ⟨w5.heap.size, 0, none⟩ = some (.slice (some ⟨g1, 0, none⟩) 8 c1) ∧ w'.cell? ⟨w.heap.size, 1, none⟩ = some (.slice (some ⟨b1, o1, none⟩) a.2.length k2) ∧ w'.cell? ⟨b1, o1 + k * 3 + 1, none⟩ = some (.int .i64 F2))
                      (exact ⟨cell_keep Bl hc0, cell_keep Bl ha1, cell_keep Bl f2⟩)
                      (first
                        | (go_at_call 204; go_must (refine (l1Value_any _ vl F2 _ (HD.out.rv.keep Bl) (by omega) (by have := HD.out.len.1; omega)).mono ?_; rw [HX.out]; rintro e w' ⟨rfl, rfl⟩)))
                    replace HD := Lib.hid (HD.out.keep (below_drew wr))
                    replace hc0 := cell_keep (below_drew wr) hc0; replace hc1 := cell_keep (below_drew wr) hc1; replace ha1 := cell_keep (below_drew wr) ha1; replace f1 := cell_keep (below_drew wr) f1; replace f2 := cell_keep (below_drew wr) f2; replace f3 := cell_keep (below_drew wr) f3
                    go_wp2
                    go_region_held3 (fun w' => w'.cell? ⟨w5.heap.size, 0, none⟩ = some (.slice (some ⟨g1, 0, none⟩) 8 c1) ∧ w'.cell? ⟨w.heap.size, 1, none⟩ = some (.slice (some ⟨b1, o1, none⟩) a.2.length k2) ∧ w'.cell? ⟨b1, o1 + k * 3 + 2, none⟩ = some (.int .i64 F3))
                      (exact ⟨cell_keep Bl hc0, cell_keep Bl ha1, cell_keep Bl f3⟩)
                      (first
                        | (go_at_call 204; go_must (refine (l1Value_any _ vl F3 _ (HD.out.rv.keep Bl) (by omega) (by have := HD.out.len.1; omega)).mono ?_; rw [HY.out]; rintro e w' ⟨rfl, rfl⟩)))
                    replace HD := Lib.hid (HD.out.keep (below_drew wr.drew))
                    replace hc0 := cell_keep (below_drew wr.drew) hc0; replace hc1 := cell_keep (below_drew wr.drew) hc1; replace ha1 := cell_keep (below_drew wr.drew) ha1; replace f1 := cell_keep (below_drew wr.drew) f1; replace f2 := cell_keep (below_drew wr.drew) f2; replace f3 := cell_keep (below_drew wr.drew) f3
                    obtain ⟨hcx, hcz⟩ := HD.out.hcell xn hx8
                    have DE := Lib.hid (HD.out.setH xn Y)
                    go_wp2
                    go_roundg (gk - 1)
                    case rel => exact ⟨k + 1, n, _, by have := HK.out; omega, by go_num, rfl, hn8, DE.out.more (by omega)⟩
                    case measure => have := HK.out; omega
                  · have hb : ((xn : Int) + 1 == Y) = false := by rw [beq_eq_false_iff_ne]; exact hxy
                    clear hxy
                    go_wp2
                    go_region_held3 (fun w' => w'.cell? ⟨w5.heap.size, 0, none⟩ = some (.slice (some ⟨g1, 0, none⟩) 8 c1) ∧ w'.cell? ⟨w.heap.size, 1, none⟩ = some (.slice (some ⟨b1, o1, none⟩) a.2.length k2) ∧ w'.cell? ⟨b1, o1 + k * 3 + 1, none⟩ = some (.int .i64 F2))
                      (exact ⟨cell_keep Bl hc0, cell_keep Bl ha1, cell_keep Bl f2⟩)
                      (first
                        | (go_at_call 204; go_must (refine (l1Value_any _ vl F2 _ (HD.out.rv.keep Bl) (by omega) (by have := HD.out.len.1; omega)).mono ?_; rw [HX.out]; rintro e w' ⟨rfl, rfl⟩)))
                    replace HD := Lib.hid (HD.out.keep (below_drew wr))
                    replace hc0 := cell_keep (below_drew wr) hc0; replace hc1 := cell_keep (below_drew wr) hc1; replace ha1 := cell_keep (below_drew wr) ha1; replace f1 := cell_keep (below_drew wr) f1; replace f2 := cell_keep (below_drew wr) f2; replace f3 := cell_keep (below_drew wr) f3
                    go_wp2
                    go_region_held3 (fun w' => w'.cell? ⟨w5.heap.size, 0, none⟩ = some (.slice (some ⟨g1, 0, none⟩) 8 c1) ∧ w'.cell? ⟨w.heap.size, 1, none⟩ = some (.slice (some ⟨b1, o1, none⟩) a.2.length k2) ∧ w'.cell? ⟨b1, o1 + k * 3 + 2, none⟩ = some (.int .i64 F3))
                      (exact ⟨cell_keep Bl hc0, cell_keep Bl ha1, cell_keep Bl f3⟩)
                      (first
                        | (go_at_call 204; go_must (refine (l1Value_any _ vl F3 _ (HD.out.rv.keep Bl) (by omega) (by have := HD.out.len.1; omega)).mono ?_; rw [HY.out]; rintro e w' ⟨rfl, rfl⟩)))
                    replace HD := Lib.hid (HD.out.keep (below_drew wr.drew))
                    replace hc0 := cell_keep (below_drew wr.drew) hc0; replace hc1 := cell_keep (below_drew wr.drew) hc1; replace ha1 := cell_keep (below_drew wr.drew) ha1; replace f1 := cell_keep (below_drew wr.drew) f1; replace f2 := cell_keep (below_drew wr.drew) f2; replace f3 := cell_keep (below_drew wr.drew) f3
                    obtain ⟨hcx, hcz⟩ := HD.out.hcell xn hx8
                    have DE := Lib.hid (HD.out.setH xn Y)
                    go_wp2
                    go_roundg (gk - 1)
                    case rel => exact ⟨k + 1, n, _, by have := HK.out; omega, by go_num, rfl, hn8, DE.out.more (by omega)⟩
                    case measure => have := HK.out; omega
                · by_cases hxy : (xn : Int) + 1 = Y
                  · have hb : ((xn : Int) + 1 == Y) = true := by rw [beq_iff_eq]; exact hxy
                    clear hxy
                    go_wp2
                    go_region_held3 (fun w' => w'.cell? ⟨w5.heap.size, 0, none⟩ = some (.slice (some ⟨g1, 0, none⟩) 8 c1) ∧ w'.cell? ⟨w.heap.size, 1, none⟩ = some (.slice (some ⟨b1, o1, none⟩) a.2.length k2) ∧ w'.cell? ⟨b1, o1 + k * 3 + 1, none⟩ = some (.int .i64 F2))
                      (exact ⟨cell_keep Bl hc0, cell_keep Bl ha1, cell_keep Bl f2⟩)
                      (first
                        | (go_at_call 204; go_must (refine (l1Value_any _ vl F2 _ (HD.out.rv.keep Bl) (by omega) (by have := HD.out.len.1; omega)).mono ?_; rw [HX.out]; rintro e w' ⟨rfl, rfl⟩)))
                    replace HD := Lib.hid (HD.out.keep (below_drew wr))
                    replace hc0 := cell_keep (below_drew wr) hc0; replace hc1 := cell_keep (below_drew wr) hc1; replace ha1 := cell_keep (below_drew wr) ha1; replace f1 := cell_keep (below_drew wr) f1; replace f2 := cell_keep (below_drew wr) f2; replace f3 := cell_keep (below_drew wr) f3
                    go_wp2
                    go_region_held3 (fun w' => w'.cell? ⟨w5.heap.size, 0, none⟩ = some (.slice (some ⟨g1, 0, none⟩) 8 c1) ∧ w'.cell? ⟨w.heap.size, 1, none⟩ = some (.slice (some ⟨b1, o1, none⟩) a.2.length k2) ∧ w'.cell? ⟨b1, o1 + k * 3 + 2, none⟩ = some (.int .i64 F3))
                      (exact ⟨cell_keep Bl hc0, cell_keep Bl ha1, cell_keep Bl f3⟩)
                      (first
                        | (go_at_call 204; go_must (refine (l1Value_any _ vl F3 _ (HD.out.rv.keep Bl) (by omega) (by have := HD.out.len.1; omega)).mono ?_; rw [HY.out]; rintro e w' ⟨rfl, rfl⟩)))
                    replace HD := Lib.hid (HD.out.keep (below_drew wr.drew))
                    replace hc0 := cell_keep (below_drew wr.drew) hc0; replace hc1 := cell_keep (below_drew wr.drew) hc1; replace ha1 := cell_keep (below_drew wr.drew) ha1; replace f1 := cell_keep (below_drew wr.drew) f1; replace f2 := cell_keep (below_drew wr.drew) f2; replace f3 := cell_keep (below_drew wr.drew) f3
                    go_wp2
                    go_roundg (gk - 1)
                    case rel => exact ⟨k + 1, n, hl, by have := HK.out; omega, by go_num, rfl, hn8, HD.out.more (by omega)⟩
                    case measure => have := HK.out; omega
                  · have hb : ((xn : Int) + 1 == Y) = false := by rw [beq_eq_false_iff_ne]; exact hxy
                    clear hxy
                    go_wp2
                    go_region_held3 (fun w' => w'.cell? ⟨w5.heap.size, 0, none⟩ = some (.slice (some ⟨g1, 0, none⟩) 8 c1) ∧ w'.cell? ⟨w.heap.size, 1, none⟩ = some (.slice (some ⟨b1, o1, none⟩) a.2.length k2) ∧ w'.cell? ⟨b1, o1 + k * 3 + 1, none⟩ = some (.int .i64 F2))
                      (exact ⟨cell_keep Bl hc0, cell_keep Bl ha1, cell_keep Bl f2⟩)
                      (first
                        | (go_at_call 204; go_must (refine (l1Value_any _ vl F2 _ (HD.out.rv.keep Bl) (by omega) (by have := HD.out.len.1; omega)).mono ?_; rw [HX.out]; rintro e w' ⟨rfl, rfl⟩)))
                    replace HD := Lib.hid (HD.out.keep (below_drew wr))
                    replace hc0 := cell_keep (below_drew wr) hc0; replace hc1 := cell_keep (below_drew wr) hc1; replace ha1 := cell_keep (below_drew wr) ha1; replace f1 := cell_keep (below_drew wr) f1; replace f2 := cell_keep (below_drew wr) f2; replace f3 := cell_keep (below_drew wr) f3
                    go_wp2
                    go_region_held3 (fun w' => w'.cell? ⟨w5.heap.size, 0, none⟩ = some (.slice (some ⟨g1, 0, none⟩) 8 c1) ∧ w'.cell? ⟨w.heap.size, 1, none⟩ = some (.slice (some ⟨b1, o1, none⟩) a.2.length k2) ∧ w'.cell? ⟨b1, o1 + k * 3 + 2, none⟩ = some (.int .i64 F3))
                      (exact ⟨cell_keep Bl hc0, cell_keep Bl ha1, cell_keep Bl f3⟩)
                      (first
                        | (go_at_call 204; go_must (refine (l1Value_any _ vl F3 _ (HD.out.rv.keep Bl) (by omega) (by have := HD.out.len.1; omega)).mono ?_; rw [HY.out]; rintro e w' ⟨rfl, rfl⟩)))
                    replace HD := Lib.hid (HD.out.keep (below_drew wr.drew))
                    replace hc0 := cell_keep (below_drew wr.drew) hc0; replace hc1 := cell_keep (below_drew wr.drew) hc1; replace ha1 := cell_keep (below_drew wr.drew) ha1; replace f1 := cell_keep (below_drew wr.drew) f1; replace f2 := cell_keep (below_drew wr.drew) f2; replace f3 := cell_keep (below_drew wr.drew) f3
                    go_wp2_with fail
                    refine (pick_any g _ 2 _ HD.out.rdr (by omega) (by decide) (by decide)).mono ?_
                    rintro e w6 ⟨kk, rfl, hkk, hr6, hf6⟩
                    have D6 := Lib.hid (HD.out.drawn hr6 hf6)
                    clear hr6 hf6 f1 f2 f3 ha1
                    replace hc0 := box0 D6.out.boxS
                    replace hc1 := box1 D6.out.boxS
                    by_cases hk0 : kk = 0
                    rotate_left
                    · have kb0 : ((kk : Int) == 0) = false := by rw [beq_eq_false_iff_ne]; omega
                      replace HD := D6
                      obtain ⟨hcx, hcz⟩ := HD.out.hcell xn hx8
                      have DE := Lib.hid (HD.out.setH xn Y)
                      go_wp2
                      go_roundg (gk - 1)
                      case rel => exact ⟨k + 1, n, _, by have := HK.out; omega, by go_num, rfl, hn8, DE.out.more (by omega)⟩
                      case measure => have := HK.out; omega
                    · subst hk0
                      obtain ⟨gO, hgO⟩ : ∃ g, g = gk := ⟨_, rfl⟩
                      have HGO := Lib.hid hgO
                      clear hgO hc0 hc1 HD
                      go_wp2
                      go_loopg [6] (7 - n) (fun qq t wr2 => ∃ n' : Nat, t = .int .i64 ((n' : Int) + 1) ∧ n' < 8 ∧ qq = 7 - n' ∧ SB w wr2 g (q + 16 + k + 1) w5.heap.size (.slice p1 a.1.length k1) (.slice (some ⟨b1, o1, none⟩) a.2.length k2) g1 c1 g2 c2 vl hl)
                      case atStart => exact ⟨n, rfl, hn8, rfl, D6.out⟩
                      case round =>
                        obtain ⟨n', rfl, hn8', hq', D⟩ := hrel
                        have HQ := Lib.hid hq'
                        have hc0 := box0 D.boxS
                        have hc1 := box1 D.boxS
                        obtain ⟨hcn, hnz⟩ := D.hcell n' hn8'
                        have hlS := box_lt D.boxS
                        have HE := Lib.hid D
                        have hni8 : (n' : Int) < 8 := by omega
                        clear D hq'
                        by_cases hn7 : n' < 7
                        · have hni : (n' : Int) + 1 < 8 := by omega
                          obtain ⟨V, hV⟩ : ∃ V, gi hl n' = V := ⟨_, rfl⟩
                          rw [hV] at hcn
                          have HV := Lib.hid hV
                          clear hV
                          by_cases h0 : 0 ≤ V
                          · go_wp2
                            go_roundg (gk - 1)
                            case rel => exact ⟨n' + 1, by go_num, by omega, by have := HQ.out; omega, HE.out⟩
                            case measure => have := HQ.out; omega
                          · have hneg : V < 0 := by omega
                            clear h0
                            go_wp2_with fail
                            refine (l4Known_any _ _ vl ((n' : Int) + 1) _ HE.out.rv).mono ?_
                            rintro e w9 ⟨b, rfl, hb⟩
                            replace HE := Lib.hid (HE.out.keep hb)
                            replace hc0 := box0 HE.out.boxS
                            replace hc1 := box1 HE.out.boxS
                            replace hlS := box_lt HE.out.boxS
                            clear hcn hnz hb
                            cases b with
                            | true =>
                              go_wp2
                              go_roundg (gk - 1)
                              case rel => exact ⟨n' + 1, by go_num, by omega, by have := HQ.out; omega, HE.out⟩
                              case measure => have := HQ.out; omega
                            | false =>
                              obtain ⟨hcx, hcz⟩ := HE.out.hcell xn hx8
                              have D1 := HE.out.setH xn ((n' : Int) + 1)
                              obtain ⟨hcy, hcyz⟩ := D1.hcell n' hn8'
                              have hd0 := box0 D1.boxS
                              have hd1 := box1 D1.boxS
                              have hl1 := box_lt D1.boxS
                              have D2 := Lib.hid (D1.setH n' Y)
                              clear D1
                              go_wp2
                              go_roundg (gO - 1)
                              case rel => exact ⟨k + 1, n', _, by have := HK.out; have := HGO.out; omega, by go_num, rfl, hn8', D2.out.more (by omega)⟩
                              case measure => have := HK.out; have := HGO.out; omega
                        · have hni : (8 : Int) ≤ (n' : Int) + 1 := by omega
                          obtain ⟨hcx, hcz⟩ := HE.out.hcell xn hx8
                          have D1 := HE.out.setH xn ((n' : Int) + 1)
                          obtain ⟨hcy, hcyz⟩ := D1.hcell n' hn8'
                          have hd0 := box0 D1.boxS
                          have hd1 := box1 D1.boxS
                          have hl1 := box_lt D1.boxS
                          have D2 := Lib.hid (D1.setH n' Y)
                          clear D1
                          go_wp2
                          go_roundg (gO - 1)
                          case rel => exact ⟨k + 1, n', _, by have := HK.out; have := HGO.out; omega, by go_num, rfl, hn8', D2.out.more (by omega)⟩
                          case measure => have := HK.out; have := HGO.out; omega
            · obtain rfl : k = a.2.length := by have := HK.out; omega
              have ha0 := box0 D.boxR
              have ha1' := box1 D.boxR
              have haz := boxz D.boxR
              have hal := box_lt D.boxR
              have hb0 := box0 D.boxS
              have hb1 := box1 D.boxS
              have hbl := box_lt D.boxS
              have hn1 : ¬ w5.heap.size = w.heap.size + 1 := by omega
              have HD := Lib.hid D
              clear D
              go_wp2
              have hDR := HD.out.done (.slice (some ⟨g1, 0, none⟩) 8 c1) (.slice (some ⟨g2, 0, none⟩) 8 c2)
              refine bodyPost_ret (v := .agg #[.slice (some ⟨g1, 0, none⟩) 8 c1, .slice (some ⟨g2, 0, none⟩) 8 c2]) (by simp [results, Try.results140, go_sem, ha0, ha1']) rfl ?_
              exact ⟨_, _, vl, hl, rfl, HD.out.len.1, HD.out.len.2, hDR.1, hDR.2.1.more (by have := HL12.out; omega), hDR.2.2⟩
end Go.Proofs.Ytapoillhgimdiaa
