/- Walks: the machine runs programs (the program's list, command, RunProgram). -/
import Derived.Test.YtgfnoinkajfndaaGreatAMacB
import Derived.Test.YtgfnoinkajfndaaGreatAValJ
import Derived.Test.YtgfnoinkajfndaaGreatARunU
import Derived.Test.YtgfnoinkajfndaaGreatAPerms
import Derived.Handy
import Derived.Deep.DeepMust
import Derived.Deep.Cut
import Derived.Deep.CutBlock
import Derived.Deep.CutRange
set_option linter.unusedVariables false
set_option linter.unusedSimpArgs false
namespace Go.Proofs.YtgfnoinkajfndaaGreat
open Go.RowKit

theorem MSt.small {w : World} {F : Nat → Prop} {m : Nat} {s : St} {f : Nat} (h : MSt w F m s f) : MSt w (fun j => F j ∧ j < w.heap.size) m s f := by
  obtain ⟨g1, c1, g2, c2, hm⟩ := h.form
  have hc := hm.cells
  exact (⟨hm.box, hm.own, hm.n1, hm.n2, ⟨hm.fm, box_lt hm.box⟩, ⟨hm.f1, hc.1⟩, ⟨hm.f2, hc.2.1⟩, hm.ok⟩ : MForm w (fun j => F j ∧ j < w.heap.size) m s f g1 c1 g2 c2).mst
theorem MRes.more {r : RRes} {F G : Nat → Prop} {m : Nat} {w : World} {e : Ending} {w' : World} (h : MRes r F m w e w') (hF : ∀ j, F j → G j) : MRes r G m w e w' :=
  ⟨h.1, h.2.1.more fun j hj => hj.elim (fun h => .inl (hF j h)) .inr, h.2.2.mono fun k _ h => hF k h⟩
theorem test_val {s : St} {t : Fact} (hs : okSt s) (ht : factB t = true) : testB s.1 s.2 t.1 t.2.1 t.2.2 = factT s.1 t := by
  have hv : validB s.1 s.2 = true := hs
  have h2 : isTermB t.2.1 = true ∧ isTermB t.2.2 = true := by simpa [factB] using ht
  rw [testB, hv, h2.1, h2.2]; rfl
/-- The contract of a list of commands. -/
def ListC (d : Nat) (D : Int) : Prop := ∀ (S F : Nat → Prop) (m : Nat) (v : Value) (l : List (Cm d)) (s : St) (f : Nat) (w : World) (_h : RL w S v l) (_hS : ∀ j, j < w.heap.size → S j → ¬ F j) (_hsh : shpB d l D = true) (_hm : MSt w F m s f) (_hf : f ≤ 1000),
    Calls Tryz.prog 69 #[.pointer (some ⟨m, 0, none⟩), v] w (MRes (runL d l s f) F m w)
set_option maxRecDepth 100000 in
set_option maxHeartbeats 12800000 in
theorem command_step {d : Nat} {D : Int} (IH : ListC d D) (S F : Nat → Prop) (m : Nat) (c : Cm (d + 1)) (f1 f2 x y : Value) (s : St) (f : Nat) (w : World) (hf1 : ∃ a n k, f1 = .slice a n k) (hf2 : ∃ a n k, f2 = .slice a n k) (hx : RL w S x c.body) (hy : RL w S y c.els)
    (hS : ∀ j, j < w.heap.size → S j → ¬ F j) (hh : headOk c = true) (hb : shpB d c.body D = true) (he : shpB d c.els D = true) (hm : MSt w F m s f) (hf : f ≤ 1000) :
    Calls Tryz.prog 106 #[.pointer (some ⟨m, 0, none⟩), .agg #[.int .i64 c.kind, .int .i64 c.a, .int .i64 c.b, .bool c.test.1, .int .i64 c.test.2.1, .int .i64 c.test.2.2, f1, f2, x, y]] w (MRes (cmdR c s f) F m w) := by
  obtain ⟨a3, n3, c3, rfl⟩ := hf1
  obtain ⟨a4, n4, c4, rfl⟩ := hf2
  obtain ⟨a5, c5, rfl⟩ := hx.form
  obtain ⟨a6, c6, rfl⟩ := hy.form
  have hmw := hm.lt.2
  have hbA := below_alloc w (.cells #[.int .i64 c.kind, .int .i64 c.a, .int .i64 c.b, .bool c.test.1, .int .i64 c.test.2.1, .int .i64 c.test.2.2, .slice a3 n3 c3, .slice a4 n4 c4, .slice a5 c.body.length c5, .slice a6 c.els.length c6] 77)
  have hC := heap_alloc_new w (.cells #[.int .i64 c.kind, .int .i64 c.a, .int .i64 c.b, .bool c.test.1, .int .i64 c.test.2.1, .int .i64 c.test.2.2, .slice a3 n3 c3, .slice a4 n4 c4, .slice a5 c.body.length c5, .slice a6 c.els.length c6] 77)
  have hzA : (w.alloc (.cells #[.int .i64 c.kind, .int .i64 c.a, .int .i64 c.b, .bool c.test.1, .int .i64 c.test.2.1, .int .i64 c.test.2.2, .slice a3 n3 c3, .slice a4 n4 c4, .slice a5 c.body.length c5, .slice a6 c.els.length c6] 77)).heap.size = w.heap.size + 1 := by simp
  have HZA := Lib.hid hzA
  -- the blocks that may change: those that were there
  obtain ⟨G, hG⟩ : ∃ G : Nat → Prop, G = fun j => F j ∧ j < w.heap.size := ⟨_, rfl⟩
  have hms : MSt w G m s f := by rw [hG]; exact hm.small
  have GF : ∀ j, G j → F j := fun j h => by rw [hG] at h; exact h.1
  have GZ : ∀ j, G j → j < w.heap.size := fun j h => by rw [hG] at h; exact h.2
  have HG := Lib.hid (And.intro GF GZ)
  have HA := Lib.hid (And.intro (hms.keep hbA) (And.intro hbA hC))
  have hSG : ∀ j, j < w.heap.size → S j → ¬ G j := fun j h1 h2 h3 => hS j h1 h2 (GF j h3)
  have HD := Lib.hid (And.intro (hx.more (S' := fun j => S j ∧ j < w.heap.size) fun j h1 h2 => ⟨h2, h1⟩) (And.intro (hy.more (S' := fun j => S j ∧ j < w.heap.size) fun j h1 h2 => ⟨h2, h1⟩) hSG))
  have HIH := Lib.hid (show ListC d D from IH)
  have HSH := Lib.hid (And.intro hh (And.intro hb he))
  suffices h : Calls Tryz.prog 106 #[.pointer (some ⟨m, 0, none⟩), .agg #[.int .i64 c.kind, .int .i64 c.a, .int .i64 c.b, .bool c.test.1, .int .i64 c.test.2.1, .int .i64 c.test.2.2, .slice a3 n3 c3, .slice a4 n4 c4, .slice a5 c.body.length c5, .slice a6 c.els.length c6]] w (MRes (cmdR c s f) G m w) from h.mono fun e w' h => h.more HG.out.1
  clear hm hms hbA hC hx hy hS hSG IH hh hb he hG GF GZ hzA
  go_enter Tryz.func106, Tryz.ntmps106
  go_wp2_with fail
  refine (pay_any G m s f _ HA.out.1 hf).mono ?_
  rintro e w2 ⟨rfl, hm2, hF2⟩
  have hzA := HZA.out
  have hz2 := hF2.size
  rw [hzA] at hz2
  have hC2 := box_kept HA.out.2.2 hF2 (fun h => by have := HG.out.2 _ h; omega)
  have HM2 := Lib.hid (And.intro hm2 (And.intro hC2 (((Below.fr HA.out.2.1).mono (S' := G) fun _ _ h => h.elim).trans hF2)))
  have k0 := cell_of_row _ _ 0 _ _ _ hC2
  have k3 := cell_of_row _ _ 3 _ _ _ hC2
  have k4 := cell_of_row _ _ 4 _ _ _ hC2
  have k5 := cell_of_row _ _ 5 _ _ _ hC2
  have hkz := box_lt hC2
  clear hm2 hF2 hC2
  by_cases hf0 : f = 0
  · subst hf0
    have HE := Lib.hid (show cmdR c s 0 = (3, s, 0) by rw [cmdR, if_pos rfl])
    go_wp2
    go_ret
    exact ⟨by rw [HE.out]; rfl, by rw [HE.out]; exact HM2.out.1.more fun j h => .inl h, HM2.out.2.2⟩
  · obtain ⟨k, rfl⟩ : ∃ k, f = k + 1 := ⟨f - 1, by omega⟩
    have hd : decide (0 < k + 1) = true := by simp
    have hk1 : k + 1 - 1 = k := by omega
    have HM3 := Lib.hid (show MSt w2 G m s k from HM2.out.1)
    have hok := HM3.out.ok
    obtain ⟨g1, c1, g2, c2, hform⟩ := HM3.out.form
    have m0 := cell_of_row _ _ 0 _ _ _ hform.box
    have m1 := cell_of_row _ _ 1 _ _ _ hform.box
    have hmz := box_lt hform.box
    have HFM := Lib.hid hform
    have HOK := Lib.hid hok
    clear hform hok
    by_cases z6 : c.kind = 6
    · have Z6 := Lib.hid z6
      have y6 : (c.kind == 6) = true := by simp [z6]
      clear z6 hf0
      obtain ⟨tb, htb⟩ : ∃ b, factT s.1 c.test = b := ⟨_, rfl⟩
      have HTB := Lib.hid htb
      have HTV := Lib.hid (show testB s.1 s.2 c.test.1 c.test.2.1 c.test.2.2 = tb by rw [test_val HOK.out (headOk_test HSH.out.1 (.inl Z6.out)), htb])
      clear htb
      go_upto_region 5 with fail
      refine wp_region_ext (by kernel_rfl) (by kernel_rfl) ?_
      repeat (go_big_quiet_step ((go_at_call 134; exact ext_c (testHolds_eq _ _ s.1 s.2 _ _ _ tb _ ((own_ints HFM.out.own.one).1.keep (ext_below _ _)) ((own_ints HFM.out.own.two).1.keep (ext_below _ _)) HTV.out))))
      refine wpQuiet_nil ?_
      intro w5 hb5
      have hz5 := hb5.size
      have HM5 := Lib.hid (And.intro (HM3.out.keep hb5) (And.intro (box_keep HM2.out.2.1 hb5) (HM2.out.2.2.thenB hb5)))
      have k8 := cell_of_row _ _ 8 _ _ _ HM5.out.2.1
      have k9 := cell_of_row _ _ 9 _ _ _ HM5.out.2.1
      have hkz5 := box_lt HM5.out.2.1
      clear hb5 k0 k3 k4 k5 m0 m1
      cases tb with
      | true =>
        have HE := Lib.hid (show cmdR c s (k + 1) = runL d c.body s k by rw [cmdR, if_neg (Nat.succ_ne_zero k), if_pos Z6.out, if_pos HTB.out]; rfl)
        go_wp2_with fail
        refine (HIH.out (fun j => S j ∧ j < w.heap.size) G m _ c.body s k _ (HD.out.1.kept HM5.out.2.2 (fun j _ hj => HD.out.2.2 j hj.2 hj.1)) (fun j _ hj => HD.out.2.2 j hj.2 hj.1) HSH.out.2.1 HM5.out.1 (by omega)).mono ?_
        rintro e w6 ⟨rfl, hm6, hF6⟩
        have HN := Lib.hid (And.intro (hm6.more (F' := fun j => G j ∨ w.heap.size ≤ j) fun j h => h.elim .inl (fun h => .inr (by omega))) (HM5.out.2.2.trans hF6))
        clear hm6 hF6
        go_wp2
        go_ret
        exact ⟨by rw [HE.out]; rfl, by rw [HE.out]; exact HN.out.1, HN.out.2⟩
      | false =>
        have HE := Lib.hid (show cmdR c s (k + 1) = runL d c.els s k by rw [cmdR, if_neg (Nat.succ_ne_zero k), if_pos Z6.out, if_neg (by rw [HTB.out]; decide)]; rfl)
        go_wp2_with fail
        refine (HIH.out (fun j => S j ∧ j < w.heap.size) G m _ c.els s k _ (HD.out.2.1.kept HM5.out.2.2 (fun j _ hj => HD.out.2.2 j hj.2 hj.1)) (fun j _ hj => HD.out.2.2 j hj.2 hj.1) HSH.out.2.2 HM5.out.1 (by omega)).mono ?_
        rintro e w6 ⟨rfl, hm6, hF6⟩
        have HN := Lib.hid (And.intro (hm6.more (F' := fun j => G j ∨ w.heap.size ≤ j) fun j h => h.elim .inl (fun h => .inr (by omega))) (HM5.out.2.2.trans hF6))
        clear hm6 hF6
        go_wp2
        go_ret
        exact ⟨by rw [HE.out]; rfl, by rw [HE.out]; exact HN.out.1, HN.out.2⟩
    · have Z6 := Lib.hid z6
      have y6 : (c.kind == 6) = false := by simp [z6]
      clear z6 hf0
      by_cases z7 : c.kind = 7
      · have Z7 := Lib.hid z7
        have y7 : (c.kind == 7) = true := by simp [z7]
        clear z7
        obtain ⟨T, hT⟩ : ∃ T, loopR (runL d c.body) (fun s => factT s.1 c.test) (k + 1) s k = T := ⟨_, rfl⟩
        have HT := Lib.hid hT
        have HE := Lib.hid (show cmdR c s (k + 1) = T by rw [cmdR, if_neg (Nat.succ_ne_zero k), if_neg Z6.out, if_pos Z7.out]; exact hT)
        clear hT k3 k4 k5 m0 m1
        go_wp2
        go_loopg [] k (fun q wr => ∃ s' : St, q ≤ k ∧ loopR (runL d c.body) (fun s => factT s.1 c.test) (q + 1) s' q = T ∧ MSt wr (fun j => G j ∨ w.heap.size + 1 ≤ j) m s' q ∧ wr.heap[w.heap.size]? = some (.cells #[.int .i64 c.kind, .int .i64 c.a, .int .i64 c.b, .bool c.test.1, .int .i64 c.test.2.1, .int .i64 c.test.2.2, .slice a3 n3 c3, .slice a4 n4 c4, .slice a5 c.body.length c5, .slice a6 c.els.length c6] 77 (0, 0)) ∧ Fr G w wr)
        case atStart => exact ⟨s, Nat.le_refl _, HT.out, HM3.out.more fun j h => .inl h, HM2.out.2.1, HM2.out.2.2⟩
        case round =>
          obtain ⟨s', hqk, hTT, hm, hC, hF⟩ := hrel
          have hs := hF.size
          have hmlt := hm.lt.2
          have hok := hm.ok
          obtain ⟨g1, c1, g2, c2, hform⟩ := hm.form
          have m0 := cell_of_row _ _ 0 _ _ _ hform.box
          have m1 := cell_of_row _ _ 1 _ _ _ hform.box
          replace k0 := cell_of_row _ _ 0 _ _ _ hC
          have k3 := cell_of_row _ _ 3 _ _ _ hC
          have k4 := cell_of_row _ _ 4 _ _ _ hC
          have k5 := cell_of_row _ _ 5 _ _ _ hC
          have hCz := box_lt hC
          obtain ⟨tb, htb⟩ : ∃ b, factT s'.1 c.test = b := ⟨_, rfl⟩
          have HTB := Lib.hid htb
          have HTV := Lib.hid (show testB s'.1 s'.2 c.test.1 c.test.2.1 c.test.2.2 = tb by rw [test_val hok (headOk_test HSH.out.1 (.inr Z7.out)), htb])
          have HR := Lib.hid (And.intro (And.intro hTT hok) (And.intro (And.intro hm hC) (And.intro hF hform)))
          clear htb hTT hm hC hF hform hok
          go_upto_region 9 with fail
          refine wp_region_ext (by kernel_rfl) (by kernel_rfl) ?_
          repeat (go_big_quiet_step ((go_at_call 134; exact ext_c (testHolds_eq _ _ s'.1 s'.2 _ _ _ tb _ ((own_ints HR.out.2.2.2.own.one).1.keep (ext_below _ _)) ((own_ints HR.out.2.2.2.own.two).1.keep (ext_below _ _)) HTV.out))))
          refine wpQuiet_nil ?_
          intro w5 hb5
          have hz5 := hb5.size
          have HM5 := Lib.hid (And.intro (HR.out.2.1.1.keep hb5) (And.intro (box_keep HR.out.2.1.2 hb5) (HR.out.2.2.1.thenB hb5)))
          have k8 := cell_of_row _ _ 8 _ _ _ HM5.out.2.1
          have hkz5 := box_lt HM5.out.2.1
          clear hb5 k0 k3 k4 k5 m0 m1
          cases tb with
          | false =>
            have HF0 := Lib.hid (show T = (0, s', gk) by rw [← HR.out.1.1, loopR, if_neg (by rw [HTB.out]; decide)])
            go_wp2
            go_ret
            exact ⟨by rw [HE.out, HF0.out]; rfl, by rw [HE.out, HF0.out]; exact HM5.out.1.more fun j h => h.elim .inl (fun h => .inr (by omega)), HM5.out.2.2⟩
          | true =>
            have hrk := run_ok d c.body D s' gk HSH.out.2.1 HR.out.1.2
            have hrf := run_fuel d c.body s' gk
            have hlp : T = if (runL d c.body s' gk).1 = 0 then (if (runL d c.body s' gk).2.2 = 0 then (3, (runL d c.body s' gk).2.1, 0) else loopR (runL d c.body) (fun s => factT s.1 c.test) gk (runL d c.body s' gk).2.1 ((runL d c.body s' gk).2.2 - 1)) else runL d c.body s' gk := by
              rw [← HR.out.1.1, loopR, if_pos HTB.out]
            go_wp2_with fail
            refine (HIH.out (fun j => S j ∧ j < w.heap.size) (fun j => G j ∨ w.heap.size + 1 ≤ j) m _ c.body s' gk _ (HD.out.1.kept HM5.out.2.2 (fun j _ hj => HD.out.2.2 j hj.2 hj.1)) (fun j _ hj h => h.elim (HD.out.2.2 j hj.2 hj.1) (fun h => by have := hj.2; omega)) HSH.out.2.1 HM5.out.1 (by omega)).mono ?_
            obtain ⟨rr, hrr⟩ : ∃ rr, runL d c.body s' gk = rr := ⟨_, rfl⟩
            rw [hrr] at hrk hrf hlp ⊢
            obtain ⟨code, s2, rest⟩ := rr
            simp only at hrk hrf hlp
            have HL := Lib.hid (And.intro hlp hrk)
            clear hlp hrk hrr
            rintro e w6 ⟨rfl, hm6, hF6⟩
            dsimp only at hm6 ⊢
            have hz6 := hF6.size
            have hC6 := box_kept HM5.out.2.1 hF6 (fun h => h.elim (fun h => by have := HG.out.2 _ h; omega) (fun h => by omega))
            have HM6 := Lib.hid (And.intro (hm6.more (F' := fun j => G j ∨ w.heap.size + 1 ≤ j) fun j h => h.elim id (fun h => .inr (by omega))) (And.intro hC6 (HM5.out.2.2.then hF6 fun i hi h => h.elim id (fun h => by omega))))
            clear hm6 hF6 hC6 k8
            by_cases hc : code = 0
            · subst hc
              go_wp2_with fail
              refine (pay_any (fun j => G j ∨ w.heap.size + 1 ≤ j) m s2 rest _ HM6.out.1 (by omega)).mono ?_
              rintro e w7 ⟨rfl, hm7, hF7⟩
              have hz7 := hF7.size
              have hC7 := box_kept HM6.out.2.1 hF7 (fun h => h.elim (fun h => by have := HG.out.2 _ h; omega) (fun h => by omega))
              have HM7 := Lib.hid (And.intro hm7 (And.intro hC7 (HM6.out.2.2.then hF7 fun i hi h => h.elim id (fun h => by omega))))
              clear hm7 hF7 hC7
              by_cases hr0 : rest = 0
              · subst hr0
                have HF0 := Lib.hid (show T = (3, s2, 0) by rw [HL.out.1]; simp)
                go_wp2
                go_ret
                exact ⟨by rw [HE.out, HF0.out]; rfl, by rw [HE.out, HF0.out]; exact HM7.out.1.more fun j h => h.elim .inl (fun h => .inr (by omega)), HM7.out.2.2⟩
              · have hd0 : decide (0 < rest) = true := by simp; omega
                have HF0 := Lib.hid (show T = loopR (runL d c.body) (fun s => factT s.1 c.test) gk s2 (rest - 1) by rw [HL.out.1]; simp [hr0])
                have HR0 := Lib.hid hr0
                clear hr0
                go_wp2
                go_roundg (rest - 1)
                case rel => exact ⟨s2, by omega, by rw [HF0.out]; have := HR0.out; exact loop_bound (fun s f => run_fuel d c.body s f) _ _ s2 _ (by omega) (by omega), HM7.out.1, HM7.out.2.1, HM7.out.2.2⟩
                case measure => have := HR0.out; omega
            · have yc : (code == 0) = false := beq_eq_false_iff_ne.2 hc
              have HF0 := Lib.hid (show T = (code, s2, rest) by rw [HL.out.1, if_neg hc])
              clear hc
              go_wp2
              go_ret
              exact ⟨by rw [HE.out, HF0.out]; rfl, by rw [HE.out, HF0.out]; exact HM6.out.1.more fun j h => h.elim .inl (fun h => .inr (by omega)), HM6.out.2.2⟩
      · have Z7 := Lib.hid z7
        have y7 : (c.kind == 7) = false := by simp [z7]
        clear z7
        have hbb := headOk_basic HSH.out.1 Z6.out Z7.out
        have hff2 := basic_fields hbb
        have HE := Lib.hid (show cmdR c s (k + 1) = ((basicR c.kind c.a c.b s).1, (basicR c.kind c.a c.b s).2, k) by rw [cmdR, if_neg (Nat.succ_ne_zero k), if_neg Z6.out, if_neg Z7.out]; rfl)
        have k1 := cell_of_row _ _ 1 _ _ _ HM2.out.2.1
        have k2 := cell_of_row _ _ 2 _ _ _ HM2.out.2.1
        have k6 := cell_of_row _ _ 6 _ _ _ HM2.out.2.1
        have k7 := cell_of_row _ _ 7 _ _ _ HM2.out.2.1
        have k8 := cell_of_row _ _ 8 _ _ _ HM2.out.2.1
        have k9 := cell_of_row _ _ 9 _ _ _ HM2.out.2.1
        go_wp2_with fail
        refine (basicI_any G m k c.kind c.a c.b c.test _ _ _ _ s _ HM3.out ⟨⟨_, _, _, rfl⟩, ⟨_, _, _, rfl⟩, ⟨_, _, _, rfl⟩, ⟨_, _, _, rfl⟩⟩ hff2.1 hff2.2 (basic_prog hbb)).mono ?_
        rintro e w6 ⟨rfl, hm6, hF6⟩
        have HN := Lib.hid (And.intro (hm6.more (F' := fun j => G j ∨ w.heap.size ≤ j) fun j h => h.elim .inl (fun h => .inr (by omega))) (HM2.out.2.2.trans hF6))
        clear hm6 hF6 hbb hff2
        go_wp2
        go_ret
        exact ⟨by rw [HE.out]; rfl, by rw [HE.out]; exact HN.out.1, HN.out.2⟩
set_option maxRecDepth 100000 in
set_option maxHeartbeats 12800000 in
theorem list_any : ∀ (d : Nat) (D : Int), ListC d D := by
  intro d
  induction d with
  | zero =>
    intro D S F m v l s f w h _ _ hm hf
    obtain rfl := h.cm0
    obtain ⟨a, c, rfl⟩ := h.form
    have HM := Lib.hid hm
    clear h hm
    go_enter Tryz.func69, Tryz.ntmps69
    go_wp2
    go_loopg [10] 1 (fun q i wr => i = .int .i64 0 ∧ wr = w)
    case atStart => exact ⟨rfl, rfl⟩
    case round =>
      obtain ⟨rfl, rfl⟩ := hrel
      go_wp2
      go_ret
      exact ⟨rfl, HM.out.more fun j h => .inl h, Fr.refl _ _⟩
  | succ d ih =>
    intro D S F m v l s f w h hS hsh hm hf
    obtain ⟨a, cap, rfl, _, _, hc⟩ := (h.more (S' := fun j => S j ∧ j < w.heap.size) fun j h1 h2 => ⟨h2, h1⟩).cmAt
    have hlm := h.len
    unfold maxLen at hlm
    have FF := Lib.hid hc
    have HIH := Lib.hid (show ∀ D, ListC d D from ih)
    have HSH := Lib.hid (shape_succ hsh)
    obtain ⟨T, hT⟩ : ∃ T, runL (d + 1) l s f = T := ⟨_, rfl⟩
    have HT := Lib.hid (And.intro hT (And.intro hm hS))
    rw [hT]
    clear h hc hm hS hsh ih hT
    go_enter Tryz.func69, Tryz.ntmps69
    go_wp2
    go_loopg [10] l.length (fun q i wr => ∃ (k : Nat) (s' : St) (f' : Nat), k + q = l.length ∧ i = .int .i64 (k : Int) ∧ f' ≤ f ∧ seqR cmdR (l.drop k) s' f' = T ∧ MSt wr (fun j => F j ∨ w.heap.size ≤ j) m s' f' ∧ Fr F w wr)
    case atStart => exact ⟨0, s, f, by omega, rfl, Nat.le_refl _, HT.out.1, HT.out.2.1.more fun j h => .inl h, Fr.refl _ _⟩
    case round =>
      obtain ⟨k, s', f', hk, rfl, hff, hTT, hm, hF⟩ := hrel
      have hs := hF.size
      have HR := Lib.hid (And.intro (And.intro hk hTT) (And.intro hm hF))
      clear hk hTT hm hF
      by_cases hk8 : k < l.length
      · obtain ⟨b, o, f1, f2, x, y, rfl, hsb, hbl, hcc, ⟨g1, g2⟩, g3, g4⟩ := FF.out k hk8
        obtain ⟨fa1, fn1, rfl⟩ := g1.form
        obtain ⟨fa2, fn2, rfl⟩ := g2.form
        obtain ⟨xa, xn, rfl⟩ := g3.form
        obtain ⟨ya, yn, rfl⟩ := g4.form
        have hSF : ∀ j, j < w.heap.size → S j ∧ j < w.heap.size → ¬ F j := fun j h1 h2 => HT.out.2.2 j h1 h2.1
        have hbF : ¬ F b := hSF b hbl hsb
        obtain ⟨c, hck⟩ : ∃ c, gd l k = c := ⟨_, rfl⟩
        have hcm := HSH.out c (by rw [← hck]; exact gd_mem hk8)
        have HD := Lib.hid (show T = if (cmdR c s' f').1 = 0 then seqR cmdR (l.drop (k + 1)) (cmdR c s' f').2.1 (cmdR c s' f').2.2 else cmdR c s' f' by rw [← HR.out.1.2, drop_gd hk8, hck, seq_cons])
        rw [hck] at hcc g1 g2 g3 g4
        have hcc' : ∀ j u, (cmCells c.kind c.a c.b c.test (.slice fa1 c.inv.1.length fn1) (.slice fa2 c.inv.2.length fn2) (.slice xa c.body.length xn) (.slice ya c.els.length yn))[j]? = some u → wr.cell? ⟨b, o + k * 10 + j, none⟩ = some u := fun j u hj => HR.out.2.2.cell (p := ⟨b, o + k * 10 + j, none⟩) hbF (hcc j u hj)
        have c0 : wr.cell? ⟨b, o + k * 10, none⟩ = some (.int .i64 c.kind) := hcc' 0 _ rfl
        have c1 := hcc' 1 _ rfl
        have c2 := hcc' 2 _ rfl
        have c3 := hcc' 3 _ rfl
        have c4 := hcc' 4 _ rfl
        have c5 := hcc' 5 _ rfl
        have c6 := hcc' 6 _ rfl
        have c7 := hcc' 7 _ rfl
        have c8 := hcc' 8 _ rfl
        have c9 := hcc' 9 _ rfl
        have hbA := below_alloc wr (.cells #[.int .i64 c.kind, .int .i64 c.a, .int .i64 c.b, .bool c.test.1, .int .i64 c.test.2.1, .int .i64 c.test.2.2, .slice fa1 c.inv.1.length fn1, .slice fa2 c.inv.2.length fn2, .slice xa c.body.length xn, .slice ya c.els.length yn] 77)
        have hzA : (wr.alloc (.cells #[.int .i64 c.kind, .int .i64 c.a, .int .i64 c.b, .bool c.test.1, .int .i64 c.test.2.1, .int .i64 c.test.2.2, .slice fa1 c.inv.1.length fn1, .slice fa2 c.inv.2.length fn2, .slice xa c.body.length xn, .slice ya c.els.length yn] 77)).heap.size = wr.heap.size + 1 := by simp
        have i1 : (k : Int) < (l.length : Int) := by omega
        have hzb : b < wr.heap.size := by omega
        have HG := Lib.hid (And.intro ((g3.kept HR.out.2.2 hSF).keep hbA) (And.intro ((g4.kept HR.out.2.2 hSF).keep hbA) (And.intro hbA hzA)))
        have HCM := Lib.hid (And.intro hcm hSF)
        clear hcc hcc' hck g1 g2 g3 g4 hbA hcm hSF hbF hzA hsb
        go_wp2_with fail
        refine (command_step (HIH.out (D - 1)) (fun j => S j ∧ j < w.heap.size) (fun j => F j ∨ w.heap.size ≤ j) m c _ _ _ _ s' f' _ ⟨_, _, _, rfl⟩ ⟨_, _, _, rfl⟩ HG.out.1 HG.out.2.1 (fun j _ hj h => h.elim (HCM.out.2 j hj.2 hj) (fun h => by have := hj.2; omega)) HCM.out.1.1 HCM.out.1.2.1 HCM.out.1.2.2 (HR.out.2.1.keep HG.out.2.2.1) (by omega)).mono ?_
        have hrf : (cmdR c s' f').2.2 ≤ f' := by
          have := seq_fuel (g := cmdR) [c] s' f' (fun x hx s f => ?_)
          · by_cases h0 : (cmdR c s' f').1 = 0
            · rwa [seq_cons, if_pos h0] at this
            · rwa [seq_cons, if_neg h0] at this
          · have h1 := run_fuel (d + 1) [x] s f
            rw [runL_succ, seq_cons] at h1
            by_cases h0 : (cmdR x s f).1 = 0
            · rwa [if_pos h0] at h1
            · rwa [if_neg h0] at h1
        obtain ⟨rr, hrr⟩ : ∃ rr, cmdR c s' f' = rr := ⟨_, rfl⟩
        have hD := HD.out
        rw [hrr] at hD hrf ⊢
        obtain ⟨code, s2, rest⟩ := rr
        simp only at hD hrf
        have HD2 := Lib.hid hD
        clear hD hrr c0 c1 c2 c3 c4 c5 c6 c7 c8 c9
        rintro e w6 ⟨rfl, hm6, hF6⟩
        dsimp only at hm6 ⊢
        have hzA := HG.out.2.2.2
        have hz6 := hF6.size
        rw [hzA] at hz6
        have HM6 := Lib.hid (And.intro (hm6.more (F' := fun j => F j ∨ w.heap.size ≤ j) fun j h => h.elim id (fun h => .inr (by rw [hzA] at h; omega))) ((HR.out.2.2.thenB HG.out.2.2.1).then hF6 fun i hi h => h.elim id (fun h => by omega)))
        clear hm6 hF6 hzA
        by_cases hc : code = 0
        · subst hc
          have HF0 := Lib.hid (show T = seqR cmdR (l.drop (k + 1)) s2 rest by rw [HD2.out]; simp)
          go_wp2
          go_roundg (gk - 1)
          case rel => exact ⟨k + 1, s2, rest, by have := HR.out.1.1; omega, by go_num, by omega, HF0.out.symm, HM6.out.1, HM6.out.2⟩
          case measure => have := HR.out.1.1; omega
        · have yc : (code == 0) = false := beq_eq_false_iff_ne.2 hc
          have HF0 := Lib.hid (show T = (code, s2, rest) by rw [HD2.out, if_neg hc])
          clear hc
          go_wp2
          go_ret
          exact ⟨by rw [HF0.out]; rfl, by rw [HF0.out]; exact HM6.out.1, HM6.out.2⟩
      · have hkn : k = l.length := by have := HR.out.1.1; omega
        have HF0 := Lib.hid (show T = (0, s', f') by rw [← HR.out.1.2, hkn, List.drop_length]; rfl)
        have i1 : ¬ (k : Int) < (l.length : Int) := by omega
        clear hkn
        go_wp2
        go_ret
        exact ⟨by rw [HF0.out]; rfl, by rw [HF0.out]; exact HR.out.2.1, HR.out.2.2⟩
end Go.Proofs.YtgfnoinkajfndaaGreat
