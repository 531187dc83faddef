/- Walk: spec.TidyAssertion. -/
import Derived.Test.YtdjfdopgjlbloaaVSubS
import Derived.Test.YtdjfdopgjlbloaaVReplI
import Derived.Test.YtdjfdopgjlbloaaVKnown
import Derived.Test.YtdjfdopgjlbloaaVNfS
import Derived.Laws.StructEq
import Derived.Deep.Cut
import Derived.Handy
import Derived.BigQuiet
set_option linter.unusedVariables false
set_option linter.unusedSimpArgs false
namespace Go.Proofs.Ytdjfdopgjlbloaa
open Go.RowKit

theorem okT_nat {m u i : Nat} (h : i ≤ 8) : okT (m ||| u) (i : Int) = (decide ((i : Int) ≤ 4) || (m.testBit i || u.testBit i)) := by
  rw [okT, has_nat h, Nat.testBit_or]
theorem ok_ways {m u i : Nat} (h : i ≤ 8) (b c : Bool) (hb : m.testBit i = b) (hc : u.testBit i = c) :
    ((i : Int) ≤ 4 ∧ okT (m ||| u) (i : Int) = true) ∨ (¬ (i : Int) ≤ 4 ∧ b = true ∧ okT (m ||| u) (i : Int) = true) ∨ (¬ (i : Int) ≤ 4 ∧ b = false ∧ c = true ∧ okT (m ||| u) (i : Int) = true) ∨ (¬ (i : Int) ≤ 4 ∧ b = false ∧ c = false ∧ okT (m ||| u) (i : Int) = false) := by
  rw [okT_nat h, hb, hc]
  by_cases h4 : (i : Int) ≤ 4
  · left; rw [decide_eq_true h4]; exact ⟨h4, rfl⟩
  · right; rw [decide_eq_false h4]
    cases b
    · right
      cases c
      · right; exact ⟨h4, rfl, rfl, rfl⟩
      · left; exact ⟨h4, rfl, rfl, rfl⟩
    · left; exact ⟨h4, rfl, rfl⟩
theorem filt_yes {α : Type} [Inhabited α] {p : α → Bool} {l : List α} {k : Nat} (h : k < l.length) (hp : p (gd l k) = true) : (l.take (k + 1)).filter p = (l.take k).filter p ++ [gd l k] := by
  rw [take_gd h, List.filter_append, List.filter_cons, if_pos hp]; rfl
theorem filt_no {α : Type} [Inhabited α] {p : α → Bool} {l : List α} {k : Nat} (h : k < l.length) (hp : p (gd l k) = false) : (l.take (k + 1)).filter p = (l.take k).filter p := by
  rw [take_gd h, List.filter_append, List.filter_cons, if_neg (by rw [hp]; decide), List.filter_nil, List.append_nil]
theorem filt_len {α : Type} {p : α → Bool} (l : List α) (k : Nat) : ((l.take k).filter p).length ≤ k := by
  have h1 := List.length_filter_le p (l.take k)
  have h2 : (l.take k).length ≤ k := by rw [List.length_take]; omega
  omega
theorem lit_fact_at {w : World} {g : Nat} (h : w.heap.size = g) (a : Bool) (b c : Int) (T : TypeId) : RL (w.alloc (.cells #[.bool a, .int .i64 b, .int .i64 c] T)) (fun k => k = g) (.slice (some ⟨g, 0, none⟩) 1 1) [((a, b, c) : Fact)] := h ▸ lit_fact w a b c T
set_option maxRecDepth 100000 in
set_option maxHeartbeats 6400000 in
theorem tidyS_any {S1 S2 : Nat → Prop} (v1 v2 kv : Value) (a : Asn) (l : List Int) (w : World) (h1 : RL w S1 v1 a.1) (h2 : RL w S2 v2 a.2) (hk : RInts w kv l) (ha : asnB a = true) :
    Calls Try.prog 54 #[.agg #[v1, v2], kv] w fun e w' => ∃ x1 x2, e = .returned (.tuple #[.agg #[x1, x2], .bool true]) ∧ (FE w' w.heap.size x1 (tidyB (keepM l) a).1 ∧ FE w' w.heap.size x2 (tidyB (keepM l) a).2) ∧ Below w.heap.size w w' := by
  obtain ⟨p1, c1, rfl⟩ := h1.form
  obtain ⟨p2, c2, rfl⟩ := h2.form
  obtain ⟨m, hm⟩ : ∃ m, keepM l = m := ⟨_, rfl⟩
  have hbA := box_keep (heap_alloc_new w (.cells #[.slice p1 a.1.length c1, .slice p2 a.2.length c2] 26)) (below_alloc _ (.cells #[.slice none 0 0, .slice none 0 0] 26))
  have hbR := heap_alloc_new (w.alloc (.cells #[.slice p1 a.1.length c1, .slice p2 a.2.length c2] 26)) (.cells #[.slice none 0 0, .slice none 0 0] 26)
  rw [World.size_alloc] at hbR
  have hB0 : Below w.heap.size w ((w.alloc (.cells #[.slice p1 a.1.length c1, .slice p2 a.2.length c2] 26)).alloc (.cells #[.slice none 0 0, .slice none 0 0] 26)) := Bl
  have H0 := Lib.hid (And.intro (And.intro hbA hbR) (And.intro hB0 (And.intro h1 (And.intro h2 hk))))
  have HA := Lib.hid ha
  have HM := Lib.hid hm
  clear hbA hbR hB0 h1 h2 hk ha
  rw [hm]
  clear hm
  go_enter Try.func54, Try.ntmps54
  go_wp2_with fail
  refine (cb (asnValidS_any _ _ a _ (H0.out.2.2.1.keep Bl) (H0.out.2.2.2.1.keep Bl)) HA.out).mono ?_
  rintro e w1 ⟨rfl, hb1⟩
  have HB1 := Lib.hid hb1
  have a0 := box0 (box_keep H0.out.1.1 hb1)
  have a1 := box1 (box_keep H0.out.1.1 hb1)
  have al := box_lt (box_keep H0.out.1.1 hb1)
  clear hb1
  go_wp2_with fail
  refine (l10Busy_any _ l _ (H0.out.2.2.2.2.keep (bt H0.out.2.1 HB1.out))).mono ?_
  rw [HM.out]
  rintro e w2 ⟨bv, rfl, ho, hb2⟩
  obtain ⟨g, cap, rfl⟩ := flags_form ho
  have hb12 := bt (bt H0.out.2.1 HB1.out) hb2
  have a0 := box0 (box_keep (box_keep H0.out.1.1 HB1.out) hb2)
  have a1 := box1 (box_keep (box_keep H0.out.1.1 HB1.out) hb2)
  have al := box_lt (box_keep (box_keep H0.out.1.1 HB1.out) hb2)
  have hR2 := box_keep (box_keep H0.out.1.2 HB1.out) hb2
  have hbo := below_alloc w2 (.cells #[.slice p1 a.1.length c1, .slice p2 a.2.length c2] 26)
  have hbO := heap_alloc_new w2 (.cells #[.slice p1 a.1.length c1, .slice p2 a.2.length c2] 26)
  have hzo : w.heap.size + 2 ≤ w2.heap.size := by have := hb2.size; have := HB1.out.size; simp at this; omega
  have s1 : RL w (fun k => ¬ k = w2.heap.size) (.slice p1 a.1.length c1) a.1 := H0.out.2.2.1.any.more fun k hk _ e => by omega
  have s2 : RL w (fun k => ¬ k = w2.heap.size) (.slice p2 a.2.length c2) a.2 := H0.out.2.2.2.1.any.more fun k hk _ e => by omega
  have hgl := own_lt ho (k := g) rfl
  have H2 := Lib.hid (And.intro (And.intro hbO (box_keep hR2 hbo)) (And.intro (And.intro (s1.keep (bt hb12 hbo)) (s2.keep (bt hb12 hbo))) (And.intro (own_keep ho hbo) (bt hb12 hbo))))
  have HZ := Lib.hid (And.intro hzo hgl)
  obtain ⟨r0, hr0⟩ : ∃ r, knownF m a.1 = r := ⟨_, rfl⟩
  have HR0 := Lib.hid hr0
  clear hbO hbo hb12 hR2 s1 s2 ho hb2 hzo hgl hr0
  go_wp2_with fail
  refine (l10Known_any _ _ _ a m w1.heap.size r0 _ H2.out.2.1.1 H2.out.2.1.2 H2.out.2.2.1 (asn_parts HA.out).1 HR0.out).mono ?_
  rintro e w3 ⟨rfl, hb3⟩
  have H3 := Lib.hid (And.intro (And.intro (box_keep H2.out.1.1 hb3) (box_keep H2.out.1.2 hb3)) (And.intro (And.intro (H2.out.2.1.1.keep hb3) (H2.out.2.1.2.keep hb3)) (And.intro (own_keep H2.out.2.2.1 hb3) (bt H2.out.2.2.2 hb3))))
  clear hb3 H2 a0 a1 al
  obtain ⟨bO, hbO⟩ : ∃ bO, w2.heap.size = bO := ⟨_, rfl⟩
  rw [hbO] at H3 HZ
  simp only [hbO]
  go_wp2
  go_loopg [8, 9, 10] 4 (fun q sx st so wr => ∃ (b : Asn) (r : Option (Int × Int)) (o1 o2 : Value), (asnB b = true ∧ tidyN m q b = tidyN m 4 a ∧ cntF m b.1 ≤ q ∧ knownF m b.1 = r) ∧ sx = .int .i64 (kX r) ∧ st = .int .i64 (kT r) ∧ so = .bool (isSo r) ∧ (wr.heap[bO]? = some (.cells #[o1, o2] 26 (0, 0)) ∧ wr.heap[w.heap.size + 1]? = some (.cells #[.slice none 0 0, .slice none 0 0] 26 (0, 0))) ∧ (RL wr (fun k => ¬ k = bO) o1 b.1 ∧ RL wr (fun k => ¬ k = bO) o2 b.2) ∧ wr.ownsRow w1.heap.size 4 1 (.slice (some ⟨g, 0, none⟩) 9 cap) 9 (flagsOf m) ∧ Below w.heap.size w wr)
  case atStart => exact ⟨a, r0, _, _, ⟨HA.out, rfl, cntF_le _ _, HR0.out⟩, rfl, rfl, rfl, H3.out⟩
  case round =>
    clear H3
    obtain ⟨b, r, o1, o2, hpl, rfl, rfl, rfl, hBB, hoo, ho, hW⟩ := hrel
    obtain ⟨d1, e1, rfl⟩ := hoo.1.form
    obtain ⟨d2, e2, rfl⟩ := hoo.2.form
    have HP := Lib.hid hpl
    have HR := Lib.hid (And.intro hBB (And.intro hoo (And.intro ho hW)))
    have b0 := box0 hBB.1
    have b1 := box1 hBB.1
    have bl := box_lt hBB.1
    have bz := boxz hBB.1
    clear hpl hBB hoo ho hW
    cases r with
    | some s =>
      obtain ⟨sx, st⟩ := s
      have hkv := known_valid HP.out.1 HP.out.2.2.2
      have HK := Lib.hid hkv
      have hlb := asnLe HP.out.1
      clear hkv
      have hk0 : kX (some (sx, st)) = sx := rfl
      have hk1 : kT (some (sx, st)) = st := rfl
      have hk2 : isSo (some (sx, st)) = true := rfl
      rw [hk0, hk1, hk2]
      clear hk0 hk1 hk2
      have hl1 : (b.1.length : Int) ≤ 12 := by omega
      have hl2 : (b.2.length : Int) ≤ 8 := by omega
      clear hlb
      go_wp2_with fail
      refine (l3Subst_any _ _ b sx st _ HR.out.2.1.1 HR.out.2.1.2 hl1 hl2).mono ?_
      rintro e w5 ⟨x1, x2, rfl, ⟨hx1, hx2⟩, hb5⟩
      obtain ⟨f1, g1, rfl⟩ := hx1.form
      obtain ⟨f2, g2, rfl⟩ := hx2.form
      have hO5 := box_keep HR.out.1.1 hb5
      have hzz := box_lt hO5
      have hzw := hb5.size
      have hO6 := box_set1 (box_set0 hO5 (.slice f1 (subB b sx st).1.length g1)) (.slice f2 (subB b sx st).2.length g2)
      have hR6 := box_other (box_other (box_keep HR.out.1.2 hb5) ⟨bO, 0, none⟩ (.slice f1 (subB b sx st).1.length g1) (by show ¬ w.heap.size + 1 = bO; have := HZ.out.1; omega)) ⟨bO, 1, none⟩ (.slice f2 (subB b sx st).2.length g2) (by show ¬ w.heap.size + 1 = bO; have := HZ.out.1; omega)
      have hs6 := fr_twoR w5 bO (.slice f1 (subB b sx st).1.length g1) (.slice f2 (subB b sx st).2.length g2)
      have hfar : ∀ k, k < w5.heap.size → (fun k => wr.heap.size ≤ k) k → ¬ (fun j => j = bO) k := fun k _ h e => by
        have h2 : wr.heap.size ≤ k := h
        have e2 : k = bO := e
        have := box_lt HR.out.1.1
        omega
      have hn6 : ∀ k, k < w5.heap.size → (fun k => wr.heap.size ≤ k) k → ¬ k = bO := fun k h h2 e => hfar k h h2 e
      have q1 := (hx1.rl.more hn6).kept hs6 fun k _ h e => h e
      have q2 := (hx2.rl.more hn6).kept hs6 fun k _ h e => h e
      have ho6 := own_kept (own_keep HR.out.2.2.1 hb5) hs6 fun k hk e => by
        have e2 : k = bO := e
        have := HZ.out
        have hkg : k = g := by simpa [Value.ownBlock] using hk
        omega
      have hW6 := (bt HR.out.2.2.2 hb5).trans (hs6.below (by have := (bt HR.out.2.2.2 hb5).size; omega) fun k hk e => by have e2 : k = bO := e; have := HZ.out.1; omega)
      have c0 := box0 hO5
      have c1 := box1 hO5
      have cz := boxz hO5
      obtain ⟨r', hr'⟩ : ∃ r, knownF m (subB b sx st).1 = r := ⟨_, rfl⟩
      have HR6 := Lib.hid (And.intro (And.intro hO6 hR6) (And.intro (And.intro q1 q2) (And.intro ho6 hW6)))
      have HR' := Lib.hid hr'
      clear hO6 hR6 hs6 hfar hn6 q1 q2 ho6 hW6 hr' hO5 b0 b1 bl bz hx1 hx2 hb5
      have d0 := box0 HR6.out.1.1
      have dd1 := box1 HR6.out.1.1
      go_wp2_with fail
      refine (l10Known_any _ _ _ (subB b sx st) m w1.heap.size r' _ HR6.out.2.1.1 HR6.out.2.1.2 HR6.out.2.2.1 (asn_parts HK.out.2.2.1).1 HR'.out).mono ?_
      rintro e w7 ⟨rfl, hb7⟩
      have HR7 := Lib.hid (And.intro (And.intro (box_keep HR6.out.1.1 hb7) (box_keep HR6.out.1.2 hb7)) (And.intro (And.intro (HR6.out.2.1.1.keep hb7) (HR6.out.2.1.2.keep hb7)) (And.intro (own_keep HR6.out.2.2.1 hb7) (bt HR6.out.2.2.2 hb7))))
      clear hb7 c0 c1 cz d0 dd1
      go_wp2
      go_roundg (gk - 1)
      case rel =>
        have hc := HK.out.2.2.2
        have hq := HP.out.2.2.1
        have hgk : gk = (gk - 1) + 1 := by omega
        refine ⟨subB b sx st, r', _, _, ⟨HK.out.2.2.1, ?_, by omega, HR'.out⟩, rfl, rfl, rfl, HR7.out⟩
        rw [← HP.out.2.1, hgk, tidy_step HP.out.2.2.2]; rfl
      case measure =>
        have hc := HK.out.2.2.2
        have hq := HP.out.2.2.1
        omega
    | none =>
      obtain ⟨wm, rfl⟩ : ∃ wm : World, wm = wr := ⟨_, rfl⟩
      have hk2 : isSo (none : Option (Int × Int)) = false := rfl
      rw [hk2]
      clear hk2
      have hbb : b = tidyN m 4 a := by rw [← HP.out.2.1, tidy_stop HP.out.2.2.2]
      have HBB := Lib.hid hbb
      have hlb := asnLe HP.out.1
      have hlf : b.1.length ≤ 12 := hlb.1.1
      have HLB := Lib.hid hlb
      clear hbb hlb
      have hall := asn_parts HP.out.1
      have HALL := Lib.hid hall
      clear hall
      go_wp2_with fail
      refine (l3Terms_any (S1 := fun _ => True) _ _ (([] : List Fact), b.2) _ (RL.nil _ _) HR.out.2.1.2 (by rfl) (List.all_eq_true.2 HALL.out.2)).mono ?_
      rintro e w5 ⟨uv, rfl, hu, hb5⟩
      obtain ⟨gu, ucap, rfl⟩ := flags_form hu
      have hgu := own_lt hu (k := gu) rfl
      have hwz := hb5.size
      have hol := box_lt HR.out.1.1
      obtain ⟨U, hU⟩ : ∃ U, termsM ([], b.2) = U := ⟨_, rfl⟩
      rw [hU] at hu
      have q1 : RL w5 (fun k => k < w5.heap.size) (.slice d1 b.1.length e1) b.1 := (HR.out.2.1.1.keep hb5).more fun k hk _ => hk
      have q2 : RL w5 (fun k => k < w5.heap.size) (.slice d2 b.2.length e2) b.2 := (HR.out.2.1.2.keep hb5).more fun k hk _ => hk
      have hbE := below_alloc w5 (.cells #[] 53)
      have H5 := Lib.hid (And.intro (And.intro (box_keep (box_keep HR.out.1.1 hb5) hbE) (box_keep (box_keep HR.out.1.2 hb5) hbE)) (And.intro (And.intro (q1.keep hbE) (q2.keep hbE)) (And.intro (And.intro (own_keep (own_keep HR.out.2.2.1 hb5) hbE) (own_keep hu hbE)) (And.intro (bt (bt HR.out.2.2.2 hb5) hbE) hbE))))
      have HU := Lib.hid hU
      have HGU := Lib.hid (And.intro hgu (And.intro hwz hol))
      clear q1 q2 hbE hu hU hgu hwz hol hb5 b0 b1 bl bz HR
      go_wp2
      go_loopg [12, 13] b.1.length (fun q sy i wr => ∃ k : Nat, k + q = b.1.length ∧ i = .int .i64 k ∧ FE wr w5.heap.size sy ((b.1.take k).filter (restB (m ||| U))) ∧ (wr.heap[bO]? = some (.cells #[.slice d1 b.1.length e1, .slice d2 b.2.length e2] 26 (0, 0)) ∧ wr.heap[w.heap.size + 1]? = some (.cells #[.slice none 0 0, .slice none 0 0] 26 (0, 0))) ∧ (RL wr (fun k => k < w5.heap.size) (.slice d1 b.1.length e1) b.1 ∧ RL wr (fun k => k < w5.heap.size) (.slice d2 b.2.length e2) b.2) ∧ (wr.ownsRow w1.heap.size 4 1 (.slice (some ⟨g, 0, none⟩) 9 cap) 9 (flagsOf m) ∧ wr.ownsRow wm.heap.size 4 1 (.slice (some ⟨gu, 0, none⟩) 9 ucap) 9 (flagsOf U)) ∧ Below w.heap.size w wr ∧ Below w5.heap.size w5 wr)
      case atStart => exact ⟨0, by omega, rfl, FE.nil _ _ _, H5.out⟩
      case round =>
        clear H5
        obtain ⟨k, hk, rfl, hF, hBB, hqq, hoo, hW, hW5⟩ := hrel
        have HK := Lib.hid hk
        clear hk
        have b0 := box0 hBB.1
        have b1 := box1 hBB.1
        have bl := box_lt hBB.1
        obtain ⟨L, hL⟩ : ∃ L, (b.1.take k).filter (restB (m ||| U)) = L := ⟨_, rfl⟩
        have hLk : L.length ≤ k := by rw [← hL]; exact filt_len _ _
        rw [hL] at hF
        obtain ⟨ua, un, uc, rfl⟩ := hF.forms
        by_cases hk8 : k < b.1.length
        · have hki : (k : Int) < (b.1.length : Int) := by omega
          obtain ⟨qa, qc, hqe, _, _, hqf⟩ := hqq.1.factAt
          simp only [Value.slice.injEq] at hqe
          obtain ⟨rfl, _, rfl⟩ := hqe
          obtain ⟨bb, oo, rfl, _, hz1, hp1, hp2, hp3⟩ := hqf k hk8
          obtain ⟨X, hX⟩ : ∃ X, gd b.1 k = X := ⟨_, rfl⟩
          obtain ⟨X1, X2, X3⟩ := X
          have hv := factB_iff.1 (HALL.out.1 _ (gd_mem hk8))
          rw [hX] at hp1 hp2 hp3 hv
          simp only at hp1 hp2 hp3 hv
          obtain ⟨i2, rfl⟩ := Int.eq_ofNat_of_zero_le hv.1.1
          obtain ⟨i3, rfl⟩ := Int.eq_ofNat_of_zero_le hv.2.1
          have u2 : i2 ≤ 8 := by omega
          have u3 : i3 ≤ 8 := by omega
          have t2 : (i2 : Int) < 9 := by omega
          have t3 : (i3 : Int) < 9 := by omega
          have y2 : ∃ c, m.testBit i2 = c ∧ wr.cell? ⟨g, i2, none⟩ = some (.bool c) := ⟨_, rfl, by have := hoo.1.cellAt i2 (by omega); rw [flags_at m i2 (by omega)] at this; exact this⟩
          have y3 : ∃ c, m.testBit i3 = c ∧ wr.cell? ⟨g, i3, none⟩ = some (.bool c) := ⟨_, rfl, by have := hoo.1.cellAt i3 (by omega); rw [flags_at m i3 (by omega)] at this; exact this⟩
          have z2 : ∃ c, U.testBit i2 = c ∧ wr.cell? ⟨gu, i2, none⟩ = some (.bool c) := ⟨_, rfl, by have := hoo.2.cellAt i2 (by omega); rw [flags_at U i2 (by omega)] at this; exact this⟩
          have z3 : ∃ c, U.testBit i3 = c ∧ wr.cell? ⟨gu, i3, none⟩ = some (.bool c) := ⟨_, rfl, by have := hoo.2.cellAt i3 (by omega); rw [flags_at U i3 (by omega)] at this; exact this⟩
          obtain ⟨m2, hm2, y2⟩ := y2
          obtain ⟨m3, hm3, y3⟩ := y3
          obtain ⟨n2, hn2, z2⟩ := z2
          obtain ⟨n3, hn3, z3⟩ := z3
          have zy := World.block_lt_of_cell? wr _ y2
          have zz := World.block_lt_of_cell? wr _ z2
          simp only at zy zz
          have w2 := ok_ways (m := m) (u := U) u2 m2 n2 hm2 hn2
          have w3 := ok_ways (m := m) (u := U) u3 m3 n3 hm3 hn3
          obtain ⟨c, hc⟩ : ∃ c, restB (m ||| U) (X1, (i2 : Int), (i3 : Int)) = c := ⟨_, rfl⟩
          have hce : (okT (m ||| U) (i2 : Int) && okT (m ||| U) (i3 : Int)) = c := hc
          have HWW := Lib.hid (And.intro w2 (And.intro w3 hce))
          have hbF := below_alloc wr (.cells #[.bool X1, .int .i64 i2, .int .i64 i3] 53)
          have hFX := heap_alloc_new wr (.cells #[.bool X1, .int .i64 i2, .int .i64 i3] 53)
          have HD := Lib.hid (And.intro (And.intro (hF.keep hbF) (And.intro (box_keep hBB.1 hbF) (box_keep hBB.2 hbF))) (And.intro (And.intro (hqq.1.keep hbF) (hqq.2.keep hbF)) (And.intro (And.intro (own_keep hoo.1 hbF) (own_keep hoo.2 hbF)) (And.intro (bt hW hbF) (bt hW5 hbF)))))
          have HX := Lib.hid (And.intro hX (And.intro hc hL))
          have HF5 := Lib.hid hW5.size
          have HLK := Lib.hid (show L.length ≤ k ∧ k ≤ 12 from ⟨hLk, by omega⟩)
          clear hqf hv u2 u3 hm2 hm3 hn2 hn3 w2 w3 hce hbF hF hBB hqq hoo hW hW5 hX hc hL hLk
          go_upto_region 15 with fail
          go_cut [93] from 58 to 93 (fun s wc => s = .bool c ∧ wc = wr.alloc (.cells #[.bool X1, .int .i64 i2, .int .i64 i3] 53))
          case first =>
            rcases HWW.out.1 with ⟨p2, o2⟩ | ⟨p2, rfl, o2⟩ | ⟨p2, rfl, rfl, o2⟩ | ⟨p2, rfl, rfl, o2⟩
            · rcases HWW.out.2.1 with ⟨p3, o3⟩ | ⟨p3, rfl, o3⟩ | ⟨p3, rfl, rfl, o3⟩ | ⟨p3, rfl, rfl, o3⟩
              all_goals
                have hcc := HWW.out.2.2
                rw [o2, o3] at hcc
                subst hcc
                clear o2 o3
                go_wp2
                go_meet
                case rel => exact ⟨rfl, rfl⟩
            · rcases HWW.out.2.1 with ⟨p3, o3⟩ | ⟨p3, rfl, o3⟩ | ⟨p3, rfl, rfl, o3⟩ | ⟨p3, rfl, rfl, o3⟩
              all_goals
                have hcc := HWW.out.2.2
                rw [o2, o3] at hcc
                subst hcc
                clear o2 o3
                go_wp2
                go_meet
                case rel => exact ⟨rfl, rfl⟩
            · rcases HWW.out.2.1 with ⟨p3, o3⟩ | ⟨p3, rfl, o3⟩ | ⟨p3, rfl, rfl, o3⟩ | ⟨p3, rfl, rfl, o3⟩
              all_goals
                have hcc := HWW.out.2.2
                rw [o2, o3] at hcc
                subst hcc
                clear o2 o3
                go_wp2
                go_meet
                case rel => exact ⟨rfl, rfl⟩
            · have hcc := HWW.out.2.2
              rw [o2, Bool.false_and] at hcc
              subst hcc
              clear o2
              go_wp2
              go_meet
              case rel => exact ⟨rfl, rfl⟩
          case rest =>
            obtain ⟨rfl, rfl⟩ := hcut
            clear y2 y3 z2 z3 zy zz hp1 hp2 hp3 t2 t3 HWW
            cases c with
            | false =>
              have HN := Lib.hid (show (b.1.take (k + 1)).filter (restB (m ||| U)) = L by rw [filt_no hk8 (by rw [HX.out.1]; exact HX.out.2.1), HX.out.2.2])
              go_wp2
              go_roundg (gk - 1)
              case rel => exact ⟨k + 1, by have := HK.out; omega, by go_num, by rw [HN.out]; exact HD.out.1.1, HD.out.1.2, HD.out.2⟩
              case measure => have := HK.out; omega
            | true =>
              have HN := Lib.hid (show (b.1.take (k + 1)).filter (restB (m ||| U)) = L ++ [(X1, (i2 : Int), (i3 : Int))] by rw [filt_yes hk8 (by rw [HX.out.1]; exact HX.out.2.1), HX.out.2.2, HX.out.1])
              have e0 := c30 hFX
              have e1 := c31 hFX
              have e2 := c32 hFX
              have ez := box_lt hFX
              have hlk := HLK.out
              have hzw5 := HF5.out
              go_wp2_with (at_builtin; go_must (refine app_F (l := L) (m := [((X1, (i2 : Int), (i3 : Int)) : Fact)]) (B := w5.heap.size) (by rfl) (.tmp 94) (.tmp 96) _ (by rfl) ti_fact (by rfl) (HD.out.1.1.keep (below_alloc _ (.cells #[.bool X1, .int .i64 i2, .int .i64 i3] 53))) (by rfl) (lit_fact_at (g := wr.heap.size + 1) (by simp) _ _ _ _) (by simp; omega) (by simp; omega) ?_; intro v' w7 o7 hf7; obtain ⟨a7, n7, c7, rfl⟩ := o7.forms))
              have hkp := below_alloc (wr.alloc (.cells #[.bool X1, .int .i64 i2, .int .i64 i3] 53)) (.cells #[.bool X1, .int .i64 i2, .int .i64 i3] 53)
              have hb7 := tf_below hf7 (by simp; omega)
              have far : ∀ k, k < ((wr.alloc (.cells #[.bool X1, .int .i64 i2, .int .i64 i3] 53)).alloc (.cells #[.bool X1, .int .i64 i2, .int .i64 i3] 53)).heap.size → (fun k => k < w5.heap.size) k → ¬ TF ((wr.alloc (.cells #[.bool X1, .int .i64 i2, .int .i64 i3] 53)).alloc (.cells #[.bool X1, .int .i64 i2, .int .i64 i3] 53)) w5.heap.size 53 k := fun k _ hs ht => by
                have h2 : k < w5.heap.size := hs
                have := ht.1
                omega
              have H7 := Lib.hid (And.intro (And.intro o7 (And.intro (box_tf (box_keep HD.out.1.2.1 hkp) hf7 (by decide)) (box_tf (box_keep HD.out.1.2.2 hkp) hf7 (by decide)))) (And.intro (And.intro ((HD.out.2.1.1.keep hkp).kept hf7 far) ((HD.out.2.1.2.keep hkp).kept hf7 far)) (And.intro (And.intro (own_tf (own_keep HD.out.2.2.1.1 hkp) hf7 (by decide)) (own_tf (own_keep HD.out.2.2.1.2 hkp) hf7 (by decide))) (And.intro ((bt HD.out.2.2.2.1 hkp).trans (hb7.mono (by have := HGU.out; have := HZ.out; omega))) ((bt HD.out.2.2.2.2 hkp).trans hb7)))))
              clear o7 hf7 hkp hb7 far hlk hzw5 e0 e1 e2 ez
              go_wp2
              go_roundg (gk - 1)
              case rel => exact ⟨k + 1, by have := HK.out; omega, by go_num, by rw [HN.out]; exact H7.out.1.1, H7.out.1.2, H7.out.2⟩
              case measure => have := HK.out; omega
        · obtain rfl : k = b.1.length := by have := HK.out; omega
          rw [List.take_length] at hL
          obtain ⟨wn, rfl⟩ : ∃ wn : World, wn = wr := ⟨_, rfl⟩
          have hLL : (L, b.2) = (looseL m b, b.2) := by rw [← hL, looseL, HU.out]
          obtain ⟨vl, hfl⟩ : ∃ v, v = L.length := ⟨_, rfl⟩
          have HDD := Lib.hid (And.intro (And.intro hF.rl hBB) (And.intro hqq (And.intro hW hW5)))
          have HLL := Lib.hid (And.intro hLL (show asnB (L, b.2) = true by rw [hLL]; exact rest_valid HP.out.1))
          have hRl := box_lt hBB.2
          clear hF hBB hqq hoo hW hW5 hL hLL hLk
          go_wp2_with fail
          refine (normS_any _ _ (L, b.2) _ HDD.out.1.1 HDD.out.2.1.2 HLL.out.2).mono ?_
          rintro e w9 ⟨x1, x2, rfl, ⟨n1, n2⟩, hb9⟩
          obtain ⟨f1, m1, g1, rfl⟩ := n1.forms
          obtain ⟨f2, m2, g2, rfl⟩ := n2.forms
          have hR9 := box_keep HDD.out.1.2.2 hb9
          have r0 := box0 hR9
          have r1 := box1 hR9
          have rz := boxz hR9
          have rl := box_lt hR9
          have rr := box_two (.slice f1 m1 g1) (.slice f2 m2 g2) r0 r1
          have hle : w.heap.size ≤ wn.heap.size := HDD.out.2.2.1.size
          have hfin := Lib.hid (And.intro (And.intro ((n1.mono hle).set2 (x := .slice f1 m1 g1) (y := .slice f2 m2 g2) hR9 (by decide)) ((n2.mono hle).set2 (x := .slice f1 m1 g1) (y := .slice f2 m2 g2) hR9 (by decide))) (((bt HDD.out.2.2.1 hb9).setCell (p := ⟨w.heap.size + 1, 0, none⟩) (by simp) (.slice f1 m1 g1)).setCell (p := ⟨w.heap.size + 1, 1, none⟩) (by simp) (.slice f2 m2 g2)))
          clear hR9 n1 n2 hb9 b0 b1 bl hRl hle
          go_wp2
          refine bodyPost_ret (v := .tuple #[.agg #[.slice f1 m1 g1, .slice f2 m2 g2], .bool true]) (by simp [results, Try.results54, go_sem, rr.1, rr.2]) rfl ?_
          have hres : tidyB m a = nfB (L, b.2) := by rw [tidyB, tidyE, ← HBB.out, ← HLL.out.1]
          exact ⟨_, _, rfl, by rw [hres]; exact hfin.out.1, hfin.out.2⟩
end Go.Proofs.Ytdjfdopgjlbloaa
