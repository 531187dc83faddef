/- Walks: spec.ParseCase. -/
import Derived.Test.YtdjfdopgjlbloaaGreatDoorWPrsT
import Derived.Test.YtdjfdopgjlbloaaGreatDoorWMtcA
import Derived.Deep.RegionLaw
namespace Go.Proofs.YtdjfdopgjlbloaaGreatDoor
open Go.RowKit

attribute [local go_sem] btx_nil
set_option maxRecDepth 100000 in
set_option maxHeartbeats 6400000 in
theorem parseCaseS_any (t : List UInt8) (w : World) (hl : t.length ≤ 1048576) :
    Calls Tryz.prog 10 #[.string (btx t)] w fun e w' => ∃ y1 y2, e = .returned (.tuple #[.agg #[y1, y2], .bool (parseB t)]) ∧ (RL w' (fun k => w.heap.size ≤ k) y1 (parseR t).1 ∧ RL w' (fun k => w.heap.size ≤ k) y2 (parseR t).2) ∧ Below w.heap.size w w' := by
  have NIL : ∀ (w' : World), parseO t = none → Below w.heap.size w w' → ∃ y1 y2, (Ending.returned (.tuple #[.agg #[.slice none 0 0, .slice none 0 0], .bool false])) = .returned (.tuple #[.agg #[y1, y2], .bool (parseB t)]) ∧ (RL w' (fun k => w.heap.size ≤ k) y1 (parseR t).1 ∧ RL w' (fun k => w.heap.size ≤ k) y2 (parseR t).2) ∧ Below w.heap.size w w' := by
    intro w' hn hb
    rw [parseB_none hn, parseR_none hn]
    exact ⟨_, _, rfl, ⟨.inl ⟨_, _, rfl, rfl, by decide, by simp⟩, .inl ⟨_, _, rfl, rfl, by decide, by simp⟩⟩, hb⟩
  have HN := Lib.hid NIL
  clear NIL
  have hR0 := heap_alloc_new w (.cells #[.slice none 0 0, .slice none 0 0] 26)
  have hb0 := below_alloc w (.cells #[.slice none 0 0, .slice none 0 0] 26)
  go_enter Tryz.func10, Tryz.ntmps10
  go_wp2_with fail
  refine (cutS_any t 32 _ hl).mono ?_
  rintro e wz ⟨v, rfl, hrow, hbz⟩
  have hne : 0 < (cutL 32 t).length := List.length_pos_iff.2 (cutL_ne 32 t)
  obtain ⟨g, cap, rfl, hg1, hg2, hcell⟩ := strs_at hrow hne
  rw [World.size_alloc] at hg1
  replace hR0 := box_keep hR0 hbz
  replace hb0 := bt hb0 hbz
  have hb0s := Lib.hid hb0.size
  have hsub : ∀ x ∈ cutL 32 t, x.length ≤ 1048576 := fun x hx => Nat.le_trans (cut_short hx) hl
  obtain ⟨ps, hps⟩ : ∃ ps, cutL 32 t = ps := ⟨_, rfl⟩
  rw [hps] at hne hcell hsub ⊢
  have HPS := Lib.hid hps
  clear hps hrow hbz
  obtain ⟨m, hmm⟩ : ∃ m, ps.length = m := ⟨_, rfl⟩
  rw [hmm] at hne hcell ⊢
  have HM := Lib.hid hmm
  have HC := Lib.hid hcell
  have HSUB := Lib.hid hsub
  obtain ⟨n, hn⟩ : ∃ n, t.length = n := ⟨_, rfl⟩
  have hsz : (btx t).size = n := hn
  have HNN := Lib.hid hn
  clear hmm hcell hsub hn
  have r0 := box0 hR0
  have r1 := box1 hR0
  have rz0 := boxz hR0 0
  have rz1 := boxz hR0 1
  have hzz := box_lt hR0
  by_cases h7 : m ≤ 7
  rotate_left
  · have i7 : decide (7 < (m : Int)) = true := by simp; omega
    have HP := Lib.hid (parse_many (t := t) (by rw [HPS.out, HM.out]; omega))
    clear h7
    go_wp2
    refine bodyPost_ret (v := .tuple #[.agg #[.slice none 0 0, .slice none 0 0], .bool false]) (by simp [results, Tryz.results10, go_sem, r0, r1]) rfl ?_
    exact HN.out _ HP.out (hb0.trans Bl)
  have i7 : decide (7 < (m : Int)) = false := by simp; omega
  by_cases h200 : n ≤ 200
  rotate_left
  · have i8 : decide (200 < (n : Int)) = true := by simp; omega
    have HP := Lib.hid (parse_long (t := t) (by rw [HNN.out]; omega))
    clear h7 h200
    go_wp2
    refine bodyPost_ret (v := .tuple #[.agg #[.slice none 0 0, .slice none 0 0], .bool false]) (by simp [results, Tryz.results10, go_sem, r0, r1]) rfl ?_
    exact HN.out _ HP.out (hb0.trans Bl)
  have i8 : decide (200 < (n : Int)) = false := by simp; omega
  have H7 := Lib.hid h7
  have hp0 := HC.out 0 hne
  have hx0 := HSUB.out (gd ps 0) (gd_mem (by rw [HM.out]; exact hne))
  have hm0 : (0 : Int) < (m : Int) := by omega
  have HB0 := Lib.hid (And.intro hb0 (And.intro hR0 hne))
  clear h7 h200 hb0 hR0 r0 r1 rz0 rz1
  go_wp2_with fail
  refine (parseS_any (gd ps 0) 44 _ hx0).mono ?_
  rintro e w3 ⟨vc, c, rfl, hrc, hown, hb3⟩
  obtain ⟨ca, cc, rfl, _⟩ := own_form hown
  go_wp2
  have bl5 := (below_alloc w3 (.cells #[.slice ca c.length cc, .slice none 0 0] 26))
  have hboxP := heap_alloc_new w3 (.cells #[.slice ca c.length cc, .slice none 0 0] 26)
  have hzP : (w3.alloc (.cells #[.slice ca c.length cc, .slice none 0 0] 26)).heap.size = w3.heap.size + 1 := by simp
  generalize w3.alloc (.cells #[.slice ca c.length cc, .slice none 0 0] 26) = wP at bl5 hboxP hzP ⊢
  have hbP := bt hb3 bl5
  have HP0 := Lib.hid (And.intro hboxP (And.intro (own_keep hown bl5) (And.intro (bt HB0.out.1 hbP) (box_keep HB0.out.2.1 hbP))))
  have HRC := Lib.hid hrc
  have hl3 := fun (j : Nat) (e : some j = (Value.slice ca c.length cc).ownBlock) => own_lt hown e
  have HCP := Lib.hid (fun (i : Nat) (hi : i < m) => cell_keep hbP (HC.out i hi))
  have hz3 := hb3.size
  have hz0 := hb0s.out
  clear hown hb3 bl5 hboxP hrc hbP hp0 hx0
  obtain ⟨P, hP⟩ : ∃ P, w3.heap.size = P := ⟨_, rfl⟩
  rw [hP] at hzP hz3 HP0 hl3 ⊢
  have HL3 := Lib.hid hl3
  have HZP := Lib.hid hzP
  clear hP hl3
  go_loopg [6] (m - 1) (fun q i wr => ∃ (k : Nat) (us : List (List Int)) (vu : Value), k + q = m - 1 ∧ i = .int .i64 ((k : Int) + 1) ∧ us.length = k ∧ (∀ j, j < us.length → ReadRow 43 (gd ps (j + 1)) (gd us j)) ∧ wr.heap[P]? = some (.cells #[.slice ca c.length cc, vu] 26 (0, 0)) ∧
    PL wr (P + 1) vu us.length us us.length ∧ Fr (fun j => j = P) wP wr)
  case atStart => exact ⟨0, [], _, by omega, rfl, rfl, fun j hj => absurd hj (Nat.not_lt_zero _), HP0.out.1, (OO.nil _ _).pl, Fr.refl _ _⟩
  case round =>
    obtain ⟨k, us, vu, hk, rfl, hlk, hrd, hbox, hpl, hf⟩ := hrel
    have HK := Lib.hid hk
    have HF := Lib.hid hf
    have HLK := Lib.hid hlk
    have HRD := Lib.hid hrd
    have hzw := hf.size
    clear hk hlk hrd
    by_cases hk8 : k + 1 < m
    · have hki : (k : Int) + 1 < (m : Int) := by omega
      have hk7 : k ≤ 7 := by have := H7.out; omega
      have hk0 : (0 : Int) ≤ (k : Int) + 1 := by omega
      have hus6 : us.length ≤ 6 := by have := HLK.out; have := H7.out; omega
      have hp := hf.cell (p := ⟨g, k + 1, none⟩) (by show ¬ g = P; omega) (HCP.out (k + 1) hk8)
      have hxl := HSUB.out (gd ps (k + 1)) (gd_mem (by rw [HM.out]; exact hk8))
      obtain ⟨x, hx⟩ : ∃ x, gd ps (k + 1) = x := ⟨_, rfl⟩
      rw [hx] at hp hxl
      have HX := Lib.hid hx
      obtain ⟨ua, uc, hvu⟩ := hpl.done.form
      subst hvu
      have HPL := Lib.hid hpl
      have d1 := box1 hbox
      have dz := boxz hbox 1
      have HBOX := Lib.hid hbox
      clear hx hf hpl hbox
      have hPw : P + 1 ≤ wr.heap.size := by omega
      go_wp2
      go_region_law (first
        | (go_simp; go_at_call 28; go_must (refine (parseS_any x 43 _ hxl).mono ?_; rintro e w6 ⟨v6, u, rfl, hru, hu6, hb6⟩; obtain ⟨ga, gc, rfl, _⟩ := own_form hu6; have hfq : Below wr.heap.size wr w6 := bt (below_drew wr) hb6; have box6 := box_keep HBOX.out hfq; have d16 := box1 box6; have hz6 := box_lt box6; obtain ⟨xs, hownr, hgrow⟩ := HPL.out.grow (Below.fr (bt hfq (below_alloc w6 (.cells #[.slice ga u.length gc] 23)))) (fun j _ _ h => h) hPw; have H6 := Lib.hid (And.intro hu6 (And.intro hru (And.intro hfq box6))); have HGR := Lib.hid hgrow; have hsz6 := hfq.size; clear hu6 hb6 hfq box6 hgrow hru))
        | (refine step_cells (n := us.length) (m := 1) (news := [.slice ga u.length gc]) rfl (.tmp 30) (.tmp 36) _ rfl (B := P + 1) ti_ints rfl hownr rfl rfl (news1 _ _ _) (one1 _ _ _) (by omega) (by simp; omega) ?_; intro v' w7 hr7 hf7 hl7; obtain ⟨za, zc, rfl, _⟩ := own_form hr7; have box7 := box_kept (box_keep H6.out.2.2.2 (below_alloc w6 (.cells #[.slice ga u.length gc] 23))) hf7 (fun e => Nat.not_le.2 (Nat.lt_succ_self P) (own_lt hownr e).1); have d7 := box1 box7; have z7 := boxz box7 1; have hz7 := box_lt box7))
      all_goals
        obtain ⟨fx, hOL, hfx⟩ := OO.ints (own_mono (B' := wr.heap.size) H6.out.1 (by simp))
        have hx : Own.own (w6.alloc (.cells #[.slice ga u.length gc] 23)) wr.heap.size u [.slice ga u.length gc] fx := ⟨_, rfl, hOL.keep (below_alloc _ _)⟩
        have hpl7 := HGR.out u _ fx _ w7 hx hfx hf7 hr7 hl7
        have hpl8 := (hpl7.done.kept (fr_set w7 ⟨P, 1, none⟩ (.slice za (us.length + 1) zc)) (fun j hj _ e => by have e' : j = P := e; omega)).pl
        have hF8 := (((HF.out.thenB H6.out.2.2.1).thenB (below_alloc w6 (.cells #[.slice ga u.length gc] 23))).then hf7 (fun j hj e => absurd (own_lt hownr e).1 (by have := HZP.out; omega))).then (fr_set w7 ⟨P, 1, none⟩ (.slice za (us.length + 1) zc)) (fun j _ e => e)
        have H8 := Lib.hid (And.intro (box_set1 box7 (.slice za (us.length + 1) zc)) (And.intro hpl8 hF8))
        have HRN := Lib.hid (fun (j : Nat) (hj : j < (us ++ [u]).length) => show ReadRow 43 (gd ps (j + 1)) (gd (us ++ [u]) j) by
          by_cases hj2 : j < us.length
          · rw [gd_app1 hj2]; exact HRD.out j hj2
          · rw [List.length_append, List.length_singleton] at hj
            obtain rfl : j = us.length := by omega
            rw [gd_snoc, HLK.out, HX.out]; exact H6.out.2.1)
        clear hpl7 hpl8 hF8 hx hOL hfx hr7 hf7 hl7 box7 d7 z7 hownr d16
        go_wp2
        go_roundg (gk - 1)
        case rel => exact ⟨k + 1, us ++ [u], _, by have := HK.out; omega, by go_num, by rw [List.length_append, HLK.out]; rfl, HRN.out, H8.out.1, H8.out.2.1, H8.out.2.2⟩
        case measure => have := HK.out; omega
    · have hki : ¬ (k : Int) + 1 < (m : Int) := by omega
      have hkm : us.length + 1 = m := by have := HK.out; have := HLK.out; have := HB0.out.2.2; omega
      have hrd0 : ReadRow 44 (gd (cutL 32 t) 0) c := by rw [HPS.out]; exact HRC.out
      have hrd1 : ∀ j, j < us.length → ReadRow 43 (gd (cutL 32 t) (j + 1)) (gd us j) := by rw [HPS.out]; exact HRD.out
      have hrdl : us.length + 1 = (cutL 32 t).length := by rw [HPS.out, HM.out]; exact hkm
      have HY := Lib.hid (fun (h0 : t ≠ []) (h : fmtB (c, us) = t) => parse_yes h0 h)
      have HO := Lib.hid (fun (h : fmtB (c, us) ≠ t) => parse_no (q := (c, us)) hrd0 hrdl hrd1 h)
      have d0 := box0 hbox
      obtain ⟨ua, uc, hvu⟩ := hpl.done.form
      subst hvu
      have d1 := box1 hbox
      have hR7 := box_kept HP0.out.2.2.2 hf (fun e => by omega)
      have hW7 := HP0.out.2.2.1.trans (hf.below HP0.out.2.2.1.size fun j hj e => by omega)
      have r0 := box0 hR7
      have r1 := box1 hR7
      have rz0 := boxz hR7 0
      have rz1 := boxz hR7 1
      have hzr := box_lt hR7
      have hc1 := (own_ints HP0.out.2.1).1.rl.more (S' := fun j => w.heap.size + 1 ≤ j ∧ j < P) (fun j _ hj => ⟨by have := (HL3.out j hj).1; omega, (HL3.out j hj).2⟩)
      have hc2 := (hc1.kept hf (fun j _ hj e => by have e' : j = P := e; omega)).more (S' := fun j => w.heap.size + 1 ≤ j) (fun j _ hj => hj.1)
      have hu2 : RL wr (fun j => w.heap.size + 1 ≤ j) (.slice ua us.length uc) us := hpl.done.read.more (fun j _ hj => by have h1 : P + 1 ≤ j := hj; omega)
      have HCU := Lib.hid (And.intro hc2 (And.intro hu2 hW7))
      by_cases h0 : t = []
      · have j0 : ((btx t).toList == (btx []).toList) = true := by rw [btx_leq, h0]; rfl
        have HP := Lib.hid (show parseO t = none by rw [h0]; exact parse_nil)
        clear h0 hbox hpl hf hR7 hW7 hc1 hc2 hu2 hrd0 hrd1 hrdl
        go_wp2
        refine bodyPost_ret (v := .tuple #[.agg #[.slice none 0 0, .slice none 0 0], .bool false]) (by simp [results, Tryz.results10, go_sem, r0, r1]) rfl ?_
        exact HN.out _ HP.out (HCU.out.2.2.trans Bl)
      · have j0b : ((btx t).toList == (btx []).toList) = false := by rw [btx_leq]; exact decide_eq_false h0
        have H0 := Lib.hid h0
        have HR7 := Lib.hid hR7
        clear h0 hbox hpl hf hR7 hW7 hc1 hrd0 hrd1 hrdl r0 r1 rz0 rz1 hkm
        go_wp2_with fail
        refine (formatS_any (.slice ca c.length cc) (.slice ua us.length uc) (c, us) _ hc2 hu2).mono ?_
        rintro e w9 ⟨rfl, hb9⟩
        have hR9 := box_keep HR7.out hb9
        have r0 := box0 hR9
        have r1 := box1 hR9
        have rz0 := boxz hR9 0
        have rz1 := boxz hR9 1
        have hzz := box_lt hR9
        have hW9 := bt HCU.out.2.2 hb9
        have hc9 := HCU.out.1.keep hb9
        have hu9 := HCU.out.2.1.keep hb9
        have e0 := cell_keep hb9 d0
        have e1 := cell_keep hb9 d1
        by_cases hq : fmtB (c, us) = t
        · have j1 : ((btx (fmtB (c, us))).toList == (btx t).toList) = true := by rw [btx_leq]; exact decide_eq_true hq
          have HP := Lib.hid (HY.out H0.out hq)
          have hFF : Fr (fun j => j = w.heap.size) w9 ((w9.setCell ⟨w.heap.size, 0, none⟩ (.slice ca c.length cc)).setCell ⟨w.heap.size, 1, none⟩ (.slice ua us.length uc)) := (fr_set w9 ⟨w.heap.size, 0, none⟩ (.slice ca c.length cc)).then (fr_set _ ⟨w.heap.size, 1, none⟩ (.slice ua us.length uc)) fun _ _ e => e
          have HE := Lib.hid (And.intro ((hc9.kept hFF (fun k _ hk e => by have h1 : w.heap.size + 1 ≤ k := hk; have e' : k = w.heap.size := e; omega)).more (S' := fun k => w.heap.size ≤ k) (fun k _ hk => by have h1 : w.heap.size + 1 ≤ k := hk; omega)) (And.intro ((hu9.kept hFF (fun k _ hk e => by have h1 : w.heap.size + 1 ≤ k := hk; have e' : k = w.heap.size := e; omega)).more (S' := fun k => w.heap.size ≤ k) (fun k _ hk => by have h1 : w.heap.size + 1 ≤ k := hk; omega)) (hW9.trans (hFF.below hW9.size fun k hk e => by omega))))
          clear hq hR9 hW9 hc9 hu9 hc2 hu2 hb9 hFF
          go_wp2
          refine bodyPost_ret (v := .tuple #[.agg #[.slice ca c.length cc, .slice ua us.length uc], .bool true]) (by simp [results, Tryz.results10, go_sem, r0, r1]) rfl ?_
          exact ⟨_, _, by rw [parseB_some HP.out], ⟨by rw [parseR_some HP.out]; exact HE.out.1, by rw [parseR_some HP.out]; exact HE.out.2.1⟩, HE.out.2.2⟩
        · have j1 : ((btx (fmtB (c, us))).toList == (btx t).toList) = false := by rw [btx_leq]; exact decide_eq_false hq
          have HP := Lib.hid (HO.out hq)
          have HW9 := Lib.hid hW9
          clear hq hR9 hW9 hc9 hu9 hc2 hu2 hb9
          go_wp2
          refine bodyPost_ret (v := .tuple #[.agg #[.slice none 0 0, .slice none 0 0], .bool false]) (by simp [results, Tryz.results10, go_sem, r0, r1]) rfl ?_
          exact HN.out _ HP.out (HW9.out.trans Bl)
end Go.Proofs.YtdjfdopgjlbloaaGreatDoor
