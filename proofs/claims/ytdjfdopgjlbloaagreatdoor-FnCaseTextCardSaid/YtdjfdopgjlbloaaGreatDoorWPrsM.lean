/- Walks: impl.ParseCase. -/
import Derived.Test.YtdjfdopgjlbloaaGreatDoorWPrsK
import Derived.Test.YtdjfdopgjlbloaaGreatDoorWMtcA
namespace Go.Proofs.YtdjfdopgjlbloaaGreatDoor
open Go.RowKit

set_option maxRecDepth 100000 in
set_option maxHeartbeats 6400000 in
theorem parseCaseI_any (t : List UInt8) (mx : Int) (w : World) (hl : t.length ≤ 1048576) (hm : w.cell? ⟨1, 0, none⟩ = some (.int .i64 mx)) :
    Calls Tryz.prog 6 #[.string (btx t)] w fun e w' => ∃ y1 y2, e = .returned (.tuple #[.agg #[y1, y2], .bool (parseB t)]) ∧ OA w' w.heap.size y1 y2 (parseR t) ∧ Below w.heap.size w w' := by
  have NIL : ∀ (w' : World), parseO t = none → Below w.heap.size w w' → ∃ y1 y2, (Ending.returned (.tuple #[.agg #[.slice none 0 0, .slice none 0 0], .bool false])) = .returned (.tuple #[.agg #[y1, y2], .bool (parseB t)]) ∧ OA w' w.heap.size y1 y2 (parseR t) ∧ Below w.heap.size w w' := by
    intro w' hn hb
    rw [parseB_none hn, parseR_none hn]
    exact ⟨_, _, rfl, ⟨[], [], OL.nil _ _, OL.nil _ _, List.nodup_nil⟩, hb⟩
  have HN := Lib.hid NIL
  have HM1 := Lib.hid hm
  clear NIL
  have hR0 := heap_alloc_new w (.cells #[.slice none 0 0, .slice none 0 0] 26)
  have hb0 := below_alloc w (.cells #[.slice none 0 0, .slice none 0 0] 26)
  go_enter Tryz.func6, Tryz.ntmps6
  go_wp2_with fail
  refine (Tryz.strings_Split (btx t) (btx [32]) mx _ (by show t.length < _; omega) (cell_keep Bl hm) (Nat.le_refl _)).mono ?_
  rintro e w2 ⟨rfl, rfl⟩
  obtain ⟨hsp, hcn⟩ := split_cut 32 t.length t (Nat.le_refl _)
  rw [hsp, hcn]
  have hne : 0 < (cutL 32 t).length := List.length_pos_iff.2 (cutL_ne 32 t)
  have hcl := cutL_len 32 t
  have hsub : ∀ x ∈ cutL 32 t, x.length ≤ 1048576 := fun x hx => Nat.le_trans (cut_short hx) hl
  obtain ⟨ps, hps⟩ : ∃ ps, cutL 32 t = ps := ⟨_, rfl⟩
  rw [hps] at hne hcl hsub ⊢
  have HPS := Lib.hid hps
  clear hps hsp hcn
  obtain ⟨W1, hW1⟩ : ∃ W1, W1 = w.alloc (.cells #[.slice none 0 0, .slice none 0 0] 26) := ⟨_, rfl⟩
  have hz1 : W1.heap.size = w.heap.size + 1 := by rw [hW1, World.size_alloc]
  rw [← hW1] at hR0 hb0 ⊢
  have hcell : ∀ i, i < ps.length → (W1.alloc (.cells (List.map Value.string (List.map btx ps)).toArray 9)).cell? ⟨w.heap.size + 1, i, none⟩ = some (.string (btx (gd ps i))) := fun i hi => by
    rw [← hz1, World.cell?_alloc_mark, List.getElem?_toArray, List.getElem?_map, List.getElem?_map, gd_of hi, List.getElem?_eq_getElem hi]; rfl
  have hbz := below_alloc W1 (.cells (List.map Value.string (List.map btx ps)).toArray 9)
  have hgz : (W1.alloc (.cells (List.map Value.string (List.map btx ps)).toArray 9)).heap.size = w.heap.size + 1 + 1 := by rw [World.size_alloc, hz1]
  rw [hz1]
  generalize W1.alloc (.cells (List.map Value.string (List.map btx ps)).toArray 9) = wz at hcell hbz hgz ⊢
  replace hR0 := box_keep hR0 hbz
  replace hb0 := bt hb0 hbz
  clear hW1 hz1 hbz
  obtain ⟨n, hmm⟩ : ∃ n, ps.length = n + 1 := ⟨ps.length - 1, by omega⟩
  rw [hmm] at hcl hcell ⊢
  have HM := Lib.hid hmm
  have HC := Lib.hid hcell
  have HSUB := Lib.hid hsub
  have HZ := Lib.hid hgz
  clear hmm hne hcell hsub hgz
  by_cases h7 : n ≤ 6
  rotate_left
  · have i7 : decide (7 < ((n : Int) + 1)) = true := by simp; omega
    have HP := Lib.hid (parse_many (t := t) (by rw [HPS.out, HM.out]; omega))
    have r0 := box0 hR0
    have r1 := box1 hR0
    have rz0 := boxz hR0 0
    have rz1 := boxz hR0 1
    have hzz := box_lt hR0
    clear h7
    go_wp2
    refine bodyPost_ret (v := .tuple #[.agg #[.slice none 0 0, .slice none 0 0], .bool false]) (by simp [results, Tryz.results6, go_sem, r0, r1]) rfl ?_
    exact HN.out _ HP.out (hb0.trans Bl)
  have i7 : decide (7 < ((n : Int) + 1)) = false := by simp; omega
  have H7 := Lib.hid h7
  have hp0 := HC.out 0 (Nat.succ_pos _)
  have hx0 := HSUB.out (gd ps 0) (gd_mem (by rw [HM.out]; exact Nat.succ_pos _))
  have hp0z : (0 : Int) < (n : Int) + 1 := by omega
  have hmz : (wz.alloc (.cells #[.slice none 0 0, .slice none 0 0] 26)).cell? ⟨1, 0, none⟩ = some (.int .i64 mx) := cell_keep (bt hb0 (below_alloc wz _)) hm
  have hboxP := heap_alloc_new wz (.cells #[.slice none 0 0, .slice none 0 0] 26)
  have hbP := below_alloc wz (.cells #[.slice none 0 0, .slice none 0 0] 26)
  replace hp0 := cell_keep hbP hp0
  have HB0 := Lib.hid (And.intro hb0 hR0)
  clear h7 hR0 hb0 hm
  go_wp2_with fail
  refine (parseClassesI_any (gd ps 0) mx _ hx0 hmz).mono ?_
  intro e w3 hres
  have hb3 := hres.2.2
  have hR3 := box_keep HB0.out.2 (bt hbP hb3)
  have hB3 := bt HB0.out.1 (bt hbP hb3)
  have hP3 := box_keep hboxP hb3
  have hC3 := Lib.hid (fun (i : Nat) (hi : i < n + 1) => cell_keep (bt hbP hb3) (HC.out i hi))
  have hm3 := cell_keep hb3 hmz
  have hz3 : wz.heap.size + 1 ≤ w3.heap.size := by have := hb3.size; rw [World.size_alloc] at this; exact this
  have hzl := box_lt hP3
  have d0 := box0 hP3
  have d1 := box1 hP3
  have dz := boxz hP3 0
  cases hc : clsO (gd ps 0) with
  | none =>
    obtain ⟨a, k, c, rfl⟩ := hres.2.1 hc
    have HP := Lib.hid (parse_nocls HPS.out hc)
    have hne : ¬ wz.heap.size = w.heap.size := by have := HZ.out; omega
    have r0 := box0 hR3
    have r1 := box1 hR3
    have rz0 := boxz hR3 0
    have rz1 := boxz hR3 1
    have hzz := box_lt hR3
    have HB := Lib.hid (hB3.trans (((fr_set w3 ⟨wz.heap.size, 0, none⟩ (.slice a k c)).below (B := w.heap.size) hB3.size fun i hi e => by have := HZ.out; have e' : i = wz.heap.size := e; omega)))
    clear hres hc hR3 hB3 hP3 hb3 hbP hboxP hC3 hm3 hmz hx0 hp0
    go_wp2
    refine bodyPost_ret (v := .tuple #[.agg #[.slice none 0 0, .slice none 0 0], .bool false]) (by simp [results, Tryz.results6, go_sem, r0, r1]) rfl ?_
    exact HN.out _ HP.out (HB.out.trans Bl)
  | some c =>
    obtain ⟨v, rfl, hown⟩ := hres.1 c hc
    obtain ⟨va, vc, rfl, _⟩ := own_form hown
    simp only [World.size_alloc] at hown
    have hk1 := hp0z
    have hP1 : ¬ (1 : Nat) = wz.heap.size := fun e => by
      have h1 : 1 < w.heap.size := World.block_lt_of_cell? w _ HM1.out
      have := HZ.out
      omega
    have HD := Lib.hid (And.intro hc (And.intro hown (And.intro hR3 (And.intro hB3 (And.intro hm3 hP1)))))
    have HP3 := Lib.hid hP3
    obtain ⟨P, hP⟩ : ∃ P, wz.heap.size = P := ⟨_, rfl⟩
    rw [hP] at HP3 HD hz3 hzl d0 d1 dz ⊢
    have HZP := Lib.hid (show P = w.heap.size + 1 + 1 by rw [← hP]; exact HZ.out)
    clear hres hc hown hR3 hB3 hP3 hb3 hbP hboxP hm3 hmz hx0 hp0 hP hP1
    have hF0 := fr_set w3 ⟨P, 0, none⟩ (.slice va c.length vc)
    have hB0 := box_set0 HP3.out (.slice va c.length vc)
    have HST := Lib.hid (And.intro hF0 hB0)
    have hPL : PL (w3.setCell ⟨P, 0, none⟩ (.slice va c.length vc)) w3.heap.size (.slice none 0 0) ([] : List (List Int)).length ([] : List (List Int)) ([] : List (List Int)).length := (OO.nil _ _).pl
    clear hF0 hB0
    go_wp2
    case inl =>
      have HN0 := Lib.hid (show n = 0 by assumption)
      clear h
      clear d0 d1 dz hzl
      go_loopg [31] n (fun q i wr => ∃ (k : Nat) (us : List (List Int)) (vu : Value), k + q = n ∧ i = .int .i64 k ∧ optL useO (ps.tail.take k) = some us ∧ us.length = k ∧ wr.heap[P]? = some (.cells #[.slice va c.length vc, vu] 26 (0, 0)) ∧
        PL wr w3.heap.size vu us.length us us.length ∧ Fr (fun j => j = P) w3 wr)
      case atStart => exact ⟨0, [], _, by omega, rfl, rfl, rfl, HST.out.2, hPL, HST.out.1⟩
      case round =>
        obtain ⟨k, us, vu, hk, rfl, hop, hlk, hbox, hpl, hf⟩ := hrel
        obtain ⟨ua, uc, hvu⟩ := hpl.done.form
        subst hvu
        have HK := Lib.hid hk
        have HOP := Lib.hid hop
        have HLK := Lib.hid hlk
        have HF := Lib.hid hf
        have HPL := Lib.hid hpl
        have HBOX := Lib.hid hbox
        have hzw := hf.size
        have hzl := box_lt hbox
        clear hk hop hlk hpl
        by_cases hk8 : k < n
        · exact absurd hk8 (by have := HN0.out; omega)
        · have hkn : k = n := by have := HK.out; omega
          have hop := HOP.out
          rw [hkn, List.take_of_length_le (by rw [List.length_tail, HM.out]; omega)] at hop
          have HP := Lib.hid (parse_done HPS.out (by rw [HM.out]; have := H7.out; omega) HD.out.1 hop)
          have d0 := box0 hbox
          have d1 := box1 hbox
          have hR7 := box_kept HD.out.2.2.1 hf (fun e => by have := HZP.out; omega)
          have r0 := box0 hR7
          have r1 := box1 hR7
          have rz0 := boxz hR7 0
          have rz1 := boxz hR7 1
          have hzr := box_lt hR7
          have hne : ¬ P = w.heap.size := by have := HZP.out; omega
          have hW7 := HD.out.2.2.2.1.trans (hf.below HD.out.2.2.2.1.size fun j hj e => by have := HZP.out; omega)
          have hFF : Fr (fun j => j = w.heap.size) wr ((wr.setCell ⟨w.heap.size, 0, none⟩ (.slice va c.length vc)).setCell ⟨w.heap.size, 1, none⟩ (.slice ua us.length uc)) := (fr_set wr ⟨w.heap.size, 0, none⟩ (.slice va c.length vc)).then (fr_set _ ⟨w.heap.size, 1, none⟩ (.slice ua us.length uc)) fun _ _ e => e
          obtain ⟨f2, hL2, hn2⟩ := HPL.out.done
          have hlt2 := hL2.lt
          have hl2 := hL2.okept hFF (fun j hj e => by have := (hlt2 j hj).1; have := HZP.out; omega)
          have hl1 := ((ints_OL HD.out.2.1).okept hf (fun j hj e => by have := (own_lt HD.out.2.1 (mem_ownBlock.1 hj)).1; omega)).okept hFF (fun j hj e => by have := (own_lt HD.out.2.1 (mem_ownBlock.1 hj)).1; have := HZP.out; omega)
          have hOA : OA ((wr.setCell ⟨w.heap.size, 0, none⟩ (.slice va c.length vc)).setCell ⟨w.heap.size, 1, none⟩ (.slice ua us.length uc)) w.heap.size (.slice va c.length vc) (.slice ua us.length uc) (c, us) :=
            ⟨_, f2, hl1.mono (by have := HZP.out; omega), hl2.mono (by have := HZP.out; omega), List.nodup_append.2 ⟨nodup_own _, hn2, fun j hj i hi e => by
              have h1 := (own_lt HD.out.2.1 (mem_ownBlock.1 hj)).2
              have h2 := (hlt2 i hi).1
              omega⟩⟩
          have HE := Lib.hid (And.intro hOA (hW7.trans (hFF.below hW7.size fun j hj e => by omega)))
          clear hFF hOA hl1 hl2 hL2 hlt2 hn2 hW7 hR7 hbox hf hop hkn
          go_wp2
          refine bodyPost_ret (v := .tuple #[.agg #[.slice va c.length vc, .slice ua us.length uc], .bool true]) (by simp [results, Tryz.results6, go_sem, r0, r1]) rfl ?_
          exact ⟨_, _, by rw [parseB_some HP.out], by rw [parseR_some HP.out]; exact HE.out.1, HE.out.2⟩
    case inr =>
      clear d0 d1 dz hzl
      go_loopg [31] n (fun q i wr => ∃ (k : Nat) (us : List (List Int)) (vu : Value), k + q = n ∧ i = .int .i64 k ∧ optL useO (ps.tail.take k) = some us ∧ us.length = k ∧ wr.heap[P]? = some (.cells #[.slice va c.length vc, vu] 26 (0, 0)) ∧
        PL wr w3.heap.size vu us.length us us.length ∧ Fr (fun j => j = P) w3 wr)
      case atStart => exact ⟨0, [], _, by omega, rfl, rfl, rfl, HST.out.2, hPL, HST.out.1⟩
      case round =>
        obtain ⟨k, us, vu, hk, rfl, hop, hlk, hbox, hpl, hf⟩ := hrel
        obtain ⟨ua, uc, hvu⟩ := hpl.done.form
        subst hvu
        have HK := Lib.hid hk
        have HOP := Lib.hid hop
        have HLK := Lib.hid hlk
        have HF := Lib.hid hf
        have HPL := Lib.hid hpl
        have HBOX := Lib.hid hbox
        have hzw := hf.size
        have hzl := box_lt hbox
        clear hk hop hlk hpl
        by_cases hk8 : k < n
        · have i1 : (k : Int) < (n : Int) := by omega
          have hp := hf.cell (p := ⟨w.heap.size + 1, 1 + k, none⟩) (by have := HZP.out; show ¬ w.heap.size + 1 = P; omega) (hC3.out (1 + k) (by omega))
          have hxl := HSUB.out (gd ps (1 + k)) (gd_mem (by rw [HM.out]; omega))
          have hmr := hf.cell (p := ⟨1, 0, none⟩) HD.out.2.2.2.2.2 HD.out.2.2.2.2.1
          cases hu : useO (gd ps (1 + k)) with
          | none =>
            have HP := Lib.hid (And.intro (parse_nouse HPS.out (k := k) (by rw [HM.out]; omega) (by rw [Nat.add_comm]; exact hu)) hu)
            clear hu
            go_wp2_with fail
            refine (parseUsesI_any (gd ps (1 + k)) mx _ hxl hmr).mono ?_
            intro e w5 hres
            obtain rfl := hres.2.1 HP.out.2
            have hf5 := HF.out.thenB hres.2.2
            have hR5 := box_kept HD.out.2.2.1 hf5 (fun e => by have := HZP.out; omega)
            have HB := Lib.hid (HD.out.2.2.2.1.trans (hf5.below HD.out.2.2.2.1.size fun j hj e => by have := HZP.out; omega))
            have r0 := box0 hR5
            have r1 := box1 hR5
            have rz0 := boxz hR5 0
            have rz1 := boxz hR5 1
            have hzz := box_lt hR5
            clear hres hf5 hR5 hbox hf hmr hp hxl
            go_wp2
            refine bodyPost_ret (v := .tuple #[.agg #[.slice none 0 0, .slice none 0 0], .bool false]) (by simp [results, Tryz.results6, go_sem, r0, r1]) rfl ?_
            exact HN.out _ HP.out.1 (HB.out.trans Bl)
          | some u =>
            have HU := Lib.hid hu
            clear hu
            go_wp2_with fail
            refine (parseUsesI_any (gd ps (1 + k)) mx _ hxl hmr).mono ?_
            intro e w5 hres
            obtain ⟨v, rfl, hown⟩ := hres.1 u HU.out
            obtain ⟨ga, gc, rfl, _⟩ := own_form hown
            have hb5 := hres.2.2
            have hz5 := hb5.size
            have box5 := box_keep HBOX.out hb5
            have d1 := box1 box5
            obtain ⟨xs, hownr, hgrow⟩ := HPL.out.grow (Below.fr (bt hb5 (below_alloc w5 (.cells #[.slice ga u.length gc] 23)))) (fun j _ _ h => h) hzw
            have HST5 := Lib.hid (And.intro hown (And.intro hb5 box5))
            have HGR := Lib.hid hgrow
            have HRW := Lib.hid hownr
            have hus6 : us.length ≤ 6 := by have := HLK.out; have := H7.out; omega
            clear hres hown hb5 box5 hgrow hbox hf hmr hp hxl
            go_wp2_with (at_builtin; go_must (refine app_cells (n := us.length) (m := 1) (news := [.slice ga u.length gc]) rfl (.tmp 44) (.tmp 46) _ rfl (B := w3.heap.size) ti_ints rfl hownr rfl rfl (news1 _ _ _) (one1 _ _ _) (by omega) (by simp; omega) ?_; intro v' w7 hr7 hf7 hl7; obtain ⟨za, zc, rfl, _⟩ := own_form hr7; have box7 := box_kept (box_keep HST5.out.2.2 (below_alloc w5 (.cells #[.slice ga u.length gc] 23))) hf7 (fun e => by have := (own_lt HRW.out e).1; omega); have e1 := box1 box7; have ez := boxz box7 1; have el := box_lt box7))
            obtain ⟨fx, hOL, hfx⟩ := OO.ints (own_mono (B' := wr.heap.size) HST5.out.1 (Nat.le_refl _))
            have hx : Own.own (w5.alloc (.cells #[.slice ga u.length gc] 23)) wr.heap.size u [.slice ga u.length gc] fx := ⟨_, rfl, hOL.keep (below_alloc _ _)⟩
            have hpl7 := HGR.out u _ fx _ w7 hx hfx hf7 hr7 hl7
            have hpl8 := (hpl7.done.kept (fr_set w7 ⟨P, 1, none⟩ (.slice za (us.length + 1) zc)) (fun j hj _ e => by have e' : j = P := e; omega)).pl
            have hF8 := (((HF.out.thenB HST5.out.2.1).thenB (below_alloc w5 (.cells #[.slice ga u.length gc] 23))).then hf7 (fun j hj e => absurd (own_lt HRW.out e).1 (by omega))).then (fr_set w7 ⟨P, 1, none⟩ (.slice za (us.length + 1) zc)) (fun j _ e => e)
            have hop8 : optL useO (ps.tail.take (k + 1)) = some (us ++ [u]) := optL_step (by rw [List.length_tail, HM.out]; omega) HOP.out (by rw [gd_tail, Nat.add_comm]; exact HU.out)
            have H8 := Lib.hid (And.intro (box_set1 box7 (.slice za (us.length + 1) zc)) (And.intro hpl8 (And.intro hF8 hop8)))
            clear hpl7 hpl8 hF8 hx hOL hfx hr7 hf7 hl7 box7 hop8 hownr
            go_wp2
            go_roundg (gk - 1)
            case rel => exact ⟨k + 1, us ++ [u], _, by have := HK.out; omega, by go_num, H8.out.2.2.2, by rw [List.length_append, HLK.out]; rfl, H8.out.1, H8.out.2.1, H8.out.2.2.1⟩
            case measure => have := HK.out; omega
        · have hkn : k = n := by have := HK.out; omega
          have hop := HOP.out
          rw [hkn, List.take_of_length_le (by rw [List.length_tail, HM.out]; omega)] at hop
          have HP := Lib.hid (parse_done HPS.out (by rw [HM.out]; have := H7.out; omega) HD.out.1 hop)
          have d0 := box0 hbox
          have d1 := box1 hbox
          have hR7 := box_kept HD.out.2.2.1 hf (fun e => by have := HZP.out; omega)
          have r0 := box0 hR7
          have r1 := box1 hR7
          have rz0 := boxz hR7 0
          have rz1 := boxz hR7 1
          have hzr := box_lt hR7
          have hne : ¬ P = w.heap.size := by have := HZP.out; omega
          have hW7 := HD.out.2.2.2.1.trans (hf.below HD.out.2.2.2.1.size fun j hj e => by have := HZP.out; omega)
          have hFF : Fr (fun j => j = w.heap.size) wr ((wr.setCell ⟨w.heap.size, 0, none⟩ (.slice va c.length vc)).setCell ⟨w.heap.size, 1, none⟩ (.slice ua us.length uc)) := (fr_set wr ⟨w.heap.size, 0, none⟩ (.slice va c.length vc)).then (fr_set _ ⟨w.heap.size, 1, none⟩ (.slice ua us.length uc)) fun _ _ e => e
          obtain ⟨f2, hL2, hn2⟩ := HPL.out.done
          have hlt2 := hL2.lt
          have hl2 := hL2.okept hFF (fun j hj e => by have := (hlt2 j hj).1; have := HZP.out; omega)
          have hl1 := ((ints_OL HD.out.2.1).okept hf (fun j hj e => by have := (own_lt HD.out.2.1 (mem_ownBlock.1 hj)).1; omega)).okept hFF (fun j hj e => by have := (own_lt HD.out.2.1 (mem_ownBlock.1 hj)).1; have := HZP.out; omega)
          have hOA : OA ((wr.setCell ⟨w.heap.size, 0, none⟩ (.slice va c.length vc)).setCell ⟨w.heap.size, 1, none⟩ (.slice ua us.length uc)) w.heap.size (.slice va c.length vc) (.slice ua us.length uc) (c, us) :=
            ⟨_, f2, hl1.mono (by have := HZP.out; omega), hl2.mono (by have := HZP.out; omega), List.nodup_append.2 ⟨nodup_own _, hn2, fun j hj i hi e => by
              have h1 := (own_lt HD.out.2.1 (mem_ownBlock.1 hj)).2
              have h2 := (hlt2 i hi).1
              omega⟩⟩
          have HE := Lib.hid (And.intro hOA (hW7.trans (hFF.below hW7.size fun j hj e => by omega)))
          clear hFF hOA hl1 hl2 hL2 hlt2 hn2 hW7 hR7 hbox hf hop hkn
          go_wp2
          refine bodyPost_ret (v := .tuple #[.agg #[.slice va c.length vc, .slice ua us.length uc], .bool true]) (by simp [results, Tryz.results6, go_sem, r0, r1]) rfl ?_
          exact ⟨_, _, by rw [parseB_some HP.out], by rw [parseR_some HP.out]; exact HE.out.1, HE.out.2⟩
end Go.Proofs.YtdjfdopgjlbloaaGreatDoor
