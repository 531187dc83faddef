/- Walks: a case in which an assertion entails another one: the reference. Printed by gen_entcase.py. -/
import Derived.Test.YtdjfdopgjlbloaaGreatDoorWItrB
import Derived.Test.YtdjfdopgjlbloaaGreatDoorWSkA
namespace Go.Proofs.YtdjfdopgjlbloaaGreatDoor
open Go.RowKit

/-- Does an assertion entail another one in a case? -/
def entC (a b : Asn) (cl : List Int) : Bool := asnB a && (asnB b && (readC (termsM b) a cl && (matchC a b cl).isSome))
theorem entC_spec {a b : Asn} {cl : List Int} (ha : asnB a = true) (hb : asnB b = true) (hr : readC (termsM b) a cl = true) :
    entC a b cl = (b.1.all (fitsF cl) && (mtchF (filledL cl a.2) (filledL cl b.2)).isSome) := by
  rw [entC, ha, hb, hr, facts_eq hb hr, matchC]
  cases b.1.all (factC cl) <;> rfl
set_option maxRecDepth 100000 in
set_option maxHeartbeats 40000000 in
theorem entCaseS_any {S1 S2 S3 S4 : Nat → Prop} (v1 v2 u1 u2 cv : Value) (a b : Asn) (cl : List Int) (w : World) (h1 : RL w S1 v1 a.1) (h2 : RL w S2 v2 a.2) (k1 : RL w S3 u1 b.1) (k2 : RL w S4 u2 b.2) (j1 : RInts w cv cl) :
    Calls Tryz.prog 42 #[.agg #[v1, v2], .agg #[u1, u2], cv] w fun e w' => e = .returned (.bool (entC a b cl)) ∧ Below w.heap.size w w' := by
  obtain ⟨xa1, xc1, rfl⟩ := h1.form
  obtain ⟨xa2, xc2, rfl⟩ := h2.form
  obtain ⟨ya1, yc1, rfl⟩ := k1.form
  obtain ⟨ya2, yc2, rfl⟩ := k2.form
  obtain ⟨za1, zc1, rfl⟩ := j1.form
  have hc0 : ((w.alloc (.cells #[.slice xa1 a.1.length xc1, .slice xa2 a.2.length xc2] 37)).alloc (.cells #[.slice ya1 b.1.length yc1, .slice ya2 b.2.length yc2] 37)).cell? ⟨w.heap.size, 0, none⟩ = some (.slice xa1 a.1.length xc1) := by simp [go_sem]
  have hc1 : ((w.alloc (.cells #[.slice xa1 a.1.length xc1, .slice xa2 a.2.length xc2] 37)).alloc (.cells #[.slice ya1 b.1.length yc1, .slice ya2 b.2.length yc2] 37)).cell? ⟨w.heap.size, 1, none⟩ = some (.slice xa2 a.2.length xc2) := by simp [go_sem]
  have hd0 : ((w.alloc (.cells #[.slice xa1 a.1.length xc1, .slice xa2 a.2.length xc2] 37)).alloc (.cells #[.slice ya1 b.1.length yc1, .slice ya2 b.2.length yc2] 37)).cell? ⟨w.heap.size + 1, 0, none⟩ = some (.slice ya1 b.1.length yc1) := by simp [go_sem]
  have hd1 : ((w.alloc (.cells #[.slice xa1 a.1.length xc1, .slice xa2 a.2.length xc2] 37)).alloc (.cells #[.slice ya1 b.1.length yc1, .slice ya2 b.2.length yc2] 37)).cell? ⟨w.heap.size + 1, 1, none⟩ = some (.slice ya2 b.2.length yc2) := by simp [go_sem]
  have hW : Below w.heap.size w ((w.alloc (.cells #[.slice xa1 a.1.length xc1, .slice xa2 a.2.length xc2] 37)).alloc (.cells #[.slice ya1 b.1.length yc1, .slice ya2 b.2.length yc2] 37)) := Bl
  have HX := Lib.hid (And.intro (And.intro hc0 hc1) (And.intro (And.intro hd0 hd1) hW))
  clear hc0 hc1 hd0 hd1 hW
  cases ha : asnB a with
  | false =>
    have HV := Lib.hid (And.intro ha True.intro)
    have HR := Lib.hid (show entC a b cl = false by rw [entC, ha]; rfl)
    clear ha
    go_enter Tryz.func42, Tryz.ntmps42
    go_wp2
    generalize ((w.alloc (.cells #[.slice xa1 a.1.length xc1, .slice xa2 a.2.length xc2] 37)).alloc (.cells #[.slice ya1 b.1.length yc1, .slice ya2 b.2.length yc2] 37)) = w0 at HX ⊢
    have hc0 := HX.out.1.1
    have hc1 := HX.out.1.2
    have hd0 := HX.out.2.1.1
    have hd1 := HX.out.2.1.2
    have hW := HX.out.2.2
    have hzx : w.heap.size < w0.heap.size := World.block_lt_of_cell? w0 _ hc0
    have hzy : w.heap.size + 1 < w0.heap.size := World.block_lt_of_cell? w0 _ hd0
    have q1 := h1.keep hW
    have q2 := h2.keep hW
    have q3 := k1.keep hW
    have q4 := k2.keep hW
    refine wp_region_ext (by kernel_rfl) (by kernel_rfl) ?_
    repeat (go_big_quiet_step ((go_at_call 37; first
      | with_reducible exact ext_c (cb (asnValidS_any (.slice xa1 a.1.length xc1) (.slice xa2 a.2.length xc2) a _ (q1.keep (ext_below _ _)) (q2.keep (ext_below _ _))) HV.out.1))))
    refine wpQuiet_nil ?_
    intro w5 hb5
    go_wp2
    go_ret
    exact ⟨by rw [HR.out]; rfl, bt hW hb5⟩
  | true =>
    cases hb : asnB b with
    | false =>
      have HV := Lib.hid (And.intro ha (And.intro hb True.intro))
      have HR := Lib.hid (show entC a b cl = false by rw [entC, ha, hb]; rfl)
      clear ha hb
      go_enter Tryz.func42, Tryz.ntmps42
      go_wp2
      generalize ((w.alloc (.cells #[.slice xa1 a.1.length xc1, .slice xa2 a.2.length xc2] 37)).alloc (.cells #[.slice ya1 b.1.length yc1, .slice ya2 b.2.length yc2] 37)) = w0 at HX ⊢
      have hc0 := HX.out.1.1
      have hc1 := HX.out.1.2
      have hd0 := HX.out.2.1.1
      have hd1 := HX.out.2.1.2
      have hW := HX.out.2.2
      have hzx : w.heap.size < w0.heap.size := World.block_lt_of_cell? w0 _ hc0
      have hzy : w.heap.size + 1 < w0.heap.size := World.block_lt_of_cell? w0 _ hd0
      have q1 := h1.keep hW
      have q2 := h2.keep hW
      have q3 := k1.keep hW
      have q4 := k2.keep hW
      refine wp_region_ext (by kernel_rfl) (by kernel_rfl) ?_
      repeat (go_big_quiet_step ((go_at_call 37; first
        | with_reducible exact ext_c (cb (asnValidS_any (.slice xa1 a.1.length xc1) (.slice xa2 a.2.length xc2) a _ (q1.keep (ext_below _ _)) (q2.keep (ext_below _ _))) HV.out.1)
        | with_reducible exact ext_c (cb (asnValidS_any (.slice ya1 b.1.length yc1) (.slice ya2 b.2.length yc2) b _ (q3.keep (ext_below _ _)) (q4.keep (ext_below _ _))) HV.out.2.1))))
      refine wpQuiet_nil ?_
      intro w5 hb5
      go_wp2
      go_ret
      exact ⟨by rw [HR.out]; rfl, bt hW hb5⟩
    | true =>
      have hce := case_eq (a := a) (b := b) (cl := cl) ha
      cases hr : readC (termsM b) a cl with
      | false =>
        have HV := Lib.hid (And.intro ha (And.intro hb (hce.trans hr)))
        have HR := Lib.hid (show entC a b cl = false by rw [entC, ha, hb, hr]; rfl)
        clear ha hb hce hr
        go_enter Tryz.func42, Tryz.ntmps42
        go_wp2
        generalize ((w.alloc (.cells #[.slice xa1 a.1.length xc1, .slice xa2 a.2.length xc2] 37)).alloc (.cells #[.slice ya1 b.1.length yc1, .slice ya2 b.2.length yc2] 37)) = w0 at HX ⊢
        have hc0 := HX.out.1.1
        have hc1 := HX.out.1.2
        have hd0 := HX.out.2.1.1
        have hd1 := HX.out.2.1.2
        have hW := HX.out.2.2
        have hzx : w.heap.size < w0.heap.size := World.block_lt_of_cell? w0 _ hc0
        have hzy : w.heap.size + 1 < w0.heap.size := World.block_lt_of_cell? w0 _ hd0
        refine wp_region_noPanic ?_
        refine wp_region_held_drew (S := (fun w' => w'.cell? ⟨w.heap.size, 0, none⟩ = some (.slice xa1 a.1.length xc1) ∧ w'.cell? ⟨w.heap.size, 1, none⟩ = some (.slice xa2 a.2.length xc2) ∧ w'.cell? ⟨w.heap.size + 1, 0, none⟩ = some (.slice ya1 b.1.length yc1) ∧ w'.cell? ⟨w.heap.size + 1, 1, none⟩ = some (.slice ya2 b.2.length yc2))) (by kernel_rfl) ?_ (fun hHeld => ?_)
        · try dsimp only
          exact ⟨cell_keep Bl hc0, cell_keep Bl hc1, cell_keep Bl hd0, cell_keep Bl hd1⟩
        refine wpAnyH_take (i := 0) (oi := _) (v := ?_) rfl (by kernel_rfl) (by kernel_rfl) (by kernel_rfl) (fun _ _ _ h => h) (Or.inl ⟨by rfl, ?_⟩) (by assumption) ?_
        rotate_left
        · (intro w hSw; (try dsimp only at hSw); first | (go_simp; done) | (go_simp; with_reducible rfl))
        refine wpAnyH_ready (rs := [1]) (by kernel_rfl) (by simp) ?_
        refine AllReadyH.cons (o := _) rfl (fun K hK => ?_) AllReadyH.nil
        go_simp
        (go_at_call 37; (with_reducible refine (cb (asnValidS_any (.slice xa1 a.1.length xc1) (.slice xa2 a.2.length xc2) a _ (h1.keep (bt hW Bl)) (h2.keep (bt hW Bl))) HV.out.1).mono ?_); rintro e w1 ⟨rfl, hb1'⟩; have hb1 : Below w0.heap.size w0 w1 := bt Bl hb1')
        go_wp2_with fail
        refine hK.out _ _ ?_ (fun hHeld => ?_)
        · try dsimp only
          exact ⟨cell_keep Bl hc0, cell_keep Bl hc1, cell_keep Bl hd0, cell_keep Bl hd1⟩
        clear hK K
        refine wpAnyH_take (i := 2) (oi := _) (v := ?_) rfl (by kernel_rfl) (by kernel_rfl) (by kernel_rfl) (fun _ _ _ h => h) (Or.inl ⟨by rfl, ?_⟩) (by assumption) ?_
        rotate_left
        · (intro w hSw; (try dsimp only at hSw); first | (go_simp; done) | (go_simp; with_reducible rfl))
        refine wpAnyH_take (i := 3) (oi := _) (v := ?_) rfl (by kernel_rfl) (by kernel_rfl) (by kernel_rfl) (fun _ _ _ h => h) (Or.inl ⟨by rfl, ?_⟩) (by assumption) ?_
        rotate_left
        · (intro w hSw; (try dsimp only at hSw); first | (go_simp; done) | (go_simp; with_reducible rfl))
        refine wpAnyH_ready (rs := [4]) (by kernel_rfl) (by simp) ?_
        refine AllReadyH.cons (o := _) rfl (fun K hK => ?_) AllReadyH.nil
        go_simp
        (go_at_call 37; (with_reducible refine (cb (asnValidS_any (.slice ya1 b.1.length yc1) (.slice ya2 b.2.length yc2) b _ (k1.keep (bt hW Bl)) (k2.keep (bt hW Bl))) HV.out.2.1).mono ?_); rintro e w2 ⟨rfl, hb2'⟩; have hb2 : Below w0.heap.size w0 w2 := bt Bl hb2')
        go_wp2_with fail
        refine hK.out _ _ ?_ (fun hHeld => ?_)
        · try dsimp only
          exact ⟨cell_keep Bl hc0, cell_keep Bl hc1, cell_keep Bl hd0, cell_keep Bl hd1⟩
        clear hK K
        refine wpAnyH_take (i := 5) (oi := _) (v := ?_) rfl (by kernel_rfl) (by kernel_rfl) (by kernel_rfl) (fun _ _ _ h => h) (Or.inl ⟨by rfl, ?_⟩) (by assumption) ?_
        rotate_left
        · (intro w hSw; (try dsimp only at hSw); first | (go_simp; done) | (go_simp; with_reducible rfl))
        refine wpAnyH_take (i := 6) (oi := _) (v := ?_) rfl (by kernel_rfl) (by kernel_rfl) (by kernel_rfl) (fun _ _ _ h => h) (Or.inl ⟨by rfl, ?_⟩) (by assumption) ?_
        rotate_left
        · (intro w hSw; (try dsimp only at hSw); first | (go_simp; done) | (go_simp; with_reducible rfl))
        refine wpAnyH_take (i := 7) (oi := _) (v := ?_) rfl (by kernel_rfl) (by kernel_rfl) (by kernel_rfl) (fun _ _ _ h => h) (Or.inl ⟨by rfl, ?_⟩) (by assumption) ?_
        rotate_left
        · (intro w hSw; (try dsimp only at hSw); first | (go_simp; done) | (go_simp; with_reducible rfl))
        refine wpAnyH_take (i := 8) (oi := _) (v := ?_) rfl (by kernel_rfl) (by kernel_rfl) (by kernel_rfl) (fun _ _ _ h => h) (Or.inl ⟨by rfl, ?_⟩) (by assumption) ?_
        rotate_left
        · (intro w hSw; (try dsimp only at hSw); first | (go_simp; done) | (go_simp; with_reducible rfl))
        refine wpAnyH_take (i := 9) (oi := _) (v := ?_) rfl (by kernel_rfl) (by kernel_rfl) (by kernel_rfl) (fun _ _ _ h => h) (Or.inl ⟨by rfl, ?_⟩) (by assumption) ?_
        rotate_left
        · (intro w hSw; (try dsimp only at hSw); first | (go_simp; done) | (go_simp; with_reducible rfl))
        refine wpAnyH_take (i := 11) (oi := _) (v := ?_) rfl (by kernel_rfl) (by kernel_rfl) (by kernel_rfl) (fun _ _ _ h => h) (Or.inl ⟨by rfl, ?_⟩) (by assumption) ?_
        rotate_left
        · (intro w hSw; (try dsimp only at hSw); first | (go_simp; done) | (go_simp; with_reducible rfl))
        refine wpAnyH_ready (rs := [10]) (by kernel_rfl) (by simp) ?_
        refine AllReadyH.cons (o := _) rfl (fun K hK => ?_) AllReadyH.nil
        go_simp
        (go_at_call 39; (with_reducible refine (l6Both_any _ _ _ _ a b _ (h1.keep (bt hW Bl)) (h2.keep (bt hW Bl)) (k1.keep (bt hW Bl)) (k2.keep (bt hW Bl)) HV.out.1 HV.out.2.1).mono ?_); rintro e w3 ⟨tv3, rfl, ht3, hb3'⟩; have hb3 : Below w0.heap.size w0 w3 := bt Bl hb3'; have HT3 := Lib.hid ht3)
        go_wp2_with fail
        refine hK.out _ _ ?_ (fun hHeld => ?_)
        · try dsimp only
          exact ⟨cell_keep Bl hc0, cell_keep Bl hc1, cell_keep Bl hd0, cell_keep Bl hd1⟩
        clear hK K
        refine wpAnyH_ready (rs := [12]) (by kernel_rfl) (by simp) ?_
        refine AllReadyH.cons (o := _) rfl (fun K hK => ?_) AllReadyH.nil
        go_simp
        (go_at_call 61; (with_reducible refine (cb (l6IsCase_any _ _ _ _ a _ _ cl _ (h1.keep (bt hW Bl)) (h2.keep (bt hW Bl)) (own_keep HT3.out Bl) (j1.keep (bt hW Bl)) HV.out.1) HV.out.2.2).mono ?_); rintro e w4 ⟨rfl, hb4'⟩; have hb4 : Below w0.heap.size w0 w4 := bt (bt hb3 Bl) hb4')
        go_wp2_with fail
        refine hK.out _ _ ?_ (fun hHeld => ?_)
        · try dsimp only
          exact ⟨cell_keep Bl hc0, cell_keep Bl hc1, cell_keep Bl hd0, cell_keep Bl hd1⟩
        clear hK K
        refine wpAnyH_take (i := 13) (oi := _) (v := ?_) rfl (by kernel_rfl) (by kernel_rfl) (by kernel_rfl) (fun _ _ _ h => h) (Or.inl ⟨by rfl, ?_⟩) (by assumption) ?_
        rotate_left
        · (intro w hSw; (try dsimp only at hSw); first | (go_simp; done) | (go_simp; with_reducible rfl))
        refine wpAnyH_take (i := 14) (oi := _) (v := ?_) rfl (by kernel_rfl) (by kernel_rfl) (by kernel_rfl) (fun _ _ _ h => h) (Or.inl ⟨by rfl, ?_⟩) (by assumption) ?_
        rotate_left
        · (intro w hSw; (try dsimp only at hSw); first | (go_simp; done) | (go_simp; with_reducible rfl))
        refine wpAnyH_take (i := 15) (oi := _) (v := undef) rfl (by kernel_rfl) (by kernel_rfl) (by kernel_rfl) (fun _ _ _ h => h) (Or.inr ⟨by rfl, rfl⟩) (by assumption) ?_
        refine wpAnyH_take (i := 16) (oi := _) (v := undef) rfl (by kernel_rfl) (by kernel_rfl) (by kernel_rfl) (fun _ _ _ h => h) (Or.inr ⟨by rfl, rfl⟩) (by assumption) ?_
        refine wpAnyH_take (i := 17) (oi := _) (v := undef) rfl (by kernel_rfl) (by kernel_rfl) (by kernel_rfl) (fun _ _ _ h => h) (Or.inr ⟨by rfl, rfl⟩) (by assumption) ?_
        refine wpAnyH_ready (rs := [18]) (by kernel_rfl) (by simp) ?_
        refine AllReadyH.cons (o := _) rfl (fun K hK => ?_) AllReadyH.nil
        go_simp
        refine hK.out _ _ ?_ (fun hHeld => ?_)
        · try dsimp only
          exact ⟨cell_keep Bl hc0, cell_keep Bl hc1, cell_keep Bl hd0, cell_keep Bl hd1⟩
        clear hK K
        refine wpAnyH_take (i := 19) (oi := _) (v := ?_) rfl (by kernel_rfl) (by kernel_rfl) (by kernel_rfl) (fun _ _ _ h => h) (Or.inl ⟨by rfl, ?_⟩) (by assumption) ?_
        rotate_left
        · (intro w hSw; (try dsimp only at hSw); first | (go_simp; done) | (go_simp; with_reducible rfl))
        refine wpAnyH_take (i := 20) (oi := _) (v := ?_) rfl (by kernel_rfl) (by kernel_rfl) (by kernel_rfl) (fun _ _ _ h => h) (Or.inl ⟨by rfl, ?_⟩) (by assumption) ?_
        rotate_left
        · (intro w hSw; (try dsimp only at hSw); first | (go_simp; done) | (go_simp; with_reducible rfl))
        refine wpAnyH_done (by kernel_rfl) ?_ _
        refine NoPanic.normal ?_
        have hbb := bt hW hb4
        go_wp2
        go_ret
        exact ⟨by rw [HR.out]; simp [Act.put], hbb⟩
      | true =>
        have HV := Lib.hid (And.intro ha (And.intro hb (hce.trans hr)))
        have HR := Lib.hid (entC_spec ha hb hr)
        have HLN := Lib.hid (read_len hr)
        clear ha hb hce hr
        go_enter Tryz.func42, Tryz.ntmps42
        go_wp2
        generalize ((w.alloc (.cells #[.slice xa1 a.1.length xc1, .slice xa2 a.2.length xc2] 37)).alloc (.cells #[.slice ya1 b.1.length yc1, .slice ya2 b.2.length yc2] 37)) = w0 at HX ⊢
        have hc0 := HX.out.1.1
        have hc1 := HX.out.1.2
        have hd0 := HX.out.2.1.1
        have hd1 := HX.out.2.1.2
        have hW := HX.out.2.2
        have hzx : w.heap.size < w0.heap.size := World.block_lt_of_cell? w0 _ hc0
        have hzy : w.heap.size + 1 < w0.heap.size := World.block_lt_of_cell? w0 _ hd0
        go_region_held3 (fun w' => w'.cell? ⟨w.heap.size, 0, none⟩ = some (.slice xa1 a.1.length xc1) ∧ w'.cell? ⟨w.heap.size, 1, none⟩ = some (.slice xa2 a.2.length xc2) ∧ w'.cell? ⟨w.heap.size + 1, 0, none⟩ = some (.slice ya1 b.1.length yc1) ∧ w'.cell? ⟨w.heap.size + 1, 1, none⟩ = some (.slice ya2 b.2.length yc2))
          (exact ⟨cell_keep Bl hc0, cell_keep Bl hc1, cell_keep Bl hd0, cell_keep Bl hd1⟩)
          (first
            | (go_at_call 37; (with_reducible refine (cb (asnValidS_any (.slice xa1 a.1.length xc1) (.slice xa2 a.2.length xc2) a _ (h1.keep (bt hW Bl)) (h2.keep (bt hW Bl))) HV.out.1).mono ?_); rintro e w1 ⟨rfl, hb1'⟩; have hb1 : Below w0.heap.size w0 w1 := bt Bl hb1')
            | (go_at_call 37; (with_reducible refine (cb (asnValidS_any (.slice ya1 b.1.length yc1) (.slice ya2 b.2.length yc2) b _ (k1.keep (bt hW Bl)) (k2.keep (bt hW Bl))) HV.out.2.1).mono ?_); rintro e w2 ⟨rfl, hb2'⟩; have hb2 : Below w0.heap.size w0 w2 := bt Bl hb2')
            | (go_at_call 39; (with_reducible refine (l6Both_any _ _ _ _ a b _ (h1.keep (bt hW Bl)) (h2.keep (bt hW Bl)) (k1.keep (bt hW Bl)) (k2.keep (bt hW Bl)) HV.out.1 HV.out.2.1).mono ?_); rintro e w3 ⟨tv3, rfl, ht3, hb3'⟩; have hb3 : Below w0.heap.size w0 w3 := bt Bl hb3'; have HT3 := Lib.hid ht3)
            | (go_at_call 61; (with_reducible refine (cb (l6IsCase_any _ _ _ _ a _ _ cl _ (h1.keep (bt hW Bl)) (h2.keep (bt hW Bl)) (own_keep HT3.out Bl) (j1.keep (bt hW Bl)) HV.out.1) HV.out.2.2).mono ?_); rintro e w4 ⟨rfl, hb4'⟩; have hb4 : Below w0.heap.size w0 w4 := bt (bt hb3 Bl) hb4')
            | (go_at_call 62; (with_reducible refine (l6Case_any _ _ _ _ _ a b cl _ (h1.keep (bt hW Bl)) (h2.keep (bt hW Bl)) (k1.keep (bt hW Bl)) (k2.keep (bt hW Bl)) (j1.keep (bt hW Bl)) HV.out.1 HV.out.2.1 HLN.out).mono ?_); rintro e w5 ⟨rfl, hb5'⟩; have hb5 : Below w0.heap.size w0 w5 := bt Bl hb5'))
        all_goals
          have hbb := bt hW hb5
          go_wp2
          go_ret
          exact ⟨by rw [HR.out]; rfl, hbb⟩
end Go.Proofs.YtdjfdopgjlbloaaGreatDoor
