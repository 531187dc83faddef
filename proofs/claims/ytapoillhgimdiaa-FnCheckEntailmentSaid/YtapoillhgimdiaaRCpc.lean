/- Walks: a deep copy of proofs of cases (the reference's l16Copy). -/
import Derived.Test.YtapoillhgimdiaaRMu16
set_option linter.unusedSimpArgs false
set_option linter.unusedVariables false
namespace Go.Proofs.Ytapoillhgimdiaa
open Go.RowKit

/-- Proofs of no great size. -/
def CpfSz (l : List CPf) : Prop := ∀ p ∈ l, p.1.length ≤ 1048576 ∧ p.2.length ≤ 1048576 ∧ ∀ u ∈ p.2, u.length ≤ 1048576
set_option maxRecDepth 100000 in
set_option maxHeartbeats 12800000 in
theorem l16Copy_any {S : Nat → Prop} (v : Value) (l : List CPf) (w : World) (h : RL w S v l) (hl : l.length ≤ 1048576) (hs : CpfSz l) :
    Calls Try.prog 159 #[v] w fun e w' => ∃ v', e = .returned v' ∧ TR w' w.heap.size 46 v' l ∧ Below w.heap.size w w' := by
  obtain ⟨a, c, rfl, _, _, hf⟩ := h.lt.cpfAt
  have F1 := Lib.hid hf
  have HSZ := Lib.hid hs
  clear hf h hs
  go_enter Try.func159, Try.ntmps159
  go_wp2
  go_loopg [3, 4] l.length (fun q x i wr => ∃ k : Nat, k + q = l.length ∧ i = .int .i64 k ∧ TR wr w.heap.size 46 x (l.take k) ∧ Below w.heap.size w wr)
  case atStart => exact ⟨0, by omega, rfl, TR.of (own_emp w _ _ _ (Nat.le_refl _)), below_alloc _ _⟩
  case round =>
    obtain ⟨i, hi, rfl, hT, hW⟩ := hrel
    have HI := Lib.hid hi
    clear hi
    by_cases hi8 : i < l.length
    · have hii : (i : Int) < (l.length : Int) := by omega
      have hlI : (l.length : Int) ≤ 1048576 := by omega
      obtain ⟨gO, hgO⟩ : ∃ g, g = gk := ⟨_, rfl⟩
      have HGO := Lib.hid hgO
      clear hgO
      obtain ⟨wo, rfl⟩ : ∃ wo : World, wo = wr := ⟨_, rfl⟩
      obtain ⟨lb, lo, x1, x2, rfl, _, hlb, hI0, hI1w, r1, r2⟩ := F1.out i hi8
      obtain ⟨xa1, xc1, rfl⟩ := r1.form
      have hszp := HSZ.out _ (gd_mem hi8)
      obtain ⟨p, hp0⟩ : ∃ p, p = gd l i := ⟨_, rfl⟩
      rw [← hp0] at hI0 r1 r2 hszp
      have HP0 := Lib.hid hp0
      obtain ⟨xa2, xc2, hxe, _, _, hrf⟩ := r2.listAt
      subst hxe
      have hI0o := cell_keep hW hI0
      have hI1o := cell_keep hW hI1w
      have hso := hW.size
      have hlbo : lb < wo.heap.size := by omega
      have hvl := hT.lt
      obtain ⟨ta, tc, hte⟩ := hT.rl.form
      obtain ⟨n, hn⟩ : ∃ n, (l.take i).length = n := ⟨_, rfl⟩
      have hlk : n ≤ i := by rw [← hn, List.length_take]; omega
      rw [hn] at hte
      subst hte
      have HNN := Lib.hid hn
      clear hn
      have HO := Lib.hid (And.intro hT (And.intro hW hvl))
      have HF := Lib.hid hrf
      have hl1 := hszp.1
      have hl2 := hszp.2.1
      have HL3 := Lib.hid hszp.2.2
      have hl2i : (p.2.length : Int) ≤ 1048576 := by omega
      clear hp0 hrf hT hvl hszp
      go_wp2_with (at_builtin; go_must (refine app_icopy rfl (.tmp 14) (.tmp 19) rfl (by simp) rfl rfl (r1.keep hW) hl1 ?_; intro v5 w5 o5 hb5; obtain ⟨ca, cc, rfl, _⟩ := own_form o5))
      have bl5 := below_alloc w5 (.cells #[.slice ca p.1.length cc, .slice none 0 0] 46)
      have hbox := heap_alloc_new w5 (.cells #[.slice ca p.1.length cc, .slice none 0 0] 46)
      have hs5 := hb5.size
      have hzP : (w5.alloc (.cells #[.slice ca p.1.length cc, .slice none 0 0] 46)).heap.size = w5.heap.size + 1 := by simp
      have hcP : ∀ k, some k = (Value.slice ca p.1.length cc).ownBlock → wo.heap.size ≤ k ∧ k < w5.heap.size := fun k hk => own_lt o5 hk
      have hb5' := bt hb5 bl5
      replace o5 := own_keep o5 bl5
      have hI0P := cell_keep hb5' hI0o
      have hI1P := cell_keep hb5' hI1o
      generalize w5.alloc (.cells #[.slice ca p.1.length cc, .slice none 0 0] 46) = wP at bl5 hbox hzP o5 hb5' hI0P hI1P ⊢
      obtain ⟨P, hP⟩ : ∃ P, P = w5.heap.size := ⟨_, rfl⟩
      rw [← hP] at hbox hzP hcP hs5 ⊢
      have H0 := Lib.hid (And.intro (And.intro o5 (And.intro (And.intro hI0P hI1P) hb5')) (And.intro hcP hbox))
      clear o5 hb5' hb5 bl5 hcP hbox hP hI0P hI1P hI0o hI1o
      go_wp2
      go_loopg [6] p.2.length (fun q i wr => ∃ (k : Nat) (us : List (List Int)) (vu : Value), k + q = p.2.length ∧ i = .int .i64 k ∧ us = p.2.take k ∧ wr.heap[P]? = some (.cells #[.slice ca p.1.length cc, vu] 46 (0, 0)) ∧ OO wr (P + 1) vu us ∧ Below P wP wr)
      case atStart => exact ⟨0, [], _, by omega, rfl, rfl, H0.out.2.2, OO.nil _ _, Below.refl _ _⟩
      case round =>
        obtain ⟨k, us, vu, hk, rfl, hus, hbox, hu, hb⟩ := hrel
        have HK := Lib.hid hk
        have HB := Lib.hid hb
        have hz := box_lt hbox
        obtain ⟨va, vc, rfl⟩ := hu.form
        have HUL := Lib.hid hu
        have hch := Below.chg hb
        have hI0 := hch.cell (fun e => by have e2 : P ≤ lb := e; omega) H0.out.1.2.1.1
        have hI1 := hch.cell (fun e => by have e2 : P ≤ lb := e; omega) H0.out.1.2.1.2
        have hlbr : lb < wr.heap.size := by have := World.block_lt_of_cell? wr _ hI0; simpa using this
        have hul : us.length ≤ p.2.length := by rw [hus, List.length_take]; omega
        have HUS := Lib.hid hus
        clear hk hus hu
        by_cases hk8 : k < p.2.length
        · have HK2 := Lib.hid hk8
          obtain ⟨xb, xo, x, hxa, hs1, hzc, hp, hrow⟩ := HF.out k hk8
          subst hxa
          have hs2 : xb < w.heap.size := hs1
          replace hp := hch.cell (fun e => by have e2 : P ≤ xb := e; omega) (cell_keep H0.out.1.2.2 (cell_keep HO.out.2.1 hp))
          replace hrow := ((hrow.keep HO.out.2.1).keep H0.out.1.2.2).kept hch (fun j _ hj e => by have : j < w.heap.size := hj; have e2 : P ≤ j := e; omega)
          obtain ⟨U, hU⟩ : ∃ U, U = gd p.2 k := ⟨_, rfl⟩
          rw [← hU] at hrow
          have HU := Lib.hid (And.intro hU (show U.length ≤ 1048576 by rw [hU]; exact HL3.out _ (gd_mem hk8)))
          obtain ⟨ra, rc, rfl⟩ := hrow.form
          have hki : (k : Int) < (p.2.length : Int) := by omega
          have hxbr : xb < wr.heap.size := by have := World.block_lt_of_cell? wr _ hp; simpa using this
          clear hU hs1 hb hch
          have dz := boxz hbox 1
          go_wp2
          refine wp_region_late (S := (fun w' => w'.cell? ⟨P, 1, none⟩ = some (.slice va us.length vc) ∧ w'.cell? ⟨lb, lo + i * 2 + 1, none⟩ = some (.slice (some ⟨xb, xo, none⟩) p.2.length xc2) ∧ w'.cell? ⟨xb, xo + k, none⟩ = some (.slice ra U.length rc))) (dep := [15]) (by kernel_rfl) (⟨cell_keep (below_drew _) (box1 hbox), ⟨cell_keep (below_drew _) hI1, cell_keep (below_drew _) hp⟩⟩ : _ ∧ _ ∧ _) (fun hHeld => ?_)
          refine wpAnyD_free (i := 0) (oi := _) (v := ?_) rfl (by kernel_rfl) (by kernel_rfl) (by kernel_rfl) (by kernel_rfl) (fun _ _ _ h => h) (Or.inl ⟨by rfl, ?_⟩) hHeld (fun hHeld => ?_)
          rotate_left
          · (intro w _; first | (go_simp; done) | (go_simp; with_reducible rfl))
          try simp only [Act.put, List.setIfInBounds_toArray, List.set_cons_zero, List.set_cons_succ]
          refine wpAnyD_free (i := 3) (oi := _) (v := ?_) rfl (by kernel_rfl) (by kernel_rfl) (by kernel_rfl) (by kernel_rfl) (fun _ _ _ h => h) (Or.inl ⟨by rfl, ?_⟩) hHeld (fun hHeld => ?_)
          rotate_left
          · (intro w _; first | (go_simp; done) | (go_simp; with_reducible rfl))
          try simp only [Act.put, List.setIfInBounds_toArray, List.set_cons_zero, List.set_cons_succ]
          refine wpAnyD_free (i := 4) (oi := _) (v := ?_) rfl (by kernel_rfl) (by kernel_rfl) (by kernel_rfl) (by kernel_rfl) (fun _ _ _ h => h) (Or.inl ⟨by rfl, ?_⟩) hHeld (fun hHeld => ?_)
          rotate_left
          · (intro w _; first | (go_simp; done) | (go_simp; with_reducible rfl))
          try simp only [Act.put, List.setIfInBounds_toArray, List.set_cons_zero, List.set_cons_succ]
          refine wpAnyD_free (i := 5) (oi := _) (v := ?_) rfl (by kernel_rfl) (by kernel_rfl) (by kernel_rfl) (by kernel_rfl) (fun _ _ _ h => h) (Or.inl ⟨by rfl, ?_⟩) hHeld (fun hHeld => ?_)
          rotate_left
          · (intro w _; first | (go_simp; done) | (go_simp; with_reducible rfl))
          try simp only [Act.put, List.setIfInBounds_toArray, List.set_cons_zero, List.set_cons_succ]
          refine wpAnyD_free (i := 6) (oi := _) (v := ?_) rfl (by kernel_rfl) (by kernel_rfl) (by kernel_rfl) (by kernel_rfl) (fun _ _ _ h => h) (Or.inl ⟨by rfl, ?_⟩) hHeld (fun hHeld => ?_)
          rotate_left
          · (intro w _; first | (go_simp; done) | (go_simp; with_reducible rfl))
          try simp only [Act.put, List.setIfInBounds_toArray, List.set_cons_zero, List.set_cons_succ]
          refine wpAnyD_free (i := 8) (oi := _) (v := ?_) rfl (by kernel_rfl) (by kernel_rfl) (by kernel_rfl) (by kernel_rfl) (fun _ _ _ h => h) (Or.inl ⟨by rfl, ?_⟩) hHeld (fun hHeld => ?_)
          rotate_left
          · (intro w _; first | (go_simp; done) | (go_simp; with_reducible rfl))
          try simp only [Act.put, List.setIfInBounds_toArray, List.set_cons_zero, List.set_cons_succ]
          refine wpAnyD_take (i := 1) (oi := _) (v := ?_) rfl (by kernel_rfl) (by kernel_rfl) (by kernel_rfl) (by kernel_rfl) (by kernel_rfl) (fun _ _ _ h => h) (Or.inl ⟨by rfl, ?_⟩) (hHeld (early_of (by kernel_rfl))) ?_
          rotate_left
          · (intro w hSw; (try dsimp only at hSw); first | (go_simp; done) | (go_simp; with_reducible rfl))
          try simp only [Act.put, List.setIfInBounds_toArray, List.set_cons_zero, List.set_cons_succ]
          replace hHeld := fun (he : Early _ _) => hHeld (Early.of_set (i := 1) he (by decide))
          refine wpAnyD_take (i := 7) (oi := _) (v := ?_) rfl (by kernel_rfl) (by kernel_rfl) (by kernel_rfl) (by kernel_rfl) (by kernel_rfl) (fun _ _ _ h => h) (Or.inl ⟨by rfl, ?_⟩) (hHeld (early_of (by kernel_rfl))) ?_
          rotate_left
          · (intro w hSw; (try dsimp only at hSw); first | (go_simp; done) | (go_simp; with_reducible rfl))
          try simp only [Act.put, List.setIfInBounds_toArray, List.set_cons_zero, List.set_cons_succ]
          replace hHeld := fun (he : Early _ _) => hHeld (Early.of_set (i := 7) he (by decide))
          refine wpAnyD_free (i := 9) (oi := _) (v := ?_) rfl (by kernel_rfl) (by kernel_rfl) (by kernel_rfl) (by kernel_rfl) (fun _ _ _ h => h) (Or.inl ⟨by rfl, ?_⟩) hHeld (fun hHeld => ?_)
          rotate_left
          · (intro w _; first | (go_simp; done) | (go_simp; with_reducible rfl))
          try simp only [Act.put, List.setIfInBounds_toArray, List.set_cons_zero, List.set_cons_succ]
          refine wpAnyD_take (i := 10) (oi := _) (v := ?_) rfl (by kernel_rfl) (by kernel_rfl) (by kernel_rfl) (by kernel_rfl) (by kernel_rfl) (fun _ _ _ h => h) (Or.inl ⟨by rfl, ?_⟩) (hHeld (early_of (by kernel_rfl))) ?_
          rotate_left
          · (intro w hSw; (try dsimp only at hSw); first | (go_simp; done) | (go_simp; with_reducible rfl))
          try simp only [Act.put, List.setIfInBounds_toArray, List.set_cons_zero, List.set_cons_succ]
          replace hHeld := fun (he : Early _ _) => hHeld (Early.of_set (i := 10) he (by decide))
          refine wpAnyD_ready (rs := [2]) (by kernel_rfl) (by simp) ?_
          refine (AllReadyD.cons (o := _) rfl (fun K hK => ?_) AllReadyD.nil)
          clear hHeld
          go_simp
          refine hK.out _ _ ?_ (fun hHeld => ?_)
          · exact fun _ => (⟨cell_keep Bl (box1 hbox), ⟨cell_keep Bl hI1, cell_keep Bl hp⟩⟩ : _ ∧ _ ∧ _)
          clear hK K
          try simp only [Act.put, List.setIfInBounds_toArray, List.set_cons_zero, List.set_cons_succ]
          refine wpAnyD_ready (rs := [11]) (by kernel_rfl) (by simp) ?_
          refine (AllReadyD.cons (o := _) rfl (fun K hK => ?_) AllReadyD.nil)
          clear hHeld
          refine step_icopy rfl (.tmp 34) (.tmp 42) rfl (w := wr.drew) (g := wr.heap.size) rfl rfl rfl (hrow.keep (below_drew wr)) HU.out.2 ?_
          intro v7 w7 o7 hb7
          obtain ⟨ga, gc, rfl, _⟩ := own_form o7
          have hb7w : Below wr.heap.size wr w7 := bt (below_drew wr) hb7
          have n1 := cell_keep hb7w (box1 hbox)
          have n2 := cell_keep hb7w hI1
          have n3 := cell_keep hb7w hp
          have hs7 := hb7w.size
          have H7 := Lib.hid (And.intro o7 hb7w)
          clear o7 hb7 hb7w
          refine hK.out _ _ ?_ (fun hHeld => ?_)
          · exact fun _ => (⟨n1, ⟨n2, n3⟩⟩ : _ ∧ _ ∧ _)
          clear hK K
          try simp only [Act.put, List.setIfInBounds_toArray, List.set_cons_zero, List.set_cons_succ]
          refine wpAnyD_ready (rs := [12]) (by kernel_rfl) (by simp) ?_
          refine (AllReadyD.cons (o := _) rfl (fun K hK => ?_) AllReadyD.nil)
          clear hHeld
          go_simp
          refine hK.out _ _ ?_ (fun hHeld => ?_)
          · exact fun _ => (⟨cell_keep (below_alloc _ _) n1, ⟨cell_keep (below_alloc _ _) n2, cell_keep (below_alloc _ _) n3⟩⟩ : _ ∧ _ ∧ _)
          clear hK K
          try simp only [Act.put, List.setIfInBounds_toArray, List.set_cons_zero, List.set_cons_succ]
          refine wpAnyD_ready (rs := [13]) (by kernel_rfl) (by simp) ?_
          refine (AllReadyD.cons (o := _) rfl (fun K hK => ?_) AllReadyD.nil)
          clear hHeld
          have hbA := below_alloc w7 (.cells #[.slice ga U.length gc] 41)
          have hbW := bt H7.out.2 hbA
          obtain ⟨f0, hL0, hnd0⟩ := HUL.out
          obtain ⟨xs, hr, hgrow⟩ := OL.grow hL0 hnd0 (Below.fr hbW) (fun _ _ h => h) (by omega)
          have hOw : Own.own (w7.alloc (.cells #[.slice ga U.length gc] 41)) wr.heap.size U [.slice ga U.length gc] (Value.slice ga U.length gc).ownBlock.toList := ⟨_, rfl, (ints_OL H7.out.1).keep hbA⟩
          have hlo := fun j (e : some j = (Value.slice va us.length vc).ownBlock) => (HUL.out.own_lt e)
          have bx := box_keep hbox hbW
          have HX := Lib.hid (And.intro hOw (And.intro hgrow (And.intro hbW (And.intro hlo bx))))
          clear hOw hgrow hbA hbW hlo bx hL0 hnd0
          refine step_cells (n := us.length) (m := 1) (news := [.slice ga U.length gc]) rfl (.tmp 33) (.tmp 44) _ rfl (B := P + 1) ti_ints rfl hr rfl rfl (news1 _ _ _) (one1 _ _ _) (by omega) (by simp; omega) ?_
          intro v' w8 hr8 hf8 hl8
          obtain ⟨za, zc, rfl, _⟩ := own_form hr8
          have bx8 := box_kept HX.out.2.2.2.2 hf8 (fun e => by have := (HX.out.2.2.2.1 P e).1; omega)
          have k1 := box1 bx8
          have k2 := hf8.cell (fun e => by have := (HX.out.2.2.2.1 _ e).1; simp at this; omega) (cell_keep HX.out.2.2.1 hI1)
          have k3 := hf8.cell (fun e => by have := (HX.out.2.2.2.1 _ e).1; simp at this; omega) (cell_keep HX.out.2.2.1 hp)
          have kz := boxz bx8
          have kl := box_lt bx8
          have H8 := Lib.hid (And.intro hr (And.intro hr8 (And.intro hf8 (And.intro hl8 bx8))))
          clear hr hr8 hf8 hl8 bx8
          refine hK.out _ _ ?_ (fun hHeld => ?_)
          · exact fun _ => (⟨k1, ⟨k2, k3⟩⟩ : _ ∧ _ ∧ _)
          clear hK K
          try simp only [Act.put, List.setIfInBounds_toArray, List.set_cons_zero, List.set_cons_succ]
          refine wpAnyD_free (i := 14) (oi := _) (v := ?_) rfl (by kernel_rfl) (by kernel_rfl) (by kernel_rfl) (by kernel_rfl) (fun _ _ _ h => h) (Or.inl ⟨by rfl, ?_⟩) hHeld (fun hHeld => ?_)
          rotate_left
          · (intro w _; first | (go_simp; done) | (go_simp; with_reducible rfl))
          try simp only [Act.put, List.setIfInBounds_toArray, List.set_cons_zero, List.set_cons_succ]
          refine wpAnyD_ready (rs := [15]) (by kernel_rfl) (by simp) ?_
          refine (AllReadyD.cons (o := _) rfl (fun K hK => ?_) AllReadyD.nil)
          clear hHeld
          go_simp
          refine hK.out _ _ ?_ (fun hHeld => ?_)
          · exact late_none (by kernel_rfl)
          clear hK K
          try simp only [Act.put, List.setIfInBounds_toArray, List.set_cons_zero, List.set_cons_succ]
          refine wpAnyD_done (by kernel_rfl) ?_ _
          clear hHeld
          have hfs := fr_set w8 ⟨P, 1, none⟩ (.slice za (us.length + 1) zc)
          obtain ⟨f9, g91, g92, _⟩ := HX.out.2.1 _ _ _ _ _ HX.out.1 (nodup_own _) H8.out.2.2.1 H8.out.2.1 H8.out.2.2.2.1
          have hu9 := (show OO _ _ _ _ from ⟨f9, g91, g92⟩).kept hfs (fun j hj _ e => by have e2 : j = P := e; omega)
          have hb9 := ((HB.out.trans (HX.out.2.2.1.mono (by omega))).trans (H8.out.2.2.1.below (by have := HX.out.2.2.1.size; omega) fun j hj e => by have := (HX.out.2.2.2.1 j e).1; omega)).trans (hfs.below (by omega) fun j hj e => by have e2 : j = P := e; omega)
          have H9 := Lib.hid (And.intro (box_set1 H8.out.2.2.2.2 (.slice za (us.length + 1) zc)) (And.intro hu9 hb9))
          clear hfs hu9 hb9 g91 g92 k1 k2 k3 kz kl
          go_wp2
          go_roundg (gk - 1)
          case rel => exact ⟨k + 1, us ++ [U], _, by have := HK.out; omega, by go_num, by rw [HUS.out, HU.out.1]; exact (take_gd HK2.out).symm, H9.out.1, H9.out.2.1, H9.out.2.2⟩
          case measure => have := HK.out; omega
        · obtain rfl : k = p.2.length := by have := HK.out; omega
          have hus2 : us = p.2 := by rw [HUS.out, List.take_length]
          have c0 := box0 hbox
          have c1 := box1 hbox
          have hbwo : Below wo.heap.size wo wr := H0.out.1.2.2.trans (HB.out.mono (by omega))
          have ocw := own_kept H0.out.1.1 (Below.chg HB.out) (fun k hk e => by have := (H0.out.2.1 k hk).2; have e2 : P ≤ k := e; omega)
          have rcv : RL wr (fun k => wo.heap.size ≤ k) (.slice ca p.1.length cc) p.1 := (own_ints ocw).1.rl.more fun k _ hk => (own_lt ocw hk).1
          have ruv : RL wr (fun k => wo.heap.size ≤ k) (.slice va us.length vc) p.2 := by rw [← hus2]; exact HUL.out.read.more fun k _ hk => by omega
          obtain ⟨xs, hrow, hx⟩ := (HO.out.1.keep hbwo).keep (below_alloc wr (.cells #[.slice ca p.1.length cc, .slice va us.length vc] 46))
          have hbw := HO.out.2.1.trans (hbwo.mono hso)
          have hzz := hbw.size
          have HQ := Lib.hid (And.intro (And.intro rcv ruv) hx)
          have hlt := take_gd hi8
          rw [← HP0.out] at hlt
          have HLT := Lib.hid hlt
          rw [HNN.out] at hrow
          clear rcv ruv hx ocw hbwo hbox hus2 hch hb hlt
          go_wp2_with (at_builtin; refine app_cells (n := n) (m := 1) (news := [.slice ca p.1.length cc, .slice va us.length vc]) rfl (.tmp 47) (.tmp 49) _ rfl (B := w.heap.size) ti_cpf rfl hrow rfl rfl (news2 _ _ _ _) (one2 _ _ _ _ _ _) (by omega) (by simp; omega) ?_; intro v' w7 hr7 hf7 hl7)
          have hbb := below_own hrow hf7 (ba hbw _) (by simp; omega)
          have hTn := TR.app (l := l.take i) (m := [p]) (v := .slice ta n tc) (by rw [HNN.out]; exact hrow) HQ.out.2 hf7 (by rw [HNN.out]; exact hr7) hl7 (fun j hj => by
            obtain rfl : j = 0 := by simpa using hj
            refine rd_cpf_mk ((HQ.out.1.1.alloc _).more fun j _ hj => ⟨?_, fun he => ?_⟩) ((HQ.out.1.2.alloc _).more fun j _ hj => ⟨?_, fun he => ?_⟩)
            · have h2 : wo.heap.size ≤ j := hj; omega
            · have h2 : wo.heap.size ≤ j := hj; have := HO.out.2.2 j he; omega
            · have h2 : wo.heap.size ≤ j := hj; omega
            · have h2 : wo.heap.size ≤ j := hj; have := HO.out.2.2 j he; omega)
          rw [← HLT.out] at hTn
          have HTN := Lib.hid hTn
          clear hTn hr7 hf7 hl7 hrow
          go_wp2
          go_roundg (gO - 1)
          case rel => exact ⟨i + 1, by have := HI.out; have := HGO.out; omega, by go_num, HTN.out, hbb⟩
          case measure => have := HI.out; have := HGO.out; omega
    · obtain rfl : i = l.length := by have := HI.out; omega
      rw [List.take_length] at hT
      have HN := Lib.hid hT
      clear hT
      go_wp2
      go_ret
      exact ⟨_, rfl, HN.out, hW⟩
end Go.Proofs.Ytapoillhgimdiaa
