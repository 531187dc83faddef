/- CaseD: texts Case15, Case16 in one. -/
import Derived.Test.YtapoillhgimdiaaData2
import Derived.Test.YtapoillhgimdiaaCaseC
/- Laws of the helpers: proofs of cases. -/
namespace Go.Proofs.Ytapoillhgimdiaa
open Go.RowKit

set_option maxHeartbeats 800000 in
theorem eqCaseProof_rl {S1 S2 S3 S4 : Nat → Prop} (v1 v2 u1 u2 : Value) (a b : CPf) (w : World) (h1 : RL w S1 v1 a.1) (h2 : RL w S2 v2 a.2) (k1 : RL w S3 u1 b.1) (k2 : RL w S4 u2 b.2) :
    Calls Try.prog 95 #[.agg #[v1, v2], .agg #[u1, u2]] w fun e w' => e = .returned (.bool (decide (a = b))) ∧ Below w.heap.size w w' := by
  obtain ⟨a1, a2⟩ := a
  obtain ⟨b1, b2⟩ := b
  simp only at h1 h2 k1 k2
  by_cases e1 : a1 = b1
  rotate_left
  · have hfin : decide ((a1, a2) = (b1, b2)) = false := by simp [e1]
    have d1 : decide (a1 = b1) = false := by simpa using e1
    have HF := Lib.hid (And.intro hfin d1)
    clear hfin d1 e1
    go_enter Try.func95, Try.ntmps95
    go_wp2_with fail
    refine (cb (eqIntS_rl _ _ a1 b1 _ ((h1.alloc _).alloc _) ((k1.alloc _).alloc _)) HF.out.2).mono ?_
    rintro e w1 ⟨rfl, hb1⟩
    go_wp2
    go_ret
    exact ⟨by rw [HF.out.1]; rfl, bt (ba (below_alloc _ _) _) hb1⟩
  have d1 : decide (a1 = b1) = true := by simpa using e1
  have D1 := Lib.hid d1
  have hfin : decide ((a1, a2) = (b1, b2)) = decide (a2 = b2) := by simp [e1]
  clear d1 e1
  cases d2 : decide (a2 = b2)
  all_goals
    rw [d2] at hfin
    have HF := Lib.hid (And.intro hfin d2)
    clear hfin d2
    go_enter Try.func95, Try.ntmps95
    go_wp2_with fail
    refine (cb (eqIntS_rl _ _ a1 b1 _ ((h1.alloc _).alloc _) ((k1.alloc _).alloc _)) D1.out).mono ?_
    rintro e w1 ⟨rfl, hb1⟩
    have hc1 := cell_below hb1 (p := ⟨w.heap.size, 1, none⟩) (v := v2) (by first | (simp; done) | (simp; omega)) (by simp)
    have hc2 := cell_below hb1 (p := ⟨w.heap.size + 1, 1, none⟩) (v := u2) (by simp) (by simp)
    go_wp2_with fail
    refine (cb (eqIntSS_rl _ _ a2 b2 _ (((h2.alloc _).alloc _).keep hb1) (((k2.alloc _).alloc _).keep hb1)) HF.out.2).mono ?_
    rintro e w2 ⟨rfl, hb2⟩
    go_wp2
    go_ret
    exact ⟨by rw [HF.out.1]; rfl, bt (bt (ba (below_alloc _ _) _) hb1) hb2⟩
theorem eqCaseProof_eq {S1 S2 S3 S4 : Nat → Prop} (v1 v2 u1 u2 : Value) (a b : CPf) (t : Bool) (w : World) (h1 : RL w S1 v1 a.1) (h2 : RL w S2 v2 a.2) (k1 : RL w S3 u1 b.1) (k2 : RL w S4 u2 b.2) (ht : decide (a = b) = t) :
    Calls Try.prog 95 #[.agg #[v1, v2], .agg #[u1, u2]] w fun e w' => e = .returned (.bool t) ∧ Below w.heap.size w w' := cb (eqCaseProof_rl v1 v2 u1 u2 a b w h1 h2 k1 k2) ht
end Go.Proofs.Ytapoillhgimdiaa
/- Laws of the helpers: lists of proofs of cases. Printed by gen_cps.py. -/
namespace Go.Proofs.Ytapoillhgimdiaa
open Go.RowKit

set_option maxHeartbeats 1600000 in
theorem eqCaseProofS_rl {S1 S2 : Nat → Prop} (v1 v2 : Value) (l1 l2 : List (CPf)) (w : World) (h1 : RL w S1 v1 l1) (h2 : RL w S2 v2 l2) :
    Calls Try.prog 22 #[v1, v2] w fun e w' => e = .returned (.bool (decide (l1 = l2))) ∧ Below w.heap.size w w' := by
  have hm1 := h1.len
  have hm2 := h2.len
  unfold maxLen at hm1 hm2
  obtain ⟨a1, c1, rfl, _, _, hf1⟩ := h1.cpfAt
  obtain ⟨a2, c2, rfl, _, _, hf2⟩ := h2.cpfAt
  by_cases hl : l1.length = l2.length
  rotate_left
  · have hne : ((l1.length : Int) != (l2.length : Int)) = true := by simp; omega
    have hfin : decide (l1 = l2) = false := by simpa using fun h => hl (by rw [h])
    have HF := Lib.hid hfin
    clear hl hfin hf1 hf2
    go_enter Try.func22, Try.ntmps22
    go_wp2
    go_ret
    exact ⟨by rw [HF.out]; rfl, Below.refl _ _⟩
  have HL := Lib.hid hl
  have F1 := Lib.hid hf1
  have F2 := Lib.hid hf2
  have hne : ((l1.length : Int) != (l2.length : Int)) = false := by simp [hl]
  have hle : l1.length ≤ l2.length := by omega
  clear hl hf1 hf2 h1 h2
  go_enter Try.func22, Try.ntmps22
  go_wp2
  go_loopg [5] l1.length (fun q i wr => ∃ k : Nat, k + q = l1.length ∧ i = .int .i64 k ∧ l1.take k = l2.take k ∧ Below w.heap.size w wr)
  case atStart => exact ⟨0, by omega, rfl, by simp, Below.refl _ _⟩
  case round =>
    obtain ⟨k, hk, rfl, ht, hb⟩ := hrel
    have HK := Lib.hid hk
    have HT := Lib.hid ht
    clear hk ht
    by_cases hk8 : k < l1.length
    · have hk2 : k < l2.length := by omega
      obtain ⟨b1, o1, u1, u2, rfl, _, hbl1, hp1, hp2, r1, r2⟩ := F1.out k hk8
      obtain ⟨b2, o2, z1, z2, rfl, _, hbl2, hq1, hq2, s1, s2⟩ := F2.out k hk2
      replace hp1 := cell_keep hb hp1; replace hp2 := cell_keep hb hp2; replace hq1 := cell_keep hb hq1; replace hq2 := cell_keep hb hq2
      have hs := hb.size
      have g1 : b1 < wr.heap.size := by omega
      have g2 : b2 < wr.heap.size := by omega
      have i1 : (k : Int) < (l1.length : Int) := by omega
      have i2 : (k : Int) < (l2.length : Int) := by omega
      by_cases he : gd l1 k = gd l2 k
      · have hd : decide (gd l1 k = gd l2 k) = true := by simpa using he
        have HE := Lib.hid (And.intro he hd)
        clear he hd
        go_wp2
        refine wp_region_ext (by kernel_rfl) (by kernel_rfl) ?_
        repeat (go_big_quiet_step ((go_at_call 95; exact ext_c (cb (eqCaseProof_rl _ _ _ _ (gd l1 k) (gd l2 k) _ ((r1.keep hb).ext _) ((r2.keep hb).ext _) ((s1.keep hb).ext _) ((s2.keep hb).ext _)) HE.out.2))))
        refine wpQuiet_nil ?_
        intro w2 hb2
        go_wp2
        go_roundg (gk - 1)
        case rel => exact ⟨k + 1, by have := HK.out; omega, by go_num, gd_take_succ hk8 hk2 HT.out HE.out.1, hb.trans (hb2.mono hs)⟩
        case measure => have := HK.out; omega
      · have hd : decide (gd l1 k = gd l2 k) = false := by simpa using he
        have hfin : decide (l1 = l2) = false := by simpa using ne_of_gd he
        have HF := Lib.hid (And.intro hfin hd)
        clear he hfin hd
        go_wp2
        refine wp_region_ext (by kernel_rfl) (by kernel_rfl) ?_
        repeat (go_big_quiet_step ((go_at_call 95; exact ext_c (cb (eqCaseProof_rl _ _ _ _ (gd l1 k) (gd l2 k) _ ((r1.keep hb).ext _) ((r2.keep hb).ext _) ((s1.keep hb).ext _) ((s2.keep hb).ext _)) HF.out.2))))
        refine wpQuiet_nil ?_
        intro w2 hb2
        go_wp2
        go_ret
        exact ⟨by rw [HF.out.1]; rfl, hb.trans (hb2.mono hs)⟩
    · obtain rfl : k = l1.length := by have := HK.out; omega
      have hfin : decide (l1 = l2) = true := by
        have := HT.out
        rw [List.take_length, HL.out, List.take_length] at this
        simpa using this
      have HF := Lib.hid hfin
      clear hfin HT
      go_wp2
      go_ret
      exact ⟨by rw [HF.out]; rfl, hb⟩
theorem info_CaseProofS : (Try.prog.info? 46).map (fun i => (i.zero, i.size, i.bytes)) = some (some (.agg #[.slice none 0 0, .slice none 0 0]), 2, 48) := by kernel_rfl
set_option maxHeartbeats 1600000 in
theorem markCaseProofS_rl (B : Nat) (v : Value) (l : List (CPf)) (fp : List Nat) (k0 : Int) (w : World) (h : OL w B v l fp) (hn : fp.Nodup) (h0 : 0 ≤ k0) (h1 : k0 + 3 * Mk.size l ≤ 1099511627776) (hl : l.length ≤ 100000000 ∧ ∀ x ∈ l, Mk.size x ≤ 1048576) :
    Calls Try.prog 25 #[v, .int .i64 k0] w fun e w' => e = .returned (.int .i64 (k0 + Mk.cnt l)) ∧ OL w' B v (Mk.mark k0 l) fp ∧ Fr (fun k => k ∈ fp) w w' := by
  have hsz : Mk.size l = l.length + (l.map Mk.size).sum := rfl
  have hct : Mk.cnt l = (l.map Mk.cnt).sum := rfl
  obtain ⟨a, c, rfl⟩ := h.read.form
  have HS := Lib.hid (And.intro hsz hct)
  have HN0 := Lib.hid hn
  have hln : l.length ≤ 100000000 := hl.1
  have HLX := Lib.hid hl
  clear hl
  clear hct hn
  go_enter Try.func25, Try.ntmps25
  go_wp2
  go_loopg [1, 5] l.length (fun q x i wr => ∃ k : Nat, k + q = l.length ∧ i = .int .i64 k ∧ x = .int .i64 (k0 + (psum Mk.cnt l k : Nat)) ∧ OL wr B (.slice a l.length c) (mkTo k0 l k) fp ∧ Fr (fun k => k ∈ fp) w wr)
  case atStart => exact ⟨0, by omega, rfl, by simp [psum_zero], h, Fr.refl _ _⟩
  case round =>
    obtain ⟨k, hk, rfl, rfl, ho, hf⟩ := hrel
    have HK := Lib.hid hk
    have HF := Lib.hid hf
    clear hk hf
    by_cases hk8 : k < l.length
    · have hps := psum_succ (f := Mk.cnt) hk8
      have hpz := psum_le (f := Mk.size) (l := l) (k + 1)
      have hpy := psum_succ (f := Mk.size) hk8
      have hcl := psum_cnt (l := l) k
      obtain ⟨cs, f, g, cap', hv, hgl, hgf, hown, hnf, hsub, hcell, hback⟩ := ho.open HN0.out (k := k) (by rw [mkTo_len]; exact hk8)
      rw [mkTo_gd hk8] at hown
      obtain ⟨_, _, f1, f2, rfl, rfl, ⟨z1, rfl, ho1⟩, ⟨z2, rfl, ho2⟩⟩ := hown
      simp only [Value.slice.injEq] at hv
      obtain ⟨rfl, hx0, rfl⟩ := hv
      clear hx0
      obtain ⟨n1, n2, n3⟩ := List.nodup_append.1 hnf
      obtain ⟨za1, zc1, rfl⟩ := ho1.read.form
      obtain ⟨za2, zc2, rfl⟩ := ho2.read.form
      have hki : (k : Int) < (l.length : Int) := by omega
      have hs1 : Mk.size (gd l k) = Mk.size (gd l k).1 + Mk.size (gd l k).2 := rfl
      have hs2 : Mk.cnt (gd l k) = Mk.cnt (gd l k).1 + Mk.cnt (gd l k).2 := rfl
      have hle1 := Mk.le (gd l k).1
      have HN := Lib.hid (And.intro n1 (And.intro n2 n3))
      have HB := Lib.hid hback
      have HC := Lib.hid (And.intro hps hs2)
      have HSUB := Lib.hid hsub
      have hp1 : wr.cell? ⟨g, k * 2, none⟩ = some (.slice za1 (gd l k).1.length zc1) := hcell 0 _ rfl
      have hp2 : wr.cell? ⟨g, k * 2 + 1, none⟩ = some (.slice za2 (gd l k).2.length zc2) := hcell 1 _ rfl
      have q0 : 0 ≤ k0 + ((psum Mk.cnt l k : Nat) : Int) := by omega
      have q1 : k0 + ((psum Mk.cnt l k : Nat) : Int) + 3 * ((Mk.size (gd l k).1 : Nat) : Int) ≤ 1099511627776 := by omega
      have q2 : k0 + ((psum Mk.cnt l k : Nat) : Int) + ((Mk.cnt (gd l k).1 : Nat) : Int) + 3 * ((Mk.size (gd l k).2 : Nat) : Int) ≤ 1099511627776 := by omega
      have q9 := HLX.out.2 _ (gd_mem hk8)
      have q3 : Mk.size (gd l k).1 ≤ 1048576 := by omega
      have q4 : Mk.size (gd l k).2 ≤ 1048576 := by omega
      clear q9
      have q5 : 0 ≤ k0 + ((psum Mk.cnt l k : Nat) : Int) + ((Mk.cnt (gd l k).1 : Nat) : Int) := by omega
      clear hps hpz hpy hcl hs1 hs2 hback n1 n2 n3 hcell ho hsub hnf hle1
      go_wp2_with fail
      refine (markIntS_rl B _ (gd l k).1 f1 _ _ ho1 HN.out.1 q0 q1 q3).mono ?_
      rintro e w2 ⟨rfl, p1, hf1⟩
      have hp2' := hf1.cell (fun hm => hgf (List.mem_append_left _ hm)) hp2
      have ho2' := ho2.okept hf1 (fun j hj hm => HN.out.2.2 j hm j hj rfl)
      have hz := hf1.size
      have hgl2 : g < w2.heap.size := by omega
      clear hp1 hp2 ho1 ho2
      go_wp2_with fail
      refine (markIntSS_rl B _ (gd l k).2 f2 _ _ ho2' HN.out.2.1 q5 q2 q4).mono ?_
      rintro e w3 ⟨rfl, p2, hf2⟩
      have p1' := p1.okept hf2 (fun j hj hm => HN.out.2.2 j hj j hm rfl)
      have hfr := (hf1.mono (S' := fun j => j ∈ f1 ++ f2) fun j _ hj => List.mem_append_left _ hj).trans (hf2.mono fun j _ hj => List.mem_append_right _ hj)
      have hnew := (HB.out w3 (Mk.mark (k0 + (psum Mk.cnt l k : Nat)) (gd l k)) hfr ⟨_, _, f1, f2, rfl, rfl, ⟨_, rfl, p1'⟩, ⟨_, rfl, p2⟩⟩).1
      rw [mkTo_set hk8] at hnew
      have HO := Lib.hid (And.intro hnew (HF.out.trans (hfr.mono fun j _ hj => HSUB.out j hj)))
      clear hnew hfr p1 p1' p2 hf1 hf2 hp2' ho2'
      go_wp2
      go_roundg (gk - 1)
      case rel => exact ⟨k + 1, by have := HK.out; omega, by go_num, by rw [HC.out.1, HC.out.2, show k0 + ((psum Mk.cnt l k + (Mk.cnt (gd l k).1 + Mk.cnt (gd l k).2) : Nat) : Int) = k0 + (psum Mk.cnt l k : Nat) + (Mk.cnt (gd l k).1 : Nat) + (Mk.cnt (gd l k).2 : Nat) by omega], HO.out.1, HO.out.2⟩
      case measure => have := HK.out; omega
    · obtain rfl : k = l.length := by have := HK.out; omega
      have hall := psum_all (f := Mk.cnt) (l := l)
      have hmk : mkTo k0 l l.length = Mk.mark k0 l := mkTo_all
      rw [hmk] at ho
      have HA := Lib.hid hall
      clear hall hmk
      go_wp2
      go_ret
      exact ⟨by rw [HS.out.2, ← HA.out]; rfl, ho, HF.out⟩
set_option maxHeartbeats 1600000 in
theorem heldCaseProofS_rl {S : Nat → Prop} (v : Value) (l : List (CPf)) (k0 : Int) (w : World) (h : RL w S v (Mk.mark k0 l)) (h0 : 0 ≤ k0) (h1 : k0 + 3 * Mk.size l ≤ 1099511627776) (hl : l.length ≤ 100000000 ∧ ∀ x ∈ l, Mk.size x ≤ 1048576) :
    Calls Try.prog 26 #[v, .int .i64 k0] w fun e w' => e = .returned (.int .i64 (k0 + Mk.cnt l)) ∧ Below w.heap.size w w' := by
  have hsz : Mk.size l = l.length + (l.map Mk.size).sum := rfl
  have hct : Mk.cnt l = (l.map Mk.cnt).sum := rfl
  have hmL : Mk.mark k0 l = mkL k0 l := rfl
  rw [hmL] at h
  obtain ⟨a, c, hvv, _, _, hf⟩ := h.cpfAt
  rw [mkL_len] at hf hvv
  subst hvv
  have F1 := Lib.hid hf
  have HS := Lib.hid (And.intro hsz hct)
  have hln : l.length ≤ 100000000 := hl.1
  have HLX := Lib.hid hl
  clear hl
  clear hct hf h hmL
  go_enter Try.func26, Try.ntmps26
  go_wp2
  go_loopg [1, 5] l.length (fun q x i wr => ∃ k : Nat, k + q = l.length ∧ i = .int .i64 k ∧ x = .int .i64 (k0 + (psum Mk.cnt l k : Nat)) ∧ Below w.heap.size w wr)
  case atStart => exact ⟨0, by omega, rfl, by simp [psum_zero], Below.refl _ _⟩
  case round =>
    obtain ⟨k, hk, rfl, rfl, hb⟩ := hrel
    have HK := Lib.hid hk
    clear hk
    by_cases hk8 : k < l.length
    · have hps := psum_succ (f := Mk.cnt) hk8
      have hpz := psum_le (f := Mk.size) (l := l) (k + 1)
      have hpy := psum_succ (f := Mk.size) hk8
      have hcl := psum_cnt (l := l) k
      obtain ⟨b1, o1, u1, u2, rfl, _, hbl1, hp1, hp2, r1, r2⟩ := F1.out k hk8
      rw [gd_mkL hk8] at r1 r2
      obtain ⟨ua1, uc1, rfl⟩ := r1.form
      obtain ⟨ua2, uc2, rfl⟩ := r2.form
      replace hp1 := cell_keep hb hp1; replace hp2 := cell_keep hb hp2
      have hs := hb.size
      have hki : (k : Int) < (l.length : Int) := by omega
      have hzb : b1 < wr.heap.size := by omega
      have hs1 : Mk.size (gd l k) = Mk.size (gd l k).1 + Mk.size (gd l k).2 := rfl
      have hs2 : Mk.cnt (gd l k) = Mk.cnt (gd l k).1 + Mk.cnt (gd l k).2 := rfl
      have hle1 := Mk.le (gd l k).1
      have HC := Lib.hid (And.intro hps hs2)
      have q0 : 0 ≤ k0 + ((psum Mk.cnt l k : Nat) : Int) := by omega
      have q1 : k0 + ((psum Mk.cnt l k : Nat) : Int) + 3 * ((Mk.size (gd l k).1 : Nat) : Int) ≤ 1099511627776 := by omega
      have q2 : k0 + ((psum Mk.cnt l k : Nat) : Int) + ((Mk.cnt (gd l k).1 : Nat) : Int) + 3 * ((Mk.size (gd l k).2 : Nat) : Int) ≤ 1099511627776 := by omega
      have q9 := HLX.out.2 _ (gd_mem hk8)
      have q3 : Mk.size (gd l k).1 ≤ 1048576 := by omega
      have q4 : Mk.size (gd l k).2 ≤ 1048576 := by omega
      clear q9
      have q5 : 0 ≤ k0 + ((psum Mk.cnt l k : Nat) : Int) + ((Mk.cnt (gd l k).1 : Nat) : Int) := by omega
      have q6 : ¬ k0 + ((psum Mk.cnt l k : Nat) : Int) + ((Mk.cnt (gd l k).1 : Nat) : Int) < 0 := by omega
      have q7 : ¬ k0 + ((psum Mk.cnt l k : Nat) : Int) + ((Mk.cnt (gd l k).1 : Nat) : Int) + ((Mk.cnt (gd l k).2 : Nat) : Int) < 0 := by omega
      clear hps hpz hpy hcl hs1 hs2 hle1
      go_wp2_with fail
      refine (heldIntS_rl _ (gd l k).1 _ _ (r1.keep hb) q0 q1 q3).mono ?_
      rintro e w2 ⟨rfl, hb2⟩
      replace hp2 := cell_keep hb2 hp2
      have hz2 := hb2.size
      have hzb2 : b1 < w2.heap.size := by omega
      go_wp2_with fail
      refine (heldIntSS_rl _ (gd l k).2 _ _ (r2.keep (bt hb hb2)) q5 q2 q4).mono ?_
      rintro e w3 ⟨rfl, hb3⟩
      go_wp2
      go_roundg (gk - 1)
      case rel => exact ⟨k + 1, by have := HK.out; omega, by go_num, by rw [HC.out.1, HC.out.2, show k0 + ((psum Mk.cnt l k + (Mk.cnt (gd l k).1 + Mk.cnt (gd l k).2) : Nat) : Int) = k0 + (psum Mk.cnt l k : Nat) + (Mk.cnt (gd l k).1 : Nat) + (Mk.cnt (gd l k).2 : Nat) by omega], bt (bt hb hb2) hb3⟩
      case measure => have := HK.out; omega
    · obtain rfl : k = l.length := by have := HK.out; omega
      have hall := psum_all (f := Mk.cnt) (l := l)
      have HA := Lib.hid hall
      clear hall
      go_wp2
      go_ret
      exact ⟨by rw [HS.out.2, ← HA.out]; rfl, hb⟩
end Go.Proofs.Ytapoillhgimdiaa
