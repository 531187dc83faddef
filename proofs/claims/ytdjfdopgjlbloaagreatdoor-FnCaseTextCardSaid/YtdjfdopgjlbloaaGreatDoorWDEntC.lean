/- Walks: drawn assertions and a case of them (DrawEntailsCase, DrawProveCase). -/
import Derived.Test.YtdjfdopgjlbloaaGreatDoorWDEntA
import Derived.Test.YtdjfdopgjlbloaaGreatDoorWPln1
import Derived.Deep.Cut
import Derived.Deep.DeepMust
namespace Go.Proofs.YtdjfdopgjlbloaaGreatDoor
open Go.RowKit

def fctN : Nat → Nat → Nat
  | 0, _ => 1
  | n + 1, k => (k + 1) * fctN n (k + 1)
theorem chC_many (M : Nat) (p : List Int) : (chC M p).length ≤ p.length + 1 := by
  rw [chC]
  split
  · rw [List.length_map]; exact Nat.le_trans (List.length_filter_le _ _) (by simp)
  · simp
theorem shapes_many (M : Nat) : ∀ (n : Nat) (p : List Int), (shapesL M n p).length ≤ fctN n p.length
  | 0, p => by simp [shapesL, fctN]
  | n + 1, p => by
    rw [shapesL, List.length_flatMap, fctN]
    have h := sum_cap (f := fun c => (shapesL M n (p ++ [c])).length) (c := fctN n (p.length + 1)) (chC M p) (fun c _ => by have := shapes_many M n (p ++ [c]); simpa using this)
    exact Nat.le_trans h (by rw [Nat.mul_comm]; exact Nat.mul_le_mul_right _ (chC_many M p))
theorem cases_few {M : Nat} {a : Asn} (h0 : M.testBit 0 = true) : (casesL M a).length ≤ 362880 := by
  rw [open_cases h0, restL]
  exact Nat.le_trans (List.length_filter_le _ _) (Nat.le_trans (shapes_many M 8 [0]) (by decide))
theorem own_atC {w : World} {B : Nat} {v : Value} {l : List Int} (h : w.ownsRow B 3 1 v l.length (ints l)) (hl : 0 < l.length) : ∃ g cap, v = .slice (some ⟨g, 0, none⟩) l.length cap ∧ B ≤ g ∧ g < w.heap.size := by
  rcases h.2 with ⟨_, h0⟩ | ⟨g, cap, cur, rfl, hb, hg, _⟩
  · omega
  · exact ⟨g, cap, rfl, hb, (Array.getElem?_eq_some_iff.1 hg).1⟩
/-- Two drawn assertions and a drawn list of numbers. -/
def Three (w w' : World) (u1 u2 t1 t2 cv : Value) (A B : Asn) (C : List Int) : Prop := Two w w' u1 u2 t1 t2 A B ∧ (RL w' (fun k => w.heap.size + 2 ≤ k) cv C ∧ C.length ≤ 9)
theorem lit_rl {W : World} {N : Nat} (l : List Int) (hl : l.length ≤ 1048576) (hN : N ≤ W.heap.size) : RL (W.alloc (.cells (ints l).toArray 3)) (fun k => N ≤ k) (.slice (some ⟨W.heap.size, 0, none⟩) l.length l.length) l :=
  (lit_ints W l hl).rl.more fun k _ hk => by have h2 : some k = some W.heap.size := hk; have := Option.some.inj h2; omega
structure EC (w W : World) (N q : Nat) (p1 p2 q1 q2 : Value) (A B : Asn) : Prop where
  hA : W.heap[w.heap.size]? = some (.cells #[.slice none 0 0, .slice none 0 0] 37 (0, 0))
  hB : W.heap[w.heap.size + 1]? = some (.cells #[.slice none 0 0, .slice none 0 0] 37 (0, 0))
  hP : W.heap[N]? = some (.cells #[p1, p2] 37 (0, 0))
  hQ : W.heap[N + 1]? = some (.cells #[q1, q2] 37 (0, 0))
  r1 : RL W (fun k => w.heap.size + 2 ≤ k ∧ k < N) p1 A.1
  r2 : RL W (fun k => w.heap.size + 2 ≤ k ∧ k < N) p2 A.2
  s1 : RL W (fun k => w.heap.size + 2 ≤ k ∧ k < N) q1 B.1
  s2 : RL W (fun k => w.heap.size + 2 ≤ k ∧ k < N) q2 B.2
  hr : Rdr W (N + 1 + 1) q
  hW : Below w.heap.size w W
  hN : w.heap.size + 2 ≤ N
  hl : (A.1.length ≤ 1100 ∧ A.2.length ≤ 1100) ∧ (B.1.length ≤ 1100 ∧ B.2.length ≤ 1100)
section
variable {w W W' : World} {N q : Nat} {p1 p2 q1 q2 : Value} {A B : Asn} {S : Nat → Prop}
theorem EC.kept (h : EC w W N q p1 p2 q1 q2 A B) (hf : Fr S W W') (hS : ∀ k, S k → N + 1 + 1 < k) : EC w W' N q p1 p2 q1 q2 A B :=
  have no : ∀ k, k < N + 1 + 1 + 1 → ¬ S k := fun k hk hs => by have := hS k hs; omega
  ⟨box_kept h.hA hf (no _ (by have := h.hN; omega)), box_kept h.hB hf (no _ (by have := h.hN; omega)), box_kept h.hP hf (no _ (by omega)), box_kept h.hQ hf (no _ (by omega)),
    h.r1.kept hf fun k _ e => no _ (by omega), h.r2.kept hf fun k _ e => no _ (by omega), h.s1.kept hf fun k _ e => no _ (by omega), h.s2.kept hf fun k _ e => no _ (by omega), h.hr.kept hf (fun k hk => no k (by omega)),
    h.hW.trans (hf.below h.hW.size fun k hk e => by have := hS k e; have := h.hN; omega), h.hN, h.hl⟩
theorem EC.keep (h : EC w W N q p1 p2 q1 q2 A B) (hb : Below W.heap.size W W') : EC w W' N q p1 p2 q1 q2 A B :=
  ⟨box_keep h.hA hb, box_keep h.hB hb, box_keep h.hP hb, box_keep h.hQ hb, h.r1.keep hb, h.r2.keep hb, h.s1.keep hb, h.s2.keep hb, h.hr.keep hb, bt h.hW hb, h.hN, h.hl⟩
theorem EC.draw {q' : Nat} (h : EC w W N q p1 p2 q1 q2 A B) (hf : Fr (fun j => j = N + 1 + 1) W W') (hr : Rdr W' (N + 1 + 1) q') : EC w W' N q' p1 p2 q1 q2 A B :=
  have no : ∀ k, k < N + 1 + 1 → ¬ k = N + 1 + 1 := fun k hk e => by omega
  ⟨box_kept h.hA hf (no _ (by have := h.hN; omega)), box_kept h.hB hf (no _ (by have := h.hN; omega)), box_kept h.hP hf (no _ (by omega)), box_kept h.hQ hf (no _ (by omega)),
    h.r1.kept hf fun k _ e => no _ (by omega), h.r2.kept hf fun k _ e => no _ (by omega), h.s1.kept hf fun k _ e => no _ (by omega), h.s2.kept hf fun k _ e => no _ (by omega), hr,
    h.hW.trans (hf.below h.hW.size fun k hk e => by have := h.hN; omega), h.hN, h.hl⟩
theorem EC.lay {cv : Value} {C : List Int} (h : EC w W N q p1 p2 q1 q2 A B) (hc : RL W (fun k => N ≤ k) cv C) (hC : C.length ≤ 9) :
    Three w ((((W.setCell ⟨w.heap.size, 0, none⟩ p1).setCell ⟨w.heap.size, 1, none⟩ p2).setCell ⟨w.heap.size + 1, 0, none⟩ q1).setCell ⟨w.heap.size + 1, 1, none⟩ q2) p1 p2 q1 q2 cv A B C :=
  ⟨two_lay (S := fun k => w.heap.size + 2 ≤ k ∧ k < N) (fun k hk => hk.1) h.hl h.r1 h.r2 h.s1 h.s2 h.hW,
    (hc.more (S' := fun k => w.heap.size + 2 ≤ k) fun k _ hk => by have h2 : N ≤ k := hk; have := h.hN; omega).kept (fr_res4E W w.heap.size p1 p2 q1 q2) (fun k _ hk e => by omega), hC⟩
theorem EC.lay2 (h : EC w W N q p1 p2 q1 q2 A B) (l : List Int) (hl : l.length ≤ 9) :
    Three w ((((((W.setCell ⟨w.heap.size, 0, none⟩ p1).setCell ⟨w.heap.size, 1, none⟩ p2).setCell ⟨w.heap.size + 1, 0, none⟩ q1).setCell ⟨w.heap.size + 1, 1, none⟩ q2).alloc (.cells (ints l).toArray 3)).drew) p1 p2 q1 q2 (.slice (some ⟨W.heap.size, 0, none⟩) l.length l.length) A B l := by
  obtain ⟨h1, ⟨x1, x2⟩, ⟨y1, y2⟩, hb⟩ := two_lay (S := fun k => w.heap.size + 2 ≤ k ∧ k < N) (fun k hk => hk.1) h.hl h.r1 h.r2 h.s1 h.s2 h.hW
  have hd := bt (below_alloc ((((W.setCell ⟨w.heap.size, 0, none⟩ p1).setCell ⟨w.heap.size, 1, none⟩ p2).setCell ⟨w.heap.size + 1, 0, none⟩ q1).setCell ⟨w.heap.size + 1, 1, none⟩ q2) (.cells (ints l).toArray 3)) (below_drew _)
  have hL := (lit_rl (W := (((W.setCell ⟨w.heap.size, 0, none⟩ p1).setCell ⟨w.heap.size, 1, none⟩ p2).setCell ⟨w.heap.size + 1, 0, none⟩ q1).setCell ⟨w.heap.size + 1, 1, none⟩ q2) (N := w.heap.size + 2) l (by omega) (by simp only [World.size_setCell]; have := h.hr.lt; have := h.hN; omega)).keep (below_drew _)
  simp only [World.size_setCell] at hL
  exact ⟨⟨h1, ⟨x1.keep hd, x2.keep hd⟩, ⟨y1.keep hd, y2.keep hd⟩, bt hb hd⟩, hL, hl⟩
end
theorem three_out {w w' : World} {u1 u2 t1 t2 cv : Value} {A B : Asn} {C : List Int} (h : Three w w' u1 u2 t1 t2 cv A B C) :
    ∃ (x1 x2 y1 y2 z : Value) (A' B' : Asn) (C' : List Int), Ending.returned (.tuple #[.agg #[u1, u2], .agg #[t1, t2], cv]) = .returned (.tuple #[.agg #[x1, x2], .agg #[y1, y2], z]) ∧ Three w w' x1 x2 y1 y2 z A' B' C' := ⟨_, _, _, _, _, A, B, C, rfl, h⟩
theorem Three.drew {w W : World} {u1 u2 t1 t2 cv : Value} {A B : Asn} {C : List Int} (h : Three w W u1 u2 t1 t2 cv A B C) : Three w W.drew u1 u2 t1 t2 cv A B C := by
  obtain ⟨⟨h1, ⟨x1, x2⟩, ⟨y1, y2⟩, hb⟩, hL, hl⟩ := h
  have hd := below_drew W
  exact ⟨⟨h1, ⟨x1.keep hd, x2.keep hd⟩, ⟨y1.keep hd, y2.keep hd⟩, bt hb hd⟩, hL.keep hd, hl⟩
set_option maxRecDepth 100000 in
set_option maxHeartbeats 12800000 in
theorem specDrawEntCase_any (v : Value) (n : Nat) (w : World) (h : RBytes w v n) :
    Calls Tryz.prog 23 #[v] w fun e w' => ∃ (u1 u2 t1 t2 cv : Value) (A B : Asn) (C : List Int), e = .returned (.tuple #[.agg #[u1, u2], .agg #[t1, t2], cv]) ∧ Three w w' u1 u2 t1 t2 cv A B C := by
  obtain ⟨va, vc, rfl⟩ := bytes_form h
  go_enter Tryz.func23, Tryz.ntmps23
  go_wp2_with fail
  refine (specDrawEntails_any _ n _ (h.keep (bt (below_alloc w (.cells #[.slice none 0 0, .slice none 0 0] 37)) (below_alloc _ (.cells #[.slice none 0 0, .slice none 0 0] 37))))).mono ?_
  rintro e w1 ⟨u1, u2, t1, t2, A, B, rfl, hl, ⟨r1, r2⟩, ⟨s1, s2⟩, hb⟩
  have hA := box_keep (box_keep (heap_alloc_new w (.cells #[.slice none 0 0, .slice none 0 0] 37)) (below_alloc _ (.cells #[.slice none 0 0, .slice none 0 0] 37))) hb
  have hB := box_keep (heap_alloc_new (w.alloc (.cells #[.slice none 0 0, .slice none 0 0] 37)) (.cells #[.slice none 0 0, .slice none 0 0] 37)) hb
  simp only [World.size_alloc] at hB r1 r2 s1 s2
  obtain ⟨a1, c1, rfl⟩ := r1.form
  obtain ⟨a2, c2, rfl⟩ := r2.form
  obtain ⟨a3, c3, rfl⟩ := s1.form
  obtain ⟨a4, c4, rfl⟩ := s2.form
  have hbW : Below w1.heap.size w1 ((w1.alloc (.cells #[.slice a1 A.1.length c1, .slice a2 A.2.length c2] 37)).alloc (.cells #[.slice a3 B.1.length c3, .slice a4 B.2.length c4] 37)) := ba (below_alloc _ _) _
  have hP : ((w1.alloc (.cells #[.slice a1 A.1.length c1, .slice a2 A.2.length c2] 37)).alloc (.cells #[.slice a3 B.1.length c3, .slice a4 B.2.length c4] 37)).heap[w1.heap.size]? = some (.cells #[.slice a1 A.1.length c1, .slice a2 A.2.length c2] 37 (0, 0)) := box_keep (heap_alloc_new w1 _) (below_alloc _ _)
  have hQ : ((w1.alloc (.cells #[.slice a1 A.1.length c1, .slice a2 A.2.length c2] 37)).alloc (.cells #[.slice a3 B.1.length c3, .slice a4 B.2.length c4] 37)).heap[w1.heap.size + 1]? = some (.cells #[.slice a3 B.1.length c3, .slice a4 B.2.length c4] 37 (0, 0)) := heap_at (by simp)
  have hz1 : w.heap.size + 2 ≤ w1.heap.size := by have := hb.size; simp at this; omega
  have HW0 := Lib.hid (bt (bt (bt (below_alloc w _) (below_alloc _ _)) hb) hbW)
  have HL := Lib.hid hl
  replace hA := box_keep hA hbW
  replace hB := box_keep hB hbW
  replace r1 := (r1.more (S' := fun k => w.heap.size + 2 ≤ k ∧ k < w1.heap.size) fun k hk h => ⟨by omega, hk⟩).keep hbW
  replace r2 := (r2.more (S' := fun k => w.heap.size + 2 ≤ k ∧ k < w1.heap.size) fun k hk h => ⟨by omega, hk⟩).keep hbW
  replace s1 := (s1.more (S' := fun k => w.heap.size + 2 ≤ k ∧ k < w1.heap.size) fun k hk h => ⟨by omega, hk⟩).keep hbW
  replace s2 := (s2.more (S' := fun k => w.heap.size + 2 ≤ k ∧ k < w1.heap.size) fun k hk h => ⟨by omega, hk⟩).keep hbW
  have hv := h.keep HW0.out
  clear hb hl h
  go_wp2_with fail
  refine (l18Open_any _ n _ hv).mono ?_
  rintro e w2 ⟨rfl, hr, hb2⟩
  simp only [World.size_alloc] at hr
  have E : EC w w2 w1.heap.size 0 (.slice a1 A.1.length c1) (.slice a2 A.2.length c2) (.slice a3 B.1.length c3) (.slice a4 B.2.length c4) A B :=
    ⟨box_keep hA hb2, box_keep hB hb2, box_keep hP hb2, box_keep hQ hb2, r1.keep hb2, r2.keep hb2, s1.keep hb2, s2.keep hb2, hr, bt HW0.out hb2, hz1, HL.out⟩
  clear hA hB hP hQ r1 r2 s1 s2 hr hb2 hbW hv
  obtain ⟨va', hva⟩ : ∃ r, asnB A = r := ⟨_, rfl⟩
  obtain ⟨vb', hvb⟩ : ∃ r, asnB B = r := ⟨_, rfl⟩
  have HV := Lib.hid (And.intro hva hvb)
  clear hva hvb
  have p0 := box0 E.hP
  have p1 := box1 E.hP
  have q0 := box0 E.hQ
  have q1 := box1 E.hQ
  have pl := box_lt E.hP
  have ql := box_lt E.hQ
  go_wp2_with fail
  refine (cb (asnValidS_any _ _ A _ (E.r1.keep Bl) (E.r2.keep Bl)) HV.out.1).mono ?_
  rintro e w3 ⟨rfl, hb⟩
  replace E := E.keep hb
  clear hb p0 p1 q0 q1 pl ql
  cases va' with
  | false =>
    have HT := Lib.hid (E.lay2 [0] (by decide))
    have a0 := box0 E.hA
    have a1' := box1 E.hA
    have az := boxz E.hA
    have al := box_lt E.hA
    have b0 := box0 E.hB
    have b1' := box1 E.hB
    have bz := boxz E.hB
    have bl := box_lt E.hB
    have p0 := box0 E.hP
    have p1 := box1 E.hP
    have q0 := box0 E.hQ
    have q1 := box1 E.hQ
    have pl := box_lt E.hP
    have ql := box_lt E.hQ
    clear E
    go_wp2
    go_region
    all_goals
      go_wp2
      refine bodyPost_ret (v := .tuple #[.agg #[.slice a1 A.1.length c1, .slice a2 A.2.length c2], .agg #[.slice a3 B.1.length c3, .slice a4 B.2.length c4], .slice (some ⟨w3.heap.size, 0, none⟩) 1 1]) (by simp [results, Tryz.results23, go_sem, a0, a1', b0, b1', al, bl]) rfl ?_
      exact three_out HT.out
  | true =>
    have p0 := box0 E.hP
    have p1 := box1 E.hP
    have q0 := box0 E.hQ
    have q1 := box1 E.hQ
    have pl := box_lt E.hP
    have ql := box_lt E.hQ
    go_wp2_with fail
    refine (cb (asnValidS_any _ _ B _ (E.s1.keep Bl) (E.s2.keep Bl)) HV.out.2).mono ?_
    rintro e w4 ⟨rfl, hb⟩
    replace E := E.keep hb
    clear hb p0 p1 q0 q1 pl ql
    cases vb' with
    | false =>
      have HT := Lib.hid (E.lay2 [0] (by decide))
      have a0 := box0 E.hA
      have a1' := box1 E.hA
      have az := boxz E.hA
      have al := box_lt E.hA
      have b0 := box0 E.hB
      have b1' := box1 E.hB
      have bz := boxz E.hB
      have bl := box_lt E.hB
      have p0 := box0 E.hP
      have p1 := box1 E.hP
      have q0 := box0 E.hQ
      have q1 := box1 E.hQ
      have pl := box_lt E.hP
      have ql := box_lt E.hQ
      clear E
      go_wp2
      go_region
      all_goals
        go_wp2
        refine bodyPost_ret (v := .tuple #[.agg #[.slice a1 A.1.length c1, .slice a2 A.2.length c2], .agg #[.slice a3 B.1.length c3, .slice a4 B.2.length c4], .slice (some ⟨w4.heap.size, 0, none⟩) 1 1]) (by simp [results, Tryz.results23, go_sem, a0, a1', b0, b1', al, bl]) rfl ?_
        exact three_out HT.out
    | true =>
      have HCS := Lib.hid (cases_few (a := A) (both_zero A B))
      have hg4 := E.hr.lt
      have p0 := box0 E.hP
      have p1 := box1 E.hP
      have q0 := box0 E.hQ
      have q1 := box1 E.hQ
      have pl := box_lt E.hP
      have ql := box_lt E.hQ
      go_upto_region 5 with fail
      have HE := Lib.hid E
      go_cut [8] from 25 (fun s wc => ∃ ca cc, s = .slice ca (casesL (bothM A B) A).length cc ∧ OO wc w4.heap.size (.slice ca (casesL (bothM A B) A).length cc) (casesL (bothM A B) A) ∧ Below w4.heap.size w4 wc)
      case first =>
        go_region_held3 (fun w' => (w'.cell? ⟨w1.heap.size, 0, none⟩ = some (.slice a1 A.1.length c1) ∧ w'.cell? ⟨w1.heap.size, 1, none⟩ = some (.slice a2 A.2.length c2)) ∧ (w'.cell? ⟨w1.heap.size + 1, 0, none⟩ = some (.slice a3 B.1.length c3) ∧ w'.cell? ⟨w1.heap.size + 1, 1, none⟩ = some (.slice a4 B.2.length c4)))
          (exact ⟨⟨cell_keep Bl p0, cell_keep Bl p1⟩, ⟨cell_keep Bl q0, cell_keep Bl q1⟩⟩)
          (first
            | (go_at_call 39; go_must ((with_reducible refine (l6Both_any _ _ _ _ A B _ (HE.out.r1.keep Bl) (HE.out.r2.keep Bl) (HE.out.s1.keep Bl) (HE.out.s2.keep Bl) HV.out.1 HV.out.2).mono ?_); rintro e w5 ⟨vT, rfl, hT, hbT'⟩; have hbT : Below w4.heap.size w4 w5 := bt Bl hbT'; have HT := Lib.hid hT; clear hT))
            | (go_at_call 38; go_must ((with_reducible refine (l5All_any _ _ _ (bothM A B) _ _ A _ (HE.out.r1.keep (bt hbT Bl)) (HE.out.r2.keep (bt hbT Bl)) (own_keep HT.out Bl) HV.out.1 (cov_both A B) (both_zero A B) (fun j hj => both_pos hj)).mono ?_); rintro e w6 ⟨vC, rfl, hC, hbC'⟩; have hbC : Below w4.heap.size w4 w6 := bt (bt hbT Bl) hbC')))
        all_goals
          obtain ⟨ca, cc, rfl⟩ := hC.form
          have HC := Lib.hid (And.intro (hC.mono (B' := w4.heap.size) (by have := hbT.size; simp at this ⊢; omega)) hbC)
          clear hbT hbT' hbC hbC' hC HT
          go_wp2
          go_meet
          case rel => exact ⟨_, _, rfl, HC.out.1.keep Bl, bt HC.out.2 Bl⟩
      case rest =>
        obtain ⟨ca, cc, rfl, hC, hb⟩ := hcut
        replace E := E.keep hb
        have hz5 := hb.size
        clear hb p0 p1 q0 q1 pl ql
        obtain ⟨cs, hcs⟩ : ∃ cs, casesL (bothM A B) A = cs := ⟨_, rfl⟩
        have hcl : ∀ c ∈ cs, c.length = 9 := fun c hc => cases_len (by rw [hcs]; exact hc)
        rw [hcs] at hC HCS ⊢
        have hcf := HCS.out
        obtain ⟨m, hm⟩ : ∃ m, cs.length = m := ⟨_, rfl⟩
        rw [hm] at hcf hC ⊢
        have HM := Lib.hid (And.intro hm hcl)
        clear hcs hm hcl HCS
        rcases Nat.eq_zero_or_pos m with hm0 | hm0
        · subst hm0
          have HT := Lib.hid (E.lay2 [0, 1, -1, -1, -1, -1, -1, -1, -1] (by decide))
          clear hC hcf
          have a0 := box0 E.hA
          have a1' := box1 E.hA
          have az := boxz E.hA
          have al := box_lt E.hA
          have b0 := box0 E.hB
          have b1' := box1 E.hB
          have bz := boxz E.hB
          have bl := box_lt E.hB
          have p0 := box0 E.hP
          have p1 := box1 E.hP
          have q0 := box0 E.hQ
          have q1 := box1 E.hQ
          have pl := box_lt E.hP
          have ql := box_lt E.hQ
          clear E
          go_wp2
          go_region
          all_goals
            go_wp2
            refine bodyPost_ret (v := .tuple #[.agg #[.slice a1 A.1.length c1, .slice a2 A.2.length c2], .agg #[.slice a3 B.1.length c3, .slice a4 B.2.length c4], .slice (some ⟨wc.heap.size, 0, none⟩) 9 9]) (by simp [results, Tryz.results23, go_sem, a0, a1', b0, b1', al, bl]) rfl ?_
            exact three_out HT.out
        · have hi0 : ((m : Int) == 0) = false := by simp; omega
          have hi1 : (1 : Int) ≤ (m : Int) := by omega
          go_wp2_with fail
          refine (pick_any _ 0 _ _ E.hr (by omega) (by omega) (by omega)).mono ?_
          rintro e w6 ⟨k, rfl, hk, hr6, hf6⟩
          obtain ⟨fp, hL, hnd⟩ := hC.kept hf6 (fun j h1 h2 e => by omega)
          have E6 := E.draw hf6 hr6
          clear E hf6 hr6 hC
          have hz6 : w1.heap.size + 1 + 1 < w6.heap.size := E6.hr.lt
          have hkm : k < m := by omega
          obtain ⟨rs, fe, gb, cap, hv, hgl, hgf, hown, hnf, hsub, hcell, _⟩ := hL.open hnd (k := k) (by rw [HM.out.1]; exact hkm)
          rw [HM.out.1] at hv
          obtain ⟨rfl, rfl⟩ : ca = some ⟨gb, 0, none⟩ ∧ cc = cap := by simpa using hv
          obtain ⟨cv, rfl, hcv⟩ := hown
          have hlen : (gd cs k).length = 9 := HM.out.2 _ (gd_mem (by rw [HM.out.1]; exact hkm))
          obtain ⟨C, hCe⟩ : ∃ C, C = gd cs k := ⟨_, rfl⟩
          rw [← hCe] at hcv hlen
          have hrow := (hcv.ints).1
          obtain ⟨cb, lc, rfl, hcb1, hcb2⟩ := own_atC hrow (by omega)
          have hp : w6.cell? ⟨gb, k, none⟩ = some (.slice (some ⟨cb, 0, none⟩) C.length lc) := by
            have := hcell 0 _ rfl
            rw [show k * Dat.sz (List Int) + 0 = k from by show k * 1 + 0 = k; omega] at this; exact this
          rw [hlen] at hp
          have hrow' := hrow
          rw [hlen] at hrow'
          have HR := Lib.hid (And.intro hlen (And.intro hrow' (own_mono (B' := w1.heap.size) hrow (by omega))))
          clear hcv hrow hrow' hcell hsub hgf hnf hnd hL hCe hlen hv
          have i1 : (k : Int) < (m : Int) := by omega
          go_wp2_with fail
          refine (pick_any _ 1 _ _ E6.hr (by omega) (by decide) (by decide)).mono ?_
          rintro e w7 ⟨k2, rfl, hk2, hr7, hf7⟩
          have E := E6.draw hf7 hr7
          have hW7 := own_kept HR.out.2.2 hf7 (fun j h1 e => by have h2 : j = cb := by simpa [Value.ownBlock] using h1
                                                                omega)
          have hs7 := hf7.size
          have H7 := Lib.hid hW7
          clear E6 hf7 hr7 hp HM hW7
          obtain ⟨z, hz⟩ : ∃ z, ((k2 : Int) == 0) = z := ⟨_, rfl⟩
          have hcz : cb < w7.heap.size := by omega
          have hcN : w1.heap.size + 1 + 1 < cb := by omega
          cases z with
          | false =>
            have HT0 := (E.lay ((own_rlP H7.out).more (S' := fun k => w1.heap.size ≤ k) (fun k _ hk => hk)) (by have := HR.out.1; omega)).drew
            rw [HR.out.1] at HT0
            have HT := Lib.hid HT0
            clear HT0
            have a0 := box0 E.hA
            have a1' := box1 E.hA
            have az := boxz E.hA
            have al := box_lt E.hA
            have b0 := box0 E.hB
            have b1' := box1 E.hB
            have bz := boxz E.hB
            have bl := box_lt E.hB
            have p0 := box0 E.hP
            have p1 := box1 E.hP
            have q0 := box0 E.hQ
            have q1 := box1 E.hQ
            have pl := box_lt E.hP
            have ql := box_lt E.hQ
            clear E
            go_wp2
            go_region
            all_goals
              go_wp2
              refine bodyPost_ret (v := .tuple #[.agg #[.slice a1 A.1.length c1, .slice a2 A.2.length c2], .agg #[.slice a3 B.1.length c3, .slice a4 B.2.length c4], .slice (some ⟨cb, 0, none⟩) 9 lc]) (by simp [results, Tryz.results23, go_sem, a0, a1', b0, b1']) rfl ?_
              exact three_out HT.out
          | true =>
            go_wp2_with fail
            refine (pick_any _ 2 _ _ E.hr (by omega) (by decide) (by decide)).mono ?_
            rintro e w8 ⟨k3, rfl, hk3, hr8, hf8⟩
            have E8 := (E.draw hf8 hr8).keep (below_alloc w8 (.cells #[.int .i64 0, .int .i64 1, .int .i64 (-1), .int .i64 9, .int .i64 (-2)] 3))
            have hlit := lit_ints w8 [0, 1, -1, 9, -2] (by decide)
            have hW8 := own_keep (own_kept H7.out hf8 (fun j h1 e => by have h2 : j = cb := by simpa [Value.ownBlock] using h1
                                                                        omega)) (below_alloc w8 (.cells #[.int .i64 0, .int .i64 1, .int .i64 (-1), .int .i64 9, .int .i64 (-2)] 3))
            have HL := Lib.hid (And.intro hlit hW8)
            have hs8 := hf8.size
            have hg8 : w1.heap.size + 1 + 1 < w8.heap.size := by omega
            clear E hf8 hr8 hlit hW8
            go_wp2_with fail
            refine (num_any _ 3 _ [0, 1, -1, 9, -2] _ E8.hr HL.out.1 (by omega) (by decide) (by decide) (fun k hk e => by simp [Value.ownBlock] at hk; omega)).mono ?_
            rintro e w9 ⟨x, _, rfl, hr9, hf9⟩
            have E9 := E8.draw hf9 hr9
            have hW9 := own_kept HL.out.2 hf9 (fun j h1 e => by have h2 : j = cb := by simpa [Value.ownBlock] using h1
                                                                omega)
            obtain ⟨oc, oz⟩ := own_cell hW9 (1 + k3) (by have := HR.out.1; omega)
            have E := E9.kept (fr_set w9 ⟨cb, 1 + k3, none⟩ (.int .i64 x)) (fun k hk => by have h2 : k = cb := hk; omega)
            have hS := own_set hW9 (1 + k3) x
            have hll : (C.set (1 + k3) x).length ≤ 9 := by rw [List.length_set, HR.out.1]; exact Nat.le_refl _
            have HT0 := (E.lay (own_rlP hS) hll).drew
            rw [HR.out.1] at HT0
            have HT := Lib.hid HT0
            clear HT0
            have i2 : (1 : Int) + (k3 : Int) < 9 := by omega
            have i3 : (0 : Int) ≤ 1 + (k3 : Int) := by omega
            have i4 : ((1 : Int) + (k3 : Int)).toNat = 1 + k3 := by omega
            clear hr9 hf9 E8 E9 HL hW9 hS hll
            have a0 := box0 E.hA
            have a1' := box1 E.hA
            have az := boxz E.hA
            have al := box_lt E.hA
            have b0 := box0 E.hB
            have b1' := box1 E.hB
            have bz := boxz E.hB
            have bl := box_lt E.hB
            have p0 := box0 E.hP
            have p1 := box1 E.hP
            have q0 := box0 E.hQ
            have q1 := box1 E.hQ
            have pl := box_lt E.hP
            have ql := box_lt E.hQ
            clear E
            go_wp2
            go_region
            all_goals
              go_wp2
              refine bodyPost_ret (v := .tuple #[.agg #[.slice a1 A.1.length c1, .slice a2 A.2.length c2], .agg #[.slice a3 B.1.length c3, .slice a4 B.2.length c4], .slice (some ⟨cb, 0, none⟩) 9 lc]) (by simp [results, Tryz.results23, go_sem, a0, a1', b0, b1']) rfl ?_
              exact three_out HT.out
end Go.Proofs.YtdjfdopgjlbloaaGreatDoor
