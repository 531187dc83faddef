/- Walks: drawn proofs of an entailment (DrawCheckEntailment). -/
import Derived.Test.YtapoillhgimdiaaRCpc
import Derived.Test.YtapoillhgimdiaaRDCC
import Derived.Test.YtapoillhgimdiaaRWkA
import Derived.Test.YtapoillhgimdiaaRImpA
import Derived.Deep.Cut
import Derived.Handy
set_option linter.unusedSimpArgs false
set_option linter.unusedVariables false
namespace Go.Proofs.Ytapoillhgimdiaa
open Go.RowKit

theorem chC_cnt (M : Nat) (p : List Int) : (chC M p).length ≤ p.length + 1 := by
  rw [chC]
  split
  · rw [List.length_map]
    have := List.length_filter_le (fun k => k == p.length || gi p k == (k : Int)) (List.range (p.length + 1))
    rw [List.length_range] at this
    exact this
  · simp
def fctF : Nat → Nat → Nat
  | 0, _ => 1
  | n + 1, m => (m + 1) * fctF n (m + 1)
theorem flat_cap {α β : Type} {f : α → List β} {c : Nat} : ∀ (l : List α), (∀ x ∈ l, (f x).length ≤ c) → (l.flatMap f).length ≤ l.length * c
  | [], _ => by simp
  | x :: r, h => by
    have h1 := flat_cap r fun u hu => h u (List.mem_cons_of_mem _ hu)
    have h2 := h x List.mem_cons_self
    rw [List.flatMap_cons, List.length_append, List.length_cons, Nat.succ_mul]
    omega
theorem shapes_cnt (M : Nat) : ∀ (n : Nat) (p : List Int), (shapesL M n p).length ≤ fctF n p.length
  | 0, p => by simp [shapesL, fctF]
  | n + 1, p => by
    rw [shapesL, fctF]
    refine Nat.le_trans (flat_cap (c := fctF n (p.length + 1)) _ fun c _ => ?_) (Nat.mul_le_mul_right _ (chC_cnt M p))
    have := shapes_cnt M n (p ++ [c])
    rwa [List.length_append, List.length_singleton] at this
theorem prove_few (a b : Asn) : (provE a b).length ≤ 362880 := by
  rw [provE]
  split
  · rw [List.length_map, casesL, restL]
    exact Nat.le_trans (List.length_filter_le _ _) (shapes_cnt _ 9 [])
  · simp
theorem prove_csz (a b : Asn) : CpfSz (provE a b) := fun p hp => by
  have h := (provE_size a b).2.2 p hp
  exact small_parts h
/-- One proof is laid anew. -/
theorem TR.setC {w : World} {B g n cap k : Nat} {e : TypeId} {l : List CPf} {x : CPf} {c0 c1 : Value} (h : TR w B e (.slice (some ⟨g, 0, none⟩) n cap) l) (hn : n = l.length) (hk : k < l.length)
    (h1 : RL w (fun j => B ≤ j ∧ ¬ j = g) c0 x.1) (h2 : RL w (fun j => B ≤ j ∧ ¬ j = g) c1 x.2) :
    TR ((w.setCell ⟨g, k * 2, none⟩ c0).setCell ⟨g, k * 2 + 1, none⟩ c1) B e (.slice (some ⟨g, 0, none⟩) n cap) (l.set k x) := by
  subst hn
  obtain ⟨xs, hr, hx⟩ := h
  have hr' : w.ownsRow B e 2 (.slice (some ⟨g, 0, none⟩) l.length cap) l.length xs := hr
  obtain ⟨t1, g1⟩ := hr'.stored (k * 2) c0
  obtain ⟨t2, g2⟩ := t1.stored (k * 2 + 1) c1
  have hfr : Fr (fun j => j = g) w ((w.setCell ⟨g, k * 2, none⟩ c0).setCell ⟨g, k * 2 + 1, none⟩ c1) := ((grown_fr g1).trans (grown_fr g2)).mono fun j _ e => by simpa using e
  refine ⟨_, by rw [List.length_set]; exact t2, fun i hi => ?_⟩
  rw [List.length_set] at hi
  show Dat.rd _ _ (gd (l.set k x) i) (nth 2 _ i)
  rw [nth_set2 hr'.1 hk, gd_set hk]
  by_cases e : i = k
  · rw [if_pos e, if_pos e]
    exact rd_cpf_mk ((h1.kept hfr fun j _ hj e => hj.2 e).more fun j _ hj => ⟨hj.1, fun e => hj.2 (Option.some.inj e)⟩) ((h2.kept hfr fun j _ hj e => hj.2 e).more fun j _ hj => ⟨hj.1, fun e => hj.2 (Option.some.inj e)⟩)
  · rw [if_neg e, if_neg e]
    exact Dat.kept (hx i hi) hfr fun j _ hj e => hj.2 (by rw [e]; rfl)
theorem TR.keptC {α : Type} [Dat α] {w w' : World} {B : Nat} {e : TypeId} {v : Value} {l : List α} (h : TR w B e v l) {T : Nat → Prop} (hf : Fr T w w') (hT : ∀ k, B ≤ k → ¬ T k) : TR w' B e v l := by
  obtain ⟨xs, hr, hx⟩ := h
  exact ⟨xs, own_kept hr hf fun k hk => hT k (own_lt hr hk).1, fun i hi => Dat.kept (hx i hi) hf fun k _ hk => hT k hk.1⟩
theorem TR.atC {w : World} {B : Nat} {e : TypeId} {v : Value} {l : List CPf} (h : TR w B e v l) (h0 : 0 < l.length) : ∃ gr cap, v = .slice (some ⟨gr, 0, none⟩) l.length cap ∧ B ≤ gr ∧ gr < w.heap.size ∧
    (∀ j, j < l.length * 2 → ∃ u, w.cell? ⟨gr, j, none⟩ = some u) ∧ ∀ j, w.frozen? ⟨gr, j, none⟩ = false := by
  obtain ⟨xs, hr, hx⟩ := h
  have hr' : w.ownsRow B e 2 v l.length xs := hr
  obtain ⟨a, cap, rfl, ha⟩ := row_form hr'
  obtain ⟨gr, rfl⟩ := ha 0 h0
  have hl := own_lt hr' (k := gr) rfl
  have hlen := hr'.1
  refine ⟨gr, cap, rfl, hl.1, hl.2, fun j hj => ⟨xs[j]'(by omega), ?_⟩, fun j => hr'.frozenAt j⟩
  rw [hr'.cellAt j (by omega)]
  exact List.getElem?_eq_getElem (by omega)
theorem CpfSz.set {l : List CPf} {k : Nat} {x : CPf} (h : CpfSz l) (hx : x.1.length ≤ 1048576 ∧ x.2.length ≤ 1048576 ∧ ∀ u ∈ x.2, u.length ≤ 1048576) : CpfSz (l.set k x) := fun p hp => by
  rcases List.mem_or_eq_of_mem_set hp with hp | rfl
  · exact h p hp
  · exact hx
theorem fr_four (w : World) (b : Nat) (x0 x1 y0 y1 : Value) : Fr (fun j => b ≤ j ∧ j ≤ b + 1) w ((((w.setCell ⟨b, 0, none⟩ x0).setCell ⟨b, 1, none⟩ x1).setCell ⟨b + 1, 0, none⟩ y0).setCell ⟨b + 1, 1, none⟩ y1).drew := by
  have h : ∀ (w : World) (p : Addr) (v : Value), b ≤ p.block ∧ p.block ≤ b + 1 → Fr (fun j => b ≤ j ∧ j ≤ b + 1) w (w.setCell p v) := fun w p v hp => (fr_set w p v).mono fun j _ e => by
    have e2 : j = p.block := e
    rw [e2]; exact hp
  exact ((((h _ _ _ ⟨by simp only; omega, by simp only; omega⟩).trans (h _ _ _ ⟨by simp only; omega, by simp only; omega⟩)).trans (h _ _ _ ⟨by simp only; omega, by simp only; omega⟩)).trans (h _ _ _ ⟨by simp only; omega, by simp only; omega⟩)).thenB (below_drew _)
set_option maxRecDepth 100000 in
set_option maxHeartbeats 12800000 in
theorem specDrawChkEnt_any (v : Value) (n : Nat) (w : World) (h : RBytes w v n) :
    Calls Try.prog 74 #[v] w fun e w' => ∃ (u1 u2 t1 t2 x : Value) (A B : Asn) (ps : List CPf), e = .returned (.tuple #[.agg #[u1, u2], .agg #[t1, t2], x]) ∧ ps.length ≤ 362880 ∧
      (RL w' (fun _ => True) u1 A.1 ∧ RL w' (fun _ => True) u2 A.2) ∧ (RL w' (fun _ => True) t1 B.1 ∧ RL w' (fun _ => True) t2 B.2) ∧ RL w' (fun _ => True) x ps ∧ Below w.heap.size w w' := by
  obtain ⟨ca, cc, rfl⟩ := bytes_form h
  have hR0 := box_keep (heap_alloc_new w (.cells #[.slice none 0 0, .slice none 0 0] 33)) (below_alloc _ (.cells #[.slice none 0 0, .slice none 0 0] 33))
  have hR1 := heap_alloc_new (w.alloc (.cells #[.slice none 0 0, .slice none 0 0] 33)) (.cells #[.slice none 0 0, .slice none 0 0] 33)
  rw [World.size_alloc] at hR1
  have hb0 : Below w.heap.size w ((w.alloc (.cells #[.slice none 0 0, .slice none 0 0] 33)).alloc (.cells #[.slice none 0 0, .slice none 0 0] 33)) := Bl
  go_enter Try.func74, Try.ntmps74
  go_wp2_with fail
  refine (l18Open_any _ n _ (h.keep hb0)).mono ?_
  rintro e w1 ⟨rfl, hr1, hb1⟩
  replace hR0 := box_keep hR0 hb1
  replace hR1 := box_keep hR1 hb1
  have hB1 := bt hb0 hb1
  simp only [World.size_alloc] at hr1 ⊢
  obtain ⟨g, hg⟩ : ∃ g, w.heap.size + 1 + 1 = g := ⟨_, rfl⟩
  rw [hg] at hr1 ⊢
  have hg1 := hr1.lt
  have h1 := h.keep hB1
  have H1 := Lib.hid (And.intro (And.intro hR0 hR1) (And.intro hr1 hB1))
  clear hR0 hR1 hr1 hB1 hb1 hb0 h
  go_wp2_with fail
  refine (specDrawEntails_any _ n _ h1).mono ?_
  rintro e w2 ⟨u1, u2, t1, t2, A, B, rfl, hl, ⟨r1, r2⟩, ⟨s1, s2⟩, hb2⟩
  obtain ⟨a1, c1, rfl⟩ := r1.form
  obtain ⟨a2, c2, rfl⟩ := r2.form
  obtain ⟨a3, c3, rfl⟩ := s1.form
  obtain ⟨a4, c4, rfl⟩ := s2.form
  have hz2 := hb2.size
  have hbW : Below w2.heap.size w2 ((w2.alloc (.cells #[.slice a1 A.1.length c1, .slice a2 A.2.length c2] 33)).alloc (.cells #[.slice a3 B.1.length c3, .slice a4 B.2.length c4] 33)) := ba (below_alloc _ _) _
  have hA := box_keep (heap_alloc_new w2 (.cells #[.slice a1 A.1.length c1, .slice a2 A.2.length c2] 33)) (below_alloc _ (.cells #[.slice a3 B.1.length c3, .slice a4 B.2.length c4] 33))
  have hB := heap_alloc_new (w2.alloc (.cells #[.slice a1 A.1.length c1, .slice a2 A.2.length c2] 33)) (.cells #[.slice a3 B.1.length c3, .slice a4 B.2.length c4] 33)
  rw [World.size_alloc] at hB
  go_wp2_with fail
  refine (proveEntS_any _ _ _ _ A B _ (r1.keep hbW) (r2.keep hbW) (s1.keep hbW) (s2.keep hbW)).mono ?_
  rintro e w3 ⟨y, rfl, ry, hb3⟩
  obtain ⟨ya, yc, rfl⟩ := ry.form
  have hbAll := bt hb2 (bt hbW hb3)
  have hzW : w2.heap.size + 2 ≤ w3.heap.size := by have := hb3.size; simp at this; omega
  have r_1 := ((r1.keep hbW).keep hb3)
  have r_2 := ((r2.keep hbW).keep hb3)
  have r_3 := ((s1.keep hbW).keep hb3)
  have r_4 := ((s2.keep hbW).keep hb3)
  have H3 := Lib.hid (And.intro (And.intro (box_keep hA hb3) (box_keep hB hb3)) (And.intro (And.intro (And.intro r_1 r_2) (And.intro r_3 r_4)) (And.intro (And.intro (box_keep H1.out.1.1 hbAll) (box_keep H1.out.1.2 hbAll)) (And.intro (H1.out.2.1.keep hbAll) (bt H1.out.2.2 hbAll)))))
  have hfew := prove_few A B
  have hcz := prove_csz A B
  obtain ⟨ps, hps⟩ : ∃ ps, provE A B = ps := ⟨_, rfl⟩
  rw [hps] at ry hfew hcz ⊢
  clear hA hB r1 r2 s1 s2 r_1 r_2 r_3 r_4 hb2 hbW hb3 hbAll h1 hl H1 hps
  go_wp2_with fail
  refine (l16Copy_any _ ps _ ry (by omega) hcz).mono ?_
  rintro e w4 ⟨v4, rfl, hT, hb4⟩
  obtain ⟨pa, pc, rfl⟩ := hT.rl.form
  have hz4 := hb4.size
  have H4 := Lib.hid (And.intro hT (And.intro (H3.out.2.2.2.1.keep hb4) (And.intro (And.intro hfew hcz) ((Below.fr hb4).mono (S' := fun j => j = g ∨ w3.heap.size ≤ j) fun _ _ h => h.elim))))
  have hfI : (ps.length : Int) ≤ 362880 := by omega
  clear hT hb4 hcz ry
  go_upto_region 5 with fail
  go_cut [34] from 12 (fun c wc => ∃ cb : Bool, c = .bool cb ∧ (cb = true → 0 < ps.length) ∧ TR wc w3.heap.size 46 (.slice pa ps.length pc) ps ∧ Rdr wc g 1 ∧ Fr (fun j => j = g ∨ w3.heap.size ≤ j) w3 wc)
  case first =>
    by_cases hl0 : 0 < ps.length
    · have hli : (0 : Int) < (ps.length : Int) := by omega
      have HLL := Lib.hid hl0
      clear hl0
      go_wp2_with fail
      refine (pick_any g _ 2 _ H4.out.2.1 (by omega) (by decide) (by decide)).mono ?_
      rintro e w9 ⟨k, rfl, hk, hr9, hf9⟩
      have HN := Lib.hid (And.intro (H4.out.1.keptC hf9 fun k hk e => by have e2 : k = g := e; omega) (And.intro hr9 (H4.out.2.2.2.trans (hf9.mono fun j _ e => Or.inl e))))
      clear hr9 hf9
      go_wp2
      go_meet
      case rel => exact ⟨_, rfl, fun _ => HLL.out, HN.out⟩
    · have hli : ¬ (0 : Int) < (ps.length : Int) := by omega
      clear hl0
      go_wp2
      go_meet
      case rel => exact ⟨false, rfl, fun h => (by cases h), H4.out.1, H4.out.2.1.more (by omega), H4.out.2.2.2⟩
  case rest =>
    obtain ⟨cb, rfl, hcb, hT, hr, hf⟩ := hcut
    have HC := Lib.hid (And.intro hcb (And.intro hT (And.intro hr hf)))
    have HZ := Lib.hid H4.out.2.2.1
    clear H4 hcb hT hr hf
    go_upto_if 34 with fail
    go_cut [] from 12 (fun wc => ∃ qs : List CPf, qs.length = ps.length ∧ TR wc w3.heap.size 46 (.slice pa ps.length pc) qs ∧ Rdr wc g 6 ∧ Fr (fun j => j = g ∨ w3.heap.size ≤ j) w3 wc)
    case first =>
      cases cb with
      | false =>
        go_wp2
        go_meet
        case rel => exact ⟨ps, rfl, HC.out.2.1, HC.out.2.2.1.more (by omega), HC.out.2.2.2⟩
      | true =>
        have hl0 := HC.out.1 rfl
        have hli : (1 : Int) ≤ (ps.length : Int) := by omega
        go_wp2_with fail
        refine (pick_any g _ _ _ HC.out.2.2.1 (by omega) (by omega) (by omega)).mono ?_
        rintro e w6 ⟨k, rfl, hk, hr6, hf6⟩
        have hk8 : k < ps.length := by omega
        have hki : (k : Int) < (ps.length : Int) := by omega
        have T6 := HC.out.2.1.keptC hf6 fun k hk e => by have e2 : k = g := e; omega
        obtain ⟨gr, rc', hre, hBg, hgz, hcs, hfz⟩ := T6.atC hl0
        simp only [Value.slice.injEq] at hre
        obtain ⟨rfl, _, rfl⟩ := hre
        obtain ⟨_, _, hre, _, _, hrf⟩ := T6.rl.cpfAt
        simp only [Value.slice.injEq] at hre
        obtain ⟨rfl, _, rfl⟩ := hre
        obtain ⟨gb, ob, x1, x2, hbe, _, hzb, hp1, hp2, q1, q2⟩ := hrf k hk8
        simp only [Option.some.injEq, Addr.mk.injEq, and_true] at hbe
        obtain ⟨rfl, rfl⟩ := hbe
        simp only [Nat.zero_add] at hp1 hp2
        obtain ⟨ua1, uc1, rfl⟩ := q1.form
        obtain ⟨ua2, uc2, rfl⟩ := q2.form
        have hsz := HZ.out.2 _ (gd_mem hk8)
        have HT6 := Lib.hid (And.intro T6 (HC.out.2.2.2.trans (hf6.mono fun j _ e => Or.inl e)))
        clear T6 hf6 hcs hfz hrf
        go_wp2_with fail
        refine (l16Mutate_any g _ _ _ (gd ps k) _ hr6 (by omega) q1 q2 hsz.1 hsz.2.1 hsz.2.2).mono ?_
        rintro e w7 ⟨z1, z2, p9, rfl, ⟨m1, m2⟩, hr7, hf7⟩
        obtain ⟨za1, zn1, zc1, rfl⟩ := m1.forms
        obtain ⟨za2, zn2, zc2, rfl⟩ := m2.forms
        have T7 := HT6.out.1.keptC hf7 fun k hk e => by have e2 : k = g := e; omega
        obtain ⟨gr2, rc2, hre, hBg2, hgz2, hcs2, hfz2⟩ := T7.atC hl0
        simp only [Value.slice.injEq, Option.some.injEq, Addr.mk.injEq, and_true, true_and] at hre
        obtain ⟨rfl, rfl⟩ := hre
        obtain ⟨e0, he0⟩ := hcs2 (k * 2) (by omega)
        obtain ⟨e1, he1⟩ := hcs2 (k * 2 + 1) (by omega)
        have hTn := T7.setC rfl hk8 (x := p9) (m1.more (S' := fun j => w3.heap.size ≤ j ∧ ¬ j = gr) fun k _ h => by have h2 : w6.heap.size ≤ k := h; show w3.heap.size ≤ k ∧ ¬ k = gr; omega) (m2.more (S' := fun j => w3.heap.size ≤ j ∧ ¬ j = gr) fun k _ h => by have h2 : w6.heap.size ≤ k := h; show w3.heap.size ≤ k ∧ ¬ k = gr; omega)
        have hs6 : Fr (fun j => j = gr) w7 ((w7.setCell ⟨gr, k * 2, none⟩ (.slice za1 zn1 zc1)).setCell ⟨gr, k * 2 + 1, none⟩ (.slice za2 zn2 zc2)) := (fr_set w7 ⟨gr, k * 2, none⟩ _).trans (fr_set _ ⟨gr, k * 2 + 1, none⟩ _)
        have HN := Lib.hid (And.intro hTn (And.intro ((hr7.kept hs6 fun k hk e => by have e2 : k = gr := e; omega).more (q' := 6) (by omega)) ((HT6.out.2.trans (hf7.mono fun j _ e => Or.inl e)).trans (hs6.mono fun j _ e => Or.inr (by have e2 : j = gr := e; omega)))))
        clear hTn hs6 T7 hcs2 m1 m2 hr7 hf7 q1 q2 hr6 hsz
        go_wp2
        go_meet
        case rel => exact ⟨ps.set k p9, by simp, HN.out⟩
    case rest =>
      clear HC
      obtain ⟨qs, hqs, hT, hr, hf⟩ := hcut
      have HC := Lib.hid (And.intro hqs (And.intro hT (And.intro hr hf)))
      have hsc := hf.size
      clear hqs hT hr hf
      go_upto_region 8 with fail
      go_cut [55] from 12 (fun c wd => ∃ cb : Bool, c = .bool cb ∧ (cb = true → 0 < ps.length) ∧ TR wd w3.heap.size 46 (.slice pa ps.length pc) qs ∧ Fr (fun j => j = g ∨ w3.heap.size ≤ j) w3 wd)
      case first =>
        by_cases hl0 : 0 < ps.length
        · have hli : (0 : Int) < (ps.length : Int) := by omega
          have HLL := Lib.hid hl0
          clear hl0
          go_wp2_with fail
          refine (pick_any g _ 8 _ HC.out.2.2.1 (by omega) (by decide) (by decide)).mono ?_
          rintro e w9 ⟨k, rfl, hk, hr9, hf9⟩
          have HN := Lib.hid (And.intro (HC.out.2.1.keptC hf9 fun k hk e => by have e2 : k = g := e; omega) (HC.out.2.2.2.trans (hf9.mono fun j _ e => Or.inl e)))
          clear hr9 hf9
          go_wp2
          go_meet
          case rel => exact ⟨_, rfl, fun _ => HLL.out, HN.out⟩
        · have hli : ¬ (0 : Int) < (ps.length : Int) := by omega
          clear hl0
          go_wp2
          go_meet
          case rel => exact ⟨false, rfl, fun h => (by cases h), HC.out.2.1, HC.out.2.2.2⟩
      case rest =>
        obtain ⟨cb, rfl, hcb, hT, hf⟩ := hcut
        have HQ := Lib.hid HC.out.1
        have HD := Lib.hid (And.intro hcb (And.intro hT hf))
        clear HC hcb hT hf
        go_upto_if 55 with fail
        go_cut [10] from 12 (fun x we => ∃ rs : List CPf, rs.length ≤ 362880 ∧ RL we (fun k => w3.heap.size ≤ k) x rs ∧ Fr (fun j => j = g ∨ w3.heap.size ≤ j) w3 we)
        case first =>
          cases cb with
          | false =>
            go_wp2
            go_meet
            case rel => exact ⟨qs, by have := HQ.out; omega, HD.out.2.1.rl, HD.out.2.2⟩
          | true =>
            have hl0 := HD.out.1 rfl
            have hrl := HD.out.2.1.rl
            obtain ⟨gr, rc', hre, hBg, hgz, _, _⟩ := HD.out.2.1.atC (by rw [HQ.out]; exact hl0)
            simp only [Value.slice.injEq] at hre
            obtain ⟨rfl, hx9, rfl⟩ := hre
            clear hx9
            obtain ⟨_, _, hre, hc1, hc2, _⟩ := hrl.cells
            simp only [Value.slice.injEq] at hre
            obtain ⟨hx8, hx9, rfl⟩ := hre
            clear hx8 hx9
            rw [HQ.out] at hc1
            unfold maxLen at hc2
            have hq2 := HQ.out
            have hl1 : (1 : Int) ≤ (ps.length : Int) := by omega
            have hcI : (ps.length : Int) ≤ (pc : Int) := by omega
            have hcM : (pc : Int) ≤ 9223372036854775807 := by omega
            have HF := Lib.hid HD.out.2.2
            by_cases hy1 : pc = 1
            · subst hy1
              have hp1 : ps.length - 1 = 0 := by omega
              have ht : RL wc (fun k => w3.heap.size ≤ k) (.slice (some ⟨gr, 0, none⟩) 0 0) ([] : List CPf) := RL.empty0 _ _ _ _ (by unfold maxLen; omega)
              have HN := Lib.hid (And.intro ht hp1)
              clear ht hrl hq2 HD hp1
              go_wp2
              go_meet
              case rel => exact ⟨[], by simp, HN.out.1, HF.out⟩
            · cases qs with
              | nil => simp at hq2; omega
              | cons x r =>
                have ht := RL.tail hrl
                have HN := Lib.hid (And.intro ht (show r.length ≤ 362880 by rw [List.length_cons] at hq2; omega))
                have hpc : 1 < pc := by omega
                clear ht hrl hq2 HD
                go_wp2
                go_meet
                case rel => exact ⟨r, HN.out.2, HN.out.1, HF.out⟩
        case rest =>
          clear HD hsc
          obtain ⟨rs, hrs, rx, hf⟩ := hcut
          obtain ⟨xa, xc, rfl⟩ := rx.form
          have hzf := hf.size
          have hg3 : g < w3.heap.size := by omega
          have hA := box_kept H3.out.1.1 hf (by omega)
          have hB := box_kept H3.out.1.2 hf (by omega)
          have hR0 := box_kept H3.out.2.2.1.1 hf (by omega)
          have hR1 := box_kept H3.out.2.2.1.2 hf (by omega)
          have a0 := box0 hA
          have a1' := box1 hA
          have al := box_lt hA
          have b0 := box0 hB
          have b1 := box1 hB
          have bl := box_lt hB
          have r0 := box0 hR0
          have r1 := box1 hR0
          have rz := boxz hR0
          have rl := box_lt hR0
          have q0 := box0 hR1
          have q1 := box1 hR1
          have qz := boxz hR1
          have ql := box_lt hR1
          have HE := Lib.hid (And.intro hrs (And.intro rx hf))
          clear hrs rx hf hA hB hR0 hR1
          go_wp2
          go_region
          go_wp2
          refine bodyPost_ret (v := .tuple #[.agg #[.slice a1 A.1.length c1, .slice a2 A.2.length c2], .agg #[.slice a3 B.1.length c3, .slice a4 B.2.length c4], .slice xa rs.length xc]) (by simp [results, Try.results74, go_sem, r0, r1, q0, q1]) rfl ?_
          have hs6 := fr_four wc w.heap.size (.slice a1 A.1.length c1) (.slice a2 A.2.length c2) (.slice a3 B.1.length c3) (.slice a4 B.2.length c4)
          have hK : ∀ {α : Type} [Dat α] {v : Value} {l : List α}, RL w3 (fun k => w1.heap.size + 2 ≤ k) v l → RL ((((wc.setCell ⟨w.heap.size, 0, none⟩ (.slice a1 A.1.length c1)).setCell ⟨w.heap.size, 1, none⟩ (.slice a2 A.2.length c2)).setCell ⟨w.heap.size + 1, 0, none⟩ (.slice a3 B.1.length c3)).setCell ⟨w.heap.size + 1, 1, none⟩ (.slice a4 B.2.length c4)).drew (fun _ => True) v l := fun hh =>
            ((hh.kept HE.out.2.2 fun k hk h e => by have h2 : w1.heap.size + 2 ≤ k := h; omega).kept hs6 fun k hk h e => by have h2 : w1.heap.size + 2 ≤ k := h; omega).any
          obtain ⟨⟨p1, p2⟩, p3, p4⟩ := H3.out.2.1
          exact ⟨_, _, _, _, _, A, B, rs, rfl, HE.out.1, ⟨hK p1, hK p2⟩, ⟨hK p3, hK p4⟩, (HE.out.2.1.kept hs6 fun k hk h e => by have h2 : w3.heap.size ≤ k := h; omega).any,
            (H3.out.2.2.2.2.trans (HE.out.2.2.below (by have := H3.out.2.2.2.2.size; omega) fun k hk e => by omega)).trans (hs6.below (by omega) fun k hk e => by omega)⟩
end Go.Proofs.Ytapoillhgimdiaa
