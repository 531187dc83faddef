/- Walks: programs are drawn (reference: l8Program, l9Code, l9Fuel). (Printed by gen_cmdb.py.) -/
import Derived.Test.YtgfnoinkajfndaaGreatAOf
import Derived.Handy
import Derived.Deep.DeepMust
import Derived.Deep.Cut
import Derived.Deep.CutBlock
import Derived.Deep.CutRange
set_option linter.unusedVariables false
set_option linter.unusedSimpArgs false
namespace Go.Proofs.YtgfnoinkajfndaaGreat
open Go.RowKit

/-- Commands in no great number have no great number of commands. -/
def bndC : Nat → Nat
  | 0 => 0
  | d + 1 => 2000 * (1 + bndC d + bndC d)
theorem few_bnd : ∀ (d : Nat) (l : List (Cm d)), FewC d l → szC d l ≤ bndC d
  | 0, _, _ => Nat.le_refl _
  | d + 1, l, h => by
    have h1 := sum_const (l := l) (f := fun c : Cm (d + 1) => 1 + szC d c.body + szC d c.els) (b := 1 + bndC d + bndC d) fun c hc => by
      have h1 := few_bnd d c.body (h.2 c hc).2.1
      have h2 := few_bnd d c.els (h.2 c hc).2.2
      omega
    exact Nat.le_trans h1 (Nat.mul_le_mul_right _ h.1)
theorem few_size {d : Nat} {l : List (Cm d)} (h : FewC d l) (hd : d ≤ 5) : szC d l ≤ 900000000000000000 := by
  have h1 := few_bnd d l h
  have h2 : ∀ d ≤ 5, bndC d ≤ 900000000000000000 := by decide
  exact Nat.le_trans h1 (h2 d hd)
/-- A program that was drawn. -/
def ProgRes (g q : Nat) (w : World) (e : Ending) (w' : World) : Prop :=
  ∃ (d : Nat) (v : Value) (l : List (Cm d)), e = .returned v ∧ d ≤ 5 ∧ RL w' (fun k => w.heap.size ≤ k) v l ∧ FewC d l ∧ Rdr w' g q ∧ Fr (fun j => j = g) w w'
theorem rl_cell {d : Nat} {w : World} {S : Nat → Prop} {c : Cm (d + 1)} {f1 f2 x y : Value} {g : Nat} (hg : w.heap.size = g) (hS : S g)
    (h1 : RL w S f1 c.inv.1) (h2 : RL w S f2 c.inv.2) (h3 : RL w S x c.body) (h4 : RL w S y c.els) :
    RL (w.alloc (.cells #[.int .i64 c.kind, .int .i64 c.a, .int .i64 c.b, .bool c.test.1, .int .i64 c.test.2.1, .int .i64 c.test.2.2, f1, f2, x, y] 77)) S (.slice (some ⟨g, 0, none⟩) 1 1) [c] := by
  subst hg
  have hb := below_alloc w (.cells #[.int .i64 c.kind, .int .i64 c.a, .int .i64 c.b, .bool c.test.1, .int .i64 c.test.2.1, .int .i64 c.test.2.2, f1, f2, x, y] 77)
  refine .inr ⟨w.heap.size, 0, 1, rfl, Nat.le_refl _, by unfold maxLen; omega, fun _ => ⟨hS, by simp⟩, fun i hi => ?_⟩
  obtain rfl : i = 0 := by simpa using hi
  refine ⟨_, rd_cm_mk (c := c) (h1.keep hb) (h2.keep hb) (h3.keep hb) (h4.keep hb), fun j u hj => ?_⟩
  have := news_cm w c.kind c.a c.b c.test f1 f2 x y 77 j u hj
  simpa using this
set_option maxRecDepth 100000 in
set_option maxHeartbeats 3200000 in
theorem l8Program_any (g q : Nat) (w : World) (hr : Rdr w g q) (hq : q ≤ 800000) :
    Calls Tryz.prog 65 #[.pointer (some ⟨g, 0, none⟩)] w (ProgRes g (q + 11600) w) := by
  have hgl := hr.lt
  have HLIT := Lib.hid (lit_ints w [1, 2, 3, 1] (by decide))
  have hz1 : (w.alloc (.cells (ints [1, 2, 3, 1]).toArray 3)).heap.size = w.heap.size + 1 := by simp
  go_enter Tryz.func65, Tryz.ntmps65
  go_wp2_with fail
  refine (num_any g q _ [1, 2, 3, 1] _ (hr.keep (below_alloc _ _)) HLIT.out (by omega) (by decide) (by decide) (fun k hk e => by simp [Value.ownBlock] at hk; omega)).mono ?_
  rintro e w1 ⟨N0, hN, rfl, hr1, hf1⟩
  obtain ⟨n, hNe, hn2⟩ : ∃ n : Nat, N0 = (n : Int) + 1 ∧ n ≤ 2 := by
    simp only [List.mem_cons, List.not_mem_nil, or_false] at hN
    rcases hN with rfl | rfl | rfl | rfl
    · exact ⟨0, rfl, by omega⟩
    · exact ⟨1, rfl, by omega⟩
    · exact ⟨2, rfl, by omega⟩
    · exact ⟨0, rfl, by omega⟩
  subst hNe
  have hF1 : Fr (fun j => j = g) w w1 := ((Below.fr (below_alloc w (.cells (ints [1, 2, 3, 1]).toArray 3))).mono (S' := fun j => j = g) fun _ _ h => h.elim).trans hf1
  have hQ : Fq (n + 1) ≤ 11557 := by
    have : ∀ n ≤ 2, Fq (n + 1) ≤ 11557 := by decide
    exact this n hn2
  have hz2 := hF1.size
  have HF1 := Lib.hid hF1
  have HQ := Lib.hid hQ
  clear hN hr hf1 hF1 hz1
  go_wp2_with fail
  refine (l8Draw_any n ((n : Int) + 1) g (q + 1) _ rfl (by omega) hr1 (by have := HQ.out; omega)).mono ?_
  rintro e w2 ⟨v, l, rfl, huc, hll, hfw, hr2, hf2⟩
  obtain ⟨va, vc, rfl⟩ := huc.form
  have hz3 := hf2.size
  have HF2 := Lib.hid (HF1.out.trans hf2)
  have HFW := Lib.hid hfw
  have HUC := Lib.hid (huc.rl.more fun k _ hk => show w.heap.size ≤ k by have h1 : w1.heap.size ≤ k := hk; omega)
  have HR2 := Lib.hid (hr2.more (q' := q + 11600) (by have := HQ.out; omega))
  have hl0 := hll.1
  have hl3 := hll.2
  clear huc hll hfw hr2 hf2 hr1
  go_wp2_with fail
  refine (progValidS_any (n + 1) _ l _ HUC.out (by have := few_size HFW.out (by omega); omega) (by omega)).mono ?_
  rintro e w3 ⟨rfl, hb3⟩
  cases hv : progOkB l with
  | true =>
    clear hv
    go_wp2
    go_ret
    exact ⟨n + 1, _, l, rfl, by omega, HUC.out.keep hb3, HFW.out, HR2.out.keep hb3, HF2.out.thenB hb3⟩
  | false =>
    obtain ⟨a, cap, he, _, _, hc⟩ := HUC.out.cmAt
    obtain ⟨b, o, f1, f2, x, y, rfl, hsb, hbl, hcc, ⟨g1, g2⟩, g3, g4⟩ := hc 0 hl0
    obtain ⟨rfl, rfl⟩ : va = some ⟨b, o, none⟩ ∧ vc = cap := by
      injection he with e1 e2 e3
      exact ⟨e1, e3⟩
    obtain ⟨fa1, fn1, rfl⟩ := g1.form
    obtain ⟨fa2, fn2, rfl⟩ := g2.form
    obtain ⟨xa, xn, rfl⟩ := g3.form
    obtain ⟨ya, yn, rfl⟩ := g4.form
    have hgm := gd_mem hl0
    obtain ⟨c, hck⟩ : ∃ c, gd l 0 = c := ⟨_, rfl⟩
    rw [hck] at hcc g1 g2 g3 g4 hgm
    have hcc' : ∀ j u, (cmCells c.kind c.a c.b c.test (.slice fa1 c.inv.1.length fn1) (.slice fa2 c.inv.2.length fn2) (.slice xa c.body.length xn) (.slice ya c.els.length yn))[j]? = some u → w3.cell? ⟨b, o + j, none⟩ = some u := fun j u hj => cell_keep hb3 (by
      have := hcc j u hj
      rwa [Nat.zero_mul, Nat.add_zero] at this)
    have p0 : w3.cell? ⟨b, o, none⟩ = some (.int .i64 c.kind) := hcc' 0 _ rfl
    have p1 := hcc' 1 _ rfl
    have p2 := hcc' 2 _ rfl
    have p3 := hcc' 3 _ rfl
    have p4 := hcc' 4 _ rfl
    have p5 := hcc' 5 _ rfl
    have p6 := hcc' 6 _ rfl
    have p7 := hcc' 7 _ rfl
    have p8 := hcc' 8 _ rfl
    have p9 := hcc' 9 _ rfl
    have hz4 := hb3.size
    have hzb : b < w3.heap.size := by omega
    have HG := Lib.hid (And.intro (And.intro (g1.keep hb3) (g2.keep hb3)) (And.intro (g3.keep hb3) (g4.keep hb3)))
    have HFC := Lib.hid (HFW.out.2 c hgm)
    clear hv hcc hcc' hck g1 g2 g3 g4 hc he hgm
    go_wp2
    go_ret
    exact ⟨n + 1, _, [c], rfl, by omega, rl_cell rfl (show w.heap.size ≤ w3.heap.size by omega) HG.out.1.1 HG.out.1.2 HG.out.2.1 HG.out.2.2, ⟨by simp, fun z hz => by rw [List.mem_singleton.1 hz]; exact HFC.out⟩, (HR2.out.keep hb3).keep (below_alloc _ _), (HF2.out.thenB hb3).thenB (below_alloc _ _)⟩
def code9 : List (List UInt8) := [[119, 104, 105, 108, 101, 32, 97, 33, 61, 110, 105, 108, 32, 119, 105, 116, 104, 32, 116, 114, 117, 101, 32, 124, 32, 97, 126, 110, 105, 108, 10, 99, 58, 61, 91, 97, 93, 10, 102, 114, 101, 101, 32, 97, 10, 97, 58, 61, 99, 10, 101, 110, 100, 10], [99, 58, 61, 110, 105, 108, 10, 119, 104, 105, 108, 101, 32, 97, 33, 61, 110, 105, 108, 32, 119, 105, 116, 104, 32, 116, 114, 117, 101, 32, 124, 32, 97, 126, 110, 105, 108, 32, 42, 32, 99, 126, 110, 105, 108, 10, 100, 58, 61, 91, 97, 93, 10, 91, 97, 93, 58, 61, 99, 10, 99, 58, 61, 97, 10, 97, 58, 61, 100, 10, 101, 110, 100, 10], [105, 102, 32, 97, 33, 61, 110, 105, 108, 10, 99, 58, 61, 91, 97, 93, 10, 91, 97, 93, 58, 61, 98, 10, 98, 58, 61, 97, 10, 97, 58, 61, 99, 10, 101, 110, 100, 10], [110, 101, 119, 32, 99, 10, 91, 99, 93, 58, 61, 97, 10, 97, 58, 61, 99, 10], [99, 58, 61, 97, 10, 119, 104, 105, 108, 101, 32, 99, 33, 61, 110, 105, 108, 32, 119, 105, 116, 104, 32, 116, 114, 117, 101, 32, 124, 32, 97, 126, 99, 32, 42, 32, 99, 126, 110, 105, 108, 10, 99, 58, 61, 91, 99, 93, 10, 101, 110, 100, 10], [102, 114, 101, 101, 32, 97, 10, 91, 97, 93, 58, 61, 110, 105, 108, 10], [97, 58, 61, 98, 10, 98, 58, 61, 99, 10, 110, 101, 119, 32, 100, 10, 102, 114, 101, 101, 32, 100, 10]]
theorem code9_lit (w : World) : RStrs (w.alloc (.cells #[.string ⟨#[119, 104, 105, 108, 101, 32, 97, 33, 61, 110, 105, 108, 32, 119, 105, 116, 104, 32, 116, 114, 117, 101, 32, 124, 32, 97, 126, 110, 105, 108, 10, 99, 58, 61, 91, 97, 93, 10, 102, 114, 101, 101, 32, 97, 10, 97, 58, 61, 99, 10, 101, 110, 100, 10]⟩, .string ⟨#[99, 58, 61, 110, 105, 108, 10, 119, 104, 105, 108, 101, 32, 97, 33, 61, 110, 105, 108, 32, 119, 105, 116, 104, 32, 116, 114, 117, 101, 32, 124, 32, 97, 126, 110, 105, 108, 32, 42, 32, 99, 126, 110, 105, 108, 10, 100, 58, 61, 91, 97, 93, 10, 91, 97, 93, 58, 61, 99, 10, 99, 58, 61, 97, 10, 97, 58, 61, 100, 10, 101, 110, 100, 10]⟩, .string ⟨#[105, 102, 32, 97, 33, 61, 110, 105, 108, 10, 99, 58, 61, 91, 97, 93, 10, 91, 97, 93, 58, 61, 98, 10, 98, 58, 61, 97, 10, 97, 58, 61, 99, 10, 101, 110, 100, 10]⟩, .string ⟨#[110, 101, 119, 32, 99, 10, 91, 99, 93, 58, 61, 97, 10, 97, 58, 61, 99, 10]⟩, .string ⟨#[99, 58, 61, 97, 10, 119, 104, 105, 108, 101, 32, 99, 33, 61, 110, 105, 108, 32, 119, 105, 116, 104, 32, 116, 114, 117, 101, 32, 124, 32, 97, 126, 99, 32, 42, 32, 99, 126, 110, 105, 108, 10, 99, 58, 61, 91, 99, 93, 10, 101, 110, 100, 10]⟩, .string ⟨#[102, 114, 101, 101, 32, 97, 10, 91, 97, 93, 58, 61, 110, 105, 108, 10]⟩, .string ⟨#[97, 58, 61, 98, 10, 98, 58, 61, 99, 10, 110, 101, 119, 32, 100, 10, 102, 114, 101, 101, 32, 100, 10]⟩] 9)) w.heap.size code9 := fun i hi => by
  rw [World.cell?_alloc_mark]
  match i, hi with
  | 0, _ => rfl
  | 1, _ => rfl
  | 2, _ => rfl
  | 3, _ => rfl
  | 4, _ => rfl
  | 5, _ => rfl
  | 6, _ => rfl
theorem code9_len : ∀ x ∈ code9, x.length ≤ 1048576 := by decide
set_option maxRecDepth 100000 in
set_option maxHeartbeats 3200000 in
theorem l9Code_any (g q : Nat) (w : World) (hr : Rdr w g q) (hq : q ≤ 700000) :
    Calls Tryz.prog 21 #[.pointer (some ⟨g, 0, none⟩)] w (ProgRes g (q + 11700) w) := by
  have hgl := hr.lt
  have HLIT := Lib.hid (code9_lit w)
  have hF0 : Fr (fun j => j = g) w (w.alloc (.cells #[.string ⟨#[119, 104, 105, 108, 101, 32, 97, 33, 61, 110, 105, 108, 32, 119, 105, 116, 104, 32, 116, 114, 117, 101, 32, 124, 32, 97, 126, 110, 105, 108, 10, 99, 58, 61, 91, 97, 93, 10, 102, 114, 101, 101, 32, 97, 10, 97, 58, 61, 99, 10, 101, 110, 100, 10]⟩, .string ⟨#[99, 58, 61, 110, 105, 108, 10, 119, 104, 105, 108, 101, 32, 97, 33, 61, 110, 105, 108, 32, 119, 105, 116, 104, 32, 116, 114, 117, 101, 32, 124, 32, 97, 126, 110, 105, 108, 32, 42, 32, 99, 126, 110, 105, 108, 10, 100, 58, 61, 91, 97, 93, 10, 91, 97, 93, 58, 61, 99, 10, 99, 58, 61, 97, 10, 97, 58, 61, 100, 10, 101, 110, 100, 10]⟩, .string ⟨#[105, 102, 32, 97, 33, 61, 110, 105, 108, 10, 99, 58, 61, 91, 97, 93, 10, 91, 97, 93, 58, 61, 98, 10, 98, 58, 61, 97, 10, 97, 58, 61, 99, 10, 101, 110, 100, 10]⟩, .string ⟨#[110, 101, 119, 32, 99, 10, 91, 99, 93, 58, 61, 97, 10, 97, 58, 61, 99, 10]⟩, .string ⟨#[99, 58, 61, 97, 10, 119, 104, 105, 108, 101, 32, 99, 33, 61, 110, 105, 108, 32, 119, 105, 116, 104, 32, 116, 114, 117, 101, 32, 124, 32, 97, 126, 99, 32, 42, 32, 99, 126, 110, 105, 108, 10, 99, 58, 61, 91, 99, 93, 10, 101, 110, 100, 10]⟩, .string ⟨#[102, 114, 101, 101, 32, 97, 10, 91, 97, 93, 58, 61, 110, 105, 108, 10]⟩, .string ⟨#[97, 58, 61, 98, 10, 98, 58, 61, 99, 10, 110, 101, 119, 32, 100, 10, 102, 114, 101, 101, 32, 100, 10]⟩] 9)) := (Below.fr (below_alloc w _)).mono (S' := fun j => j = g) fun _ _ h => h.elim
  have HF0 := Lib.hid hF0
  clear hF0
  go_enter Tryz.func21, Tryz.ntmps21
  go_wp2_with fail
  refine (of_any g q _ 7 7 code9 _ (hr.keep (below_alloc _ _)) (by omega) rfl (by decide) (by decide) (by omega) HLIT.out).mono ?_
  rintro e w1 ⟨t, ht, rfl, hr1, hf1⟩
  have HF1 := Lib.hid (HF0.out.trans hf1)
  have hz1 := HF1.out.size
  have HT := Lib.hid (code9_len t ht)
  clear hr hf1 ht
  go_wp2_with fail
  refine (parseProgS_any t _ HT.out).mono ?_
  rintro e w2 ⟨u, rfl, huc, hb2⟩
  obtain ⟨ua, ucp, rfl⟩ := huc.form
  have hz2 := hb2.size
  have HF2 := Lib.hid (HF1.out.thenB hb2)
  have hr2 := hr1.keep hb2
  have HUC := Lib.hid (huc.rl.more fun k _ hk => show w.heap.size ≤ k by have h1 : w1.heap.size ≤ k := hk; omega)
  clear hr1 huc hb2
  cases hp : progO t with
  | none =>
    have hs0 : (none : Option (List (Cm 5))).isSome = false := rfl
    have HP := Lib.hid hp
    clear hp
    go_wp2_with fail
    refine (l8Program_any g (q + 1) _ hr2 (by omega)).mono ?_
    rintro e w3 ⟨d, v, l, rfl, hd, hl, hfw, hr3, hf3⟩
    obtain ⟨va, vc, rfl⟩ := hl.form
    have HL := Lib.hid (And.intro (hl.more fun k _ hk => show w.heap.size ≤ k by have h1 : w2.heap.size ≤ k := hk; omega) (And.intro hfw (HF2.out.trans hf3)))
    clear hl hfw hf3
    go_wp2
    go_ret
    exact ⟨d, _, l, rfl, hd, HL.out.1, HL.out.2.1, hr3.more (by omega), HL.out.2.2⟩
  | some l =>
    have hs0 : (some l).isSome = true := rfl
    have HP := Lib.hid hp
    have hpr : progR t = l := by rw [progR, hp]; rfl
    rw [hpr] at HUC ⊢
    clear hp hpr
    go_wp2_with fail
    refine (pick_any g (q + 1) 3 _ hr2 (by omega) (by decide) (by decide)).mono ?_
    rintro e w3 ⟨k, rfl, hk, hr3, hf3⟩
    have HL := Lib.hid (And.intro (HUC.out.kept hf3 (fun j _ hj e => by have e2 : j = g := e; have h1 : w.heap.size ≤ j := hj; omega)) (HF2.out.trans hf3))
    have HFW := Lib.hid (show FewC 5 l from by
      have h1 := progOk_iff (progO_ok HP.out).1
      exact few_shape 5 l 4 h1.1 (by omega))
    clear hf3
    by_cases hk0 : 0 < k
    · have i1 : (0 : Int) < (k : Int) := by omega
      go_wp2
      go_ret
      exact ⟨5, _, l, rfl, by omega, HL.out.1, HFW.out, hr3.more (by omega), HL.out.2⟩
    · have i1 : ¬ (0 : Int) < (k : Int) := by omega
      go_wp2_with fail
      refine (l8Program_any g (q + 1 + 1) _ hr3 (by omega)).mono ?_
      rintro e w4 ⟨d, v, m, rfl, hd, hl, hfw, hr4, hf4⟩
      obtain ⟨va, vc, rfl⟩ := hl.form
      have hz3 := HL.out.2.size
      have HM := Lib.hid (And.intro (hl.more fun k _ hk => show w.heap.size ≤ k by have h1 : w3.heap.size ≤ k := hk; omega) (And.intro hfw (HL.out.2.trans hf4)))
      clear hl hfw hf4
      go_wp2
      go_ret
      exact ⟨d, _, m, rfl, hd, HM.out.1, HM.out.2.1, hr4.more (by omega), HM.out.2.2⟩
set_option maxRecDepth 100000 in
set_option maxHeartbeats 1600000 in
theorem l9Fuel_any (g q : Nat) (w : World) (hr : Rdr w g q) (hq : q ≤ 1000000) :
    Calls Tryz.prog 22 #[.pointer (some ⟨g, 0, none⟩)] w fun e w' => ∃ n : Int, e = .returned (.int .i64 n) ∧ (-1 ≤ n ∧ n ≤ 201) ∧ Rdr w' g (q + 1) ∧ Fr (fun j => j = g) w w' := by
  have hgl := hr.lt
  have HLIT := Lib.hid (lit_ints w [100, 60, 200, 5, 0, 201, -1] (by decide))
  have hz1 : (w.alloc (.cells (ints [100, 60, 200, 5, 0, 201, -1]).toArray 3)).heap.size = w.heap.size + 1 := by simp
  go_enter Tryz.func22, Tryz.ntmps22
  go_wp2_with fail
  refine (num_any g q _ [100, 60, 200, 5, 0, 201, -1] _ (hr.keep (below_alloc _ _)) HLIT.out (by omega) (by decide) (by decide) (fun k hk e => by simp [Value.ownBlock] at hk; omega)).mono ?_
  rintro e w1 ⟨N0, hN, rfl, hr1, hf1⟩
  have hF1 : Fr (fun j => j = g) w w1 := ((Below.fr (below_alloc w (.cells (ints [100, 60, 200, 5, 0, 201, -1]).toArray 3))).mono (S' := fun j => j = g) fun _ _ h => h.elim).trans hf1
  have hb : -1 ≤ N0 ∧ N0 ≤ 201 := by
    simp only [List.mem_cons, List.not_mem_nil, or_false] at hN
    omega
  have HH := Lib.hid (And.intro hF1 hb)
  clear hN hf1 hF1 hz1 hb
  go_wp2
  go_ret
  exact ⟨N0, rfl, HH.out.2, hr1, HH.out.1⟩
end Go.Proofs.YtgfnoinkajfndaaGreat
