/- Walks: commands are copied (reference: l8Copy). -/
import Derived.Test.YtgfnoinkajfndaaGreatACmd2
import Derived.Test.YtgfnoinkajfndaaGreatAMut1
import Derived.Handy
import Derived.Deep.DeepMust
set_option linter.unusedVariables false
set_option linter.unusedSimpArgs false
namespace Go.Proofs.YtgfnoinkajfndaaGreat
open Go.RowKit

/-- Commands in no great number. -/
def FewC : (d : Nat) → List (Cm d) → Prop
  | 0, _ => True
  | d + 1, l => l.length ≤ 2000 ∧ ∀ c ∈ l, asSz (Cm.inv c) ∧ FewC d (Cm.body c) ∧ FewC d (Cm.els c)
theorem row_set {w : World} {C : Nat} {cs : Array Value} {T : TypeId} (h : w.heap[C]? = some (.cells cs T (0, 0))) (i : Nat) (v : Value) : (w.setCell ⟨C, i, none⟩ v).heap[C]? = some (.cells (cs.setIfInBounds i v) T (0, 0)) := by
  rw [heap_setCell_same w C i _ T v h]
theorem own_formG {w : World} {B e sz n : Nat} {v : Value} {xs : List Value} (h : w.ownsRow B e sz v n xs) : ∃ a c, v = .slice a n c := by
  rcases h.2 with ⟨rfl, rfl⟩ | ⟨g, cap, cur, rfl, _⟩
  · exact ⟨_, _, rfl⟩
  · exact ⟨_, _, rfl⟩
theorem below_set {w w' : World} {B : Nat} (h : Below B w w') (p : Addr) (v : Value) (hp : B ≤ p.block) : Below B w (w'.setCell p v) := Below.setCell h hp v
set_option maxRecDepth 100000 in
set_option maxHeartbeats 6400000 in
theorem l8Copy_any : ∀ (d : Nat) {S : Nat → Prop} (v : Value) (l : List (Cm d)) (w : World) (_h : RL w S v l) (_hf : FewC d l),
    Calls Tryz.prog 62 #[v] w fun e w' => ∃ v', e = .returned v' ∧ OO w' w.heap.size v' l ∧ Below w.heap.size w w' := by
  intro d
  induction d with
  | zero =>
    intro S v l w h _
    obtain rfl := h.cm0
    obtain ⟨a, c, rfl⟩ := h.form
    have hown0 := World.ownsRow_lit (base := w.heap.size) (size := 10) w #[] 0 (Nat.le_refl _) (by decide) (by simp) (e := 77)
    have HO := Lib.hid hown0
    clear h hown0
    go_enter Tryz.func62, Tryz.ntmps62
    go_wp2
    go_loopg [3, 4] 1 (fun q vo i wr => vo = .slice (some ⟨w.heap.size, 0, none⟩) 0 0 ∧ i = .int .i64 0 ∧ wr = w.alloc (.cells #[] 77))
    case atStart => exact ⟨rfl, rfl, rfl⟩
    case round =>
      obtain ⟨rfl, rfl, rfl⟩ := hrel
      go_wp2
      go_ret
      exact ⟨_, rfl, PL.done (PL.zero (α := Cm 0) HO.out []), Bl⟩
  | succ d ih =>
    intro S v l w h hf
    obtain ⟨a, cap, rfl, _, _, hc⟩ := h.cmAt
    have hown0 := World.ownsRow_lit (base := w.heap.size) (size := 10) w #[] 0 (Nat.le_refl _) (by decide) (by simp) (e := 77)
    have HO := Lib.hid hown0
    have F := Lib.hid hc
    have HF := Lib.hid hf
    have IH := Lib.hid (fun (S : Nat → Prop) (v : Value) (l : List (Cm d)) (w : World) (h : RL w S v l) (hf : FewC d l) => ih (S := S) v l w h hf)
    have hlen : l.length ≤ 1000000 := Nat.le_trans hf.1 (by omega)
    clear h hc hown0 hf ih
    go_enter Tryz.func62, Tryz.ntmps62
    go_wp2
    go_loopg [3, 4] l.length (fun q vo i wr => ∃ (k : Nat) (L : List (Cm (d + 1))), k + q = l.length ∧ L = l.take k ∧ L.length = k ∧ i = .int .i64 k ∧ PL wr w.heap.size vo L.length L L.length ∧ Below w.heap.size w wr)
    case atStart => exact ⟨0, [], by omega, rfl, rfl, rfl, PL.zero (α := Cm (d + 1)) HO.out [], Bl⟩
    case round =>
      obtain ⟨k, L, hk, hL, hLk, rfl, hpl, hb⟩ := hrel
      obtain ⟨va, vc, rfl⟩ := hpl.done.form
      have HK := Lib.hid hk
      have HL := Lib.hid hL
      have HLK := Lib.hid hLk
      have HPL := Lib.hid hpl
      have hs := hb.size
      clear hk hL hLk hpl
      by_cases hk8 : k < l.length
      · obtain ⟨b, o, f1, f2, x, y, rfl, _, hbl, hcc, ⟨g1, g2⟩, g3, g4⟩ := F.out k hk8
        obtain ⟨fa1, fn1, rfl⟩ := g1.form
        obtain ⟨fa2, fn2, rfl⟩ := g2.form
        obtain ⟨xa, xn, rfl⟩ := g3.form
        obtain ⟨ya, yn, rfl⟩ := g4.form
        have hsub := HF.out.2 (gd l k) (gd_mem hk8)
        obtain ⟨c, hck⟩ : ∃ c, gd l k = c := ⟨_, rfl⟩
        rw [hck] at hcc g1 g2 g3 g4 hsub
        have HCK := Lib.hid hck
        have HSUB := Lib.hid hsub
        have p0 : wr.cell? ⟨b, o + k * 10, none⟩ = some (.int .i64 c.kind) := cell_keep hb (hcc 0 _ rfl)
        have p1 := cell_keep hb (hcc 1 _ rfl)
        have p2 := cell_keep hb (hcc 2 _ rfl)
        have p3 := cell_keep hb (hcc 3 _ rfl)
        have p4 := cell_keep hb (hcc 4 _ rfl)
        have p5 := cell_keep hb (hcc 5 _ rfl)
        have p6 := cell_keep hb (hcc 6 _ rfl)
        have p7 := cell_keep hb (hcc 7 _ rfl)
        have p8 := cell_keep hb (hcc 8 _ rfl)
        have p9 := cell_keep hb (hcc 9 _ rfl)
        replace g1 := g1.keep hb
        replace g2 := g2.keep hb
        replace g3 := g3.keep hb
        replace g4 := g4.keep hb
        have i1 : (k : Int) < (l.length : Int) := by omega
        have hzb : b < wr.heap.size := by omega
        clear hcc hck hsub
        go_wp2_with fail
        refine (l3CopyF_any _ _ c.inv _ (g1.keep Bl) (g2.keep Bl) HSUB.out.1).mono ?_
        rintro e w2 ⟨x1, x2, rfl, hx1, hx2, hb2⟩
        obtain ⟨s1, r1, rfl⟩ := hx1.form
        obtain ⟨s2, r2, rfl⟩ := hx2.form
        have hC := box_keep (heap_alloc_new wr (.cells #[.int .i64 c.kind, .int .i64 c.a, .int .i64 c.b, .bool c.test.1, .int .i64 c.test.2.1, .int .i64 c.test.2.2, .slice fa1 c.inv.1.length fn1, .slice fa2 c.inv.2.length fn2, .slice xa c.body.length xn, .slice ya c.els.length yn] 77)) hb2
        rw [World.size_alloc] at hx1 hx2
        have hbb := bt (below_alloc wr (.cells #[.int .i64 c.kind, .int .i64 c.a, .int .i64 c.b, .bool c.test.1, .int .i64 c.test.2.1, .int .i64 c.test.2.2, .slice fa1 c.inv.1.length fn1, .slice fa2 c.inv.2.length fn2, .slice xa c.body.length xn, .slice ya c.els.length yn] 77)) hb2
        obtain ⟨C, hCe⟩ : ∃ C, wr.heap.size = C := ⟨_, rfl⟩
        rw [hCe] at hC hx1 hx2 hzb
        have hCl := box_lt hC
        have hC2 := row_set (row_set hC 6 (.slice s1 c.inv.1.length r1)) 7 (.slice s2 c.inv.2.length r2)
        have hB2 : Below wr.heap.size wr ((w2.setCell ⟨C, 6, none⟩ (.slice s1 c.inv.1.length r1)).setCell ⟨C, 7, none⟩ (.slice s2 c.inv.2.length r2)) := below_set (below_set hbb _ _ (by rw [hCe]; exact Nat.le_refl _)) _ _ (by rw [hCe]; exact Nat.le_refl _)
        have hF2 := (fr_set w2 ⟨C, 6, none⟩ (.slice s1 c.inv.1.length r1)).trans (fr_set (w2.setCell ⟨C, 6, none⟩ (.slice s1 c.inv.1.length r1)) ⟨C, 7, none⟩ (.slice s2 c.inv.2.length r2))
        obtain ⟨m1, fo1, n1⟩ := hx1.fo
        obtain ⟨m2, fo2, n2⟩ := hx2.fo
        have HQ := Lib.hid (And.intro (fo_apart fo1 fo2 n1 n2) (And.intro fo1.lt fo2.lt))
        have hX := Lib.hid (And.intro (fo1.okept hF2 (fun i hi e => by have h1 := HQ.out.2.1 i hi; have e' : i = C := e; omega)) (fo2.okept hF2 (fun i hi e => by have h1 := HQ.out.2.2 i hi; have e' : i = C := e; omega)))
        clear fo1 fo2 n1 n2
        have q0 := cell_of_row _ _ 0 _ _ _ hC
        have q1 := cell_of_row _ _ 1 _ _ _ hC
        have q2 := cell_of_row _ _ 2 _ _ _ hC
        have q3 := cell_of_row _ _ 3 _ _ _ hC
        have q4 := cell_of_row _ _ 4 _ _ _ hC
        have q5 := cell_of_row _ _ 5 _ _ _ hC
        have q6 := cell_of_row _ _ 6 _ _ _ hC
        have q7 := cell_of_row _ _ 7 _ _ _ hC
        have q8 := cell_of_row _ _ 8 _ _ _ hC
        have q9 := cell_of_row _ _ 9 _ _ _ hC
        have zq0 := frozen_of_row _ _ 0 _ _ hC
        have zq1 := frozen_of_row _ _ 1 _ _ hC
        have zq2 := frozen_of_row _ _ 2 _ _ hC
        have zq3 := frozen_of_row _ _ 3 _ _ hC
        have zq4 := frozen_of_row _ _ 4 _ _ hC
        have zq5 := frozen_of_row _ _ 5 _ _ hC
        have zq6 := frozen_of_row _ _ 6 _ _ hC
        have zq7 := frozen_of_row _ _ 7 _ _ hC
        have zq8 := frozen_of_row _ _ 8 _ _ hC
        have zq9 := frozen_of_row _ _ 9 _ _ hC
        clear hx1 hx2 hb2 hbb hF2 g1 g2
        rw [hCe]
        go_wp2_with fail
        refine (IH.out _ _ c.body _ (g3.keep hB2) HSUB.out.2.1).mono ?_
        rintro e w3 ⟨vb, rfl, hob, hb3⟩
        obtain ⟨sb, rb, rfl⟩ := hob.form
        have hC2L : ((w2.setCell ⟨C, 6, none⟩ (.slice s1 c.inv.1.length r1)).setCell ⟨C, 7, none⟩ (.slice s2 c.inv.2.length r2)).heap[C]? = some (.cells #[.int .i64 c.kind, .int .i64 c.a, .int .i64 c.b, .bool c.test.1, .int .i64 c.test.2.1, .int .i64 c.test.2.2, .slice s1 c.inv.1.length r1, .slice s2 c.inv.2.length r2, .slice xa c.body.length xn, .slice ya c.els.length yn] 77 (0, 0)) := hC2
        have hC3 := box_keep hC2L hb3
        have hsz2 : ((w2.setCell ⟨C, 6, none⟩ (.slice s1 c.inv.1.length r1)).setCell ⟨C, 7, none⟩ (.slice s2 c.inv.2.length r2)).heap.size = w2.heap.size := by simp
        rw [hsz2] at hob
        have hz3 := hb3.size
        rw [hsz2] at hz3
        have hC3b : (w3.setCell ⟨C, 8, none⟩ (.slice sb c.body.length rb)).heap[C]? = some (.cells #[.int .i64 c.kind, .int .i64 c.a, .int .i64 c.b, .bool c.test.1, .int .i64 c.test.2.1, .int .i64 c.test.2.2, .slice s1 c.inv.1.length r1, .slice s2 c.inv.2.length r2, .slice sb c.body.length rb, .slice ya c.els.length yn] 77 (0, 0)) := row_set hC3 8 (.slice sb c.body.length rb)
        have hB3 : Below wr.heap.size wr (w3.setCell ⟨C, 8, none⟩ (.slice sb c.body.length rb)) := below_set (bt hB2 hb3) _ _ (by rw [hCe]; exact Nat.le_refl _)
        have hF3 := fr_set w3 ⟨C, 8, none⟩ (.slice sb c.body.length rb)
        obtain ⟨m3, ol3, n3⟩ := hob
        have HQ3 := Lib.hid (And.intro n3 ol3.lt)
        have hX3 := Lib.hid (And.intro ((hX.out.1.okept (Below.fr hb3) (fun _ _ h => h)).okept hF3 (fun i hi e => by have h1 := HQ.out.2.1 i hi; have e' : i = C := e; omega)) (And.intro ((hX.out.2.okept (Below.fr hb3) (fun _ _ h => h)).okept hF3 (fun i hi e => by have h1 := HQ.out.2.2 i hi; have e' : i = C := e; omega)) (ol3.okept hF3 (fun i hi e => by have h1 := HQ3.out.2 i hi; have e' : i = C := e; omega))))
        clear ol3 n3
        have hCl3 : C < w3.heap.size := by omega
        clear q0 zq0 q1 zq1 q2 zq2 q3 zq3 q4 zq4 q5 zq5 q6 zq6 q7 zq7 q8 zq8 q9 zq9
        have t0 := cell_of_row _ _ 0 _ _ _ hC3
        have t1 := cell_of_row _ _ 1 _ _ _ hC3
        have t2 := cell_of_row _ _ 2 _ _ _ hC3
        have t3 := cell_of_row _ _ 3 _ _ _ hC3
        have t4 := cell_of_row _ _ 4 _ _ _ hC3
        have t5 := cell_of_row _ _ 5 _ _ _ hC3
        have t6 := cell_of_row _ _ 6 _ _ _ hC3
        have t7 := cell_of_row _ _ 7 _ _ _ hC3
        have t8 := cell_of_row _ _ 8 _ _ _ hC3
        have t9 := cell_of_row _ _ 9 _ _ _ hC3
        have zt0 := frozen_of_row _ _ 0 _ _ hC3
        have zt1 := frozen_of_row _ _ 1 _ _ hC3
        have zt2 := frozen_of_row _ _ 2 _ _ hC3
        have zt3 := frozen_of_row _ _ 3 _ _ hC3
        have zt4 := frozen_of_row _ _ 4 _ _ hC3
        have zt5 := frozen_of_row _ _ 5 _ _ hC3
        have zt6 := frozen_of_row _ _ 6 _ _ hC3
        have zt7 := frozen_of_row _ _ 7 _ _ hC3
        have zt8 := frozen_of_row _ _ 8 _ _ hC3
        have zt9 := frozen_of_row _ _ 9 _ _ hC3
        clear hb3 hC2 hC2L hF3 hX
        go_wp2_with fail
        refine (IH.out _ _ c.els _ (g4.keep hB3) HSUB.out.2.2).mono ?_
        rintro e w4 ⟨ve, rfl, hoe, hb4⟩
        obtain ⟨se, re, rfl⟩ := hoe.form
        have hC4 := box_keep hC3b hb4
        have hsz3 : (w3.setCell ⟨C, 8, none⟩ (.slice sb c.body.length rb)).heap.size = w3.heap.size := by simp
        rw [hsz3] at hoe
        have hz4 := hb4.size
        rw [hsz3] at hz4
        have hC4b : (w4.setCell ⟨C, 9, none⟩ (.slice se c.els.length re)).heap[C]? = some (.cells #[.int .i64 c.kind, .int .i64 c.a, .int .i64 c.b, .bool c.test.1, .int .i64 c.test.2.1, .int .i64 c.test.2.2, .slice s1 c.inv.1.length r1, .slice s2 c.inv.2.length r2, .slice sb c.body.length rb, .slice se c.els.length re] 77 (0, 0)) := row_set hC4 9 (.slice se c.els.length re)
        have hB4 : Below wr.heap.size wr (w4.setCell ⟨C, 9, none⟩ (.slice se c.els.length re)) := below_set (bt hB3 hb4) _ _ (by rw [hCe]; exact Nat.le_refl _)
        have hF4 := fr_set w4 ⟨C, 9, none⟩ (.slice se c.els.length re)
        have hCl4 : C < w4.heap.size := by omega
        have hB5 := bt hB4 (below_alloc (w4.setCell ⟨C, 9, none⟩ (.slice se c.els.length re)) (.cells #[.int .i64 c.kind, .int .i64 c.a, .int .i64 c.b, .bool c.test.1, .int .i64 c.test.2.1, .int .i64 c.test.2.2, .slice s1 c.inv.1.length r1, .slice s2 c.inv.2.length r2, .slice sb c.body.length rb, .slice se c.els.length re] 77))
        obtain ⟨m4, ol4, n4⟩ := hoe
        have HQ4 := Lib.hid (And.intro n4 ol4.lt)
        have hX5 := Lib.hid (And.intro (((hX3.out.1.okept (Below.fr hb4) (fun _ _ h => h)).okept hF4 (fun i hi e => by have h1 := HQ.out.2.1 i hi; have e' : i = C := e; omega)).okept (Below.fr (below_alloc (w4.setCell ⟨C, 9, none⟩ (.slice se c.els.length re)) (.cells #[.int .i64 c.kind, .int .i64 c.a, .int .i64 c.b, .bool c.test.1, .int .i64 c.test.2.1, .int .i64 c.test.2.2, .slice s1 c.inv.1.length r1, .slice s2 c.inv.2.length r2, .slice sb c.body.length rb, .slice se c.els.length re] 77))) (fun _ _ h => h)) (And.intro (((hX3.out.2.1.okept (Below.fr hb4) (fun _ _ h => h)).okept hF4 (fun i hi e => by have h1 := HQ.out.2.2 i hi; have e' : i = C := e; omega)).okept (Below.fr (below_alloc (w4.setCell ⟨C, 9, none⟩ (.slice se c.els.length re)) (.cells #[.int .i64 c.kind, .int .i64 c.a, .int .i64 c.b, .bool c.test.1, .int .i64 c.test.2.1, .int .i64 c.test.2.2, .slice s1 c.inv.1.length r1, .slice s2 c.inv.2.length r2, .slice sb c.body.length rb, .slice se c.els.length re] 77))) (fun _ _ h => h)) (And.intro (((hX3.out.2.2.okept (Below.fr hb4) (fun _ _ h => h)).okept hF4 (fun i hi e => by have h1 := HQ3.out.2 i hi; have e' : i = C := e; omega)).okept (Below.fr (below_alloc (w4.setCell ⟨C, 9, none⟩ (.slice se c.els.length re)) (.cells #[.int .i64 c.kind, .int .i64 c.a, .int .i64 c.b, .bool c.test.1, .int .i64 c.test.2.1, .int .i64 c.test.2.2, .slice s1 c.inv.1.length r1, .slice s2 c.inv.2.length r2, .slice sb c.body.length rb, .slice se c.els.length re] 77))) (fun _ _ h => h)) ((ol4.okept hF4 (fun i hi e => by have h1 := HQ4.out.2 i hi; have e' : i = C := e; omega)).okept (Below.fr (below_alloc (w4.setCell ⟨C, 9, none⟩ (.slice se c.els.length re)) (.cells #[.int .i64 c.kind, .int .i64 c.a, .int .i64 c.b, .bool c.test.1, .int .i64 c.test.2.1, .int .i64 c.test.2.2, .slice s1 c.inv.1.length r1, .slice s2 c.inv.2.length r2, .slice sb c.body.length rb, .slice se c.els.length re] 77))) (fun _ _ h => h)))))
        clear ol4 n4
        have hnews : ∀ j u, (cmCells c.kind c.a c.b c.test (.slice s1 c.inv.1.length r1) (.slice s2 c.inv.2.length r2) (.slice sb c.body.length rb) (.slice se c.els.length re))[j]? = some u → ((w4.setCell ⟨C, 9, none⟩ (.slice se c.els.length re)).alloc (.cells #[.int .i64 c.kind, .int .i64 c.a, .int .i64 c.b, .bool c.test.1, .int .i64 c.test.2.1, .int .i64 c.test.2.2, .slice s1 c.inv.1.length r1, .slice s2 c.inv.2.length r2, .slice sb c.body.length rb, .slice se c.els.length re] 77)).cell? ⟨w4.heap.size, j, none⟩ = some u := fun j u hj => by
          have h := news_cm (w4.setCell ⟨C, 9, none⟩ (.slice se c.els.length re)) c.kind c.a c.b c.test (.slice s1 c.inv.1.length r1) (.slice s2 c.inv.2.length r2) (.slice sb c.body.length rb) (.slice se c.els.length re) 77 j u hj
          rwa [show (w4.setCell ⟨C, 9, none⟩ (.slice se c.els.length re)).heap.size = w4.heap.size by simp] at h
        have HNW := Lib.hid hnews
        obtain ⟨xs, hownr, hgrow⟩ := HPL.out.grow (Below.fr hB5) (fun j _ _ h => h) hs
        have HGR := Lib.hid hgrow
        have HB5 := Lib.hid hB5
        have hL6 : L.length ≤ 1000000 := by have := HLK.out; omega
        clear t0 zt0 t1 zt1 t2 zt2 t3 zt3 t4 zt4 t5 zt5 t6 zt6 t7 zt7 t8 zt8 t9 zt9
        have y0 := cell_of_row _ _ 0 _ _ _ hC4
        have y1 := cell_of_row _ _ 1 _ _ _ hC4
        have y2 := cell_of_row _ _ 2 _ _ _ hC4
        have y3 := cell_of_row _ _ 3 _ _ _ hC4
        have y4 := cell_of_row _ _ 4 _ _ _ hC4
        have y5 := cell_of_row _ _ 5 _ _ _ hC4
        have y6 := cell_of_row _ _ 6 _ _ _ hC4
        have y7 := cell_of_row _ _ 7 _ _ _ hC4
        have y8 := cell_of_row _ _ 8 _ _ _ hC4
        have y9 := cell_of_row _ _ 9 _ _ _ hC4
        have zy0 := frozen_of_row _ _ 0 _ _ hC4
        have zy1 := frozen_of_row _ _ 1 _ _ hC4
        have zy2 := frozen_of_row _ _ 2 _ _ hC4
        have zy3 := frozen_of_row _ _ 3 _ _ hC4
        have zy4 := frozen_of_row _ _ 4 _ _ hC4
        have zy5 := frozen_of_row _ _ 5 _ _ hC4
        have zy6 := frozen_of_row _ _ 6 _ _ hC4
        have zy7 := frozen_of_row _ _ 7 _ _ hC4
        have zy8 := frozen_of_row _ _ 8 _ _ hC4
        have zy9 := frozen_of_row _ _ 9 _ _ hC4
        clear hb4 hC3 hC3b hC4 hC4b hF4 hX3 hgrow hnews hB2 hB3 hB4 hB5
        go_wp2_with (at_builtin; go_must (refine app_C rfl (.tmp 29) (.tmp 31) rfl rfl hownr rfl (by rfl) HNW.out (one_cm _ _ _ _ _ _ _ _ _ _ _ _ _ _ _ _) (by omega) (by simp; omega) ?_; intro v' w7 hr7 hf7 hl7; obtain ⟨za, zc, rfl⟩ := own_formG hr7))
        have hown := own_cm_mk (c := c) (B := wr.heap.size) (hX5.out.1.mono (by omega)) (hX5.out.2.1.mono (by omega)) (hX5.out.2.2.1.mono (by omega)) (hX5.out.2.2.2.mono (by omega))
        have hnd : ((m1 ++ m2) ++ (m3 ++ m4)).Nodup := List.nodup_append.2 ⟨HQ.out.1, List.nodup_append.2 ⟨HQ3.out.1, HQ4.out.1, fun i hi j hj e => by have h1 := HQ3.out.2 i hi; have h2 := HQ4.out.2 j hj; omega⟩, fun i hi j hj e => by
          have h1 : i < w2.heap.size := by
            rcases List.mem_append.1 hi with hi | hi
            · exact (HQ.out.2.1 i hi).2
            · exact (HQ.out.2.2 i hi).2
          have h2 : w2.heap.size ≤ j := by
            rcases List.mem_append.1 hj with hj | hj
            · exact (HQ3.out.2 j hj).1
            · have := (HQ4.out.2 j hj).1; omega
          omega⟩
        have hpl7 := HGR.out c _ _ _ w7 hown hnd hf7 hr7 hl7
        have hW7 := (hb.trans (HB5.out.mono hs)).trans (hf7.below (B := w.heap.size) (Nat.le_trans hs HB5.out.size) (fun i hi e => absurd (own_lt hownr e).1 (by omega)))
        have H7 := Lib.hid (And.intro hpl7 hW7)
        clear hpl7 hW7 hr7 hf7 hl7 hown hownr
        go_wp2
        go_roundg (gk - 1)
        case rel => exact ⟨k + 1, L ++ [c], by have := HK.out; omega, by rw [take_gd hk8, ← HL.out, HCK.out], by rw [List.length_append, HLK.out]; rfl, by go_num, H7.out.1, H7.out.2⟩
        case measure => have := HK.out; omega
      · have hkn : k = l.length := by have := HK.out; omega
        have hLl : L = l := by rw [HL.out, hkn, List.take_length]
        have HP := Lib.hid (show OO wr w.heap.size (.slice va L.length vc) l by rw [← hLl]; exact HPL.out.done)
        clear hkn hLl
        go_wp2
        go_ret
        exact ⟨_, rfl, HP.out, hb⟩
end Go.Proofs.YtgfnoinkajfndaaGreat
