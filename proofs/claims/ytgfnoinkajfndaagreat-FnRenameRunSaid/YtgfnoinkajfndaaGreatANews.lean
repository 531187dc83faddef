/- Walks: whether a program allocates (slNews of the laws). -/
import Derived.Test.YtgfnoinkajfndaaGreatARunP
import Derived.Handy
import Derived.Deep.DeepMust
set_option linter.unusedVariables false
set_option linter.unusedSimpArgs false
namespace Go.Proofs.YtgfnoinkajfndaaGreat
open Go.RowKit

theorem news_take {d : Nat} {l : List (Cm (d + 1))} {k : Nat} (h : k < l.length) (h0 : newsB (d + 1) (l.take k) = false) (h1 : (decide ((gd l k).kind = 4) || (newsB d (gd l k).body || newsB d (gd l k).els)) = false) : newsB (d + 1) (l.take (k + 1)) = false := by
  rw [newsB] at h0 ⊢
  rw [take_gd h, List.any_append, h0]; simpa using h1
theorem news_hit {d : Nat} {l : List (Cm (d + 1))} {k : Nat} (h : k < l.length) (h1 : (decide ((gd l k).kind = 4) || (newsB d (gd l k).body || newsB d (gd l k).els)) = true) : newsB (d + 1) l = true := by
  rw [newsB, List.any_eq_true]
  exact ⟨_, gd_mem h, h1⟩
set_option maxRecDepth 100000 in
set_option maxHeartbeats 6400000 in
theorem slNews_any : ∀ (d : Nat) {S : Nat → Prop} (v : Value) (l : List (Cm d)) (w : World) (_h : RL w S v l),
    Calls Tryz.prog 11 #[v] w fun e w' => e = .returned (.bool (newsB d l)) ∧ Below w.heap.size w w' := by
  intro d
  induction d with
  | zero =>
    intro S v l w h
    obtain rfl := h.cm0
    obtain ⟨a, c, rfl⟩ := h.form
    clear h
    go_enter Tryz.func11, Tryz.ntmps11
    go_wp2
    go_loopg [3] 1 (fun q i wr => i = .int .i64 0 ∧ wr = w)
    case atStart => exact ⟨rfl, rfl⟩
    case round =>
      obtain ⟨rfl, rfl⟩ := hrel
      go_wp2
      go_ret
      exact ⟨rfl, Bl⟩
  | succ d ih =>
    intro S v l w h
    obtain ⟨a, cap, rfl, _, _, hc⟩ := h.cmAt
    have hlm := h.len
    unfold maxLen at hlm
    have F := Lib.hid hc
    have IH := Lib.hid (fun (S : Nat → Prop) (v : Value) (l : List (Cm d)) (w : World) (h : RL w S v l) => ih (S := S) v l w h)
    clear h hc ih
    go_enter Tryz.func11, Tryz.ntmps11
    go_wp2
    go_loopg [3] l.length (fun q i wr => ∃ k : Nat, k + q = l.length ∧ i = .int .i64 (k : Int) ∧ newsB (d + 1) (l.take k) = false ∧ Below w.heap.size w wr)
    case atStart => exact ⟨0, by omega, rfl, rfl, Bl⟩
    case round =>
      obtain ⟨k, hk, rfl, hno, hb⟩ := hrel
      have HK := Lib.hid (And.intro hk hno)
      have hs := hb.size
      clear hk hno
      by_cases hk8 : k < l.length
      · obtain ⟨b, o, f1, f2, x, y, rfl, _, hbl, hcc, _, g3, g4⟩ := F.out k hk8
        obtain ⟨xa, xn, rfl⟩ := g3.form
        obtain ⟨ya, yn, rfl⟩ := g4.form
        obtain ⟨c, hck⟩ : ∃ c, gd l k = c := ⟨_, rfl⟩
        have HIT := Lib.hid (fun (h : (decide (c.kind = 4) || (newsB d c.body || newsB d c.els)) = true) => news_hit hk8 (by rw [hck]; exact h))
        have NEXT := Lib.hid (fun (h : (decide (c.kind = 4) || (newsB d c.body || newsB d c.els)) = false) => news_take hk8 HK.out.2 (by rw [hck]; exact h))
        rw [hck] at hcc g3 g4
        have p0 : wr.cell? ⟨b, o + k * 10, none⟩ = some (.int .i64 c.kind) := cell_keep hb (hcc 0 _ rfl)
        have p8 := cell_keep hb (hcc 8 _ rfl)
        have p9 := cell_keep hb (hcc 9 _ rfl)
        have i1 : (k : Int) < (l.length : Int) := by omega
        have hzb : b < wr.heap.size := by omega
        have HG := Lib.hid (And.intro (g3.keep hb) (g4.keep hb))
        clear hcc hck g3 g4
        by_cases z4 : c.kind = 4
        · have y4 : (c.kind == 4) = true := by simp [z4]
          have HT := Lib.hid (HIT.out (by rw [decide_eq_true z4]; rfl))
          clear z4
          go_wp2
          go_ret
          exact ⟨by rw [HT.out]; rfl, hb⟩
        · have y4 : (c.kind == 4) = false := by simp [z4]
          have Z4 := Lib.hid z4
          clear z4
          go_wp2_with fail
          refine (IH.out S _ c.body _ HG.out.1).mono ?_
          rintro e w2 ⟨rfl, hb2⟩
          have HB2 := Lib.hid (hb.trans (hb2.mono hs))
          replace p9 := cell_keep hb2 p9
          have hs2 := hb2.size
          have hzb2 : b < w2.heap.size := by omega
          cases e1 : newsB d c.body
          · have E1 := Lib.hid e1
            go_wp2_with fail
            refine (IH.out S _ c.els _ (HG.out.2.keep hb2)).mono ?_
            rintro e w3 ⟨rfl, hb3⟩
            have HB3 := Lib.hid (HB2.out.trans (hb3.mono HB2.out.size))
            cases e2 : newsB d c.els
            · have E2 := Lib.hid e2
              go_wp2
              go_roundg (gk - 1)
              case rel => exact ⟨k + 1, by have := HK.out.1; omega, by go_num, NEXT.out (by rw [decide_eq_false Z4.out, E1.out, E2.out]; rfl), HB3.out⟩
              case measure => have := HK.out.1; omega
            · have HT := Lib.hid (HIT.out (by rw [decide_eq_false Z4.out, E1.out, e2]; rfl))
              go_wp2
              go_ret
              exact ⟨by rw [HT.out]; rfl, HB3.out⟩
          · have HT := Lib.hid (HIT.out (by rw [decide_eq_false Z4.out, e1]; rfl))
            go_wp2
            go_ret
            exact ⟨by rw [HT.out]; rfl, HB2.out⟩
      · have HX := Lib.hid (show newsB (d + 1) l = false by rw [← HK.out.2, show k = l.length by have := HK.out.1; omega, List.take_length])
        have i1 : ¬ (k : Int) < (l.length : Int) := by omega
        go_wp2
        go_ret
        exact ⟨by rw [HX.out]; rfl, hb⟩
end Go.Proofs.YtgfnoinkajfndaaGreat
