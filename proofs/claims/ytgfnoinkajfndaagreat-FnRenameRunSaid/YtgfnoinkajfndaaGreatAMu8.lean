/- Walks: commands are copied and changed (reference: l8Mutate). -/
import Derived.Test.YtgfnoinkajfndaaGreatAUcs
import Derived.Deep.RegionLaw
import Derived.Handy
import Derived.Deep.DeepMust
import Derived.Deep.Cut
import Derived.Deep.CutBlock
import Derived.Deep.CutRange
set_option linter.unusedVariables false
set_option linter.unusedSimpArgs false
namespace Go.Proofs.YtgfnoinkajfndaaGreat
open Go.RowKit

section
variable {d : Nat} {w : World} {B g cap : Nat} {l : List (Cm (d + 1))} {k : Nat}
theorem UC.putKind (h : UC w B (.slice (some ⟨g, 0, none⟩) l.length cap) l) (hk : k < l.length) (n : Int) :
    UC (w.setCell ⟨g, k * 10, none⟩ (.int .i64 n)) B (.slice (some ⟨g, 0, none⟩) (l.set k (Cm.mk n (gd l k).a (gd l k).b (gd l k).test (gd l k).inv (gd l k).body (gd l k).els)).length cap) (l.set k (Cm.mk n (gd l k).a (gd l k).b (gd l k).test (gd l k).inv (gd l k).body (gd l k).els)) :=
  h.put (j := 0) hk (by decide) fun cs hc => by
    obtain ⟨f1, f2, x, y, rfl, ⟨g1, g2⟩, g3, g4⟩ := rd_cm hc
    exact rd_cm_mk (c := Cm.mk n (gd l k).a (gd l k).b (gd l k).test (gd l k).inv (gd l k).body (gd l k).els) g1 g2 g3 g4
theorem UC.putA (h : UC w B (.slice (some ⟨g, 0, none⟩) l.length cap) l) (hk : k < l.length) (n : Int) :
    UC (w.setCell ⟨g, k * 10 + 1, none⟩ (.int .i64 n)) B (.slice (some ⟨g, 0, none⟩) (l.set k (Cm.mk (gd l k).kind n (gd l k).b (gd l k).test (gd l k).inv (gd l k).body (gd l k).els)).length cap) (l.set k (Cm.mk (gd l k).kind n (gd l k).b (gd l k).test (gd l k).inv (gd l k).body (gd l k).els)) :=
  h.put (j := 1) hk (by decide) fun cs hc => by
    obtain ⟨f1, f2, x, y, rfl, ⟨g1, g2⟩, g3, g4⟩ := rd_cm hc
    exact rd_cm_mk (c := Cm.mk (gd l k).kind n (gd l k).b (gd l k).test (gd l k).inv (gd l k).body (gd l k).els) g1 g2 g3 g4
theorem UC.putTest (h : UC w B (.slice (some ⟨g, 0, none⟩) l.length cap) l) (hk : k < l.length) (f : Fact) :
    UC (((w.setCell ⟨g, k * 10 + 3, none⟩ (.bool f.1)).setCell ⟨g, k * 10 + 4, none⟩ (.int .i64 f.2.1)).setCell ⟨g, k * 10 + 5, none⟩ (.int .i64 f.2.2)) B (.slice (some ⟨g, 0, none⟩) (l.set k (Cm.mk (gd l k).kind (gd l k).a (gd l k).b f (gd l k).inv (gd l k).body (gd l k).els)).length cap) (l.set k (Cm.mk (gd l k).kind (gd l k).a (gd l k).b f (gd l k).inv (gd l k).body (gd l k).els)) := by
  have h1 := h.put (j := 3) (u := .bool f.1) (c := Cm.mk (gd l k).kind (gd l k).a (gd l k).b (f.1, (gd l k).test.2.1, (gd l k).test.2.2) (gd l k).inv (gd l k).body (gd l k).els) hk (by decide) fun cs hc => by
    obtain ⟨f1, f2, x, y, rfl, ⟨g1, g2⟩, g3, g4⟩ := rd_cm hc
    exact rd_cm_mk (c := Cm.mk (gd l k).kind (gd l k).a (gd l k).b (f.1, (gd l k).test.2.1, (gd l k).test.2.2) (gd l k).inv (gd l k).body (gd l k).els) g1 g2 g3 g4
  have hk1 : k < (l.set k (Cm.mk (gd l k).kind (gd l k).a (gd l k).b (f.1, (gd l k).test.2.1, (gd l k).test.2.2) (gd l k).inv (gd l k).body (gd l k).els)).length := by rw [List.length_set]; exact hk
  have e1 : gd (l.set k (Cm.mk (gd l k).kind (gd l k).a (gd l k).b (f.1, (gd l k).test.2.1, (gd l k).test.2.2) (gd l k).inv (gd l k).body (gd l k).els)) k = Cm.mk (gd l k).kind (gd l k).a (gd l k).b (f.1, (gd l k).test.2.1, (gd l k).test.2.2) (gd l k).inv (gd l k).body (gd l k).els := by rw [gd_set hk, if_pos rfl]
  have h2 := h1.put (j := 4) (u := .int .i64 f.2.1) (c := Cm.mk (gd l k).kind (gd l k).a (gd l k).b (f.1, f.2.1, (gd l k).test.2.2) (gd l k).inv (gd l k).body (gd l k).els) hk1 (by decide) fun cs hc => by
    rw [e1] at hc
    obtain ⟨f1, f2, x, y, rfl, ⟨g1, g2⟩, g3, g4⟩ := rd_cm hc
    exact rd_cm_mk (c := Cm.mk (gd l k).kind (gd l k).a (gd l k).b (f.1, f.2.1, (gd l k).test.2.2) (gd l k).inv (gd l k).body (gd l k).els) g1 g2 g3 g4
  rw [List.set_set] at h2
  have hk2 : k < (l.set k (Cm.mk (gd l k).kind (gd l k).a (gd l k).b (f.1, f.2.1, (gd l k).test.2.2) (gd l k).inv (gd l k).body (gd l k).els)).length := by rw [List.length_set]; exact hk
  have e2 : gd (l.set k (Cm.mk (gd l k).kind (gd l k).a (gd l k).b (f.1, f.2.1, (gd l k).test.2.2) (gd l k).inv (gd l k).body (gd l k).els)) k = Cm.mk (gd l k).kind (gd l k).a (gd l k).b (f.1, f.2.1, (gd l k).test.2.2) (gd l k).inv (gd l k).body (gd l k).els := by rw [gd_set hk, if_pos rfl]
  have h3 := h2.put (j := 5) (u := .int .i64 f.2.2) (c := Cm.mk (gd l k).kind (gd l k).a (gd l k).b f (gd l k).inv (gd l k).body (gd l k).els) hk2 (by decide) fun cs hc => by
    rw [e2] at hc
    obtain ⟨f1, f2, x, y, rfl, ⟨g1, g2⟩, g3, g4⟩ := rd_cm hc
    exact rd_cm_mk (c := Cm.mk (gd l k).kind (gd l k).a (gd l k).b f (gd l k).inv (gd l k).body (gd l k).els) g1 g2 g3 g4
  rw [List.set_set] at h3
  exact h3
theorem sz_same {x : Cm (d + 1)} (hk : k < l.length) (hx : szC d x.body ≤ szC d (gd l k).body) (hy : szC d x.els ≤ szC d (gd l k).els) : szC (d + 1) (l.set k x) ≤ szC (d + 1) l := by
  have := sz_set x hk
  omega
end
/-- An owned command, taken apart. -/
theorem own_cm {d : Nat} {w : World} {B : Nat} {c : Cm (d + 1)} {cs : List Value} {f : List Nat} (h : Own.own w B c cs f) :
    ∃ f1 f2 x y p1 p2 p3 p4, cs = cmCells c.kind c.a c.b c.test f1 f2 x y ∧ f = (p1 ++ p2) ++ (p3 ++ p4) ∧ (FW2 w B f1 c.inv.1 p1 ∧ FW2 w B f2 c.inv.2 p2) ∧ (OL w B x c.body p3 ∧ OL w B y c.els p4) := by
  obtain ⟨c1, r1, q1, s1, rfl, rfl, ⟨rfl, rfl⟩, c2, r2, q2, s2, rfl, rfl, ⟨rfl, rfl⟩, c3, r3, q3, s3, rfl, rfl, ⟨rfl, rfl⟩, c4, r4, q4, s4, rfl, rfl, h4, c5, r5, q5, s5, rfl, rfl, ⟨f1, f2, p1, p2, rfl, rfl, g1, g2⟩, c6, r6, q6, s6, rfl, rfl, ⟨x, rfl, hx⟩, y, rfl, hy⟩ := h
  have e4 := rd_fact (Own.read h4)
  subst e4
  have e5 : q4 = [] := by
    obtain ⟨_, _, a1, b1, e1, e2, ⟨_, ha⟩, _, _, a2, b2, e3, e4, ⟨_, hb⟩, _, hc⟩ := h4
    rw [e2, ha, e4, hb, hc]; rfl
  subst e5
  exact ⟨f1, f2, x, y, p1, p2, q6, s6, rfl, by simp, ⟨g1, g2⟩, hx, hy⟩
/-- A command's body is the call's own row; what the commands are when it alone is another. -/
theorem openBody_any {d : Nat} {w : World} {B : Nat} {v : Value} {l : List (Cm (d + 1))} (h : OO w B v l) {k : Nat} (hk : k < l.length) :
    ∃ g cap x, v = .slice (some ⟨g, 0, none⟩) l.length cap ∧ (B ≤ g ∧ g < w.heap.size) ∧ (∃ ys, w.ownsRow B 77 10 x (gd l k).body.length ys ∧ ∀ i, i < (gd l k).body.length → Dat.rd w (fun j => B ≤ j ∧ ¬ some j = x.ownBlock ∧ ¬ some j = some g) (gd (gd l k).body i) (nth 10 ys i)) ∧ ¬ some g = x.ownBlock ∧ w.cell? ⟨g, k * 10 + 8, none⟩ = some x ∧ w.frozen? ⟨g, k * 10 + 8, none⟩ = false ∧
      ∀ (w' : World) (x' : Value) (m : List (Cm d)), Fr (fun j => some j = x.ownBlock) w w' → RL w' (fun j => B ≤ j ∧ ¬ some j = some g) x' m →
        w'.cell? ⟨g, k * 10 + 8, none⟩ = some x ∧ w'.frozen? ⟨g, k * 10 + 8, none⟩ = false ∧ RL (w'.setCell ⟨g, k * 10 + 8, none⟩ x') (fun j => B ≤ j) v (l.set k (Cm.mk (gd l k).kind (gd l k).a (gd l k).b (gd l k).test (gd l k).inv m (gd l k).els)) := by
  obtain ⟨fp, ⟨xs, fps, hr, hl, rfl, ho⟩, hn⟩ := h
  have hz : Dat.sz (Cm (d + 1)) = 10 := rfl
  rw [hz] at hr
  obtain ⟨a, cap, rfl, ha⟩ := row_form hr
  obtain ⟨g, rfl⟩ := ha k hk
  have hgl := own_lt hr (k := g) rfl
  rw [List.nodup_append] at hn
  obtain ⟨n1, n2, n3⟩ := hn
  have hgm : g ∈ (Value.slice (some ⟨g, 0, none⟩) l.length cap).ownBlock.toList := by simp [Value.ownBlock]
  have hgf : ∀ i, i < l.length → ¬ g ∈ gd fps i := fun i hi hm => n3 g hgm g (mem_flat (by omega) hm) rfl
  have hok := ho k hk
  rw [hz] at hok
  obtain ⟨f1, f2, x, y, p1, p2, p3, p4, ec, ef, ⟨w1, w2⟩, hx, hy⟩ := own_cm hok
  have hkn : (gd fps k).Nodup := flat_one n2 (by omega)
  rw [ef, List.nodup_append, List.nodup_append, List.nodup_append] at hkn
  obtain ⟨⟨_, _, _⟩, ⟨k3, k4, k34⟩, k12⟩ := hkn
  have hxo : ∀ j, some j = x.ownBlock → j ∈ p3 := fun j hj => by
    obtain ⟨ys, fs, _, _, rfl, _⟩ := hx
    exact List.mem_append_left _ (mem_ownBlock.2 hj)
  have hxk : ∀ j, some j = x.ownBlock → j ∈ gd fps k := fun j hj => by
    rw [ef]; exact List.mem_append_right _ (List.mem_append_left _ (hxo j hj))
  have hcell : ∀ w'' : World, w''.ownsRow B 77 10 (.slice (some ⟨g, 0, none⟩) l.length cap) l.length xs → w''.cell? ⟨g, k * 10 + 8, none⟩ = some x ∧ w''.frozen? ⟨g, k * 10 + 8, none⟩ = false := fun w'' hr => by
    have h8 : (nth 10 xs k)[8]? = some x := by rw [ec]; rfl
    have hx := nth_at h8
    exact ⟨by rw [hr.cellAt _ (by rw [← hr.1]; exact (List.getElem?_eq_some_iff.1 hx).1)]; exact hx, hr.frozenAt _⟩
  have hbody : ∃ ys, w.ownsRow B 77 10 x (gd l k).body.length ys ∧ ∀ i, i < (gd l k).body.length → Dat.rd w (fun j => B ≤ j ∧ ¬ some j = x.ownBlock ∧ ¬ some j = some g) (gd (gd l k).body i) (nth 10 ys i) := by
    obtain ⟨ys, fs, hry, hly, ep, hoy⟩ := hx
    have hzd : Dat.sz (Cm d) = 10 := sz_cm d
    rw [hzd] at hry
    refine ⟨ys, hry, fun i hi => ?_⟩
    have hoi := hoy i hi
    have hrd := Own.read hoi
    rw [hzd] at hrd
    refine Dat.more hrd fun j _ hj => ⟨(Own.lt hoi j hj).1, fun e => ?_, fun e => ?_⟩
    · rw [ep, List.nodup_append] at k3
      exact k3.2.2 j (mem_ownBlock.2 e) j (mem_flat (by omega) hj) rfl
    · injection e with e
      subst e
      exact hgf k hk (by rw [ef, ep]; exact List.mem_append_right _ (List.mem_append_left _ (List.mem_append_right _ (mem_flat (by omega) hj))))
  refine ⟨g, cap, x, rfl, hgl, hbody, fun e => hgf k hk (hxk g e), (hcell w hr).1, (hcell w hr).2, fun w' x' m hf hm => ?_⟩
  have hr' := own_kept hr hf (fun j hj hjx => by
    have : j = g := by simpa [Value.ownBlock] using hj
    subst this; exact hgf k hk (hxk j hjx))
  refine ⟨(hcell w' hr').1, (hcell w' hr').2, ?_⟩
  have hF := fr_set w' ⟨g, k * 10 + 8, none⟩ x'
  have hln : xs.length = l.length * 10 := hr.1
  have hle : (k + 1) * 10 ≤ xs.length := by rw [hln]; exact Nat.mul_le_mul_right _ hk
  have huc : UC (w'.setCell ⟨g, k * 10 + 8, none⟩ x') B (.slice (some ⟨g, 0, none⟩) (l.set k (Cm.mk (gd l k).kind (gd l k).a (gd l k).b (gd l k).test (gd l k).inv m (gd l k).els)).length cap) (l.set k (Cm.mk (gd l k).kind (gd l k).a (gd l k).b (gd l k).test (gd l k).inv m (gd l k).els)) := by
    refine ⟨xs.set (k * 10 + 8) x', by rw [List.length_set]; exact (hr'.stored (k * 10 + 8) x').1, fun i hi => ?_⟩
    rw [List.length_set] at hi
    rw [nth_setC x' (by decide) hle, gd_set hk]
    have hmv : ∀ {y : Cm (d + 1)} {cs : List Value}, Dat.rd w' (fun j => B ≤ j ∧ ¬ some j = some g) y cs → Dat.rd (w'.setCell ⟨g, k * 10 + 8, none⟩ x') (fun j => B ≤ j ∧ ¬ some j = some g) y cs := fun {y cs} h => Dat.kept h hF fun i _ hi e => hi.2 (by have e2 : i = g := e; rw [e2])
    by_cases e : i = k
    · subst e
      rw [if_pos rfl, if_pos rfl, ec]
      refine hmv ?_
      have hsub : ∀ (p : List Nat), (∀ j ∈ p, j ∈ gd fps i) → (∀ j ∈ p, ∀ b ∈ p3, j ≠ b) → (∀ j ∈ p, B ≤ j) → ∀ {α : Type} [Dat α] {u : Value} {n : List α}, RL w (· ∈ p) u n → RL w' (fun j => B ≤ j ∧ ¬ some j = some g) u n := fun p h1 h2 h3 {α _ u n} h =>
        (h.kept hf fun j _ hj e => h2 j hj j (hxo j e) rfl).more fun j _ hj => ⟨h3 j hj, fun e => by
          injection e with e; subst e; exact hgf i hk (h1 j hj)⟩
      have m1 : ∀ j ∈ p1, j ∈ gd fps i := fun j hj => by rw [ef]; exact List.mem_append_left _ (List.mem_append_left _ hj)
      have m2 : ∀ j ∈ p2, j ∈ gd fps i := fun j hj => by rw [ef]; exact List.mem_append_left _ (List.mem_append_right _ hj)
      have m4 : ∀ j ∈ p4, j ∈ gd fps i := fun j hj => by rw [ef]; exact List.mem_append_right _ (List.mem_append_right _ hj)
      exact rd_cm_mk (c := Cm.mk (gd l i).kind (gd l i).a (gd l i).b (gd l i).test (gd l i).inv m (gd l i).els)
        (hsub p1 m1 (fun j hj b hb => k12 j (List.mem_append_left _ hj) b (List.mem_append_left _ hb)) (fun j hj => (w1.lt j hj).1) w1.read)
        (hsub p2 m2 (fun j hj b hb => k12 j (List.mem_append_right _ hj) b (List.mem_append_left _ hb)) (fun j hj => (w2.lt j hj).1) w2.read)
        hm (hsub p4 m4 (fun j hj b hb e => k34 b hb j hj e.symm) (fun j hj => (hy.lt j hj).1) hy.read)
    · rw [if_neg e, if_neg e]
      have hoi := ho i hi
      rw [hz] at hoi
      exact hmv (Dat.more (Dat.kept (Own.read hoi) hf fun j _ hj hm => flat_get n2 (by omega) (by omega) e hj (hxk j hm)) fun j _ hj => ⟨(Own.lt hoi j hj).1, fun e => by
        injection e with e; subst e; exact hgf i hi hj⟩)
  have hrl := huc.rl
  rwa [List.length_set] at hrl
/-- A row of the call's own reads. -/
theorem rl_row {d : Nat} {w : World} {B : Nat} {S : Nat → Prop} {v : Value} {m : List (Cm d)} {xs : List Value} (hr : w.ownsRow B 77 10 v m.length xs) (hS : ∀ j, some j = v.ownBlock → S j) (hx : ∀ i, i < m.length → Dat.rd w S (gd m i) (nth 10 xs i)) : RL w S v m := by
  have hcells := own_rsl hr
  rcases hcells with ⟨a, cap, rfl, h0, h1, h2⟩ | ⟨b, o, cap, rfl, h1, h2, h3⟩
  · exact .inl ⟨a, cap, rfl, List.eq_nil_of_length_eq_zero h0, h1, h2⟩
  · refine .inr ⟨b, o, cap, rfl, h1, h2, fun hp => ⟨hS b rfl, (own_lt hr rfl).2⟩, fun i hi => ⟨_, hx i hi, fun j u hj => ?_⟩⟩
    have hj' := nth_at hj
    have hlen : i * 10 + j < xs.length := (List.getElem?_eq_some_iff.1 hj').1
    have := h3 (i * 10 + j) (by rw [← hr.1]; exact hlen)
    rw [sz_cm, this]
    simp [hj']
theorem row_ten {w : World} {B g N cap m : Nat} {xs : List Value} {z0 z1 z2 z3 z4 z5 z6 z7 z8 z9 : Value} (h : w.ownsRow B 77 10 (.slice (some ⟨g, 0, none⟩) N cap) N (xs ++ [z0, z1, z2, z3, z4, z5, z6, z7, z8, z9])) (hx : xs.length = m) (x0 x1 x2 x3 x4 x5 x6 x7 x8 x9 : Value) :
    ((((((((((w.setCell ⟨g, m, none⟩ x0).setCell ⟨g, m + 1, none⟩ x1).setCell ⟨g, m + 2, none⟩ x2).setCell ⟨g, m + 3, none⟩ x3).setCell ⟨g, m + 4, none⟩ x4).setCell ⟨g, m + 5, none⟩ x5).setCell ⟨g, m + 6, none⟩ x6).setCell ⟨g, m + 7, none⟩ x7).setCell ⟨g, m + 8, none⟩ x8).setCell ⟨g, m + 9, none⟩ x9).ownsRow B 77 10 (.slice (some ⟨g, 0, none⟩) N cap) N (xs ++ [x0, x1, x2, x3, x4, x5, x6, x7, x8, x9]) := by
  subst hx
  have st : ∀ {W : World} {zs : List Value} (j : Nat) (u : Value), W.ownsRow B 77 10 (.slice (some ⟨g, 0, none⟩) N cap) N (xs ++ zs) → (W.setCell ⟨g, xs.length + j, none⟩ u).ownsRow B 77 10 (.slice (some ⟨g, 0, none⟩) N cap) N (xs ++ zs.set j u) := fun {W zs} j u h => by
    have h1 := (h.stored (xs.length + j) u).1
    rw [List.set_append, if_neg (show ¬ xs.length + j < xs.length by omega), Nat.add_sub_cancel_left] at h1
    exact h1
  exact st 9 x9 (st 8 x8 (st 7 x7 (st 6 x6 (st 5 x5 (st 4 x4 (st 3 x3 (st 2 x2 (st 1 x1 (st 0 x0 h)))))))))
theorem fr_tenM (w : World) (R m : Nat) (x0 x1 x2 x3 x4 x5 x6 x7 x8 x9 : Value) : Fr (fun j => j = R) w ((((((((((w.setCell ⟨R, m, none⟩ x0).setCell ⟨R, m + 1, none⟩ x1).setCell ⟨R, m + 2, none⟩ x2).setCell ⟨R, m + 3, none⟩ x3).setCell ⟨R, m + 4, none⟩ x4).setCell ⟨R, m + 5, none⟩ x5).setCell ⟨R, m + 6, none⟩ x6).setCell ⟨R, m + 7, none⟩ x7).setCell ⟨R, m + 8, none⟩ x8).setCell ⟨R, m + 9, none⟩ x9) := by
  have h : ∀ (w : World) (o : Nat) (v : Value), Fr (fun j => j = R) w (w.setCell ⟨R, o, none⟩ v) := fun w o v => fr_set w ⟨R, o, none⟩ v
  exact (((((((((h _ _ _).trans (h _ _ _)).trans (h _ _ _)).trans (h _ _ _)).trans (h _ _ _)).trans (h _ _ _)).trans (h _ _ _)).trans (h _ _ _)).trans (h _ _ _)).trans (h _ _ _)
theorem set_comm (w : World) (a b : Addr) (u v : Value) (h : ¬ a.block = b.block) : (w.setCell a u).setCell b v = (w.setCell b v).setCell a u := by
  unfold World.setCell
  simp only
  congr 1
  refine Array.ext (by simp) fun i h1 h2 => ?_
  simp only [Array.getElem_modify]
  by_cases ha : a.block = i
  · have hb : ¬ b.block = i := fun e => h (ha.trans e.symm)
    rw [if_neg hb, if_pos ha, if_pos ha, if_neg hb]
  · rw [if_neg ha, if_neg ha]
theorem cells_new {w : World} {B g N cap n : Nat} {xs cs : List Value} (h : w.ownsRow B 77 10 (.slice (some ⟨g, 0, none⟩) N cap) N (xs ++ cs)) (hx : xs.length = n * 10) (hN : N = n + 1) : ∀ j u, cs[j]? = some u → w.cell? ⟨g, n * 10 + j, none⟩ = some u := fun j u hj => by
  have hl := h.1
  have hj' := (List.getElem?_eq_some_iff.1 hj).1
  rw [List.length_append] at hl
  rw [h.cellAt _ (by rw [hN] at hl; omega), List.getElem?_append_right (by omega), hx, Nat.add_sub_cancel_left]; exact hj
theorem sz_body {d : Nat} {l : List (Cm (d + 1))} {k : Nat} {m : List (Cm d)} (hk : k < l.length) (hm : szC d m = szC d (gd l k).body + 1) :
    szC (d + 1) (l.set k (Cm.mk (gd l k).kind (gd l k).a (gd l k).b (gd l k).test (gd l k).inv m (gd l k).els)) ≤ szC (d + 1) l + 17 := by
  have h : szC (d + 1) (l.set k (Cm.mk (gd l k).kind (gd l k).a (gd l k).b (gd l k).test (gd l k).inv m (gd l k).els)) + (1 + szC d (gd l k).body + szC d (gd l k).els) = szC (d + 1) l + (1 + szC d m + szC d (gd l k).els) := sz_set _ hk
  rw [hm] at h
  generalize szC (d + 1) (l.set k (Cm.mk (gd l k).kind (gd l k).a (gd l k).b (gd l k).test (gd l k).inv m (gd l k).els)) = A at h ⊢
  generalize szC (d + 1) l = L at h ⊢
  generalize szC d (gd l k).body = b at h
  generalize szC d (gd l k).els = c at h
  omega
/-- What a change leaves. -/
def MutRes {e : Nat} (g q : Nat) (l : List (Cm (e + 2))) (w : World) (E : Ending) (w' : World) : Prop :=
  ∃ (v' : Value) (l' : List (Cm (e + 2))), E = .returned v' ∧ RL w' (fun k => w.heap.size ≤ k) v' l' ∧ szC (e + 2) l' ≤ szC (e + 2) l + 17 ∧ Rdr w' g (q + 3) ∧ Fr (fun j => j = g) w w'
set_option maxRecDepth 100000 in
set_option maxHeartbeats 12800000 in
theorem l8MutateD {e : Nat} {S : Nat → Prop} (g q : Nat) (v : Value) (l : List (Cm (e + 2))) (w : World) (hr : Rdr w g q) (hq : q ≤ 900000) (h : RL w S v l) (hf : FewC (e + 2) l) :
    Calls Tryz.prog 20 #[.pointer (some ⟨g, 0, none⟩), v] w (MutRes g q l w) := by
  obtain ⟨a, cap, rfl⟩ := h.form
  have hgl := hr.lt
  have HR := Lib.hid (And.intro h hf)
  have hl2 : l.length ≤ 2000 := hf.1
  clear h hf
  go_enter Tryz.func20, Tryz.ntmps20
  go_wp2_with fail
  refine (l8Copy_any (e + 2) _ l _ HR.out.1 HR.out.2).mono ?_
  rintro E w2 ⟨v', rfl, hoo, hb2⟩
  by_cases h0 : l.length = 0
  · obtain ⟨va, vc, rfl⟩ := hoo.form
    have HE := Lib.hid (And.intro hoo.read (And.intro ((hr.keep hb2).more (q' := q + 3) (by omega)) ((Below.fr hb2).mono (S' := fun j => j = g) fun _ _ h => h.elim)))
    clear hoo hb2 hr
    go_wp2
    go_ret
    exact ⟨.slice va 0 vc, l, rfl, by have h := HE.out.1; rwa [h0] at h, by omega, HE.out.2.1, HE.out.2.2⟩
  · obtain ⟨g1, cp, rfl⟩ := own_slice hoo.uc (by omega)
    have hr2 := hr.keep hb2
    have HF2 := Lib.hid ((Below.fr hb2).mono (S' := fun j => j = g) fun _ _ h => h.elim)
    have HO2 := Lib.hid hoo
    have hz2 := hb2.size
    clear hr hoo hb2
    go_wp2_with fail
    refine (pick_any g q _ _ hr2 (by omega) (by omega) (by omega)).mono ?_
    rintro E w3 ⟨k, rfl, hk, hr3, hf3⟩
    have hk8 : k < l.length := by omega
    have hz3 := hf3.size
    go_wp2_with fail
    refine (pick_any g (q + 1) 50 _ hr3 (by omega) (by decide) (by decide)).mono ?_
    rintro E w4 ⟨m, rfl, hm, hr4, hf4⟩
    have hz4 := hf4.size
    have HF4 := Lib.hid ((HF2.out.trans hf3).trans hf4)
    have HO4 := Lib.hid ((HO2.out.kept hf3 (fun j h1 _ e => by have e2 : j = g := e; omega)).kept hf4 (fun j h1 _ e => by have e2 : j = g := e; omega))
    have hmm : m < 50 := by omega
    clear hr2 hf3 hr3 hf4 hm
    by_cases m0 : m = 0
    · subst m0
      have HLIT := Lib.hid (lit_ints w4 [0, 8, 1, 6, 7] (by decide))
      go_wp2_with fail
      refine (num_any g (q + 1 + 1) _ [0, 8, 1, 6, 7] _ (hr4.keep (below_alloc _ _)) HLIT.out (by omega) (by decide) (by decide) (fun k hk e => by simp [Value.ownBlock] at hk; omega)).mono ?_
      rintro E w5 ⟨N, _, rfl, hr5, hf5⟩
      have huc := ((HO4.out.keep (below_alloc w4 (.cells (ints [0, 8, 1, 6, 7]).toArray 3))).kept hf5 (fun j h1 _ e => by have e2 : j = g := e; omega)).uc
      obtain ⟨⟨hg1, hg2⟩, f1, f2, x, y, hcc, hzz, _, _⟩ := huc.at hk8
      have p0 : w5.cell? ⟨g1, k * 10, none⟩ = some (.int .i64 (gd l k).kind) := hcc 0 _ rfl
      have z0 := hzz (k * 10)
      have hF5 := (HF4.out.thenB (below_alloc w4 (.cells (ints [0, 8, 1, 6, 7]).toArray 3))).trans hf5
      have hset := fr_set w5 ⟨g1, k * 10, none⟩ (.int .i64 N)
      have HX := Lib.hid (And.intro (huc.putKind hk8 N).rl (And.intro (hr5.kept hset (fun i hi e => by have e2 : i = g1 := e; omega)) (hF5.then hset (fun i hi e => by have e2 : i = g1 := e; omega))))
      clear huc hcc hzz hr4 hr5 hf5 hF5 hset
      go_wp2
      go_ret
      exact ⟨_, _, by rw [List.length_set]; rfl, HX.out.1, Nat.le_trans (sz_same hk8 (Nat.le_refl _) (Nat.le_refl _)) (Nat.le_add_right _ _), HX.out.2.1, HX.out.2.2⟩
    by_cases m1 : m = 1
    · subst m1
      have HLIT := Lib.hid (lit_ints w4 [0, 5, 9, -1] (by decide))
      go_wp2_with fail
      refine (num_any g (q + 1 + 1) _ [0, 5, 9, -1] _ (hr4.keep (below_alloc _ _)) HLIT.out (by omega) (by decide) (by decide) (fun k hk e => by simp [Value.ownBlock] at hk; omega)).mono ?_
      rintro E w5 ⟨N, _, rfl, hr5, hf5⟩
      have huc := ((HO4.out.keep (below_alloc w4 (.cells (ints [0, 5, 9, -1]).toArray 3))).kept hf5 (fun j h1 _ e => by have e2 : j = g := e; omega)).uc
      obtain ⟨⟨hg1, hg2⟩, f1, f2, x, y, hcc, hzz, _, _⟩ := huc.at hk8
      have p0 : w5.cell? ⟨g1, k * 10 + 1, none⟩ = some (.int .i64 (gd l k).a) := hcc 1 _ rfl
      have z0 := hzz (k * 10 + 1)
      have hF5 := (HF4.out.thenB (below_alloc w4 (.cells (ints [0, 5, 9, -1]).toArray 3))).trans hf5
      have hset := fr_set w5 ⟨g1, k * 10 + 1, none⟩ (.int .i64 N)
      have HX := Lib.hid (And.intro (huc.putA hk8 N).rl (And.intro (hr5.kept hset (fun i hi e => by have e2 : i = g1 := e; omega)) (hF5.then hset (fun i hi e => by have e2 : i = g1 := e; omega))))
      have y0 : ((1 : Nat) : Int) = 1 := rfl
      clear huc hcc hzz hr4 hr5 hf5 hF5 hset
      go_wp2
      go_ret
      exact ⟨_, _, by rw [List.length_set]; rfl, HX.out.1, Nat.le_trans (sz_same hk8 (Nat.le_refl _) (Nat.le_refl _)) (Nat.le_add_right _ _), HX.out.2.1, HX.out.2.2⟩
    by_cases m2 : m = 2
    · subst m2
      have HLIT := Lib.hid (lit_ints w4 [1, 9] (by decide))
      go_wp2_with fail
      refine (num_any g (q + 1 + 1) _ [1, 9] _ (hr4.keep (below_alloc _ _)) HLIT.out (by omega) (by decide) (by decide) (fun k hk e => by simp [Value.ownBlock] at hk; omega)).mono ?_
      rintro E w5 ⟨N, _, rfl, hr5, hf5⟩
      have huc := ((HO4.out.keep (below_alloc w4 (.cells (ints [1, 9]).toArray 3))).kept hf5 (fun j h1 _ e => by have e2 : j = g := e; omega)).uc
      obtain ⟨⟨hg1, hg2⟩, f1, f2, x, y, hcc, hzz, _, _⟩ := huc.at hk8
      have p3 : w5.cell? ⟨g1, k * 10 + 3, none⟩ = some (.bool (gd l k).test.1) := hcc 3 _ rfl
      have p4 : w5.cell? ⟨g1, k * 10 + 4, none⟩ = some (.int .i64 (gd l k).test.2.1) := hcc 4 _ rfl
      have p5 : w5.cell? ⟨g1, k * 10 + 5, none⟩ = some (.int .i64 (gd l k).test.2.2) := hcc 5 _ rfl
      have z3 := hzz (k * 10 + 3)
      have z4 := hzz (k * 10 + 4)
      have z5 := hzz (k * 10 + 5)
      have hF5 := (HF4.out.thenB (below_alloc w4 (.cells (ints [1, 9]).toArray 3))).trans hf5
      have hset := ((fr_set w5 ⟨g1, k * 10 + 3, none⟩ (.bool false)).trans (fr_set _ ⟨g1, k * 10 + 4, none⟩ (.int .i64 N))).trans (fr_set _ ⟨g1, k * 10 + 5, none⟩ (.int .i64 2))
      have HX := Lib.hid (And.intro (huc.putTest hk8 (false, N, 2)).rl (And.intro (hr5.kept hset (fun i hi e => by have e2 : i = g1 := e; omega)) (hF5.then hset (fun i hi e => by have e2 : i = g1 := e; omega))))
      clear huc hcc hzz hr4 hr5 hf5 hF5 hset
      go_wp2
      go_ret
      exact ⟨_, _, by rw [List.length_set]; rfl, HX.out.1, Nat.le_trans (sz_same hk8 (Nat.le_refl _) (Nat.le_refl _)) (Nat.le_add_right _ _), HX.out.2.1, HX.out.2.2⟩
    have y0 : ((m : Int) == 0) = false := beq_eq_false_iff_ne.2 (by omega)
    have y1 : ((m : Int) == 1) = false := beq_eq_false_iff_ne.2 (by omega)
    have y2 : ((m : Int) == 2) = false := beq_eq_false_iff_ne.2 (by omega)
    by_cases m3 : m = 3
    · subst m3
      have HU0 := Lib.hid HO4.out.uc
      have HRF := Lib.hid (And.intro (hr4.more (q' := q + 3) (by omega)) HF4.out)
      clear hr4
      go_wp2
      go_loopg [5] (17 - l.length) (fun z vo wr => ∃ L : List (Cm (e + 2)), z ≤ 17 - l.length ∧ L.length + z = l.length + (17 - l.length) ∧ szC (e + 2) L + z = szC (e + 2) l + (17 - l.length) ∧ UC wr w.heap.size vo L ∧ Rdr wr g (q + 3) ∧ Fr (fun j => j = g) w wr)
      case atStart => exact ⟨l, Nat.le_refl _, rfl, rfl, HU0.out, HRF.out.1, HRF.out.2⟩
      case round =>
        obtain ⟨L, hz1, hz2, hz3, huc, hr5, hF5⟩ := hrel
        obtain ⟨va, vc, rfl⟩ := huc.form
        have HZ := Lib.hid (And.intro hz1 (And.intro hz2 hz3))
        have hs := hF5.size
        have hL2 : L.length ≤ 2017 := by omega
        clear hz1 hz2 hz3
        by_cases hL : L.length ≤ 16
        · have i1 : ((L.length : Nat) : Int) ≤ 16 := by omega
          obtain ⟨xs, hrow, hxs⟩ := huc
          have HX := Lib.hid hxs
          have HRW := Lib.hid hrow
          have HFG := Lib.hid (And.intro hF5 hr5)
          have hnews := news_cm wr 4 1 0 zeroF (.slice none 0 0) (.slice none 0 0) (.slice none 0 0) (.slice none 0 0) 77
          have HNW := Lib.hid hnews
          clear hxs hrow hF5 hr5 hnews
          go_wp2_with (at_builtin; go_must (refine app_C rfl (.tmp 52) (.tmp 54) rfl rfl (own_keep HRW.out (below_alloc _ _)) rfl (by rfl) HNW.out (one_cm _ _ _ zeroF _ _ _ _ _ _ _ _ _ _ _ _) (by omega) (by simp; omega) ?_; intro v' w7 hr7 hf7 hl7; obtain ⟨za, zc, rfl⟩ := own_formG hr7))
          have hbA := below_alloc wr (.cells #[.int .i64 4, .int .i64 1, .int .i64 0, .bool false, .int .i64 0, .int .i64 0, .slice none 0 0, .slice none 0 0, .slice none 0 0, .slice none 0 0] 77)
          have hob := own_keep HRW.out hbA
          have hx : Dat.rd (wr.alloc (.cells #[.int .i64 4, .int .i64 1, .int .i64 0, .bool false, .int .i64 0, .int .i64 0, .slice none 0 0, .slice none 0 0, .slice none 0 0, .slice none 0 0] 77)) (fun j => w.heap.size ≤ j ∧ ¬ some j = (Value.slice va L.length vc).ownBlock) (Cm.mk 4 1 0 zeroF (([], []) : Asn) ([] : List (Cm (e + 1))) []) (cmCells 4 1 0 zeroF (.slice none 0 0) (.slice none 0 0) (.slice none 0 0) (.slice none 0 0)) := rd_cm_mk (c := Cm.mk 4 1 0 zeroF (([], []) : Asn) ([] : List (Cm (e + 1))) []) (rl_nil _ _) (rl_nil _ _) (rl_nil _ _) (rl_nil _ _)
          have hxk : ∀ (k : Nat) (hk : k < L.length), _ := fun (k : Nat) (hk : k < L.length) => Dat.kept (HX.out k hk) (Below.fr hbA) fun _ _ _ h => h
          have huc7 := UC.snoc (x := Cm.mk 4 1 0 zeroF (([], []) : Asn) ([] : List (Cm (e + 1))) []) hob hxk hr7 hf7 hl7 hx
          have hF7 := (HFG.out.1.thenB hbA).then hf7 (fun i hi e => absurd (own_lt HRW.out e).1 (by omega))
          have hr7b := (HFG.out.2.keep hbA).kept hf7 (fun i hi e => absurd (own_lt HRW.out e).1 (by omega))
          have H7 := Lib.hid (And.intro huc7 (And.intro hF7 hr7b))
          clear hr7 hf7 hl7 huc7 hF7 hr7b hob hx hxk hbA
          go_wp2
          go_roundg (gk - 1)
          case rel => exact ⟨L ++ [Cm.mk 4 1 0 zeroF (([], []) : Asn) ([] : List (Cm (e + 1))) []], by have := HZ.out.1; omega, by rw [List.length_append, List.length_singleton]; have := HZ.out; omega, by
            rw [sz_app, sz_one, sz_nil]
            show szC (e + 2) L + (1 + szC (e + 1) ([] : List (Cm (e + 1))) + szC (e + 1) ([] : List (Cm (e + 1))) + 0) + (gk - 1) = _
            rw [sz_nil]; have := HZ.out; omega, H7.out.1, H7.out.2.2, H7.out.2.1⟩
          case measure => have := HZ.out; omega
        · have i1 : ¬ ((L.length : Nat) : Int) ≤ 16 := by omega
          have HE := Lib.hid (And.intro huc.rl (And.intro hr5 hF5))
          clear huc hr5 hF5
          go_wp2
          go_ret
          exact ⟨.slice va L.length vc, L, rfl, HE.out.1, by have := HZ.out; omega, HE.out.2.1, HE.out.2.2⟩
    have y3 : ((m : Int) == 3) = false := beq_eq_false_iff_ne.2 (by omega)
    by_cases m4 : m = 4
    · subst m4
      obtain ⟨g1', cp', x, e1, ⟨hg1, hg2⟩, hub, hgx, hc8, hz8, hclose⟩ := openBody_any HO4.out hk8
      obtain ⟨rfl, rfl⟩ : g1 = g1' ∧ cp = cp' := by
        injection e1 with e1 e2 e3
        injection e1 with e1
        injection e1 with e1
        exact ⟨e1, e3⟩
      obtain ⟨xs, hrow, hxs⟩ := hub
      obtain ⟨xa, xn, rfl⟩ := own_formG hrow
      have HX := Lib.hid hxs
      have HRW := Lib.hid hrow
      have HCL := Lib.hid hclose
      have hbl : (gd l k).body.length ≤ 2000 := (HR.out.2.2 _ (gd_mem hk8)).2.1.1
      have hxl : xs.length = (gd l k).body.length * 10 := hrow.1
      obtain ⟨n, hn⟩ : ∃ n, (gd l k).body.length = n := ⟨_, rfl⟩
      have HN := Lib.hid hn
      rw [hn] at hbl hxl hrow HRW hc8
      have HXL := Lib.hid hxl
      clear hxs hclose e1 hn hxl
      have iN : (n : Int) < (n : Int) + 1 := by omega
      go_upto_region 16 with fail
      go_region_law (refine step_C rfl (.tmp 62) (.tmp 65) rfl rfl (own_keep HRW.out Bl) rfl (by rfl) (news_cm _ 0 0 0 zeroF (.slice none 0 0) (.slice none 0 0) (.slice none 0 0) (.slice none 0 0) _) (one_cm _ _ _ zeroF _ _ _ _ _ _ _ _ _ _ _ _) (by omega) (by simp; omega) ?_; intro v' w7 hr7 hf7 hl7; obtain ⟨g2, c2, rfl, hga, hgb⟩ := hr7.form (Nat.succ_pos _); have hfA : Fr (fun j => some j = (Value.slice xa n xn).ownBlock) w4 w7 := ((Below.fr Bl).mono (S' := fun j => some j = (Value.slice xa n xn).ownBlock) (fun _ _ h => h.elim)).trans hf7; have cc := cells_new hr7 HXL.out rfl; have s0 : w7.cell? ⟨g2, n * 10, none⟩ = some (.int .i64 0) := cc 0 _ rfl; have s1 := cc 1 _ rfl; have s2 := cc 2 _ rfl; have s3 := cc 3 _ rfl; have s4 := cc 4 _ rfl; have s5 := cc 5 _ rfl; have s6 := cc 6 _ rfl; have s7 := cc 7 _ rfl; have s8 := cc 8 _ rfl; have s9 := cc 9 _ rfl; have t0 := hr7.frozenAt (n * 10); have t1 := hr7.frozenAt (n * 10 + 1); have t2 := hr7.frozenAt (n * 10 + 2); have t3 := hr7.frozenAt (n * 10 + 3); have t4 := hr7.frozenAt (n * 10 + 4); have t5 := hr7.frozenAt (n * 10 + 5); have t6 := hr7.frozenAt (n * 10 + 6); have t7 := hr7.frozenAt (n * 10 + 7); have t8 := hr7.frozenAt (n * 10 + 8); have t9 := hr7.frozenAt (n * 10 + 9); have hcl8 := HCL.out w7 (.slice none 0 0) [] (by rw [HN.out]; exact hfA) (rl_nil _ _); have p8 : w7.cell? ⟨g1, k * 10 + 8, none⟩ = some (.slice xa n xn) := (by have h := hcl8.1; rwa [HN.out] at h); have q8 := hcl8.2.1; have hg12 : ¬ g1 = g2 := (fun e => hl7.elim (fun h => hgx (by rw [HN.out, e]; exact h)) (fun h => (by have h2 := Option.some.inj h; first | (simp at h2; omega) | (simp at h2)))); have hg21 : ¬ g2 = g1 := fun e => hg12 e.symm; have H7 := Lib.hid (And.intro hr7 (And.intro hfA hl7)); clear hr7 hf7 hl7 cc hcl8 hfA)
      all_goals
        have hr8 := row_ten H7.out.1 HXL.out (.int .i64 5) (.int .i64 1) (.int .i64 0) (.bool false) (.int .i64 0) (.int .i64 0) (.slice none 0 0) (.slice none 0 0) (.slice none 0 0) (.slice none 0 0)
        have hF8 := H7.out.2.1.then (fr_tenM w7 g2 (n * 10) (.int .i64 5) (.int .i64 1) (.int .i64 0) (.bool false) (.int .i64 0) (.int .i64 0) (.slice none 0 0) (.slice none 0 0) (.slice none 0 0) (.slice none 0 0)) (fun i hi e => by
          have e2 : i = g2 := e
          rcases H7.out.2.2 with h | h
          · rw [e2]; exact h
          · have h2 : g2 = _ := Option.some.inj h
            simp at h2; omega)
        have hsw : ∀ (w : World) (o p : Nat) (u v : Value), (w.setCell ⟨g1, o, none⟩ u).setCell ⟨g2, p, none⟩ v = (w.setCell ⟨g2, p, none⟩ v).setCell ⟨g1, o, none⟩ u := fun w o p u v => set_comm w _ _ u v hg12
        try simp only [hsw]
        clear hsw
        obtain ⟨W8, hW8⟩ : ∃ W, ((((((((((w7.setCell ⟨g2, n * 10, none⟩ (.int .i64 5)).setCell ⟨g2, n * 10 + 1, none⟩ (.int .i64 1)).setCell ⟨g2, n * 10 + 2, none⟩ (.int .i64 0)).setCell ⟨g2, n * 10 + 3, none⟩ (.bool false)).setCell ⟨g2, n * 10 + 4, none⟩ (.int .i64 0)).setCell ⟨g2, n * 10 + 5, none⟩ (.int .i64 0)).setCell ⟨g2, n * 10 + 6, none⟩ (.slice none 0 0)).setCell ⟨g2, n * 10 + 7, none⟩ (.slice none 0 0)).setCell ⟨g2, n * 10 + 8, none⟩ (.slice none 0 0)).setCell ⟨g2, n * 10 + 9, none⟩ (.slice none 0 0)) = W := ⟨_, rfl⟩
        rw [hW8] at hr8 hF8 ⊢
        clear hW8
        have hlb : ((gd l k).body ++ [Cm.mk 5 1 0 zeroF (([], []) : Asn) ([] : List (Cm e)) []]).length = n + 1 := by rw [List.length_append, List.length_singleton, HN.out]
        have hrl : RL W8 (fun j => w.heap.size ≤ j ∧ ¬ some j = some g1) (.slice (some ⟨g2, 0, none⟩) (n + 1) c2) ((gd l k).body ++ [Cm.mk 5 1 0 zeroF (([], []) : Asn) ([] : List (Cm e)) []]) := by
          refine rl_row (by rw [hlb]; exact hr8) (fun j hj => ?_) (fun i hi => ?_)
          · have h2 : j = g2 := Option.some.inj hj
            exact ⟨by rw [h2]; exact hga, fun e => hg21 (by rw [← h2]; exact Option.some.inj e)⟩
          · rw [hlb] at hi
            by_cases hlt : i < n
            · rw [gd_app1 (by rw [HN.out]; exact hlt), nth_app1 HXL.out hlt]
              exact Dat.more (Dat.kept (HX.out i (by rw [HN.out]; exact hlt)) hF8 fun j _ hj e => hj.2.1 (by rw [HN.out]; exact e)) fun j _ hj => ⟨hj.1, hj.2.2⟩
            · obtain rfl : i = n := by omega
              have e1 : gd ((gd l k).body ++ [Cm.mk 5 1 0 zeroF (([], []) : Asn) ([] : List (Cm e)) []]) i = Cm.mk 5 1 0 zeroF (([], []) : Asn) ([] : List (Cm e)) [] := by
                have := gd_snoc (l := (gd l k).body) (x := Cm.mk 5 1 0 zeroF (([], []) : Asn) ([] : List (Cm e)) [])
                rwa [HN.out] at this
              rw [e1, nth_app2 HXL.out rfl]
              exact rd_cm_mk (c := Cm.mk 5 1 0 zeroF (([], []) : Asn) ([] : List (Cm e)) []) (rl_nil _ _) (rl_nil _ _) (rl_nil _ _) (rl_nil _ _)
        obtain ⟨_, _, hfin⟩ := HCL.out W8 (.slice (some ⟨g2, 0, none⟩) (n + 1) c2) _ (by rw [HN.out]; exact hF8) hrl
        have hset := fr_set W8 ⟨g1, k * 10 + 8, none⟩ (.slice (some ⟨g2, 0, none⟩) (n + 1) c2)
        have hxo : ∀ j, some j = (Value.slice xa n xn).ownBlock → w.heap.size ≤ j := fun j hj => (own_lt HRW.out hj).1
        have hr9 := ((hr4.more (q' := q + 3) (by omega)).kept hF8 (fun i hi e => by have := hxo i e; omega)).kept hset (fun i hi e => by have e2 : i = g1 := e; omega)
        have hF9 := (HF4.out.then hF8 (fun i hi e => by have := hxo i e; omega)).then hset (fun i hi e => by have e2 : i = g1 := e; omega)
        have hszb : szC (e + 1) ((gd l k).body ++ [Cm.mk 5 1 0 zeroF (([], []) : Asn) ([] : List (Cm e)) []]) = szC (e + 1) (gd l k).body + 1 := by
          rw [sz_app, sz_one]
          show szC (e + 1) (gd l k).body + (1 + szC e ([] : List (Cm e)) + szC e ([] : List (Cm e)) + 0) = _
          rw [sz_nil]
        have HE := Lib.hid (And.intro hfin (And.intro hr9 (And.intro hF9 (sz_body hk8 hszb))))
        clear hfin hset hr9 hF9 hr8 hF8 hrl hszb hlb hr4 s0 s1 s2 s3 s4 s5 s6 s7 s8 s9 t0 t1 t2 t3 t4 t5 t6 t7 t8 t9 p8 q8
        go_wp2
        go_ret
        exact ⟨.slice (some ⟨g1, 0, none⟩) l.length cp, _, rfl, HE.out.1, HE.out.2.2.2, HE.out.2.1, HE.out.2.2.1⟩
    have y4 : ((m : Int) == 4) = false := beq_eq_false_iff_ne.2 (by omega)
    have HX := Lib.hid (And.intro HO4.out.read (And.intro (hr4.more (q' := q + 3) (by omega)) HF4.out))
    clear hr4
    go_wp2
    go_ret
    exact ⟨_, l, rfl, HX.out.1, by omega, HX.out.2.1, HX.out.2.2⟩
/-- Any commands, changed. -/
def MutAny {d : Nat} (g q : Nat) (l : List (Cm d)) (w : World) (E : Ending) (w' : World) : Prop :=
  ∃ (d' : Nat) (v' : Value) (l' : List (Cm d')), E = .returned v' ∧ d' ≤ d + 2 ∧ RL w' (fun k => w.heap.size ≤ k) v' l' ∧ szC d' l' ≤ szC d l + 17 ∧ Rdr w' g (q + 3) ∧ Fr (fun j => j = g) w w'
theorem l8Mutate_any : ∀ {d : Nat} {S : Nat → Prop} (g q : Nat) (v : Value) (l : List (Cm d)) (w : World) (_hr : Rdr w g q) (_hq : q ≤ 900000) (_h : RL w S v l) (_hf : FewC d l),
    Calls Tryz.prog 20 #[.pointer (some ⟨g, 0, none⟩), v] w (MutAny g q l w)
  | 0, S, g, q, v, l, w, hr, hq, h, hf => by
    refine (l8MutateD (e := 0) g q v (liftL 1 (liftL 0 l)) w hr hq (rl_lift 1 (rl_lift 0 h)) (few_lift 1 _ (few_lift 0 _ hf))).mono ?_
    rintro E w' ⟨v', l', h1, h2, h3, h4, h5⟩
    rw [sz_lift 1, sz_lift 0] at h3
    exact ⟨2, v', l', h1, by omega, h2, h3, h4, h5⟩
  | 1, S, g, q, v, l, w, hr, hq, h, hf => by
    refine (l8MutateD (e := 0) g q v (liftL 1 l) w hr hq (rl_lift 1 h) (few_lift 1 _ hf)).mono ?_
    rintro E w' ⟨v', l', h1, h2, h3, h4, h5⟩
    rw [sz_lift 1] at h3
    exact ⟨2, v', l', h1, by omega, h2, h3, h4, h5⟩
  | e + 2, S, g, q, v, l, w, hr, hq, h, hf => by
    refine (l8MutateD (e := e) g q v l w hr hq h hf).mono ?_
    rintro E w' ⟨v', l', h1, h2, h3, h4, h5⟩
    exact ⟨e + 2, v', l', h1, by omega, h2, h3, h4, h5⟩
end Go.Proofs.YtgfnoinkajfndaaGreat
