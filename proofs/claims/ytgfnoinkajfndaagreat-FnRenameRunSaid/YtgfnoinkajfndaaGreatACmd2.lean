/- Rows of commands of the call's own, what they point to elsewhere. -/
import Derived.Test.YtgfnoinkajfndaaGreatAPgr
import Derived.Test.YtgfnoinkajfndaaGreatAAppF
set_option linter.unusedVariables false
namespace Go.Proofs.YtgfnoinkajfndaaGreat
open Go.RowKit

/-- The row is the call's own; what its commands point to lies in other blocks behind the mark. -/
def UC {d : Nat} (w : World) (B : Nat) (v : Value) (l : List (Cm d)) : Prop :=
  ∃ xs : List Value, w.ownsRow B 77 10 v l.length xs ∧ ∀ k, k < l.length → Dat.rd w (fun j => B ≤ j ∧ ¬ some j = v.ownBlock) (gd l k) (nth 10 xs k)
section
variable {d : Nat} {w w' : World} {B : Nat} {v : Value} {l : List (Cm d)} {T : Nat → Prop}
theorem UC.nil (w : World) (B : Nat) : UC w B (.slice none 0 0) ([] : List (Cm d)) :=
  ⟨[], ⟨rfl, .inl ⟨rfl, rfl⟩⟩, fun k hk => absurd hk (Nat.not_lt_zero k)⟩
theorem UC.kept (h : UC w B v l) (hf : Fr T w w') (hs : ∀ k, B ≤ k → k < w.heap.size → ¬ T k) : UC w' B v l := by
  obtain ⟨xs, hr, hx⟩ := h
  exact ⟨xs, own_kept hr hf (fun k hk => hs k (own_lt hr hk).1 (own_lt hr hk).2), fun k hk => Dat.kept (hx k hk) hf fun j hj h => hs j h.1 hj⟩
theorem UC.keep (h : UC w B v l) (hb : Below w.heap.size w w') : UC w' B v l := h.kept (Below.fr hb) fun _ _ _ h => h
theorem UC.mono {B' : Nat} (h : UC w B v l) (hB : B' ≤ B) : UC w B' v l := by
  obtain ⟨xs, hr, hx⟩ := h
  exact ⟨xs, own_mono hr hB, fun k hk => Dat.more (hx k hk) fun j _ h => ⟨Nat.le_trans hB h.1, h.2⟩⟩
theorem UC.rl (h : UC w B v l) : RL w (fun k => B ≤ k) v l := by
  obtain ⟨xs, hr, hx⟩ := h
  have hcells := own_rsl hr
  rcases hcells with ⟨a, cap, rfl, h0, h1, h2⟩ | ⟨b, o, cap, rfl, h1, h2, h3⟩
  · exact .inl ⟨a, cap, rfl, List.eq_nil_of_length_eq_zero h0, h1, h2⟩
  · refine .inr ⟨b, o, cap, rfl, h1, h2, fun hp => own_lt hr rfl, fun i hi => ⟨_, Dat.more (hx i hi) fun k _ hk => hk.1, fun j u hj => ?_⟩⟩
    have hj' := nth_at hj
    have hlen : i * 10 + j < xs.length := (List.getElem?_eq_some_iff.1 hj').1
    have := h3 (i * 10 + j) (by rw [← hr.1]; exact hlen)
    rw [sz_cm, this]
    simp [hj']
theorem UC.form (h : UC w B v l) : ∃ a cap, v = .slice a l.length cap := h.rl.form
theorem UC.snoc {w1 : World} {v' : Value} {x : Cm d} {cs xs : List Value} (hr : w.ownsRow B 77 10 v l.length xs) (hxs : ∀ k, k < l.length → Dat.rd w (fun j => B ≤ j ∧ ¬ some j = v.ownBlock) (gd l k) (nth 10 xs k))
    (hr1 : w1.ownsRow B 77 10 v' (l.length + 1) (xs ++ cs)) (hf : Fr (fun k => some k = v.ownBlock) w w1) (hv : v'.ownBlock = v.ownBlock ∨ v'.ownBlock = some w.heap.size) (hx : Dat.rd w (fun j => B ≤ j ∧ ¬ some j = v.ownBlock) x cs) :
    UC w1 B v' (l ++ [x]) := by
  have hcv : ∀ {y : Cm d} {ys : List Value}, Dat.rd w (fun j => B ≤ j ∧ ¬ some j = v.ownBlock) y ys → Dat.rd w1 (fun j => B ≤ j ∧ ¬ some j = v'.ownBlock) y ys := fun {y ys} h => by
    have h1 : Dat.rd w (fun j => B ≤ j ∧ ¬ some j = v.ownBlock ∧ ¬ some j = v'.ownBlock) y ys := Dat.more h fun j hj hh => ⟨hh.1, hh.2, fun e => by
      rcases hv with h2 | h2
      · exact hh.2 (e.trans h2)
      · rw [h2] at e; injection e with e; omega⟩
    exact Dat.more (Dat.kept h1 hf fun j _ hh e => hh.2.1 e) fun j _ hh => ⟨hh.1, hh.2.2⟩
  have hcl : cs.length = 10 := by rw [Dat.len hx, sz_cm]
  refine ⟨xs ++ cs, by rw [List.length_append]; exact hr1, fun k hk => ?_⟩
  rw [List.length_append, List.length_singleton] at hk
  by_cases hlt : k < l.length
  · rw [gd_app1 hlt, nth_app1 hr.1 hlt]; exact hcv (hxs k hlt)
  · obtain rfl : k = l.length := by omega
    rw [gd_snoc, nth_app2 hr.1 hcl]; exact hcv hx
end
theorem info_cmd : (Tryz.prog.info? 77).map (fun i => (i.zero, i.size, i.bytes)) = some (some (.agg #[.int .i64 0, .int .i64 0, .int .i64 0, .bool false, .int .i64 0, .int .i64 0, .slice none 0 0, .slice none 0 0, .slice none 0 0, .slice none 0 0]), 10, 144) := by kernel_rfl
section
variable {w : World}
/-- `append(s, c)`: one command is put behind a row of the call's own. -/
theorem run_C {B : Nat} (ty : TypeId) {v : Value} {n : Nat} {xs : List Value} (hown : w.ownsRow B 77 10 v n xs) {b c : Nat} {news : List Value} (hl : news.length = 10)
    (hnews : ∀ j u, news[j]? = some u → w.cell? ⟨b, j, none⟩ = some u) (h1 : ∀ u ∈ news, u.oneCell' = true) (hn : n ≤ 100000000) (hB : B ≤ w.heap.size) :
    ∃ v' w', (Builtin.append_ #[26, 26] ty #[v, .slice (some ⟨b, 0, none⟩) 1 c]).run Tryz.prog w = .ok v' w' ∧ w'.ownsRow B 77 10 v' (n + 1) (xs ++ news) ∧ Fr (fun k => some k = v.ownBlock) w w' ∧ (v'.ownBlock = v.ownBlock ∨ v'.ownBlock = some w.heap.size) := by
  obtain ⟨i, t2, t3, t4, t5⟩ := info_parts info_cmd
  have hrd : Reads w w.heap.size 10 (some ⟨b, 0, none⟩) 1 news := ⟨by rw [hl], fun hm => by
    have h0 := hnews 0 _ (List.getElem?_eq_getElem (show 0 < news.length by omega))
    refine ⟨_, rfl, by have := World.block_lt_of_cell? w _ h0; simpa using this, fun j u hj => ?_⟩
    have e : (⟨b, 0, none⟩ : Addr).add j = ⟨b, j, none⟩ := by unfold Addr.add; split <;> simp_all
    rw [e]; exact hnews j u hj⟩
  obtain ⟨v', w', hrun, ho, hg, hl⟩ := run_append_any (P := Tryz.prog) w B 26 ty 77 i _ _ i.bytes Tryz.underlying26 t2 t3 t4 rfl rfl (by decide) v n xs hown _ _ 1 c news hrd h1 (by unfold maxLen; omega) (by
    rw [t5]; omega) hB
  exact ⟨v', w', hrun, ho, grown_fr hg, hl⟩
theorem wp_C {o : Oper} {a : Act} {K : Act → World → Prop} {Q : Exit → Act → World → Prop} (s x : Operand)
    (ho : o.op = .call { callee := .builtin .append, args := #[s, x], argTypes := #[26, 26] }) {B : Nat} {v : Value} {n : Nat} {xs : List Value} (hs : a.eval s = v) (hown : w.ownsRow B 77 10 v n xs)
    {b c : Nat} {news : List Value} (hx : a.eval x = .slice (some ⟨b, 0, none⟩) 1 c) (hl : news.length = 10)
    (hnews : ∀ j u, news[j]? = some u → w.cell? ⟨b, j, none⟩ = some u) (h1 : ∀ u ∈ news, u.oneCell' = true) (hn : n ≤ 100000000) (hB : B ≤ w.heap.size)
    (h : ∀ v' w', w'.ownsRow B 77 10 v' (n + 1) (xs ++ news) → Fr (fun k => some k = v.ownBlock) w w' → (v'.ownBlock = v.ownBlock ∨ v'.ownBlock = some w.heap.size) → K (a.put o.dst v') w') : o.wp Tryz.prog a w K Q := by
  obtain ⟨v', w', hrun, h1, h2, h3⟩ := run_C o.type hown hl hnews h1 hn hB (c := c)
  unfold Oper.wp execOp
  simp only [ho, resolve, invoke, builtin, Sem.run_bind, Sem.run_pure, Result.andThen_ok, List.map_toArray, List.map_cons, List.map_nil, hs, hx, hrun]
  exact h v' w' h1 h2 h3
/-- The law for a plain region. -/
theorem app_C {ops : Array Oper} {rest : List Oper} {o : Oper} {a : Act} {Q : Exit → Act → World → Prop} (hgd : o.guard = none) (s x : Operand)
    (ho : o.op = .call { callee := .builtin .append, args := #[s, x], argTypes := #[26, 26] }) {B : Nat} {v : Value} {n : Nat} {xs : List Value} (hs : a.eval s = v) (hown : w.ownsRow B 77 10 v n xs)
    {b c : Nat} {news : List Value} (hx : a.eval x = .slice (some ⟨b, 0, none⟩) 1 c) (hl : news.length = 10)
    (hnews : ∀ j u, news[j]? = some u → w.cell? ⟨b, j, none⟩ = some u) (h1 : ∀ u ∈ news, u.oneCell' = true) (hn : n ≤ 100000000) (hB : B ≤ w.heap.size)
    (h : ∀ v' w', w'.ownsRow B 77 10 v' (n + 1) (xs ++ news) → Fr (fun k => some k = v.ownBlock) w w' → (v'.ownBlock = v.ownBlock ∨ v'.ownBlock = some w.heap.size) → wpList Tryz.prog ops Q rest (a.put o.dst v') w') : wpList Tryz.prog ops Q (o :: rest) a w :=
  wpList_plain hgd fun _ hK => wp_C s x ho hs hown hx hl hnews h1 hn hB fun v' w' h1 h2 h3 => hK _ _ (h v' w' h1 h2 h3)
/-- The law for a step of a drawn region. -/
theorem step_C {ops : Array Oper} {o : Oper} {a : Act} {K : Act → World → Prop} {Q : Exit → Act → World → Prop} {E : Prop} (hgd : o.guard = none) (s x : Operand)
    (ho : o.op = .call { callee := .builtin .append, args := #[s, x], argTypes := #[26, 26] }) {B : Nat} {v : Value} {n : Nat} {xs : List Value} (hs : a.eval s = v) (hown : w.ownsRow B 77 10 v n xs)
    {b c : Nat} {news : List Value} (hx : a.eval x = .slice (some ⟨b, 0, none⟩) 1 c) (hl : news.length = 10)
    (hnews : ∀ j u, news[j]? = some u → w.cell? ⟨b, j, none⟩ = some u) (h1 : ∀ u ∈ news, u.oneCell' = true) (hn : n ≤ 100000000) (hB : B ≤ w.heap.size)
    (h : ∀ v' w', w'.ownsRow B 77 10 v' (n + 1) (xs ++ news) → Fr (fun k => some k = v.ownBlock) w w' → (v'.ownBlock = v.ownBlock ∨ v'.ownBlock = some w.heap.size) → K (a.put o.dst v') w') :
    if Region.wanted o (yielded ops a.tmps) = true then Oper.wp Tryz.prog o a w K Q else E := by
  have hw : Region.wanted o (yielded ops a.tmps) = true := by simp [Region.wanted, hgd]
  rw [if_pos hw]
  exact wp_C s x ho hs hown hx hl hnews h1 hn hB h
end
/-- The cells of a command in a new block. -/
theorem news_cm (w : World) (k a b : Int) (t : Fact) (f1 f2 x y : Value) (e : TypeId) : ∀ j u, (cmCells k a b t f1 f2 x y)[j]? = some u → (w.alloc (.cells #[.int .i64 k, .int .i64 a, .int .i64 b, .bool t.1, .int .i64 t.2.1, .int .i64 t.2.2, f1, f2, x, y] e)).cell? ⟨w.heap.size, j, none⟩ = some u := fun j u hj => by
  rw [World.cell?_alloc_mark, List.getElem?_toArray]; exact hj
theorem one_cm (k a b : Int) (t : Fact) (a1 a2 a3 a4 : Option Addr) (n1 n2 n3 n4 c1 c2 c3 c4 : Nat) : ∀ u ∈ cmCells k a b t (.slice a1 n1 c1) (.slice a2 n2 c2) (.slice a3 n3 c3) (.slice a4 n4 c4), u.oneCell' = true := fun u hu => by
  simp only [cmCells, List.mem_cons, List.not_mem_nil, or_false] at hu
  rcases hu with rfl | rfl | rfl | rfl | rfl | rfl | rfl | rfl | rfl | rfl <;> rfl
end Go.Proofs.YtgfnoinkajfndaaGreat
