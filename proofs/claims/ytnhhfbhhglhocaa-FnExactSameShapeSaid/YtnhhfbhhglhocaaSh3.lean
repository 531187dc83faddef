/- Walks: the reference's search by pairs: the next pairs; pairs without repetitions. -/
import Derived.Test.YtnhhfbhhglhocaaSh2
namespace Go.Proofs.Ytnhhfbhhglhocaa
open Go.RowKit

def flatP (ps : Prs) : List Int := ps.flatMap fun q => [q.1, q.2]
theorem flatP_cons (q : Int × Int) (ps : Prs) : flatP (q :: ps) = q.1 :: q.2 :: flatP ps := rfl
theorem flatP_app (ps qs : Prs) : flatP (ps ++ qs) = flatP ps ++ flatP qs := by simp [flatP]
theorem flatP_len : ∀ ps : Prs, (flatP ps).length = 2 * ps.length
  | [] => rfl
  | q :: ps => by rw [flatP_cons]; simp only [List.length_cons]; rw [flatP_len ps]; omega
theorem gi_flat : ∀ (ps : Prs) (j : Nat) (h : j < ps.length), gi (flatP ps) (2 * j) = (ps[j]).1 ∧ gi (flatP ps) (2 * j + 1) = (ps[j]).2
  | q :: ps, 0, _ => by rw [flatP_cons]; exact ⟨rfl, rfl⟩
  | q :: ps, j + 1, h => by
    have := gi_flat ps j (by simpa using h)
    rw [flatP_cons]
    simp only [gi, show 2 * (j + 1) = 2 * j + 1 + 1 by omega, List.getD_cons_succ, List.getElem_cons_succ] at this ⊢
    exact this
theorem clash_take {ps : Prs} {j : Nat} (h : j < ps.length) (x y : Int) : clash (ps.take (j + 1)) x y = (clash (ps.take j) x y || (((ps[j]).1 == x) != ((ps[j]).2 == y))) := by
  unfold clash
  rw [List.take_succ_eq_append_getElem h, List.any_append]
  simp
theorem clash_of {ps : Prs} {j : Nat} (h : j < ps.length) {x y : Int} (e : (((ps[j]).1 == x) != ((ps[j]).2 == y)) = true) : clash ps x y = true := by
  unfold clash
  rw [List.any_eq_true]
  exact ⟨ps[j], List.getElem_mem h, e⟩

/-- A whole readable list is appended to a row of the call's own. -/
theorem app_ints {ops : Array Oper} {rest : List Oper} {o : Oper} {a : Act} {Q : Exit → Act → World → Prop} (w : World) (hgd : o.guard = none) (s x : Operand)
    (ho : o.op = .call { callee := .builtin .append, args := #[s, x], argTypes := #[29, 29] })
    (B : Nat) (v : Value) (l m : List Int) (hs : a.eval s = v) (hown : w.ownsRow B 3 1 v l.length (ints l))
    (ad : Addr) (c : Nat) (hx : a.eval x = .slice (some ad) m.length c) (hnew : ∀ j u, (ints m)[j]? = some u → w.cell? (ad.add j) = some u) (hlen : l.length + m.length < 1099511627776) (hB : B ≤ w.heap.size)
    (h : ∀ v' w', w'.ownsRow B 3 1 v' (l ++ m).length (ints (l ++ m)) → Fr (fun k => some k = v.ownBlock) w w' → wpList Try.prog ops Q rest (a.put o.dst v') w') :
    wpList Try.prog ops Q (o :: rest) a w := by
  obtain ⟨i0, hi, hz0, hz1, hz2⟩ := info_parts info_int
  refine wpList_append_own w hgd s x 29 ho B 3 i0 (.int .i64 0) 1 8 Try.underlying29 hi hz0 hz1 hz2 rfl (by decide) v l.length (ints l) hs hown ad m.length c (ints m) hx (by simp [ints]) hnew (ints_one m) ?_ ?_ hB ?_
  · unfold maxLen; omega
  · omega
  · intro v' w' h1 h2 _
    refine h v' w' ?_ (grown_fr h2)
    have e : ints l ++ ints m = ints (l ++ m) := by simp [ints]
    rw [e] at h1
    simpa using h1
theorem rints_cells {w : World} {b o n c : Nat} {l : List Int} (h : RInts w (.slice (some ⟨b, o, none⟩) n c) l) : ∀ j u, (ints l)[j]? = some u → w.cell? ((⟨b, o, none⟩ : Addr).add j) = some u := by
  intro j u hj
  have hl : 0 < (ints l).length := by
    have := (List.getElem?_eq_some_iff.1 hj).1
    omega
  obtain ⟨ad, e, hc⟩ := rints_news h hl
  injection e with e
  subst e
  exact hc j u hj
theorem two_news (w : World) (x y : Int) (e : TypeId) : ∀ j u, (ints [x, y])[j]? = some u → (w.alloc (.cells #[.int .i64 x, .int .i64 y] e)).cell? ((⟨w.heap.size, 0, none⟩ : Addr).add j) = some u := by
  intro j u hj
  match j, hj with
  | 0, hj => simp [ints] at hj; subst hj; simp [Addr.add]
  | 1, hj => simp [ints] at hj; subst hj; simp [Addr.add]
  | j + 2, hj => simp [ints] at hj

set_option maxHeartbeats 3200000 in
theorem l15Next_any (b o c : Nat) (ps : Prs) (x y : Int) (w : World) (h : RInts w (.slice (some ⟨b, o, none⟩) (2 * ps.length) c) (flatP ps)) (hl : ps.length ≤ 1048576) :
    Calls Try.prog 59 #[.slice (some ⟨b, o, none⟩) (2 * ps.length) c, .int .i64 x, .int .i64 y] w fun e w' => ∃ b' o' c', e = .returned (.tuple #[.slice (some ⟨b', o', none⟩) (2 * (nextL ps x y).length) c', .bool (nextOk ps x y)]) ∧ RInts w' (.slice (some ⟨b', o', none⟩) (2 * (nextL ps x y).length) c') (flatP (nextL ps x y)) ∧ Below w.heap.size w w' := by
  have H := Lib.hid h
  have hm := h.len
  rw [flatP_len] at hm
  have hcap : 2 * ps.length ≤ 2147483648 := by omega
  by_cases hx : x < 1
  · by_cases he : x = y
    · subst he
      have hok : nextOk ps x x = true := nextOk_iff.2 (.inl ⟨hx, rfl⟩)
      have hnl : nextL ps x x = ps := by rw [nextL, if_neg (by simp [hx])]
      rw [hok, hnl]
      clear hok hnl h
      go_enter Try.func59, Try.ntmps59
      go_wp2
      go_ret2
      exact ⟨b, o, c, rfl, H.out, Below.refl _ _⟩
    · have hok : nextOk ps x y = false := by
        cases hh : nextOk ps x y with
        | false => rfl
        | true => rcases nextOk_iff.1 hh with ⟨_, e⟩ | ⟨e, _⟩ <;> omega
      have hnl : nextL ps x y = ps := by rw [nextL, if_neg (by simp [hok])]
      rw [hok, hnl]
      have hne : (x != y) = true := by simpa using he
      clear hok hnl h he
      go_enter Try.func59, Try.ntmps59
      go_wp2
      go_ret2
      exact ⟨b, o, c, rfl, H.out, Below.refl _ _⟩
  · have hx1 : 1 ≤ x := by omega
    by_cases hy : y < 1
    · have hok : nextOk ps x y = false := by
        cases hh : nextOk ps x y with
        | false => rfl
        | true => rcases nextOk_iff.1 hh with ⟨e, _⟩ | ⟨_, e, _⟩ <;> omega
      have hnl : nextL ps x y = ps := by rw [nextL, if_neg (by simp [hok])]
      rw [hok, hnl]
      have hne : (x != y) = true := by rw [bne_iff_ne]; omega
      clear hok hnl h hx
      go_enter Try.func59, Try.ntmps59
      go_wp2
      go_ret2
      exact ⟨b, o, c, rfl, H.out, Below.refl _ _⟩
    · have hy1 : 1 ≤ y := by omega
      have hok : nextOk ps x y = !clash ps x y := by
        rw [nextOk, show decide (x < 1) = false by simpa using hx, show decide (y < 1) = false by simpa using hy]; rfl
      have HOK := Lib.hid hok
      have hd1 : decide (x < 1) = false := by simpa using hx
      have hd2 : decide (y < 1) = false := by simpa using hy
      clear hok h hx hy
      go_enter Try.func59, Try.ntmps59
      go_wp2
      go_loopg [8] ps.length (fun q i wr => ∃ j p : Nat, p = 2 * j ∧ j + q = ps.length ∧ i = .int .i64 p ∧ clash (ps.take j) x y = false ∧ Below w.heap.size w wr)
      case atStart => exact ⟨0, 0, rfl, by omega, rfl, rfl, Below.refl _ _⟩
      case round =>
        obtain ⟨j, p, hp, hk, rfl, hcl, hb⟩ := hrel
        have HK := Lib.hid (And.intro hk hp)
        have HCL := Lib.hid hcl
        by_cases hjn : j < ps.length
        · have hpi : (p : Int) < ((2 * ps.length : Nat) : Int) := by omega
          have hpi1 : (p : Int) + 1 < ((2 * ps.length : Nat) : Int) := by omega
          have hpi' : (p : Int) < 2 * (ps.length : Int) := by omega
          have hpi1' : (p : Int) + 1 < 2 * (ps.length : Int) := by omega
          have hg := gi_flat ps j hjn
          rw [← hp] at hg
          have hca := ((H.out.keep hb).at p (by rw [flatP_len]; omega)).2
          have hcb := ((H.out.keep hb).at (p + 1) (by rw [flatP_len]; omega)).2
          rw [hg.1] at hca
          rw [hg.2] at hcb
          have hstep := clash_take hjn x y
          rw [hcl, Bool.false_or] at hstep
          have HST := Lib.hid hstep
          have HG := Lib.hid (clash_of (ps := ps) (x := x) (y := y) hjn)
          have hgb : b < wr.heap.size := World.block_lt_of_cell? wr _ hca
          have e1 : IntKind.i64.wrap ((p : Int) + 1) = (p : Int) + 1 := IntWalk.i64_in _ (by omega)
          have e4 : ((p : Int) + 1).toNat = p + 1 := by omega
          have e6 : (0 : Int) ≤ (p : Int) + 1 := by omega
          generalize hX : ps[j].1 = X at *
          generalize hY : ps[j].2 = Y at *
          clear hg hp hk hcl hstep hX hY
          cases y1 : (X == x)
          all_goals cases y2 : (Y == y)
          · have HN : Hid (clash (ps.take (j + 1)) x y = false) := Lib.hid (by rw [HST.out, y1, y2]; rfl)
            clear HG HST HOK
            go_wp2
            refine wp_region_ext (by kernel_rfl) (by kernel_rfl) ?_
            repeat (go_big_quiet_step (fail))
            refine wpQuiet_nil ?_
            intro w5 hb5
            clear e1 e4 e6
            go_wp2
            go_roundg (gk - 1)
            case rel => exact ⟨j + 1, p + 2, by have := HK.out.2; omega, by have := HK.out.1; omega, by go_num, HN.out, bt hb hb5⟩
            case measure => have := HK.out.1; omega
          · have hok : nextOk ps x y = false := by rw [HOK.out, HG.out (by rw [y1, y2]; rfl)]; rfl
            have hnl : nextL ps x y = ps := by rw [nextL, if_neg (by simp [hok])]
            have HF := Lib.hid (And.intro hok hnl)
            clear HG HST HOK hok hnl
            go_wp2
            refine wp_region_ext (by kernel_rfl) (by kernel_rfl) ?_
            repeat (go_big_quiet_step (fail))
            refine wpQuiet_nil ?_
            intro w5 hb5
            clear e1 e4 e6
            go_wp2
            go_ret2
            rw [HF.out.1, HF.out.2]
            exact ⟨b, o, c, rfl, H.out.keep (bt hb hb5), bt hb hb5⟩
          · have hok : nextOk ps x y = false := by rw [HOK.out, HG.out (by rw [y1, y2]; rfl)]; rfl
            have hnl : nextL ps x y = ps := by rw [nextL, if_neg (by simp [hok])]
            have HF := Lib.hid (And.intro hok hnl)
            clear HG HST HOK hok hnl
            go_wp2
            refine wp_region_ext (by kernel_rfl) (by kernel_rfl) ?_
            repeat (go_big_quiet_step (fail))
            refine wpQuiet_nil ?_
            intro w5 hb5
            clear e1 e4 e6
            go_wp2
            go_ret2
            rw [HF.out.1, HF.out.2]
            exact ⟨b, o, c, rfl, H.out.keep (bt hb hb5), bt hb hb5⟩
          · have HN : Hid (clash (ps.take (j + 1)) x y = false) := Lib.hid (by rw [HST.out, y1, y2]; rfl)
            clear HG HST HOK
            go_wp2
            refine wp_region_ext (by kernel_rfl) (by kernel_rfl) ?_
            repeat (go_big_quiet_step (fail))
            refine wpQuiet_nil ?_
            intro w5 hb5
            clear e1 e4 e6
            go_wp2
            go_roundg (gk - 1)
            case rel => exact ⟨j + 1, p + 2, by have := HK.out.2; omega, by have := HK.out.1; omega, by go_num, HN.out, bt hb hb5⟩
            case measure => have := HK.out.1; omega
        · obtain rfl : j = ps.length := by have := HK.out.1; omega
          have hok : nextOk ps x y = true := by rw [HOK.out, show clash ps x y = false by have := HCL.out; rwa [List.take_length] at this]; rfl
          have hnl : nextL ps x y = ps ++ [(x, y)] := nextL_new hok hx1
          have hfl : flatP (ps ++ [(x, y)]) = ([] ++ flatP ps) ++ [x, y] := by rw [flatP_app]; rfl
          have hlen : 2 * (ps ++ [(x, y)]).length = (([] ++ flatP ps) ++ [x, y]).length := by rw [← hfl, flatP_len]
          have HFIN := Lib.hid (And.intro hok (And.intro hnl (And.intro hlen hfl)))
          have hpn : ¬ (p : Int) < ((2 * ps.length : Nat) : Int) := by omega
          have hpn' : 2 * (ps.length : Int) ≤ (p : Int) := by omega
          have hfn := flatP_len ps
          have HFN := Lib.hid hfn
          have hN := rints_cells (H.out.keep (ba hb (.cells #[] 3)))
          have HNW := Lib.hid hN
          clear hp hk hcl hok hnl hlen hfl hN hfn
          have hsb := hb.size
          go_wp2_with (first
            | (refine app_ints _ rfl (.tmp 45) (.tmp 46) rfl wr.heap.size _ [] (flatP ps) rfl (own_empty wr _ _ (Nat.le_refl _)) ⟨b, o, none⟩ c (by rw [HFN.out]; rfl) HNW.out (by rw [HFN.out]; simp; omega) (by simp) ?_; intro v1 w6 hown6 hf6; have HO6 := Lib.hid (And.intro hown6 hf6); clear hown6 hf6)
            | (refine app_ints _ rfl (.tmp 47) (.tmp 50) rfl wr.heap.size _ ([] ++ flatP ps) [x, y] rfl (own_keep HO6.out.1 (below_alloc _ _)) ⟨w6.heap.size, 0, none⟩ 2 rfl (two_news _ _ _ _) (by simp [HFN.out]; omega) (by have := HO6.out.2.size; simp at this ⊢; omega) ?_; intro v2 w7 hown7 hf7; have HO7 := Lib.hid (And.intro hown7 hf7); clear hown7 hf7))
          refine bodyPost_ret (results_tmp2 rfl _ _ _) rfl ?_
          rw [HFIN.out.1, HFIN.out.2.1, HFIN.out.2.2.1, HFIN.out.2.2.2]
          have rr := (own_ints HO7.out.1).1
          obtain ⟨g7, c7, rfl, hg7, hgl7⟩ := own_at HO7.out.1 (by simp)
          refine ⟨g7, 0, c7, rfl, rr, ?_⟩
          have f6 := HO6.out.2
          have f7 := HO7.out.2
          have b6 : Below wr.heap.size wr w6 := (below_alloc wr _).trans (f6.below (by simp) (fun k hk e => by have := (own_lt (own_empty wr wr.heap.size 3 (Nat.le_refl _)) e).1; omega))
          have b7 : Below wr.heap.size wr w7 := (b6.trans ((below_alloc w6 _).mono b6.size)).trans (f7.below (by simp; have := b6.size; omega) (fun k hk e => by have := (own_lt HO6.out.1 e).1; omega))
          exact bt hb b7
/-- The same as a step of a region that draws; at least one integer. -/
theorem step_ints {ops : Array Oper} {o : Oper} {a : Act} {K : Act → World → Prop} {Q : Exit → Act → World → Prop} {E : Prop} (w : World) (hgd : o.guard = none) (s x : Operand)
    (ho : o.op = .call { callee := .builtin .append, args := #[s, x], argTypes := #[29, 29] })
    (B : Nat) (v : Value) (l m : List Int) (hs : a.eval s = v) (hown : w.ownsRow B 3 1 v l.length (ints l))
    (ad : Addr) (c : Nat) (hx : a.eval x = .slice (some ad) m.length c) (hnew : ∀ j u, (ints m)[j]? = some u → w.cell? (ad.add j) = some u) (hp : 0 < m.length) (hlen : l.length + m.length < 1099511627776) (hB : B ≤ w.heap.size)
    (h : ∀ v' w', w'.ownsRow B 3 1 v' (l ++ m).length (ints (l ++ m)) → Fr (fun k => some k = v.ownBlock) w w' → K (a.put o.dst v') w') :
    if Region.wanted o (yielded ops a.tmps) = true then Oper.wp Try.prog o a w K Q else E := by
  obtain ⟨i0, hi, hz0, hz1, hz2⟩ := info_parts info_int
  refine step_append_lies w hgd s x 29 ho B 3 i0 (.int .i64 0) 1 8 Try.underlying29 hi hz0 hz1 hz2 rfl (by decide) v l.length (ints l) hs hown ad m.length c (ints m) hx (by simp [ints]) hnew (ints_one m) hp ?_ ?_ hB _ rfl ?_
  · unfold maxLen; omega
  · omega
  · intro g cap w' h1 h2 _ _
    refine h _ w' ?_ (grown_fr h2)
    have e : ints l ++ ints m = ints (l ++ m) := by simp [ints]
    rw [e] at h1
    simpa using h1

theorem dist_take {ps : Prs} {j : Nat} (h : j < ps.length) (out : Prs) : distP out (ps.take (j + 1)) = (if known (distP out (ps.take j)) (ps[j]).1 = true then distP out (ps.take j) else distP out (ps.take j) ++ [ps[j]]) := by
  have key : ∀ (r : Prs) (q : Int × Int) (out : Prs), distP out (r ++ [q]) = if known (distP out r) q.1 = true then distP out r else distP out r ++ [q] := by
    intro r
    induction r with
    | nil => intro q out; rfl
    | cons a r ih => intro q out; simp only [List.cons_append, distP]; exact ih q _
  rw [List.take_succ_eq_append_getElem h]
  exact key _ _ _
theorem dist_le : ∀ (r out : Prs), (distP out r).length ≤ out.length + r.length
  | [], _ => by simp [distP]
  | q :: r, out => by
    unfold distP
    split
    · have := dist_le r out; simp; omega
    · have := dist_le r (out ++ [q]); simp at this ⊢; omega
theorem known_take {ps : Prs} {j : Nat} (h : j < ps.length) (x : Int) : known (ps.take (j + 1)) x = (known (ps.take j) x || ((ps[j]).1 == x)) := by
  unfold known
  rw [List.take_succ_eq_append_getElem h, List.any_append]
  simp

set_option maxHeartbeats 3200000 in
theorem l15Distinct_any (b o c : Nat) (ps : Prs) (w : World) (h : RInts w (.slice (some ⟨b, o, none⟩) (2 * ps.length) c) (flatP ps)) (hl : ps.length ≤ 1048576) :
    Calls Try.prog 61 #[.slice (some ⟨b, o, none⟩) (2 * ps.length) c] w fun e w' => ∃ b' o' c', e = .returned (.slice (some ⟨b', o', none⟩) (2 * (distP [] ps).length) c') ∧ RInts w' (.slice (some ⟨b', o', none⟩) (2 * (distP [] ps).length) c') (flatP (distP [] ps)) ∧ Below w.heap.size w w' := by
  have H := Lib.hid h
  clear h
  go_enter Try.func61, Try.ntmps61
  go_wp2
  go_loopg [3, 4] ps.length (fun q v i wr => ∃ j p g cv : Nat, p = 2 * j ∧ j + q = ps.length ∧ i = .int .i64 p ∧ v = .slice (some ⟨g, 0, none⟩) (flatP (distP [] (ps.take j))).length cv ∧ wr.ownsRow w.heap.size 3 1 v (flatP (distP [] (ps.take j))).length (ints (flatP (distP [] (ps.take j)))) ∧ Below w.heap.size w wr)
  case atStart => exact ⟨0, 0, w.heap.size, 0, rfl, by omega, rfl, rfl, own_empty _ _ _ (Nat.le_refl _), below_alloc _ _⟩
  case round =>
    obtain ⟨j, p, g, cv, hp, hk, rfl, rfl, hown, hb⟩ := hrel
    have HK := Lib.hid (And.intro hk hp)
    have HO := Lib.hid hown
    have hdl := dist_le (ps.take j) []
    have htl : (ps.take j).length ≤ j := List.length_take_le _ _
    have hol : (distP [] (ps.take j)).length ≤ 1048576 := by simp at hdl; omega
    have hro := (own_ints hown).1
    have hgl := (own_lt hown (k := g) rfl).2
    have hgB := (own_lt hown (k := g) rfl).1
    obtain ⟨out, hout⟩ : ∃ out, out = distP [] (ps.take j) := ⟨_, rfl⟩
    rw [← hout] at hro hol HO
    rw [← hout]
    have HOUT := Lib.hid hout
    have hfl := flatP_len out
    rw [hfl] at hro
    rw [hfl]
    have HFL := Lib.hid hfl
    have HRO := Lib.hid hro
    have hsb := hb.size
    clear hown hdl htl hout hfl hro
    by_cases hjn : j < ps.length
    · have hpi' : (p : Int) < 2 * (ps.length : Int) := by omega
      have hpi1' : (p : Int) + 1 < 2 * (ps.length : Int) := by omega
      have hg2 := gi_flat ps j hjn
      rw [← hp] at hg2
      have hca := ((H.out.keep hb).at p (by rw [flatP_len]; omega)).2
      have hcb := ((H.out.keep hb).at (p + 1) (by rw [flatP_len]; omega)).2
      rw [hg2.1] at hca
      rw [hg2.2] at hcb
      have hdt := dist_take hjn []
      have HDT := Lib.hid hdt
      have e1 : IntKind.i64.wrap ((p : Int) + 1) = (p : Int) + 1 := IntWalk.i64_in _ (by omega)
      have e4 : ((p : Int) + 1).toNat = p + 1 := by omega
      have e6 : (0 : Int) ≤ (p : Int) + 1 := by omega
      have hgb : b < wr.heap.size := World.block_lt_of_cell? wr _ hca
      obtain ⟨q, hq⟩ : ∃ q, q = ps[j] := ⟨_, rfl⟩
      rw [← hq] at hca hcb
      have HQ := Lib.hid hq
      obtain ⟨wo, rfl⟩ : ∃ wo : World, wo = wr := ⟨_, rfl⟩
      obtain ⟨g0, rfl⟩ : ∃ g0 : Nat, g0 = gk := ⟨_, rfl⟩
      clear hg2 hp hk hdt hq
      go_wp2
      go_loopg [5, 6] out.length (fun q' kb i wr => ∃ m r : Nat, r = 2 * m ∧ m + q' = out.length ∧ i = .int .i64 r ∧ kb = .bool (known (out.take m) q.1) ∧ Below wo.heap.size wo wr)
      case atStart => exact ⟨0, 0, rfl, by omega, rfl, rfl, Below.refl _ _⟩
      case round =>
        obtain ⟨m, r, hr, hm, rfl, rfl, hbi⟩ := hrel
        have HM := Lib.hid (And.intro hm hr)
        have hca' := cell_keep hbi hca
        by_cases hmn : m < out.length
        · have hri : (r : Int) < 2 * (out.length : Int) := by omega
          have hgo := gi_flat out m hmn
          rw [← hr] at hgo
          have hco := ((HRO.out.keep hbi).at r (by rw [flatP_len]; omega)).2
          rw [Nat.zero_add, hgo.1] at hco
          have hgo' : g < wr.heap.size := World.block_lt_of_cell? wr _ hco
          have hbb' : b < wr.heap.size := World.block_lt_of_cell? wr _ hca'
          have hkt := known_take hmn q.1
          have HKT := Lib.hid hkt
          clear hgo hr hm hkt
          cases hkn : known (out.take m) q.1
          · rw [hkn] at HKT
            have HKN := Lib.hid hkn
            clear hkn
            go_wp2
            refine wp_region_ext (by kernel_rfl) (by kernel_rfl) ?_
            repeat (go_big_quiet_step (fail))
            refine wpQuiet_nil ?_
            intro w5 hb5
            go_wp2
            go_roundg (gk - 1)
            case rel => exact ⟨m + 1, r + 2, by have := HM.out.2; omega, by have := HM.out.1; omega, by go_num, by rw [HKT.out]; rfl, bt hbi hb5⟩
            case measure => have := HM.out.1; omega
          · rw [hkn] at HKT
            have HKN := Lib.hid hkn
            clear hkn
            go_wp2
            refine wp_region_ext (by kernel_rfl) (by kernel_rfl) ?_
            repeat (go_big_quiet_step (fail))
            refine wpQuiet_nil ?_
            intro w5 hb5
            go_wp2
            go_roundg (gk - 1)
            case rel => exact ⟨m + 1, r + 2, by have := HM.out.2; omega, by have := HM.out.1; omega, by go_num, by rw [HKT.out]; rfl, bt hbi hb5⟩
            case measure => have := HM.out.1; omega
        · obtain rfl : m = out.length := by have := HM.out.1; omega
          have hri : 2 * (out.length : Int) ≤ (r : Int) := by omega
          have hbx := bt hb hbi
          have hcb' := cell_keep hbi hcb
          have hbb' : b < wr.heap.size := World.block_lt_of_cell? wr _ hca'
          have HO2 := Lib.hid (own_keep HO.out hbi)
          clear hr hm
          rw [List.take_length]
          cases hkn : known out q.1
          · have hnew : distP [] (ps.take (j + 1)) = out ++ [q] := by rw [HDT.out, ← HOUT.out, ← HQ.out, if_neg (by rw [hkn]; simp)]
            have hflat : flatP (out ++ [q]) = flatP out ++ [q.1, q.2] := by rw [flatP_app]; rfl
            have HN := Lib.hid (And.intro hnew hflat)
            clear hkn hnew hflat
            go_wp2
            have hO3 : wr.ownsRow w.heap.size 3 1 (.slice (some ⟨g, 0, none⟩) (2 * out.length) cv) (flatP out).length (ints (flatP out)) := by have h := HO2.out; rw [HFL.out] at h ⊢; exact h
            have HO3 := Lib.hid hO3
            clear hO3
            have hng : b ≠ g := by have := World.block_lt_of_cell? w _ ((H.out.at p (by rw [flatP_len]; have := HK.out; omega)).2); simp at this; omega
            have HNG := Lib.hid hng
            clear hng
            go_region_held3 (fun w' => w'.cell? ⟨b, o + p, none⟩ = some (.int .i64 q.1) ∧ w'.cell? ⟨b, o + (p + 1), none⟩ = some (.int .i64 q.2))
              (first | exact ⟨hca', hcb'⟩ | exact ⟨cell_keep (below_drew _) hca', cell_keep (below_drew _) hcb'⟩ | exact ⟨cell_keep (ba (below_drew _) _) hca', cell_keep (ba (below_drew _) _) hcb'⟩ | exact ⟨cell_keep (below_alloc _ _) hca', cell_keep (below_alloc _ _) hcb'⟩ | exact ⟨cell_keep (bd (below_alloc _ _)) hca', cell_keep (bd (below_alloc _ _)) hcb'⟩ | exact ⟨hya, hyb⟩)
              ((refine step_ints _ (by rfl) _ _ (by rfl) w.heap.size (.slice (some ⟨g, 0, none⟩) (2 * out.length) cv) (flatP out) [q.1, q.2] (by rfl) (by first | exact own_keep HO3.out (below_alloc _ _) | exact own_keep HO3.out (bd (below_alloc _ _)) | exact own_keep HO3.out (ba (below_drew _) _)) _ 2 (by rfl) (by first | exact two_news _ _ _ _ | exact two_news wr _ _ _) (Nat.succ_pos _) (by rw [HFL.out]; simp; omega) (by have := hbx.size; simp; omega) ?_; intro v6 w6 hown6 hf6; have hya : w6.cell? ⟨b, o + p, none⟩ = some (.int .i64 q.1) := hf6.cell (fun e => HNG.out (Option.some.inj e)) (by first | exact cell_keep (below_alloc _ _) hca' | exact cell_keep (bd (below_alloc _ _)) hca'); have hyb : w6.cell? ⟨b, o + (p + 1), none⟩ = some (.int .i64 q.2) := hf6.cell (fun e => HNG.out (Option.some.inj e)) (by first | exact cell_keep (below_alloc _ _) hcb' | exact cell_keep (bd (below_alloc _ _)) hcb'); have hb6 : Below w.heap.size w w6 := (by first | exact below_own (own_keep HO3.out (below_alloc _ _)) hf6 (ba hbx _) (by have := hbx.size; simp; omega) | exact below_own (own_keep HO3.out (bd (below_alloc _ _))) hf6 (bd (ba hbx _)) (by have := hbx.size; simp; omega))))
            obtain ⟨g6, c6, rfl, hg6, hgl6⟩ := own_at hown6 (by simp)
            go_wp2
            go_roundg (g0 - 1)
            case rel =>
              have hb7 : Below w.heap.size w w6 := hb6
              refine ⟨j + 1, p + 2, g6, c6, by have := HK.out.2; omega, by have := HK.out.1; omega, by go_num, by rw [HN.out.1, HN.out.2], ?_, ?_⟩
              · rw [HN.out.1, HN.out.2]; first | exact hown6 | exact own_keep hown6 (below_drew _)
              · first | exact hb6 | exact bd hb6
            case measure => have := HK.out.1; omega
          · have hnew : distP [] (ps.take (j + 1)) = out := by rw [HDT.out, ← HOUT.out, ← HQ.out, if_pos hkn]
            have HN := Lib.hid hnew
            clear hkn hnew
            go_wp2
            go_roundg (g0 - 1)
            case rel => exact ⟨j + 1, p + 2, g, cv, by have := HK.out.2; omega, by have := HK.out.1; omega, by go_num, by rw [HN.out, HFL.out], by rw [HN.out]; have h := HO2.out; rw [HFL.out] at h ⊢; exact h, hbx⟩
            case measure => have := HK.out.1; omega
    · obtain rfl : j = ps.length := by have := HK.out.1; omega
      have hpi : 2 * (ps.length : Int) ≤ (p : Int) := by omega
      have hfin : out = distP [] ps := by have := HOUT.out; rwa [List.take_length] at this
      have HFIN := Lib.hid hfin
      clear hfin hp hk
      go_wp2
      go_ret
      rw [← HFIN.out]
      exact ⟨g, 0, cv, rfl, HRO.out, hb⟩
end Go.Proofs.Ytnhhfbhhglhocaa
