/- Shs2: texts Sh3, Sh4, Sh5 in one. -/
import Derived.Test.YthoingdcmdhllaaShs1
import Derived.Test.YthoingdcmdhllaaShapes
/- Walks: the reference's search by pairs: the next pairs; pairs without repetitions. -/
namespace Go.Proofs.Ythoingdcmdhllaa
open Go.RowKit

def flatP (ps : Prs) : List Int := ps.flatMap fun q => [q.1, q.2]
theorem flatP_cons (q : Int × Int) (ps : Prs) : flatP (q :: ps) = q.1 :: q.2 :: flatP ps := rfl
theorem flatP_app (ps qs : Prs) : flatP (ps ++ qs) = flatP ps ++ flatP qs := by simp [flatP]
theorem flatP_len : ∀ ps : Prs, (flatP ps).length = 2 * ps.length
  | [] => rfl
  | q :: ps => by rw [flatP_cons]; simp only [List.length_cons]; rw [flatP_len ps]; omega
theorem gi_flat : ∀ (ps : Prs) (j : Nat) (h : j < ps.length), gi (flatP ps) (2 * j) = (ps[j]).1 ∧ gi (flatP ps) (2 * j + 1) = (ps[j]).2
  | q :: ps, 0, _ => by rw [flatP_cons]; exact ⟨rfl, rfl⟩
  | q :: ps, j + 1, h => by
    have := gi_flat ps j (by simpa using h)
    rw [flatP_cons]
    simp only [gi, show 2 * (j + 1) = 2 * j + 1 + 1 by omega, List.getD_cons_succ, List.getElem_cons_succ] at this ⊢
    exact this
theorem clash_take {ps : Prs} {j : Nat} (h : j < ps.length) (x y : Int) : clash (ps.take (j + 1)) x y = (clash (ps.take j) x y || (((ps[j]).1 == x) != ((ps[j]).2 == y))) := by
  unfold clash
  rw [List.take_succ_eq_append_getElem h, List.any_append]
  simp
theorem clash_of {ps : Prs} {j : Nat} (h : j < ps.length) {x y : Int} (e : (((ps[j]).1 == x) != ((ps[j]).2 == y)) = true) : clash ps x y = true := by
  unfold clash
  rw [List.any_eq_true]
  exact ⟨ps[j], List.getElem_mem h, e⟩

/-- A whole readable list is appended to a row of the call's own. -/
theorem app_ints {ops : Array Oper} {rest : List Oper} {o : Oper} {a : Act} {Q : Exit → Act → World → Prop} (w : World) (hgd : o.guard = none) (s x : Operand)
    (ho : o.op = .call { callee := .builtin .append, args := #[s, x], argTypes := #[23, 23] })
    (B : Nat) (v : Value) (l m : List Int) (hs : a.eval s = v) (hown : w.ownsRow B 3 1 v l.length (ints l))
    (ad : Addr) (c : Nat) (hx : a.eval x = .slice (some ad) m.length c) (hnew : ∀ j u, (ints m)[j]? = some u → w.cell? (ad.add j) = some u) (hlen : l.length + m.length < 1099511627776) (hB : B ≤ w.heap.size)
    (h : ∀ v' w', w'.ownsRow B 3 1 v' (l ++ m).length (ints (l ++ m)) → Fr (fun k => some k = v.ownBlock) w w' → wpList Try.prog ops Q rest (a.put o.dst v') w') :
    wpList Try.prog ops Q (o :: rest) a w := by
  obtain ⟨i0, hi, hz0, hz1, hz2⟩ := info_parts info_int
  refine wpList_append_own w hgd s x 23 ho B 3 i0 (.int .i64 0) 1 8 Try.underlying23 hi hz0 hz1 hz2 rfl (by decide) v l.length (ints l) hs hown ad m.length c (ints m) hx (by simp [ints]) hnew (ints_one m) ?_ ?_ hB ?_
  · unfold maxLen; omega
  · omega
  · intro v' w' h1 h2 _
    refine h v' w' ?_ (grown_fr h2)
    have e : ints l ++ ints m = ints (l ++ m) := by simp [ints]
    rw [e] at h1
    simpa using h1
theorem rints_cells {w : World} {b o n c : Nat} {l : List Int} (h : RInts w (.slice (some ⟨b, o, none⟩) n c) l) : ∀ j u, (ints l)[j]? = some u → w.cell? ((⟨b, o, none⟩ : Addr).add j) = some u := by
  intro j u hj
  have hl : 0 < (ints l).length := by
    have := (List.getElem?_eq_some_iff.1 hj).1
    omega
  obtain ⟨ad, e, hc⟩ := rints_news h hl
  injection e with e
  subst e
  exact hc j u hj
theorem two_news (w : World) (x y : Int) (e : TypeId) : ∀ j u, (ints [x, y])[j]? = some u → (w.alloc (.cells #[.int .i64 x, .int .i64 y] e)).cell? ((⟨w.heap.size, 0, none⟩ : Addr).add j) = some u := by
  intro j u hj
  match j, hj with
  | 0, hj => simp [ints] at hj; subst hj; simp [Addr.add]
  | 1, hj => simp [ints] at hj; subst hj; simp [Addr.add]
  | j + 2, hj => simp [ints] at hj

set_option maxHeartbeats 3200000 in
theorem l15Next_any (b o c : Nat) (ps : Prs) (x y : Int) (w : World) (h : RInts w (.slice (some ⟨b, o, none⟩) (2 * ps.length) c) (flatP ps)) (hl : ps.length ≤ 1048576) :
    Calls Try.prog 115 #[.slice (some ⟨b, o, none⟩) (2 * ps.length) c, .int .i64 x, .int .i64 y] w fun e w' => ∃ b' o' c', e = .returned (.tuple #[.slice (some ⟨b', o', none⟩) (2 * (nextL ps x y).length) c', .bool (nextOk ps x y)]) ∧ RInts w' (.slice (some ⟨b', o', none⟩) (2 * (nextL ps x y).length) c') (flatP (nextL ps x y)) ∧ Below w.heap.size w w' := by
  have H := Lib.hid h
  have hm := h.len
  rw [flatP_len] at hm
  have hcap : 2 * ps.length ≤ 2147483648 := by omega
  by_cases hx : x < 1
  · by_cases he : x = y
    · subst he
      have hok : nextOk ps x x = true := nextOk_iff.2 (.inl ⟨hx, rfl⟩)
      have hnl : nextL ps x x = ps := by rw [nextL, if_neg (by simp [hx])]
      rw [hok, hnl]
      clear hok hnl h
      go_enter Try.func115, Try.ntmps115
      go_wp2
      go_ret2
      exact ⟨b, o, c, rfl, H.out, Below.refl _ _⟩
    · have hok : nextOk ps x y = false := by
        cases hh : nextOk ps x y with
        | false => rfl
        | true => rcases nextOk_iff.1 hh with ⟨_, e⟩ | ⟨e, _⟩ <;> omega
      have hnl : nextL ps x y = ps := by rw [nextL, if_neg (by simp [hok])]
      rw [hok, hnl]
      have hne : (x != y) = true := by simpa using he
      clear hok hnl h he
      go_enter Try.func115, Try.ntmps115
      go_wp2
      go_ret2
      exact ⟨b, o, c, rfl, H.out, Below.refl _ _⟩
  · have hx1 : 1 ≤ x := by omega
    by_cases hy : y < 1
    · have hok : nextOk ps x y = false := by
        cases hh : nextOk ps x y with
        | false => rfl
        | true => rcases nextOk_iff.1 hh with ⟨e, _⟩ | ⟨_, e, _⟩ <;> omega
      have hnl : nextL ps x y = ps := by rw [nextL, if_neg (by simp [hok])]
      rw [hok, hnl]
      have hne : (x != y) = true := by rw [bne_iff_ne]; omega
      clear hok hnl h hx
      go_enter Try.func115, Try.ntmps115
      go_wp2
      go_ret2
      exact ⟨b, o, c, rfl, H.out, Below.refl _ _⟩
    · have hy1 : 1 ≤ y := by omega
      have hok : nextOk ps x y = !clash ps x y := by
        rw [nextOk, show decide (x < 1) = false by simpa using hx, show decide (y < 1) = false by simpa using hy]; rfl
      have HOK := Lib.hid hok
      have hd1 : decide (x < 1) = false := by simpa using hx
      have hd2 : decide (y < 1) = false := by simpa using hy
      clear hok h hx hy
      go_enter Try.func115, Try.ntmps115
      go_wp2
      go_loopg [8] ps.length (fun q i wr => ∃ j p : Nat, p = 2 * j ∧ j + q = ps.length ∧ i = .int .i64 p ∧ clash (ps.take j) x y = false ∧ Below w.heap.size w wr)
      case atStart => exact ⟨0, 0, rfl, by omega, rfl, rfl, Below.refl _ _⟩
      case round =>
        obtain ⟨j, p, hp, hk, rfl, hcl, hb⟩ := hrel
        have HK := Lib.hid (And.intro hk hp)
        have HCL := Lib.hid hcl
        by_cases hjn : j < ps.length
        · have hpi : (p : Int) < ((2 * ps.length : Nat) : Int) := by omega
          have hpi1 : (p : Int) + 1 < ((2 * ps.length : Nat) : Int) := by omega
          have hpi' : (p : Int) < 2 * (ps.length : Int) := by omega
          have hpi1' : (p : Int) + 1 < 2 * (ps.length : Int) := by omega
          have hg := gi_flat ps j hjn
          rw [← hp] at hg
          have hca := ((H.out.keep hb).at p (by rw [flatP_len]; omega)).2
          have hcb := ((H.out.keep hb).at (p + 1) (by rw [flatP_len]; omega)).2
          rw [hg.1] at hca
          rw [hg.2] at hcb
          have hstep := clash_take hjn x y
          rw [hcl, Bool.false_or] at hstep
          have HST := Lib.hid hstep
          have HG := Lib.hid (clash_of (ps := ps) (x := x) (y := y) hjn)
          have hgb : b < wr.heap.size := World.block_lt_of_cell? wr _ hca
          have e1 : IntKind.i64.wrap ((p : Int) + 1) = (p : Int) + 1 := IntWalk.i64_in _ (by omega)
          have e4 : ((p : Int) + 1).toNat = p + 1 := by omega
          have e6 : (0 : Int) ≤ (p : Int) + 1 := by omega
          generalize hX : ps[j].1 = X at *
          generalize hY : ps[j].2 = Y at *
          clear hg hp hk hcl hstep hX hY
          cases y1 : (X == x)
          all_goals cases y2 : (Y == y)
          · have HN : Hid (clash (ps.take (j + 1)) x y = false) := Lib.hid (by rw [HST.out, y1, y2]; rfl)
            clear HG HST HOK
            go_wp2
            refine wp_region_ext (by kernel_rfl) (by kernel_rfl) ?_
            repeat (go_big_quiet_step (fail))
            refine wpQuiet_nil ?_
            intro w5 hb5
            clear e1 e4 e6
            go_wp2
            go_roundg (gk - 1)
            case rel => exact ⟨j + 1, p + 2, by have := HK.out.2; omega, by have := HK.out.1; omega, by go_num, HN.out, bt hb hb5⟩
            case measure => have := HK.out.1; omega
          · have hok : nextOk ps x y = false := by rw [HOK.out, HG.out (by rw [y1, y2]; rfl)]; rfl
            have hnl : nextL ps x y = ps := by rw [nextL, if_neg (by simp [hok])]
            have HF := Lib.hid (And.intro hok hnl)
            clear HG HST HOK hok hnl
            go_wp2
            refine wp_region_ext (by kernel_rfl) (by kernel_rfl) ?_
            repeat (go_big_quiet_step (fail))
            refine wpQuiet_nil ?_
            intro w5 hb5
            clear e1 e4 e6
            go_wp2
            go_ret2
            rw [HF.out.1, HF.out.2]
            exact ⟨b, o, c, rfl, H.out.keep (bt hb hb5), bt hb hb5⟩
          · have hok : nextOk ps x y = false := by rw [HOK.out, HG.out (by rw [y1, y2]; rfl)]; rfl
            have hnl : nextL ps x y = ps := by rw [nextL, if_neg (by simp [hok])]
            have HF := Lib.hid (And.intro hok hnl)
            clear HG HST HOK hok hnl
            go_wp2
            refine wp_region_ext (by kernel_rfl) (by kernel_rfl) ?_
            repeat (go_big_quiet_step (fail))
            refine wpQuiet_nil ?_
            intro w5 hb5
            clear e1 e4 e6
            go_wp2
            go_ret2
            rw [HF.out.1, HF.out.2]
            exact ⟨b, o, c, rfl, H.out.keep (bt hb hb5), bt hb hb5⟩
          · have HN : Hid (clash (ps.take (j + 1)) x y = false) := Lib.hid (by rw [HST.out, y1, y2]; rfl)
            clear HG HST HOK
            go_wp2
            refine wp_region_ext (by kernel_rfl) (by kernel_rfl) ?_
            repeat (go_big_quiet_step (fail))
            refine wpQuiet_nil ?_
            intro w5 hb5
            clear e1 e4 e6
            go_wp2
            go_roundg (gk - 1)
            case rel => exact ⟨j + 1, p + 2, by have := HK.out.2; omega, by have := HK.out.1; omega, by go_num, HN.out, bt hb hb5⟩
            case measure => have := HK.out.1; omega
        · obtain rfl : j = ps.length := by have := HK.out.1; omega
          have hok : nextOk ps x y = true := by rw [HOK.out, show clash ps x y = false by have := HCL.out; rwa [List.take_length] at this]; rfl
          have hnl : nextL ps x y = ps ++ [(x, y)] := nextL_new hok hx1
          have hfl : flatP (ps ++ [(x, y)]) = ([] ++ flatP ps) ++ [x, y] := by rw [flatP_app]; rfl
          have hlen : 2 * (ps ++ [(x, y)]).length = (([] ++ flatP ps) ++ [x, y]).length := by rw [← hfl, flatP_len]
          have HFIN := Lib.hid (And.intro hok (And.intro hnl (And.intro hlen hfl)))
          have hpn : ¬ (p : Int) < ((2 * ps.length : Nat) : Int) := by omega
          have hpn' : 2 * (ps.length : Int) ≤ (p : Int) := by omega
          have hfn := flatP_len ps
          have HFN := Lib.hid hfn
          have hN := rints_cells (H.out.keep (ba hb (.cells #[] 3)))
          have HNW := Lib.hid hN
          clear hp hk hcl hok hnl hlen hfl hN hfn
          have hsb := hb.size
          go_wp2_with (first
            | (refine app_ints _ rfl (.tmp 45) (.tmp 46) rfl wr.heap.size _ [] (flatP ps) rfl (own_empty wr _ _ (Nat.le_refl _)) ⟨b, o, none⟩ c (by rw [HFN.out]; rfl) HNW.out (by rw [HFN.out]; simp; omega) (by simp) ?_; intro v1 w6 hown6 hf6; have HO6 := Lib.hid (And.intro hown6 hf6); clear hown6 hf6)
            | (refine app_ints _ rfl (.tmp 47) (.tmp 50) rfl wr.heap.size _ ([] ++ flatP ps) [x, y] rfl (own_keep HO6.out.1 (below_alloc _ _)) ⟨w6.heap.size, 0, none⟩ 2 rfl (two_news _ _ _ _) (by simp [HFN.out]; omega) (by have := HO6.out.2.size; simp at this ⊢; omega) ?_; intro v2 w7 hown7 hf7; have HO7 := Lib.hid (And.intro hown7 hf7); clear hown7 hf7))
          refine bodyPost_ret (results_tmp2 rfl _ _ _) rfl ?_
          rw [HFIN.out.1, HFIN.out.2.1, HFIN.out.2.2.1, HFIN.out.2.2.2]
          have rr := (own_ints HO7.out.1).1
          obtain ⟨g7, c7, rfl, hg7, hgl7⟩ := own_at HO7.out.1 (by simp)
          refine ⟨g7, 0, c7, rfl, rr, ?_⟩
          have f6 := HO6.out.2
          have f7 := HO7.out.2
          have b6 : Below wr.heap.size wr w6 := (below_alloc wr _).trans (f6.below (by simp) (fun k hk e => by have := (own_lt (own_empty wr wr.heap.size 3 (Nat.le_refl _)) e).1; omega))
          have b7 : Below wr.heap.size wr w7 := (b6.trans ((below_alloc w6 _).mono b6.size)).trans (f7.below (by simp; have := b6.size; omega) (fun k hk e => by have := (own_lt HO6.out.1 e).1; omega))
          exact bt hb b7
/-- The same as a step of a region that draws; at least one integer. -/
theorem step_ints {ops : Array Oper} {o : Oper} {a : Act} {K : Act → World → Prop} {Q : Exit → Act → World → Prop} {E : Prop} (w : World) (hgd : o.guard = none) (s x : Operand)
    (ho : o.op = .call { callee := .builtin .append, args := #[s, x], argTypes := #[23, 23] })
    (B : Nat) (v : Value) (l m : List Int) (hs : a.eval s = v) (hown : w.ownsRow B 3 1 v l.length (ints l))
    (ad : Addr) (c : Nat) (hx : a.eval x = .slice (some ad) m.length c) (hnew : ∀ j u, (ints m)[j]? = some u → w.cell? (ad.add j) = some u) (hp : 0 < m.length) (hlen : l.length + m.length < 1099511627776) (hB : B ≤ w.heap.size)
    (h : ∀ v' w', w'.ownsRow B 3 1 v' (l ++ m).length (ints (l ++ m)) → Fr (fun k => some k = v.ownBlock) w w' → K (a.put o.dst v') w') :
    if Region.wanted o (yielded ops a.tmps) = true then Oper.wp Try.prog o a w K Q else E := by
  obtain ⟨i0, hi, hz0, hz1, hz2⟩ := info_parts info_int
  refine step_append_lies w hgd s x 23 ho B 3 i0 (.int .i64 0) 1 8 Try.underlying23 hi hz0 hz1 hz2 rfl (by decide) v l.length (ints l) hs hown ad m.length c (ints m) hx (by simp [ints]) hnew (ints_one m) hp ?_ ?_ hB _ rfl ?_
  · unfold maxLen; omega
  · omega
  · intro g cap w' h1 h2 _ _
    refine h _ w' ?_ (grown_fr h2)
    have e : ints l ++ ints m = ints (l ++ m) := by simp [ints]
    rw [e] at h1
    simpa using h1

theorem dist_take {ps : Prs} {j : Nat} (h : j < ps.length) (out : Prs) : distP out (ps.take (j + 1)) = (if known (distP out (ps.take j)) (ps[j]).1 = true then distP out (ps.take j) else distP out (ps.take j) ++ [ps[j]]) := by
  have key : ∀ (r : Prs) (q : Int × Int) (out : Prs), distP out (r ++ [q]) = if known (distP out r) q.1 = true then distP out r else distP out r ++ [q] := by
    intro r
    induction r with
    | nil => intro q out; rfl
    | cons a r ih => intro q out; simp only [List.cons_append, distP]; exact ih q _
  rw [List.take_succ_eq_append_getElem h]
  exact key _ _ _
theorem dist_le : ∀ (r out : Prs), (distP out r).length ≤ out.length + r.length
  | [], _ => by simp [distP]
  | q :: r, out => by
    unfold distP
    split
    · have := dist_le r out; simp; omega
    · have := dist_le r (out ++ [q]); simp at this ⊢; omega
theorem known_take {ps : Prs} {j : Nat} (h : j < ps.length) (x : Int) : known (ps.take (j + 1)) x = (known (ps.take j) x || ((ps[j]).1 == x)) := by
  unfold known
  rw [List.take_succ_eq_append_getElem h, List.any_append]
  simp

set_option maxHeartbeats 3200000 in
theorem l15Distinct_any (b o c : Nat) (ps : Prs) (w : World) (h : RInts w (.slice (some ⟨b, o, none⟩) (2 * ps.length) c) (flatP ps)) (hl : ps.length ≤ 1048576) :
    Calls Try.prog 117 #[.slice (some ⟨b, o, none⟩) (2 * ps.length) c] w fun e w' => ∃ b' o' c', e = .returned (.slice (some ⟨b', o', none⟩) (2 * (distP [] ps).length) c') ∧ RInts w' (.slice (some ⟨b', o', none⟩) (2 * (distP [] ps).length) c') (flatP (distP [] ps)) ∧ Below w.heap.size w w' := by
  have H := Lib.hid h
  clear h
  go_enter Try.func117, Try.ntmps117
  go_wp2
  go_loopg [3, 4] ps.length (fun q v i wr => ∃ j p g cv : Nat, p = 2 * j ∧ j + q = ps.length ∧ i = .int .i64 p ∧ v = .slice (some ⟨g, 0, none⟩) (flatP (distP [] (ps.take j))).length cv ∧ wr.ownsRow w.heap.size 3 1 v (flatP (distP [] (ps.take j))).length (ints (flatP (distP [] (ps.take j)))) ∧ Below w.heap.size w wr)
  case atStart => exact ⟨0, 0, w.heap.size, 0, rfl, by omega, rfl, rfl, own_empty _ _ _ (Nat.le_refl _), below_alloc _ _⟩
  case round =>
    obtain ⟨j, p, g, cv, hp, hk, rfl, rfl, hown, hb⟩ := hrel
    have HK := Lib.hid (And.intro hk hp)
    have HO := Lib.hid hown
    have hdl := dist_le (ps.take j) []
    have htl : (ps.take j).length ≤ j := List.length_take_le _ _
    have hol : (distP [] (ps.take j)).length ≤ 1048576 := by simp at hdl; omega
    have hro := (own_ints hown).1
    have hgl := (own_lt hown (k := g) rfl).2
    have hgB := (own_lt hown (k := g) rfl).1
    obtain ⟨out, hout⟩ : ∃ out, out = distP [] (ps.take j) := ⟨_, rfl⟩
    rw [← hout] at hro hol HO
    rw [← hout]
    have HOUT := Lib.hid hout
    have hfl := flatP_len out
    rw [hfl] at hro
    rw [hfl]
    have HFL := Lib.hid hfl
    have HRO := Lib.hid hro
    have hsb := hb.size
    clear hown hdl htl hout hfl hro
    by_cases hjn : j < ps.length
    · have hpi' : (p : Int) < 2 * (ps.length : Int) := by omega
      have hpi1' : (p : Int) + 1 < 2 * (ps.length : Int) := by omega
      have hg2 := gi_flat ps j hjn
      rw [← hp] at hg2
      have hca := ((H.out.keep hb).at p (by rw [flatP_len]; omega)).2
      have hcb := ((H.out.keep hb).at (p + 1) (by rw [flatP_len]; omega)).2
      rw [hg2.1] at hca
      rw [hg2.2] at hcb
      have hdt := dist_take hjn []
      have HDT := Lib.hid hdt
      have e1 : IntKind.i64.wrap ((p : Int) + 1) = (p : Int) + 1 := IntWalk.i64_in _ (by omega)
      have e4 : ((p : Int) + 1).toNat = p + 1 := by omega
      have e6 : (0 : Int) ≤ (p : Int) + 1 := by omega
      have hgb : b < wr.heap.size := World.block_lt_of_cell? wr _ hca
      obtain ⟨q, hq⟩ : ∃ q, q = ps[j] := ⟨_, rfl⟩
      rw [← hq] at hca hcb
      have HQ := Lib.hid hq
      obtain ⟨wo, rfl⟩ : ∃ wo : World, wo = wr := ⟨_, rfl⟩
      obtain ⟨g0, rfl⟩ : ∃ g0 : Nat, g0 = gk := ⟨_, rfl⟩
      clear hg2 hp hk hdt hq
      go_wp2
      go_loopg [5, 6] out.length (fun q' kb i wr => ∃ m r : Nat, r = 2 * m ∧ m + q' = out.length ∧ i = .int .i64 r ∧ kb = .bool (known (out.take m) q.1) ∧ Below wo.heap.size wo wr)
      case atStart => exact ⟨0, 0, rfl, by omega, rfl, rfl, Below.refl _ _⟩
      case round =>
        obtain ⟨m, r, hr, hm, rfl, rfl, hbi⟩ := hrel
        have HM := Lib.hid (And.intro hm hr)
        have hca' := cell_keep hbi hca
        by_cases hmn : m < out.length
        · have hri : (r : Int) < 2 * (out.length : Int) := by omega
          have hgo := gi_flat out m hmn
          rw [← hr] at hgo
          have hco := ((HRO.out.keep hbi).at r (by rw [flatP_len]; omega)).2
          rw [Nat.zero_add, hgo.1] at hco
          have hgo' : g < wr.heap.size := World.block_lt_of_cell? wr _ hco
          have hbb' : b < wr.heap.size := World.block_lt_of_cell? wr _ hca'
          have hkt := known_take hmn q.1
          have HKT := Lib.hid hkt
          clear hgo hr hm hkt
          cases hkn : known (out.take m) q.1
          · rw [hkn] at HKT
            have HKN := Lib.hid hkn
            clear hkn
            go_wp2
            refine wp_region_ext (by kernel_rfl) (by kernel_rfl) ?_
            repeat (go_big_quiet_step (fail))
            refine wpQuiet_nil ?_
            intro w5 hb5
            go_wp2
            go_roundg (gk - 1)
            case rel => exact ⟨m + 1, r + 2, by have := HM.out.2; omega, by have := HM.out.1; omega, by go_num, by rw [HKT.out]; rfl, bt hbi hb5⟩
            case measure => have := HM.out.1; omega
          · rw [hkn] at HKT
            have HKN := Lib.hid hkn
            clear hkn
            go_wp2
            refine wp_region_ext (by kernel_rfl) (by kernel_rfl) ?_
            repeat (go_big_quiet_step (fail))
            refine wpQuiet_nil ?_
            intro w5 hb5
            go_wp2
            go_roundg (gk - 1)
            case rel => exact ⟨m + 1, r + 2, by have := HM.out.2; omega, by have := HM.out.1; omega, by go_num, by rw [HKT.out]; rfl, bt hbi hb5⟩
            case measure => have := HM.out.1; omega
        · obtain rfl : m = out.length := by have := HM.out.1; omega
          have hri : 2 * (out.length : Int) ≤ (r : Int) := by omega
          have hbx := bt hb hbi
          have hcb' := cell_keep hbi hcb
          have hbb' : b < wr.heap.size := World.block_lt_of_cell? wr _ hca'
          have HO2 := Lib.hid (own_keep HO.out hbi)
          clear hr hm
          rw [List.take_length]
          cases hkn : known out q.1
          · have hnew : distP [] (ps.take (j + 1)) = out ++ [q] := by rw [HDT.out, ← HOUT.out, ← HQ.out, if_neg (by rw [hkn]; simp)]
            have hflat : flatP (out ++ [q]) = flatP out ++ [q.1, q.2] := by rw [flatP_app]; rfl
            have HN := Lib.hid (And.intro hnew hflat)
            clear hkn hnew hflat
            go_wp2
            have hO3 : wr.ownsRow w.heap.size 3 1 (.slice (some ⟨g, 0, none⟩) (2 * out.length) cv) (flatP out).length (ints (flatP out)) := by have h := HO2.out; rw [HFL.out] at h ⊢; exact h
            have HO3 := Lib.hid hO3
            clear hO3
            have hng : b ≠ g := by have := World.block_lt_of_cell? w _ ((H.out.at p (by rw [flatP_len]; have := HK.out; omega)).2); simp at this; omega
            have HNG := Lib.hid hng
            clear hng
            go_region_held3 (fun w' => w'.cell? ⟨b, o + p, none⟩ = some (.int .i64 q.1) ∧ w'.cell? ⟨b, o + (p + 1), none⟩ = some (.int .i64 q.2))
              (first | exact ⟨hca', hcb'⟩ | exact ⟨cell_keep (below_drew _) hca', cell_keep (below_drew _) hcb'⟩ | exact ⟨cell_keep (ba (below_drew _) _) hca', cell_keep (ba (below_drew _) _) hcb'⟩ | exact ⟨cell_keep (below_alloc _ _) hca', cell_keep (below_alloc _ _) hcb'⟩ | exact ⟨cell_keep (bd (below_alloc _ _)) hca', cell_keep (bd (below_alloc _ _)) hcb'⟩ | exact ⟨hya, hyb⟩)
              ((refine step_ints _ (by rfl) _ _ (by rfl) w.heap.size (.slice (some ⟨g, 0, none⟩) (2 * out.length) cv) (flatP out) [q.1, q.2] (by rfl) (by first | exact own_keep HO3.out (below_alloc _ _) | exact own_keep HO3.out (bd (below_alloc _ _)) | exact own_keep HO3.out (ba (below_drew _) _)) _ 2 (by rfl) (by first | exact two_news _ _ _ _ | exact two_news wr _ _ _) (Nat.succ_pos _) (by rw [HFL.out]; simp; omega) (by have := hbx.size; simp; omega) ?_; intro v6 w6 hown6 hf6; have hya : w6.cell? ⟨b, o + p, none⟩ = some (.int .i64 q.1) := hf6.cell (fun e => HNG.out (Option.some.inj e)) (by first | exact cell_keep (below_alloc _ _) hca' | exact cell_keep (bd (below_alloc _ _)) hca'); have hyb : w6.cell? ⟨b, o + (p + 1), none⟩ = some (.int .i64 q.2) := hf6.cell (fun e => HNG.out (Option.some.inj e)) (by first | exact cell_keep (below_alloc _ _) hcb' | exact cell_keep (bd (below_alloc _ _)) hcb'); have hb6 : Below w.heap.size w w6 := (by first | exact below_own (own_keep HO3.out (below_alloc _ _)) hf6 (ba hbx _) (by have := hbx.size; simp; omega) | exact below_own (own_keep HO3.out (bd (below_alloc _ _))) hf6 (bd (ba hbx _)) (by have := hbx.size; simp; omega))))
            obtain ⟨g6, c6, rfl, hg6, hgl6⟩ := own_at hown6 (by simp)
            go_wp2
            go_roundg (g0 - 1)
            case rel =>
              have hb7 : Below w.heap.size w w6 := hb6
              refine ⟨j + 1, p + 2, g6, c6, by have := HK.out.2; omega, by have := HK.out.1; omega, by go_num, by rw [HN.out.1, HN.out.2], ?_, ?_⟩
              · rw [HN.out.1, HN.out.2]; first | exact hown6 | exact own_keep hown6 (below_drew _)
              · first | exact hb6 | exact bd hb6
            case measure => have := HK.out.1; omega
          · have hnew : distP [] (ps.take (j + 1)) = out := by rw [HDT.out, ← HOUT.out, ← HQ.out, if_pos hkn]
            have HN := Lib.hid hnew
            clear hkn hnew
            go_wp2
            go_roundg (g0 - 1)
            case rel => exact ⟨j + 1, p + 2, g, cv, by have := HK.out.2; omega, by have := HK.out.1; omega, by go_num, by rw [HN.out, HFL.out], by rw [HN.out]; have h := HO2.out; rw [HFL.out] at h ⊢; exact h, hbx⟩
            case measure => have := HK.out.1; omega
    · obtain rfl : j = ps.length := by have := HK.out.1; omega
      have hpi : 2 * (ps.length : Int) ≤ (p : Int) := by omega
      have hfin : out = distP [] ps := by have := HOUT.out; rwa [List.take_length] at this
      have HFIN := Lib.hid hfin
      clear hfin hp hk
      go_wp2
      go_ret
      rw [← HFIN.out]
      exact ⟨g, 0, cv, rfl, HRO.out, hb⟩
end Go.Proofs.Ythoingdcmdhllaa
/- Walks: the reference's used cells; its search by pairs. -/
namespace Go.Proofs.Ythoingdcmdhllaa
open Go.RowKit

theorem state_form {w : World} {v : Value} {l : List Int} (h : RInts w v l) (hl : l.length = 8) : ∃ b o c, v = .slice (some ⟨b, o, none⟩) 8 c := by
  obtain ⟨b, o, cap, rfl, _⟩ := h.ne (by omega)
  exact ⟨b, o, cap, by rw [hl]⟩
set_option maxHeartbeats 1600000 in
theorem specUsed_any (vs hv : Value) (vl hl : List Int) (w : World) (h1 : RInts w vs vl) (h2 : RInts w hv hl) (hv1 : validB vl hl = true) :
    Calls Try.prog 182 #[.agg #[vs, hv]] w fun e w' => ∃ v, e = .returned v ∧ w'.ownsRow w.heap.size 3 1 v (usedA' hl).length (ints (usedA' hl)) ∧ Below w.heap.size w w' := by
  have hh8 := (valid_len hv1).2
  have HV := Lib.hid (And.intro hv1 hh8)
  clear hv1 hh8
  go_enter Try.func182, Try.ntmps182
  go_wp2_with fail
  have q1 : RInts (w.alloc (.cells #[vs, hv] 25)) vs vl := h1.alloc _
  have q2 : RInts (w.alloc (.cells #[vs, hv] 25)) hv hl := h2.alloc _
  have hb01 : Below w.heap.size w (w.alloc (.cells #[vs, hv] 25)) := below_alloc _ _
  have hc0 : (w.alloc (.cells #[vs, hv] 25)).cell? ⟨w.heap.size, 0, none⟩ = some vs := by simp
  have hc1 : (w.alloc (.cells #[vs, hv] 25)).cell? ⟨w.heap.size, 1, none⟩ = some hv := by simp
  obtain ⟨w1, hw1⟩ : ∃ w1, w1 = w.alloc (.cells #[vs, hv] 25) := ⟨_, rfl⟩
  have hsz : w.heap.size < w1.heap.size := by rw [hw1]; simp
  have hsz1 : w1.heap.size = w.heap.size + 1 := by rw [hw1]; simp
  rw [← hw1] at q1 q2 hb01 hc0 hc1
  try rw [← hw1]
  clear hw1 h1 h2
  go_loopg [3, 4] 8 (fun q v i wr => ∃ k : Nat, k + q = 8 ∧ i = .int .i64 ((k : Int) + 1) ∧ wr.ownsRow w1.heap.size 3 1 v (sel (fun n => alB hl (n : Int)) 1 k).length (ints (sel (fun n => alB hl (n : Int)) 1 k)) ∧ Below w1.heap.size w1 wr)
  case atStart => exact ⟨0, by omega, rfl, by rw [← hsz1]; exact own_empty _ _ _ (Nat.le_refl _), below_alloc _ _⟩
  case round =>
    obtain ⟨k, hk, rfl, hown, hb⟩ := hrel
    have HK := Lib.hid hk
    have HO := Lib.hid hown
    have hbs := hb.size
    have hc0r := cell_keep hb hc0
    have hc1r := cell_keep hb hc1
    clear hk hown
    by_cases hk8 : k < 8
    · have hki : (k : Int) + 1 ≤ 8 := by omega
      have hsl := sel_len (fun n => alB hl (n : Int)) 1 k
      have e2 : (((1 + k : Nat) : Int)) = (k : Int) + 1 := by omega
      cases hp : alB hl ((k : Int) + 1)
      · have hy := sel_no (p := fun n => alB hl (n : Int)) (a := 1) (k := k) (by show alB hl ((1 + k : Nat) : Int) = false; rw [e2]; exact hp)
        have HY := Lib.hid (And.intro hy hp)
        clear hy e2 hp
        go_wp2_with (first
          | (go_at_call 74; go_must (refine (specStateValid_any _ _ vl hl _ (q1.keep hb) (q2.keep hb)).mono ?_; rw [HV.out.1]; rintro e w2 ⟨rfl, hb2⟩; have hb02 := bt hb hb2; have hc02 := cell_keep hb02 hc0; have hc12 := cell_keep hb02 hc1))
          | (go_at_call 180; go_must (refine (l2Has_any _ _ hl _ _ (q2.keep hb02) (by rw [HV.out.2]; omega)).mono ?_; rw [HY.out.2]; rintro e w3 ⟨rfl, hb3⟩; have hb03 := bt hb02 hb3)))
        go_roundg (gk - 1)
        case rel => exact ⟨k + 1, by have := HK.out; omega, by go_num, by rw [HY.out.1]; exact own_keep (own_keep HO.out hb2) hb3, hb03⟩
        case measure => have := HK.out; omega
      · have hy := sel_yes (p := fun n => alB hl (n : Int)) (a := 1) (k := k) (by show alB hl ((1 + k : Nat) : Int) = true; rw [e2]; exact hp)
        rw [e2] at hy
        have HY := Lib.hid (And.intro hy hp)
        clear hy e2 hp
        go_wp2_with (first
          | (go_at_call 74; go_must (refine (specStateValid_any _ _ vl hl _ (q1.keep hb) (q2.keep hb)).mono ?_; rw [HV.out.1]; rintro e w2 ⟨rfl, hb2⟩; have hb02 := bt hb hb2; have hc02 := cell_keep hb02 hc0; have hc12 := cell_keep hb02 hc1))
          | (go_at_call 180; go_must (refine (l2Has_any _ _ hl _ _ (q2.keep hb02) (by rw [HV.out.2]; omega)).mono ?_; rw [HY.out.2]; rintro e w3 ⟨rfl, hb3⟩; have hb03 := bt hb02 hb3; have hbs3 := hb03.size))
          | (at_builtin; go_must (refine app_int _ rfl _ _ rfl w1.heap.size _ _ rfl (own_keep (own_keep (own_keep HO.out hb2) hb3) (below_alloc _ _)) ⟨w3.heap.size, 0, none⟩ _ rfl (cell_new1 _ _ _) (by omega) (by simp; omega) ?_; intro v' w4 hown4 hf4)))
        go_roundg (gk - 1)
        case rel => exact ⟨k + 1, by have := HK.out; omega, by go_num, by rw [HY.out.1]; exact hown4, below_own (own_keep (own_keep (own_keep HO.out hb2) hb3) (below_alloc _ _)) hf4 (ba hb03 _) (by simp; omega)⟩
        case measure => have := HK.out; omega
    · obtain rfl : k = 8 := by have := HK.out; omega
      go_wp2
      go_ret
      exact ⟨_, rfl, own_mono HO.out hb01.size, bt hb01 hb⟩

theorem beq_cast (a b : Nat) : ((a : Int) == (b : Int)) = decide (a = b) := by
  rw [Bool.eq_iff_iff]; simp
  try omega
theorem pairs_le {ps : Prs} (hi : PI ps) (hn : (ps.map (·.1)).Nodup) : ps.length ≤ 8 := by
  have := sub_len hn (b := addrs) (fun x hx => by
    obtain ⟨q, hq, rfl⟩ := List.mem_map.1 hx
    exact mem_addrs.2 (hi.adr q hq).1)
  rwa [addrs_len, List.length_map] at this
/-- The search, borne so many pairs more. -/
def MatchOK (vl hl vm hm : List Int) (f : Nat) : Prop := ∀ (s1 h1 s2 h2 : Value) (b o c : Nat) (ps : Prs) (n : Nat) (nI : Int) (w : World), RInts w s1 vl → RInts w h1 hl → RInts w s2 vm → RInts w h2 hm →
  9 ≤ ps.length + f → PI ps → (ps.map (·.1)).Nodup → 1 ≤ n → n ≤ 9 → nI = (n : Int) → RInts w (.slice (some ⟨b, o, none⟩) (2 * ps.length) c) (flatP ps) →
  Calls Try.prog 116 #[.agg #[s1, h1], .agg #[s2, h2], .slice (some ⟨b, o, none⟩) (2 * ps.length) c, .int .i64 nI] w fun e w' => e = .returned (.bool (matchF hl hm f ps n)) ∧ Below w.heap.size w w'
def guessP (hl hm : List Int) (f : Nat) (ps : Prs) (k m : Nat) : Bool := nextOk ps (k : Int) ((m : Int) + 1) && (alB hm ((m : Int) + 1) && matchF hl hm f (nextL ps (k : Int) ((m : Int) + 1)) (k + 1))

set_option maxRecDepth 100000 in
set_option maxHeartbeats 3200000 in
theorem guess_any (vl hl vm hm : List Int) (hv : validB vl hl = true) (hw : validB vm hm = true) (f : Nat) (hM : MatchOK vl hl vm hm f) (s1 h1 s2 h2 : Value) (b o c : Nat) (ps : Prs) (k : Nat) (w : World) (r1 : RInts w s1 vl) (r2 : RInts w h1 hl) (r3 : RInts w s2 vm) (r4 : RInts w h2 hm)
    (hf : 9 ≤ ps.length + 1 + f) (hi : PI ps) (hn : (ps.map (·.1)).Nodup) (hk1 : 1 ≤ k) (hk8 : k ≤ 8) (hkn : known ps (k : Int) = false) (hr : RInts w (.slice (some ⟨b, o, none⟩) (2 * ps.length) c) (flatP ps)) :
    Calls Try.prog 181 #[.agg #[s1, h1], .agg #[s2, h2], .slice (some ⟨b, o, none⟩) (2 * ps.length) c, .int .i64 k] w fun e w' => e = .returned (.bool ((List.range 8).any (guessP hl hm f ps k))) ∧ Below w.heap.size w w' := by
  have hp8 := pairs_le hi hn
  have HM := Lib.hid hM
  have HI := Lib.hid (And.intro hf (And.intro hi (And.intro hn hkn)))
  have HV := Lib.hid (And.intro hv (And.intro hw (And.intro (valid_len hv).2 (valid_len hw).2)))
  have HR := Lib.hid (And.intro (And.intro r1 r2) (And.intro (And.intro r3 r4) hr))
  clear hM hf hi hn hkn hv hw r1 r2 r3 r4 hr
  go_enter Try.func181, Try.ntmps181
  go_wp2_with fail
  have q0 : ((w.alloc (.cells #[s1, h1] 25)).alloc (.cells #[s2, h2] 25)).cell? ⟨w.heap.size, 0, none⟩ = some s1 := by simp
  have q1 : ((w.alloc (.cells #[s1, h1] 25)).alloc (.cells #[s2, h2] 25)).cell? ⟨w.heap.size, 1, none⟩ = some h1 := by simp
  have q2 : ((w.alloc (.cells #[s1, h1] 25)).alloc (.cells #[s2, h2] 25)).cell? ⟨w.heap.size + 1, 0, none⟩ = some s2 := by simp
  have q3 : ((w.alloc (.cells #[s1, h1] 25)).alloc (.cells #[s2, h2] 25)).cell? ⟨w.heap.size + 1, 1, none⟩ = some h2 := by simp
  have hW : Below w.heap.size w ((w.alloc (.cells #[s1, h1] 25)).alloc (.cells #[s2, h2] 25)) := ba (below_alloc _ _) _
  generalize ((w.alloc (.cells #[s1, h1] 25)).alloc (.cells #[s2, h2] 25)) = w1 at *
  go_loopg [9] 8 (fun q i wr => ∃ m : Nat, m + q = 8 ∧ i = .int .i64 ((m : Int) + 1) ∧ (List.range m).any (guessP hl hm f ps k) = false ∧ Below w1.heap.size w1 wr)
  case atStart => exact ⟨0, by omega, rfl, rfl, Below.refl _ _⟩
  case round =>
    obtain ⟨m, hm1, rfl, hany, hb⟩ := hrel
    have HK := Lib.hid hm1
    have HANY := Lib.hid hany
    have hc0 := cell_keep hb q0
    have hc1 := cell_keep hb q1
    have hd0 := cell_keep hb q2
    have hd1 := cell_keep hb q3
    clear hm1 hany
    by_cases hm8 : m < 8
    · have hmi : (m : Int) + 1 ≤ 8 := by omega
      cases e1 : nextOk ps (k : Int) ((m : Int) + 1)
      · have hP : (List.range (m + 1)).any (guessP hl hm f ps k) = false := by rw [any_range_succ, HANY.out, guessP]; simp [e1]
        have HPA := Lib.hid hP
        clear hP
        have HP := Lib.hid (And.intro True.intro (And.intro e1 (And.intro True.intro (And.intro True.intro (And.intro True.intro (And.intro True.intro True.intro))))))
        clear e1
        go_wp2_with (first
          | (go_at_call 115; go_must (refine (l15Next_any b o c ps _ _ _ (HR.out.2.2.keep (bt hW hb)) (by omega)).mono ?_; rw [HP.out.2.1]; rintro e w2 ⟨b5, o5, c5, rfl, hr5, hb2⟩; have hb02 := bt hb hb2; have HR5 := Lib.hid hr5; have hx0 := cell_keep hb2 hc0; have hx1 := cell_keep hb2 hc1; have hy0 := cell_keep hb2 hd0; have hy1 := cell_keep hb2 hd1; clear hr5)))
        go_roundg (gk - 1)
        case rel => exact ⟨m + 1, by have := HK.out; omega, by go_num, HPA.out, hb02⟩
        case measure => have := HK.out; omega
      · have hs := HI.out
        have hi2 := next_PI (ps := ps) hs.2.1 (x := (k : Int)) (y := (m : Int) + 1) (by omega) (by omega)
        have hnl := nextL_new e1 (show (1 : Int) ≤ (k : Int) by omega)
        have hn2 : ((nextL ps (k : Int) ((m : Int) + 1)).map (·.1)).Nodup := by rw [hnl]; exact firsts_snoc hs.2.2.1 hs.2.2.2
        have hf2 : 9 ≤ (nextL ps (k : Int) ((m : Int) + 1)).length + f := by rw [hnl]; simp; omega
        clear hs hnl
        cases e2 : alB hm ((m : Int) + 1)
        · have hP : (List.range (m + 1)).any (guessP hl hm f ps k) = false := by rw [any_range_succ, HANY.out, guessP]; simp [e1, e2]
          have HPA := Lib.hid hP
          clear hP
          have HP := Lib.hid (And.intro True.intro (And.intro e1 (And.intro e2 (And.intro True.intro (And.intro hf2 (And.intro hi2 hn2))))))
          clear e1 e2 hf2 hi2 hn2
          go_wp2_with (first
            | (go_at_call 115; go_must (refine (l15Next_any b o c ps _ _ _ (HR.out.2.2.keep (bt hW hb)) (by omega)).mono ?_; rw [HP.out.2.1]; rintro e w2 ⟨b5, o5, c5, rfl, hr5, hb2⟩; have hb02 := bt hb hb2; have HR5 := Lib.hid hr5; have hx0 := cell_keep hb2 hc0; have hx1 := cell_keep hb2 hc1; have hy0 := cell_keep hb2 hd0; have hy1 := cell_keep hb2 hd1; clear hr5))
            | (go_at_call 180; go_must (refine (l2Has_any _ _ hm _ _ (HR.out.2.1.2.keep (bt hW hb02)) (by rw [HV.out.2.2.2]; omega)).mono ?_; rw [HP.out.2.2.1]; rintro e w3 ⟨rfl, hb3⟩; have hb03 := bt hb02 hb3; have hx0 := cell_keep hb3 hx0; have hx1 := cell_keep hb3 hx1; have hy0 := cell_keep hb3 hy0; have hy1 := cell_keep hb3 hy1)))
          go_roundg (gk - 1)
          case rel => exact ⟨m + 1, by have := HK.out; omega, by go_num, HPA.out, hb03⟩
          case measure => have := HK.out; omega
        · cases e3 : matchF hl hm f (nextL ps (k : Int) ((m : Int) + 1)) (k + 1)
          · have hP : (List.range (m + 1)).any (guessP hl hm f ps k) = false := by rw [any_range_succ, HANY.out, guessP]; simp [e1, e2, e3]
            have HPA := Lib.hid hP
            clear hP
            have HP := Lib.hid (And.intro True.intro (And.intro e1 (And.intro e2 (And.intro e3 (And.intro hf2 (And.intro hi2 hn2))))))
            clear e1 e2 e3 hf2 hi2 hn2
            go_wp2_with (first
              | (go_at_call 115; go_must (refine (l15Next_any b o c ps _ _ _ (HR.out.2.2.keep (bt hW hb)) (by omega)).mono ?_; rw [HP.out.2.1]; rintro e w2 ⟨b5, o5, c5, rfl, hr5, hb2⟩; have hb02 := bt hb hb2; have HR5 := Lib.hid hr5; have hx0 := cell_keep hb2 hc0; have hx1 := cell_keep hb2 hc1; have hy0 := cell_keep hb2 hd0; have hy1 := cell_keep hb2 hd1; clear hr5))
              | (go_at_call 180; go_must (refine (l2Has_any _ _ hm _ _ (HR.out.2.1.2.keep (bt hW hb02)) (by rw [HV.out.2.2.2]; omega)).mono ?_; rw [HP.out.2.2.1]; rintro e w3 ⟨rfl, hb3⟩; have hb03 := bt hb02 hb3; have hx0 := cell_keep hb3 hx0; have hx1 := cell_keep hb3 hx1; have hy0 := cell_keep hb3 hy0; have hy1 := cell_keep hb3 hy1))
              | (go_at_call 116; go_must (refine (HM.out _ _ _ _ b5 o5 c5 (nextL ps (k : Int) ((m : Int) + 1)) (k + 1) _ _ (HR.out.1.1.keep (bt hW hb03)) (HR.out.1.2.keep (bt hW hb03)) (HR.out.2.1.1.keep (bt hW hb03)) (HR.out.2.1.2.keep (bt hW hb03)) HP.out.2.2.2.2.1 HP.out.2.2.2.2.2.1 HP.out.2.2.2.2.2.2 (by omega) (by omega) (by go_num) (HR5.out.keep hb3)).mono ?_; rw [HP.out.2.2.2.1]; rintro e w4 ⟨rfl, hb4⟩; have hb04 := bt hb03 hb4)))
            go_roundg (gk - 1)
            case rel => exact ⟨m + 1, by have := HK.out; omega, by go_num, HPA.out, hb04⟩
            case measure => have := HK.out; omega
          · have hP : (List.range 8).any (guessP hl hm f ps k) = true := any_range_true hm8 (by rw [guessP]; simp [e1, e2, e3])
            have HPA := Lib.hid hP
            clear hP
            have HP := Lib.hid (And.intro True.intro (And.intro e1 (And.intro e2 (And.intro e3 (And.intro hf2 (And.intro hi2 hn2))))))
            clear e1 e2 e3 hf2 hi2 hn2
            go_wp2_with (first
              | (go_at_call 115; go_must (refine (l15Next_any b o c ps _ _ _ (HR.out.2.2.keep (bt hW hb)) (by omega)).mono ?_; rw [HP.out.2.1]; rintro e w2 ⟨b5, o5, c5, rfl, hr5, hb2⟩; have hb02 := bt hb hb2; have HR5 := Lib.hid hr5; have hx0 := cell_keep hb2 hc0; have hx1 := cell_keep hb2 hc1; have hy0 := cell_keep hb2 hd0; have hy1 := cell_keep hb2 hd1; clear hr5))
              | (go_at_call 180; go_must (refine (l2Has_any _ _ hm _ _ (HR.out.2.1.2.keep (bt hW hb02)) (by rw [HV.out.2.2.2]; omega)).mono ?_; rw [HP.out.2.2.1]; rintro e w3 ⟨rfl, hb3⟩; have hb03 := bt hb02 hb3; have hx0 := cell_keep hb3 hx0; have hx1 := cell_keep hb3 hx1; have hy0 := cell_keep hb3 hy0; have hy1 := cell_keep hb3 hy1))
              | (go_at_call 116; go_must (refine (HM.out _ _ _ _ b5 o5 c5 (nextL ps (k : Int) ((m : Int) + 1)) (k + 1) _ _ (HR.out.1.1.keep (bt hW hb03)) (HR.out.1.2.keep (bt hW hb03)) (HR.out.2.1.1.keep (bt hW hb03)) (HR.out.2.1.2.keep (bt hW hb03)) HP.out.2.2.2.2.1 HP.out.2.2.2.2.2.1 HP.out.2.2.2.2.2.2 (by omega) (by omega) (by go_num) (HR5.out.keep hb3)).mono ?_; rw [HP.out.2.2.2.1]; rintro e w4 ⟨rfl, hb4⟩; have hb04 := bt hb03 hb4)))
            go_ret
            exact ⟨by first | (rw [HPA.out]; done) | (rw [HPA.out]; rfl), bt hW hb04⟩
    · obtain rfl : m = 8 := by have := HK.out; omega
      go_wp2
      go_ret
      exact ⟨by first | (rw [HANY.out]; done) | (rw [HANY.out]; rfl), bt hW hb⟩

theorem matchF_fail {hl hm : List Int} {f : Nat} {ps : Prs} {n : Nat} (h : scanP hl hm ps ps = some none) : matchF hl hm (f + 1) ps n = false := by rw [matchF, h]
theorem matchF_next {hl hm : List Int} {f : Nat} {ps qs : Prs} {n : Nat} (h : scanP hl hm ps ps = some (some qs)) : matchF hl hm (f + 1) ps n = matchF hl hm f qs n := by rw [matchF, h]
theorem matchF_open {hl hm : List Int} {f : Nat} {ps : Prs} {n k : Nat} (h : scanP hl hm ps ps = none) (ho : openP hl ps (9 - n) n = some k) : matchF hl hm (f + 1) ps n = (List.range 8).any (guessP hl hm f ps k) := by
  rw [matchF, h]; simp only [ho]; rfl
theorem matchF_end {hl hm : List Int} {f : Nat} {ps : Prs} {n : Nat} (h : scanP hl hm ps ps = none) (ho : openP hl ps (9 - n) n = none) : matchF hl hm (f + 1) ps n = decide ((usedA' hl).length = (usedA' hm).length) := by
  rw [matchF, h]; simp only [ho]
theorem openP_step {hl : List Int} {ps : Prs} {k : Nat} (hk : k < 9) : openP hl ps (9 - k) k = if alB hl (k : Int) = true ∧ known ps (k : Int) = false then some k else openP hl ps (9 - (k + 1)) (k + 1) := by
  obtain ⟨c, hc⟩ : ∃ c, 9 - k = c + 1 := ⟨8 - k, by omega⟩
  rw [hc, openP, show 9 - (k + 1) = c by omega]

set_option maxRecDepth 100000 in
set_option maxHeartbeats 6400000 in
theorem match_any (vl hl vm hm : List Int) (hv : validB vl hl = true) (hw : validB vm hm = true) (f : Nat) : MatchOK vl hl vm hm f := by
  induction f with
  | zero =>
    intro s1 h1 s2 h2 b o c ps n nI w r1 r2 r3 r4 hf hi hn
    have := pairs_le hi hn
    exfalso; omega
  | succ f ih =>
    intro s1 h1 s2 h2 b o c ps n nI w r1 r2 r3 r4 hf hi hn hn1 hn9 hnI hr
    subst hnI
    have hp8 := pairs_le hi hn
    obtain ⟨b1, o1, c1, rfl⟩ := state_form r2 (valid_len hv).2
    obtain ⟨b2, o2, c2, rfl⟩ := state_form r4 (valid_len hw).2
    have HM := Lib.hid ih
    have HI := Lib.hid (And.intro hf (And.intro hi hn))
    have HV := Lib.hid (And.intro hv (And.intro hw (And.intro (valid_len hv).2 (valid_len hw).2)))
    have HR := Lib.hid (And.intro (And.intro r1 r2) (And.intro (And.intro r3 r4) hr))
    clear ih hf hi hn hv hw r1 r2 r3 r4 hr
    go_enter Try.func116, Try.ntmps116
    go_wp2_with fail
    have q0 : ((w.alloc (.cells #[s1, .slice (some ⟨b1, o1, none⟩) 8 c1] 25)).alloc (.cells #[s2, .slice (some ⟨b2, o2, none⟩) 8 c2] 25)).cell? ⟨w.heap.size, 0, none⟩ = some s1 := by simp
    have q1 : ((w.alloc (.cells #[s1, .slice (some ⟨b1, o1, none⟩) 8 c1] 25)).alloc (.cells #[s2, .slice (some ⟨b2, o2, none⟩) 8 c2] 25)).cell? ⟨w.heap.size, 1, none⟩ = some (.slice (some ⟨b1, o1, none⟩) 8 c1) := by simp
    have q2 : ((w.alloc (.cells #[s1, .slice (some ⟨b1, o1, none⟩) 8 c1] 25)).alloc (.cells #[s2, .slice (some ⟨b2, o2, none⟩) 8 c2] 25)).cell? ⟨w.heap.size + 1, 0, none⟩ = some s2 := by simp
    have q3 : ((w.alloc (.cells #[s1, .slice (some ⟨b1, o1, none⟩) 8 c1] 25)).alloc (.cells #[s2, .slice (some ⟨b2, o2, none⟩) 8 c2] 25)).cell? ⟨w.heap.size + 1, 1, none⟩ = some (.slice (some ⟨b2, o2, none⟩) 8 c2) := by simp
    have hW : Below w.heap.size w ((w.alloc (.cells #[s1, .slice (some ⟨b1, o1, none⟩) 8 c1] 25)).alloc (.cells #[s2, .slice (some ⟨b2, o2, none⟩) 8 c2] 25)) := ba (below_alloc _ _) _
    generalize ((w.alloc (.cells #[s1, .slice (some ⟨b1, o1, none⟩) 8 c1] 25)).alloc (.cells #[s2, .slice (some ⟨b2, o2, none⟩) 8 c2] 25)) = w1 at *
    go_loopg [9] ps.length (fun q i wr => ∃ j p : Nat, p = 2 * j ∧ j + q = ps.length ∧ i = .int .i64 p ∧ scanP hl hm ps ps = scanP hl hm ps (ps.drop j) ∧ Below w1.heap.size w1 wr)
    case atStart => exact ⟨0, 0, rfl, by omega, rfl, rfl, Below.refl _ _⟩
    case round =>
      obtain ⟨j, p, hp, hj, rfl, hsc, hb⟩ := hrel
      have HK := Lib.hid (And.intro hj hp)
      have HSC := Lib.hid hsc
      have hc0 := cell_keep hb q0
      have hc1 := cell_keep hb q1
      have hd0 := cell_keep hb q2
      have hd1 := cell_keep hb q3
      clear hsc
      by_cases hjn : j < ps.length
      · have hpi' : (p : Int) < 2 * (ps.length : Int) := by omega
        have hpi1' : (p : Int) + 1 < 2 * (ps.length : Int) := by omega
        have hg2 := gi_flat ps j hjn
        rw [← hp] at hg2
        have hbW := bt hW hb
        have hca := ((HR.out.2.2.keep hbW).at p (by rw [flatP_len]; omega)).2
        have hcb := ((HR.out.2.2.keep hbW).at (p + 1) (by rw [flatP_len]; omega)).2
        rw [hg2.1] at hca
        rw [hg2.2] at hcb
        have hadr := HI.out.2.1.adr ps[j] (List.getElem_mem hjn)
        obtain ⟨k1, hk1⟩ : ∃ k1 : Nat, (ps[j]).1 = (k1 : Int) + 1 := ⟨((ps[j]).1 - 1).toNat, by omega⟩
        obtain ⟨k2, hk2⟩ : ∃ k2 : Nat, (ps[j]).2 = (k2 : Int) + 1 := ⟨((ps[j]).2 - 1).toNat, by omega⟩
        have hk18 : (k1 : Int) < 8 := by omega
        have hk28 : (k2 : Int) < 8 := by omega
        rw [hk1] at hca
        rw [hk2] at hcb
        obtain ⟨x, hx⟩ : ∃ x, x = gi hl k1 := ⟨_, rfl⟩
        obtain ⟨y, hy⟩ : ∃ y, y = gi hm k2 := ⟨_, rfl⟩
        have hcx := ((HR.out.1.2.keep hbW).at k1 (by rw [HV.out.2.2.1]; omega)).2
        have hcy := ((HR.out.2.1.2.keep hbW).at k2 (by rw [HV.out.2.2.2]; omega)).2
        rw [← hx] at hcx
        rw [← hy] at hcy
        have hctx : ct hl (ps[j]).1 = x := by rw [hk1, ct, if_pos (isAddrB_iff.2 (by omega)), hx]; congr 1; omega
        have hcty : ct hm (ps[j]).2 = y := by rw [hk2, ct, if_pos (isAddrB_iff.2 (by omega)), hy]; congr 1; omega
        have hvx := valid_ct HV.out.1 (ps[j]).1
        have hvy := valid_ct HV.out.2.1 (ps[j]).2
        rw [hctx] at hvx
        rw [hcty] at hvy
        have hdr : ps.drop j = ps[j] :: ps.drop (j + 1) := List.drop_eq_getElem_cons hjn
        have hstep : scanP hl hm ps ps = (if nextOk ps x y = false then some none else if known ps x = false ∧ 1 ≤ x then some (some (nextL ps x y)) else scanP hl hm ps (ps.drop (j + 1))) := by rw [HSC.out, hdr, scanP, hctx, hcty]
        have HST := Lib.hid (And.intro hstep (And.intro hvx hvy))
        have e1 : IntKind.i64.wrap ((p : Int) + 1) = (p : Int) + 1 := IntWalk.i64_in _ (by omega)
        have e4 : ((p : Int) + 1).toNat = p + 1 := by omega
        have e6 : (0 : Int) ≤ (p : Int) + 1 := by omega
        have e7 : IntKind.i64.wrap (k1 : Int) = (k1 : Int) := IntWalk.i64_in _ (by omega)
        have e8 : IntKind.i64.wrap (k2 : Int) = (k2 : Int) := IntWalk.i64_in _ (by omega)
        have hgb : b < wr.heap.size := World.block_lt_of_cell? wr _ hca
        have hgb1 : b1 < wr.heap.size := World.block_lt_of_cell? wr _ hcx
        have hgb2 : b2 < wr.heap.size := World.block_lt_of_cell? wr _ hcy
        clear hg2 hp hj hadr hk1 hk2 hx hy hctx hcty hvx hvy hdr hstep
        obtain ⟨g0, rfl⟩ : ∃ g0 : Nat, g0 = gk := ⟨_, rfl⟩
        cases hok : nextOk ps x y
        · have HOK := Lib.hid hok
          clear hok
          go_wp2_with fail
          go_region_held3 (fun w' => (w'.cell? ⟨w.heap.size, 1, none⟩ = some (.slice (some ⟨b1, o1, none⟩) 8 c1) ∧ w'.cell? ⟨w.heap.size + 1, 1, none⟩ = some (.slice (some ⟨b2, o2, none⟩) 8 c2)) ∧ (w'.cell? ⟨b, o + p, none⟩ = some (.int .i64 ((k1 : Int) + 1)) ∧ w'.cell? ⟨b, o + (p + 1), none⟩ = some (.int .i64 ((k2 : Int) + 1))) ∧ (w'.cell? ⟨b1, o1 + k1, none⟩ = some (.int .i64 x) ∧ w'.cell? ⟨b2, o2 + k2, none⟩ = some (.int .i64 y)))
            (exact ⟨⟨cell_keep (by repeat (first | exact Below.refl _ _ | with_reducible assumption | exact below_alloc _ _ | (refine Below.setCell ?_ (by first | (simp; done) | (simp; omega) | omega) _) | apply bd | apply ba | apply be)) hc1, cell_keep (by repeat (first | exact Below.refl _ _ | with_reducible assumption | exact below_alloc _ _ | (refine Below.setCell ?_ (by first | (simp; done) | (simp; omega) | omega) _) | apply bd | apply ba | apply be)) hd1⟩, ⟨cell_keep (by repeat (first | exact Below.refl _ _ | with_reducible assumption | exact below_alloc _ _ | (refine Below.setCell ?_ (by first | (simp; done) | (simp; omega) | omega) _) | apply bd | apply ba | apply be)) hca, cell_keep (by repeat (first | exact Below.refl _ _ | with_reducible assumption | exact below_alloc _ _ | (refine Below.setCell ?_ (by first | (simp; done) | (simp; omega) | omega) _) | apply bd | apply ba | apply be)) hcb⟩, ⟨cell_keep (by repeat (first | exact Below.refl _ _ | with_reducible assumption | exact below_alloc _ _ | (refine Below.setCell ?_ (by first | (simp; done) | (simp; omega) | omega) _) | apply bd | apply ba | apply be)) hcx, cell_keep (by repeat (first | exact Below.refl _ _ | with_reducible assumption | exact below_alloc _ _ | (refine Below.setCell ?_ (by first | (simp; done) | (simp; omega) | omega) _) | apply bd | apply ba | apply be)) hcy⟩⟩)
            ((go_at_call 115; go_must (refine (l15Next_any b o c ps _ _ _ (HR.out.2.2.keep (bt hbW (by repeat (first | exact Below.refl _ _ | with_reducible assumption | exact below_alloc _ _ | (refine Below.setCell ?_ (by first | (simp; done) | (simp; omega) | omega) _) | apply bd | apply ba | apply be)))) (by omega)).mono ?_; rw [HOK.out]; rintro e w5 ⟨b5, o5, c5, rfl, hr5, hb5'⟩; have hb5 : Below wr.heap.size wr w5 := bt (by repeat (first | exact Below.refl _ _ | with_reducible assumption | exact below_alloc _ _ | (refine Below.setCell ?_ (by first | (simp; done) | (simp; omega) | omega) _) | apply bd | apply ba | apply be)) hb5')))
          go_wp2
          go_ret
          exact ⟨by rw [matchF_fail (by rw [HST.out.1, if_pos HOK.out])]; rfl, bt hbW hb5⟩
        · have HOK := Lib.hid hok
          clear hok
          go_wp2_with fail
          go_region_held3 (fun w' => (w'.cell? ⟨w.heap.size, 1, none⟩ = some (.slice (some ⟨b1, o1, none⟩) 8 c1) ∧ w'.cell? ⟨w.heap.size + 1, 1, none⟩ = some (.slice (some ⟨b2, o2, none⟩) 8 c2)) ∧ (w'.cell? ⟨b, o + p, none⟩ = some (.int .i64 ((k1 : Int) + 1)) ∧ w'.cell? ⟨b, o + (p + 1), none⟩ = some (.int .i64 ((k2 : Int) + 1))) ∧ (w'.cell? ⟨b1, o1 + k1, none⟩ = some (.int .i64 x) ∧ w'.cell? ⟨b2, o2 + k2, none⟩ = some (.int .i64 y)))
            (exact ⟨⟨cell_keep (by repeat (first | exact Below.refl _ _ | with_reducible assumption | exact below_alloc _ _ | (refine Below.setCell ?_ (by first | (simp; done) | (simp; omega) | omega) _) | apply bd | apply ba | apply be)) hc1, cell_keep (by repeat (first | exact Below.refl _ _ | with_reducible assumption | exact below_alloc _ _ | (refine Below.setCell ?_ (by first | (simp; done) | (simp; omega) | omega) _) | apply bd | apply ba | apply be)) hd1⟩, ⟨cell_keep (by repeat (first | exact Below.refl _ _ | with_reducible assumption | exact below_alloc _ _ | (refine Below.setCell ?_ (by first | (simp; done) | (simp; omega) | omega) _) | apply bd | apply ba | apply be)) hca, cell_keep (by repeat (first | exact Below.refl _ _ | with_reducible assumption | exact below_alloc _ _ | (refine Below.setCell ?_ (by first | (simp; done) | (simp; omega) | omega) _) | apply bd | apply ba | apply be)) hcb⟩, ⟨cell_keep (by repeat (first | exact Below.refl _ _ | with_reducible assumption | exact below_alloc _ _ | (refine Below.setCell ?_ (by first | (simp; done) | (simp; omega) | omega) _) | apply bd | apply ba | apply be)) hcx, cell_keep (by repeat (first | exact Below.refl _ _ | with_reducible assumption | exact below_alloc _ _ | (refine Below.setCell ?_ (by first | (simp; done) | (simp; omega) | omega) _) | apply bd | apply ba | apply be)) hcy⟩⟩)
            ((go_at_call 115; go_must (refine (l15Next_any b o c ps _ _ _ (HR.out.2.2.keep (bt hbW (by repeat (first | exact Below.refl _ _ | with_reducible assumption | exact below_alloc _ _ | (refine Below.setCell ?_ (by first | (simp; done) | (simp; omega) | omega) _) | apply bd | apply ba | apply be)))) (by omega)).mono ?_; rw [HOK.out]; rintro e w5 ⟨b5, o5, c5, rfl, hr5, hb5'⟩; have hb5 : Below wr.heap.size wr w5 := bt (by repeat (first | exact Below.refl _ _ | with_reducible assumption | exact below_alloc _ _ | (refine Below.setCell ?_ (by first | (simp; done) | (simp; omega) | omega) _) | apply bd | apply ba | apply be)) hb5')))
          have HR5 := Lib.hid (hr5)
          have hc0 := cell_keep hb5 hc0
          have hc1 := cell_keep hb5 hc1
          have hd0 := cell_keep hb5 hd0
          have hd1 := cell_keep hb5 hd1
          have hca := cell_keep hb5 hca
          have hcb := cell_keep hb5 hcb
          have hcx := cell_keep hb5 hcx
          have hcy := cell_keep hb5 hcy
          have hb05 := bt hb hb5
          have hbW5 := bt hbW hb5
          clear hr5 hb5' hgb hgb1 hgb2
          go_wp2
          go_loopg [12, 13] ps.length (fun q' kb i wr => ∃ m r : Nat, r = 2 * m ∧ m + q' = ps.length ∧ i = .int .i64 r ∧ kb = .bool (known (ps.take m) x) ∧ Below w5.heap.size w5 wr)
          case atStart => exact ⟨0, 0, rfl, by omega, rfl, rfl, Below.refl _ _⟩
          case round =>
            obtain ⟨m, r, hr, hm', rfl, rfl, hb6⟩ := hrel
            have HMM := Lib.hid (And.intro hm' hr)
            have hc0' := cell_keep hb6 hc0
            have hc1' := cell_keep hb6 hc1
            have hd0' := cell_keep hb6 hd0
            have hd1' := cell_keep hb6 hd1
            have hca' := cell_keep hb6 hca
            have hcx' := cell_keep hb6 hcx
            have hgb : b < wr.heap.size := World.block_lt_of_cell? wr _ hca'
            have hgb1 : b1 < wr.heap.size := World.block_lt_of_cell? wr _ hcx'
            have hgB1 : w.heap.size < wr.heap.size := World.block_lt_of_cell? wr _ hc1'
            have hgB2 : w.heap.size + 1 < wr.heap.size := World.block_lt_of_cell? wr _ hd1'
            by_cases hmn : m < ps.length
            · have hri : (r : Int) < 2 * (ps.length : Int) := by omega
              have hgo := gi_flat ps m hmn
              rw [← hr] at hgo
              have hco := ((HR.out.2.2.keep (bt hbW5 hb6)).at r (by rw [flatP_len]; omega)).2
              rw [hgo.1] at hco
              have hkt := known_take hmn x
              have HKT := Lib.hid hkt
              clear hgo hr hm' hkt
              cases hkn : known (ps.take m) x
              · rw [hkn] at HKT
                clear hkn
                go_wp2
                refine wp_region_ext (by kernel_rfl) (by kernel_rfl) ?_
                repeat (go_big_quiet_step (fail))
                refine wpQuiet_nil ?_
                intro w7 hb7
                go_wp2
                go_roundg (gk - 1)
                case rel => exact ⟨m + 1, r + 2, by have := HMM.out.2; omega, by have := HMM.out.1; omega, by go_num, by rw [HKT.out]; rfl, bt hb6 hb7⟩
                case measure => have := HMM.out.1; omega
              · rw [hkn] at HKT
                clear hkn
                go_wp2
                refine wp_region_ext (by kernel_rfl) (by kernel_rfl) ?_
                repeat (go_big_quiet_step (fail))
                refine wpQuiet_nil ?_
                intro w7 hb7
                go_wp2
                go_roundg (gk - 1)
                case rel => exact ⟨m + 1, r + 2, by have := HMM.out.2; omega, by have := HMM.out.1; omega, by go_num, by rw [HKT.out]; rfl, bt hb6 hb7⟩
                case measure => have := HMM.out.1; omega
            · obtain rfl : m = ps.length := by have := HMM.out.1; omega
              have hri : 2 * (ps.length : Int) ≤ (r : Int) := by omega
              have hb06 := bt hb05 hb6
              have hbW6 := bt hbW5 hb6
              clear hr hm'
              rw [List.take_length]
              cases hkn : known ps x
              · by_cases hx1 : 1 ≤ x
                · have hi2 := next_PI (ps := ps) HI.out.2.1 HST.out.2.1.2 HST.out.2.2.2
                  have hnl := nextL_new HOK.out hx1
                  have hn2 : ((nextL ps x y).map (·.1)).Nodup := by rw [hnl]; exact firsts_snoc HI.out.2.2 hkn
                  have hf2 : 9 ≤ (nextL ps x y).length + f := by rw [hnl]; have := HI.out.1; simp; omega
                  have hmf : matchF hl hm (f + 1) ps n = matchF hl hm f (nextL ps x y) n := matchF_next (by rw [HST.out.1, if_neg (by rw [HOK.out]; simp), if_pos ⟨hkn, hx1⟩])
                  have HF := Lib.hid (And.intro hmf (And.intro hf2 (And.intro hi2 hn2)))
                  clear hkn hi2 hnl hn2 hf2 hmf
                  go_wp2
                  refine wp_region_ext (by kernel_rfl) (by kernel_rfl) ?_
                  repeat (go_big_quiet_step (fail))
                  refine wpQuiet_nil ?_
                  intro w7 hb7
                  have hc0' := cell_keep hb7 hc0'
                  have hc1' := cell_keep hb7 hc1'
                  have hd0' := cell_keep hb7 hd0'
                  have hd1' := cell_keep hb7 hd1'
                  go_wp2_with (go_at_call 116; go_must (refine (HM.out _ _ _ _ _ _ _ (nextL ps x y) n _ _ (HR.out.1.1.keep (bt hbW6 hb7)) (HR.out.1.2.keep (bt hbW6 hb7)) (HR.out.2.1.1.keep (bt hbW6 hb7)) (HR.out.2.1.2.keep (bt hbW6 hb7)) HF.out.2.1 HF.out.2.2.1 HF.out.2.2.2 hn1 hn9 rfl (HR5.out.keep (bt hb6 hb7))).mono ?_; rintro e w8 ⟨rfl, hb8⟩; have hb08 := bt (bt hbW6 hb7) hb8))
                  go_ret
                  exact ⟨by rw [HF.out.1]; rfl, hb08⟩
                · have hx0 : x < 1 := by omega
                  have hs2 : scanP hl hm ps ps = scanP hl hm ps (ps.drop (j + 1)) := by rw [HST.out.1, if_neg (by rw [HOK.out]; simp), if_neg (fun h => hx1 h.2)]
                  have HS2 := Lib.hid hs2
                  clear hkn hs2
                  go_wp2
                  refine wp_region_ext (by kernel_rfl) (by kernel_rfl) ?_
                  repeat (go_big_quiet_step (fail))
                  refine wpQuiet_nil ?_
                  intro w7 hb7
                  go_wp2
                  go_roundg (g0 - 1)
                  case rel => exact ⟨j + 1, p + 2, by have := HK.out.2; omega, by have := HK.out.1; omega, by go_num, HS2.out, bt hb06 hb7⟩
                  case measure => have := HK.out.1; omega
              · have hs2 : scanP hl hm ps ps = scanP hl hm ps (ps.drop (j + 1)) := by rw [HST.out.1, if_neg (by rw [HOK.out]; simp), if_neg (fun h => by rw [hkn] at h; exact absurd h.1 (by simp))]
                have HS2 := Lib.hid hs2
                clear hkn hs2
                go_wp2
                refine wp_region_ext (by kernel_rfl) (by kernel_rfl) ?_
                repeat (go_big_quiet_step (fail))
                refine wpQuiet_nil ?_
                intro w7 hb7
                go_wp2
                go_roundg (g0 - 1)
                case rel => exact ⟨j + 1, p + 2, by have := HK.out.2; omega, by have := HK.out.1; omega, by go_num, HS2.out, bt hb06 hb7⟩
                case measure => have := HK.out.1; omega
      · obtain rfl : j = ps.length := by omega
        have hpi : 2 * (ps.length : Int) ≤ (p : Int) := by omega
        have hs0 : scanP hl hm ps ps = none := by rw [HSC.out, List.drop_length]; rfl
        have HS0 := Lib.hid hs0
        have hbW := bt hW hb
        clear hs0 hp hj
        obtain ⟨wo, rfl⟩ : ∃ wo : World, wo = wr := ⟨_, rfl⟩
        go_wp2_with fail
        go_loopg [3] (9 - n) (fun q i wr => ∃ k : Nat, k + q = 9 ∧ n ≤ k ∧ i = .int .i64 k ∧ openP hl ps (9 - n) n = openP hl ps (9 - k) k ∧ Below wo.heap.size wo wr)
        case atStart => exact ⟨n, by omega, Nat.le_refl _, rfl, rfl, Below.refl _ _⟩
        case round =>
          obtain ⟨k, hk, hnk, rfl, hop, hb2⟩ := hrel
          have HK2 := Lib.hid (And.intro hk (And.intro hnk hop))
          have hc0 := cell_keep hb2 hc0
          have hc1 := cell_keep hb2 hc1
          have hd0 := cell_keep hb2 hd0
          have hd1 := cell_keep hb2 hd1
          have hbW2 := bt hbW hb2
          clear hop
          by_cases hk8 : k < 9
          · have hki : (k : Int) ≤ 8 := by omega
            obtain ⟨g0, rfl⟩ : ∃ g0 : Nat, g0 = gk := ⟨_, rfl⟩
            obtain ⟨al, hal⟩ : ∃ al, al = alB hl (k : Int) := ⟨_, rfl⟩
            have HAL := Lib.hid hal
            clear hk hnk hal
            go_wp2_with (go_at_call 180; go_must (refine (l2Has_any _ _ hl _ _ (HR.out.1.2.keep hbW2) (by rw [HV.out.2.2.1]; omega)).mono ?_; rw [← HAL.out]; rintro e w3 ⟨rfl, hb3⟩; have hx0 := cell_keep hb3 hc0; have hx1 := cell_keep hb3 hc1; have hy0 := cell_keep hb3 hd0; have hy1 := cell_keep hb3 hd1; have hbW3 := bt hbW2 hb3; have hb03 := bt hb2 hb3))
            go_loopg [14, 15] ps.length (fun q' kb i wr => ∃ m r : Nat, r = 2 * m ∧ m + q' = ps.length ∧ i = .int .i64 r ∧ kb = .bool (al && !known (ps.take m) (k : Int)) ∧ Below w3.heap.size w3 wr)
            case atStart => exact ⟨0, 0, rfl, by omega, rfl, by simp [known], Below.refl _ _⟩
            case round =>
              obtain ⟨m, r, hr, hm', rfl, rfl, hb6⟩ := hrel
              have HMM := Lib.hid (And.intro hm' hr)
              have hx0 := cell_keep hb6 hx0
              have hx1 := cell_keep hb6 hx1
              have hy0 := cell_keep hb6 hy0
              have hy1 := cell_keep hb6 hy1
              have hbW6 := bt hbW3 hb6
              by_cases hmn : m < ps.length
              · have hri : (r : Int) < 2 * (ps.length : Int) := by omega
                have hgo := gi_flat ps m hmn
                rw [← hr] at hgo
                have hco := ((HR.out.2.2.keep hbW6).at r (by rw [flatP_len]; omega)).2
                rw [hgo.1] at hco
                have hgb : b < wr.heap.size := World.block_lt_of_cell? wr _ hco
                have hkt := known_take hmn (k : Int)
                have HKT := Lib.hid hkt
                clear hgo hr hm' hkt
                cases hkn : (al && !known (ps.take m) (k : Int))
                · have hk2 : (al && !known (ps.take (m + 1)) (k : Int)) = false := by
                    rw [HKT.out]; revert hkn; cases al <;> cases known (ps.take m) (k : Int) <;> simp
                  have HK3 := Lib.hid hk2
                  clear hkn hk2
                  go_wp2
                  go_roundg (gk - 1)
                  case rel => exact ⟨m + 1, r + 2, by have := HMM.out.2; omega, by have := HMM.out.1; omega, by go_num, by rw [HK3.out], hb6⟩
                  case measure => have := HMM.out.1; omega
                · have hk2 : (al && !known (ps.take (m + 1)) (k : Int)) = !((ps[m]).1 == (k : Int)) := by
                    rw [HKT.out]; revert hkn; cases al <;> cases known (ps.take m) (k : Int) <;> simp
                  have HK3 := Lib.hid hk2
                  clear hkn hk2
                  go_wp2
                  go_roundg (gk - 1)
                  case rel => exact ⟨m + 1, r + 2, by have := HMM.out.2; omega, by have := HMM.out.1; omega, by go_num, by rw [HK3.out]; first | rfl | simp, hb6⟩
                  case measure => have := HMM.out.1; omega
              · obtain rfl : m = ps.length := by have := HMM.out.1; omega
                have hri : 2 * (ps.length : Int) ≤ (r : Int) := by omega
                clear hr hm'
                rw [List.take_length]
                cases hkn : (al && !known ps (k : Int))
                · have hop2 : openP hl ps (9 - k) k = openP hl ps (9 - (k + 1)) (k + 1) := by
                    rw [openP_step hk8, if_neg]
                    intro h
                    rw [HAL.out, h.1, h.2] at hkn
                    simp at hkn
                  have HOP := Lib.hid hop2
                  clear hkn hop2
                  go_wp2
                  go_roundg (g0 - 1)
                  case rel => exact ⟨k + 1, by have := HK2.out.1; omega, by have := HK2.out.2.1; omega, by go_num, by rw [HK2.out.2.2, HOP.out], bt hb03 hb6⟩
                  case measure => have := HK2.out.1; omega
                · have hk1 : al = true ∧ known ps (k : Int) = false := by revert hkn; cases al <;> cases known ps (k : Int) <;> simp
                  have hmf : matchF hl hm (f + 1) ps n = (List.range 8).any (guessP hl hm f ps k) := matchF_open HS0.out (by rw [HK2.out.2.2, openP_step hk8, if_pos ⟨by rw [← HAL.out]; exact hk1.1, hk1.2⟩])
                  have HF := Lib.hid (And.intro hmf hk1.2)
                  clear hkn hk1 hmf
                  go_wp2_with (go_at_call 181; go_must (refine (guess_any vl hl vm hm HV.out.1 HV.out.2.1 f HM.out _ _ _ _ b o c ps k _ (HR.out.1.1.keep hbW6) (HR.out.1.2.keep hbW6) (HR.out.2.1.1.keep hbW6) (HR.out.2.1.2.keep hbW6) (by have := HI.out.1; omega) HI.out.2.1 HI.out.2.2 (by have := HK2.out; omega) (by omega) HF.out.2 (HR.out.2.2.keep hbW6)).mono ?_; rw [← HF.out.1]; rintro e w8 ⟨rfl, hb8⟩))
                  go_ret
                  exact ⟨rfl, bt hbW6 hb8⟩
          · obtain rfl : k = 9 := by omega
            have hmf : matchF hl hm (f + 1) ps n = decide ((usedA' hl).length = (usedA' hm).length) := matchF_end HS0.out (by rw [HK2.out.2.2]; rfl)
            have HF := Lib.hid hmf
            clear hmf hk hnk
            go_wp2_with fail
            go_region_held3 (fun w' => (w'.cell? ⟨w.heap.size, 0, none⟩ = some s1 ∧ w'.cell? ⟨w.heap.size, 1, none⟩ = some (.slice (some ⟨b1, o1, none⟩) 8 c1)) ∧ (w'.cell? ⟨w.heap.size + 1, 0, none⟩ = some s2 ∧ w'.cell? ⟨w.heap.size + 1, 1, none⟩ = some (.slice (some ⟨b2, o2, none⟩) 8 c2)))
              (exact ⟨⟨cell_keep (by repeat (first | exact Below.refl _ _ | with_reducible assumption | exact below_alloc _ _ | (refine Below.setCell ?_ (by first | (simp; done) | (simp; omega) | omega) _) | apply bd | apply ba | apply be)) hc0, cell_keep (by repeat (first | exact Below.refl _ _ | with_reducible assumption | exact below_alloc _ _ | (refine Below.setCell ?_ (by first | (simp; done) | (simp; omega) | omega) _) | apply bd | apply ba | apply be)) hc1⟩, ⟨cell_keep (by repeat (first | exact Below.refl _ _ | with_reducible assumption | exact below_alloc _ _ | (refine Below.setCell ?_ (by first | (simp; done) | (simp; omega) | omega) _) | apply bd | apply ba | apply be)) hd0, cell_keep (by repeat (first | exact Below.refl _ _ | with_reducible assumption | exact below_alloc _ _ | (refine Below.setCell ?_ (by first | (simp; done) | (simp; omega) | omega) _) | apply bd | apply ba | apply be)) hd1⟩⟩)
              (first
                | (go_at_call 182; (with_reducible refine (specUsed_any s1 (.slice (some ⟨b1, o1, none⟩) 8 c1) vl hl _ (HR.out.1.1.keep (bt hbW2 (by repeat (first | exact Below.refl _ _ | with_reducible assumption | exact below_alloc _ _ | (refine Below.setCell ?_ (by first | (simp; done) | (simp; omega) | omega) _) | apply bd | apply ba | apply be)))) (HR.out.1.2.keep (bt hbW2 (by repeat (first | exact Below.refl _ _ | with_reducible assumption | exact below_alloc _ _ | (refine Below.setCell ?_ (by first | (simp; done) | (simp; omega) | omega) _) | apply bd | apply ba | apply be)))) HV.out.1).mono ?_); rintro e w8 ⟨t8, rfl, hs8, hb8'⟩; obtain ⟨sa8, sc8, rfl, _⟩ := own_form hs8; have hb8 : Below wr.heap.size wr w8 := bt (by repeat (first | exact Below.refl _ _ | with_reducible assumption | exact below_alloc _ _ | (refine Below.setCell ?_ (by first | (simp; done) | (simp; omega) | omega) _) | apply bd | apply ba | apply be)) hb8')
                | (go_at_call 182; go_must (refine (specUsed_any s2 (.slice (some ⟨b2, o2, none⟩) 8 c2) vm hm _ (HR.out.2.1.1.keep (bt hbW2 (by repeat (first | exact Below.refl _ _ | with_reducible assumption | exact below_alloc _ _ | (refine Below.setCell ?_ (by first | (simp; done) | (simp; omega) | omega) _) | apply bd | apply ba | apply be)))) (HR.out.2.1.2.keep (bt hbW2 (by repeat (first | exact Below.refl _ _ | with_reducible assumption | exact below_alloc _ _ | (refine Below.setCell ?_ (by first | (simp; done) | (simp; omega) | omega) _) | apply bd | apply ba | apply be)))) HV.out.2.1).mono ?_; rintro e w9 ⟨t9, rfl, hs9, hb9'⟩; obtain ⟨sa9, sc9, rfl, _⟩ := own_form hs9; have hb9 : Below wr.heap.size wr w9 := bt (by repeat (first | exact Below.refl _ _ | with_reducible assumption | exact below_alloc _ _ | (refine Below.setCell ?_ (by first | (simp; done) | (simp; omega) | omega) _) | apply bd | apply ba | apply be)) hb9')))
            all_goals
              have hbb := bt hbW2 hb9
              go_wp2
              go_ret
              exact ⟨by rw [HF.out]; simp [beq_cast], hbb⟩
end Go.Proofs.Ythoingdcmdhllaa
/- Walk: the reference's SameShape. -/
namespace Go.Proofs.Ythoingdcmdhllaa
open Go.RowKit

theorem valF_len {vl vm : List Int} : ∀ {k : Nat} {ps : Prs}, valF vl vm k = some ps → ps.length ≤ k
  | 0, ps, h => by
    injection h with h
    subst h
    exact Nat.le_refl _
  | k + 1, ps, h => by
    unfold valF at h
    split at h
    · cases h
    · rename_i qs hq
      have := valF_len hq
      split at h
      · injection h with h
        subst h
        unfold nextL
        split
        · simp; omega
        · omega
      · cases h
theorem valF_none {vl vm : List Int} {k : Nat} (h : valF vl vm k = none) : ∀ c, valF vl vm (k + c) = none
  | 0 => h
  | c + 1 => by
    rw [show k + (c + 1) = (k + c) + 1 by omega, valF, valF_none h c]
theorem valF_stop {vl vm : List Int} {k : Nat} {ps : Prs} (hk : k < 8) (h : valF vl vm k = some ps) (hn : nextOk ps (gi vl k) (gi vm k) = false) : valF vl vm 8 = none := by
  have h1 : valF vl vm (k + 1) = none := by rw [valF, h]; simp [hn]
  have := valF_none h1 (7 - k)
  rwa [show k + 1 + (7 - k) = 8 by omega] at this
theorem valF_go {vl vm : List Int} {k : Nat} {ps : Prs} (h : valF vl vm k = some ps) (hn : nextOk ps (gi vl k) (gi vm k) = true) : valF vl vm (k + 1) = some (nextL ps (gi vl k) (gi vm k)) := by
  rw [valF, h]; simp [hn]
theorem start_pairs {vl hl vm hm : List Int} (hv : validB vl hl = true) (hw : validB vm hm = true) {ps : Prs} (h : valF vl vm 8 = some ps) : PI (distP [] ps) ∧ ((distP [] ps).map (·.1)).Nodup := by
  have hi := (val_PI (fun i hi => (valid_vat hv hi).2) (fun i hi => (valid_vat hw hi).2) (Nat.le_refl 8) h).1
  have hd := dist_spec hi (r := ps) (out := []) (fun q hq => hq) (fun q hq => by cases hq) (by simp)
  exact ⟨hi.sub hd.1, hd.2.1⟩
set_option maxRecDepth 100000 in
set_option maxHeartbeats 3200000 in
theorem sameShapeS_any (v1 v2 u1 u2 : Value) (vl hl vm hm : List Int) (w : World) (h1 : RInts w v1 vl) (h2 : RInts w v2 hl) (k1 : RInts w u1 vm) (k2 : RInts w u2 hm) :
    Calls Try.prog 43 #[.agg #[v1, v2], .agg #[u1, u2]] w fun e w' => e = .returned (.bool (specShape vl hl vm hm)) ∧ Below w.heap.size w w' := by
  have q0 : ((w.alloc (.cells #[v1, v2] 25)).alloc (.cells #[u1, u2] 25)).cell? ⟨w.heap.size, 0, none⟩ = some v1 := by simp
  have q1 : ((w.alloc (.cells #[v1, v2] 25)).alloc (.cells #[u1, u2] 25)).cell? ⟨w.heap.size, 1, none⟩ = some v2 := by simp
  have q2 : ((w.alloc (.cells #[v1, v2] 25)).alloc (.cells #[u1, u2] 25)).cell? ⟨w.heap.size + 1, 0, none⟩ = some u1 := by simp
  have q3 : ((w.alloc (.cells #[v1, v2] 25)).alloc (.cells #[u1, u2] 25)).cell? ⟨w.heap.size + 1, 1, none⟩ = some u2 := by simp
  have hW : Below w.heap.size w ((w.alloc (.cells #[v1, v2] 25)).alloc (.cells #[u1, u2] 25)) := ba (below_alloc _ _) _
  obtain ⟨w1, hw1⟩ : ∃ w1, w1 = ((w.alloc (.cells #[v1, v2] 25)).alloc (.cells #[u1, u2] 25)) := ⟨_, rfl⟩
  have hsz : w1.heap.size = w.heap.size + 2 := by rw [hw1]; simp
  rw [← hw1] at q0 q1 q2 q3 hW
  have HR := Lib.hid (And.intro (And.intro h1 h2) (And.intro k1 k2))
  clear h1 h2 k1 k2
  cases hv : validB vl hl
  · have hfin : specShape vl hl vm hm = false := by simp [specShape, hv]
    have HF := Lib.hid (And.intro hfin hv)
    clear hv hfin
    go_enter Try.func43, Try.ntmps43
    go_wp2_with fail
    rw [← hw1]
    refine (specStateValid_any _ _ vl hl _ (HR.out.1.1.keep hW) (HR.out.1.2.keep hW)).mono ?_
    rw [HF.out.2]
    rintro e w2 ⟨rfl, hb2⟩
    go_wp2
    go_ret
    exact ⟨by rw [HF.out.1]; rfl, bt hW hb2⟩
  cases hw : validB vm hm
  · have hfin : specShape vl hl vm hm = false := by simp [specShape, hw]
    have HF := Lib.hid (And.intro hfin (And.intro hv hw))
    clear hv hw hfin
    go_enter Try.func43, Try.ntmps43
    go_wp2_with fail
    rw [← hw1]
    refine (specStateValid_any _ _ vl hl _ (HR.out.1.1.keep hW) (HR.out.1.2.keep hW)).mono ?_
    rw [HF.out.2.1]
    rintro e w2 ⟨rfl, hb2⟩
    have q2 := cell_keep hb2 q2
    have q3 := cell_keep hb2 q3
    go_wp2_with fail
    refine (specStateValid_any _ _ vm hm _ (HR.out.2.1.keep (bt hW hb2)) (HR.out.2.2.keep (bt hW hb2))).mono ?_
    rw [HF.out.2.2]
    rintro e w3 ⟨rfl, hb3⟩
    go_wp2
    go_ret
    exact ⟨by rw [HF.out.1]; rfl, bt (bt hW hb2) hb3⟩
  have HV := Lib.hid (And.intro hv hw)
  have HL := Lib.hid (And.intro (valid_len hv) (valid_len hw))
  obtain ⟨b1, o1, c1, rfl⟩ := state_form HR.out.1.1 HL.out.1.1
  obtain ⟨b2, o2, c2, rfl⟩ := state_form HR.out.2.1 HL.out.2.1
  clear hv hw
  go_enter Try.func43, Try.ntmps43
  go_wp2_with fail
  rw [← hw1]
  refine (specStateValid_any _ _ vl hl _ (HR.out.1.1.keep hW) (HR.out.1.2.keep hW)).mono ?_
  rw [HV.out.1]
  rintro e w2 ⟨rfl, hb2⟩
  replace q0 := cell_keep hb2 q0
  replace q1 := cell_keep hb2 q1
  replace q2 := cell_keep hb2 q2
  replace q3 := cell_keep hb2 q3
  go_wp2_with fail
  refine (specStateValid_any _ _ vm hm _ (HR.out.2.1.keep (bt hW hb2)) (HR.out.2.2.keep (bt hW hb2))).mono ?_
  rw [HV.out.2]
  rintro e w3 ⟨rfl, hb3⟩
  replace q0 := cell_keep hb3 q0
  replace q1 := cell_keep hb3 q1
  replace q2 := cell_keep hb3 q2
  replace q3 := cell_keep hb3 q3
  replace hW := bt (bt hW hb2) hb3
  clear hb2 hb3 hsz hw1
  go_wp2
  go_loopg [5, 6] 8 (fun q v i wr => ∃ (k b o c : Nat) (ps : Prs), k + q = 8 ∧ i = .int .i64 k ∧ v = .slice (some ⟨b, o, none⟩) (2 * ps.length) c ∧ valF vl vm k = some ps ∧ RInts wr (.slice (some ⟨b, o, none⟩) (2 * ps.length) c) (flatP ps) ∧ Below w3.heap.size w3 wr)
  case atStart => exact ⟨0, w3.heap.size, 0, 0, [], rfl, rfl, rfl, rfl, (own_ints (l := []) (own_empty w3 _ _ (Nat.le_refl _))).1, below_alloc _ _⟩
  case round =>
    obtain ⟨k, b, o, c, ps, hk, rfl, rfl, hvf, hr, hb⟩ := hrel
    have HVF := Lib.hid hvf
    have HP := Lib.hid hr
    have hpl := valF_len hvf
    have hc0 := cell_keep hb q0
    have hc1 := cell_keep hb q1
    have hd0 := cell_keep hb q2
    have hd1 := cell_keep hb q3
    have hbW := bt hW hb
    have HK := Lib.hid hk
    clear hvf hr hk
    by_cases hk8 : k < 8
    · have hki : (k : Int) < 8 := by omega
      have hcx := ((HR.out.1.1.keep hbW).at k (by rw [HL.out.1.1]; omega)).2
      have hcy := ((HR.out.2.1.keep hbW).at k (by rw [HL.out.2.1]; omega)).2
      have hgb1 : b1 < wr.heap.size := World.block_lt_of_cell? wr _ hcx
      have hgb2 : b2 < wr.heap.size := World.block_lt_of_cell? wr _ hcy
      cases hok : nextOk ps (gi vl k) (gi vm k)
      · have HOK := Lib.hid hok
        clear hok
        go_wp2_with fail
        go_region_held3 (fun w' => (w'.cell? ⟨w.heap.size, 0, none⟩ = some (.slice (some ⟨b1, o1, none⟩) 8 c1) ∧ w'.cell? ⟨w.heap.size + 1, 0, none⟩ = some (.slice (some ⟨b2, o2, none⟩) 8 c2)) ∧ (w'.cell? ⟨b1, o1 + k, none⟩ = some (.int .i64 (gi vl k)) ∧ w'.cell? ⟨b2, o2 + k, none⟩ = some (.int .i64 (gi vm k))))
          (exact ⟨⟨cell_keep (by repeat (first | exact Below.refl _ _ | with_reducible assumption | exact below_alloc _ _ | (refine Below.setCell ?_ (by first | (simp; done) | (simp; omega) | omega) _) | apply bd | apply ba | apply be)) hc0, cell_keep (by repeat (first | exact Below.refl _ _ | with_reducible assumption | exact below_alloc _ _ | (refine Below.setCell ?_ (by first | (simp; done) | (simp; omega) | omega) _) | apply bd | apply ba | apply be)) hd0⟩, ⟨cell_keep (by repeat (first | exact Below.refl _ _ | with_reducible assumption | exact below_alloc _ _ | (refine Below.setCell ?_ (by first | (simp; done) | (simp; omega) | omega) _) | apply bd | apply ba | apply be)) hcx, cell_keep (by repeat (first | exact Below.refl _ _ | with_reducible assumption | exact below_alloc _ _ | (refine Below.setCell ?_ (by first | (simp; done) | (simp; omega) | omega) _) | apply bd | apply ba | apply be)) hcy⟩⟩)
          ((go_at_call 115; go_must (refine (l15Next_any b o c ps _ _ _ (HP.out.keep (by repeat (first | exact Below.refl _ _ | with_reducible assumption | exact below_alloc _ _ | (refine Below.setCell ?_ (by first | (simp; done) | (simp; omega) | omega) _) | apply bd | apply ba | apply be))) (by omega)).mono ?_; rw [HOK.out]; rintro e w5 ⟨b5, o5, c5, rfl, hr5, hb5'⟩; have hb5 : Below wr.heap.size wr w5 := bt (by repeat (first | exact Below.refl _ _ | with_reducible assumption | exact below_alloc _ _ | (refine Below.setCell ?_ (by first | (simp; done) | (simp; omega) | omega) _) | apply bd | apply ba | apply be)) hb5')))
        go_wp2
        go_ret
        exact ⟨by rw [specShape, valF_stop hk8 HVF.out HOK.out]; simp, bt hbW hb5⟩
      · have HOK := Lib.hid hok
        clear hok
        go_wp2_with fail
        go_region_held3 (fun w' => (w'.cell? ⟨w.heap.size, 0, none⟩ = some (.slice (some ⟨b1, o1, none⟩) 8 c1) ∧ w'.cell? ⟨w.heap.size + 1, 0, none⟩ = some (.slice (some ⟨b2, o2, none⟩) 8 c2)) ∧ (w'.cell? ⟨b1, o1 + k, none⟩ = some (.int .i64 (gi vl k)) ∧ w'.cell? ⟨b2, o2 + k, none⟩ = some (.int .i64 (gi vm k))))
          (exact ⟨⟨cell_keep (by repeat (first | exact Below.refl _ _ | with_reducible assumption | exact below_alloc _ _ | (refine Below.setCell ?_ (by first | (simp; done) | (simp; omega) | omega) _) | apply bd | apply ba | apply be)) hc0, cell_keep (by repeat (first | exact Below.refl _ _ | with_reducible assumption | exact below_alloc _ _ | (refine Below.setCell ?_ (by first | (simp; done) | (simp; omega) | omega) _) | apply bd | apply ba | apply be)) hd0⟩, ⟨cell_keep (by repeat (first | exact Below.refl _ _ | with_reducible assumption | exact below_alloc _ _ | (refine Below.setCell ?_ (by first | (simp; done) | (simp; omega) | omega) _) | apply bd | apply ba | apply be)) hcx, cell_keep (by repeat (first | exact Below.refl _ _ | with_reducible assumption | exact below_alloc _ _ | (refine Below.setCell ?_ (by first | (simp; done) | (simp; omega) | omega) _) | apply bd | apply ba | apply be)) hcy⟩⟩)
          ((go_at_call 115; go_must (refine (l15Next_any b o c ps _ _ _ (HP.out.keep (by repeat (first | exact Below.refl _ _ | with_reducible assumption | exact below_alloc _ _ | (refine Below.setCell ?_ (by first | (simp; done) | (simp; omega) | omega) _) | apply bd | apply ba | apply be))) (by omega)).mono ?_; rw [HOK.out]; rintro e w5 ⟨b5, o5, c5, rfl, hr5, hb5'⟩; have hb5 : Below wr.heap.size wr w5 := bt (by repeat (first | exact Below.refl _ _ | with_reducible assumption | exact below_alloc _ _ | (refine Below.setCell ?_ (by first | (simp; done) | (simp; omega) | omega) _) | apply bd | apply ba | apply be)) hb5')))
        have HR5 := Lib.hid hr5
        clear hr5
        go_wp2
        go_roundg (gk - 1)
        case rel => exact ⟨k + 1, b5, o5, c5, _, by have := HK.out; omega, by go_num, rfl, valF_go HVF.out HOK.out, HR5.out, bt hb hb5⟩
        case measure => have := HK.out; omega
    · obtain rfl : k = 8 := by have := HK.out; omega
      have hfin : specShape vl hl vm hm = matchF hl hm 9 (distP [] ps) 1 := by rw [specShape, HVF.out, HV.out.1, HV.out.2]; rfl
      have HF := Lib.hid hfin
      have hsp := start_pairs HV.out.1 HV.out.2 HVF.out
      have HSP := Lib.hid hsp
      clear hfin hsp
      go_wp2_with fail
      go_region_held3 (fun w' => (w'.cell? ⟨w.heap.size, 0, none⟩ = some (.slice (some ⟨b1, o1, none⟩) 8 c1) ∧ w'.cell? ⟨w.heap.size, 1, none⟩ = some v2) ∧ (w'.cell? ⟨w.heap.size + 1, 0, none⟩ = some (.slice (some ⟨b2, o2, none⟩) 8 c2) ∧ w'.cell? ⟨w.heap.size + 1, 1, none⟩ = some u2))
        (exact ⟨⟨cell_keep (by repeat (first | exact Below.refl _ _ | with_reducible assumption | exact below_alloc _ _ | (refine Below.setCell ?_ (by first | (simp; done) | (simp; omega) | omega) _) | apply bd | apply ba | apply be)) hc0, cell_keep (by repeat (first | exact Below.refl _ _ | with_reducible assumption | exact below_alloc _ _ | (refine Below.setCell ?_ (by first | (simp; done) | (simp; omega) | omega) _) | apply bd | apply ba | apply be)) hc1⟩, ⟨cell_keep (by repeat (first | exact Below.refl _ _ | with_reducible assumption | exact below_alloc _ _ | (refine Below.setCell ?_ (by first | (simp; done) | (simp; omega) | omega) _) | apply bd | apply ba | apply be)) hd0, cell_keep (by repeat (first | exact Below.refl _ _ | with_reducible assumption | exact below_alloc _ _ | (refine Below.setCell ?_ (by first | (simp; done) | (simp; omega) | omega) _) | apply bd | apply ba | apply be)) hd1⟩⟩)
        (first
          | (go_at_call 117; go_must (refine (l15Distinct_any b o c ps _ (HP.out.keep (by repeat (first | exact Below.refl _ _ | with_reducible assumption | exact below_alloc _ _ | (refine Below.setCell ?_ (by first | (simp; done) | (simp; omega) | omega) _) | apply bd | apply ba | apply be))) (by omega)).mono ?_; rintro e w8 ⟨b8, o8, c8, rfl, hr8, hb8'⟩; have hb8 : Below wr.heap.size wr w8 := bt (by repeat (first | exact Below.refl _ _ | with_reducible assumption | exact below_alloc _ _ | (refine Below.setCell ?_ (by first | (simp; done) | (simp; omega) | omega) _) | apply bd | apply ba | apply be)) hb8'; have HR8 := Lib.hid hr8; clear hr8))
          | (go_at_call 116; go_must (refine (match_any vl hl vm hm HV.out.1 HV.out.2 9 _ _ _ _ b8 o8 c8 (distP [] ps) 1 _ _ (HR.out.1.1.keep (bt hbW (by repeat (first | exact Below.refl _ _ | with_reducible assumption | exact below_alloc _ _ | (refine Below.setCell ?_ (by first | (simp; done) | (simp; omega) | omega) _) | apply bd | apply ba | apply be)))) (HR.out.1.2.keep (bt hbW (by repeat (first | exact Below.refl _ _ | with_reducible assumption | exact below_alloc _ _ | (refine Below.setCell ?_ (by first | (simp; done) | (simp; omega) | omega) _) | apply bd | apply ba | apply be)))) (HR.out.2.1.keep (bt hbW (by repeat (first | exact Below.refl _ _ | with_reducible assumption | exact below_alloc _ _ | (refine Below.setCell ?_ (by first | (simp; done) | (simp; omega) | omega) _) | apply bd | apply ba | apply be)))) (HR.out.2.2.keep (bt hbW (by repeat (first | exact Below.refl _ _ | with_reducible assumption | exact below_alloc _ _ | (refine Below.setCell ?_ (by first | (simp; done) | (simp; omega) | omega) _) | apply bd | apply ba | apply be)))) (by omega) HSP.out.1 HSP.out.2 (by omega) (by omega) (by rfl) (by first | exact HR8.out | exact HR8.out.keep (below_drew _))).mono ?_; rw [← HF.out]; rintro e w9 ⟨rfl, hb9'⟩; have hb9 : Below wr.heap.size wr w9 := bt (by repeat (first | exact Below.refl _ _ | with_reducible assumption | exact below_alloc _ _ | (refine Below.setCell ?_ (by first | (simp; done) | (simp; omega) | omega) _) | apply bd | apply ba | apply be)) hb9')))
      all_goals
        have hbb := bt hbW hb9
        go_wp2
        go_ret
        exact ⟨rfl, hbb⟩
end Go.Proofs.Ythoingdcmdhllaa
