/- SplA: texts Split1, Split2 in one. -/
import Derived.Test.YtapoillhgimdiaaSFam3
import Derived.Test.YtapoillhgimdiaaSData2
import Derived.Test.YtapoillhgimdiaaSEnt1
import Derived.Deep.Cut
/- Walks: assertions with one fact more; the other way of a fact. -/
namespace Go.Proofs.Ytapoillhgimdiaa
open Go.RowKit

/-- The other way of a fact; an assertion with one fact more. -/
def nF (f : Fact) : Fact := (!f.1, f.2)
def withF (a : Asn) (f : Fact) : Asn := (a.1 ++ [f], a.2)
theorem litF1 (W : World) (n : Nat) (hn : n = W.heap.size) (f : Fact) (T : TypeId) : RL (W.alloc (.cells #[.bool f.1, .int .i64 f.2.1, .int .i64 f.2.2] T)) (fun k => k = n) (.slice (some ⟨n, 0, none⟩) 1 1) [f] := by
  subst hn
  refine .inr ⟨W.heap.size, 0, 1, rfl, Nat.le_refl _, by unfold maxLen; omega, fun _ => ⟨rfl, by simp⟩, fun i hi => ⟨[.bool f.1, .int .i64 f.2.1, .int .i64 f.2.2], ?_, fun j u hj => ?_⟩⟩
  · obtain rfl : i = 0 := by simpa using hi
    exact ⟨[.bool f.1], [.int .i64 f.2.1, .int .i64 f.2.2], rfl, rfl, [.int .i64 f.2.1], [.int .i64 f.2.2], rfl, rfl, rfl⟩
  · obtain rfl : i = 0 := by simpa using hi
    match j, hj with
    | 0, hj => simp at hj; subst hj; simp
    | 1, hj => simp at hj; subst hj; simp
    | 2, hj => simp at hj; subst hj; simp
theorem negated_any (f : Fact) (w : World) :
    Calls Try.prog 150 #[.agg #[.bool f.1, .int .i64 f.2.1, .int .i64 f.2.2]] w fun e w' => e = .returned (.agg #[.bool (nF f).1, .int .i64 (nF f).2.1, .int .i64 (nF f).2.2]) ∧ Below w.heap.size w w' := by
  go_enter Try.func150, Try.ntmps150
  go_wp2
  refine bodyPost_ret (v := .agg #[.bool !f.1, .int .i64 f.2.1, .int .i64 f.2.2]) (by simp [results, Try.results150, go_sem]) rfl ⟨rfl, ?_⟩
  exact Bl
set_option maxRecDepth 100000 in
set_option maxHeartbeats 1600000 in
theorem withFact_any {S1 S2 : Nat → Prop} (v1 v2 : Value) (a : Asn) (f : Fact) (w : World) (h1 : RL w S1 v1 a.1) (h2 : RL w S2 v2 a.2) (hs : asSz a) :
    Calls Try.prog 149 #[.agg #[v1, v2], .agg #[.bool f.1, .int .i64 f.2.1, .int .i64 f.2.2]] w fun e w' => ∃ u1 u2, e = .returned (.agg #[u1, u2]) ∧ OA w' w.heap.size u1 u2 (withF a f) ∧ Below w.heap.size w w' := by
  obtain ⟨a1, a2⟩ := a
  obtain ⟨hn, hm⟩ := hs
  simp only at h1 h2 hn hm
  obtain ⟨b1, c1, rfl⟩ := h1.form
  obtain ⟨b2, c2, rfl⟩ := h2.form
  go_enter Try.func149, Try.ntmps149
  go_wp2
  have hc0 : (((w.alloc (.cells #[.slice b1 a1.length c1, .slice b2 a2.length c2] 33)).alloc (.cells #[.bool f.1, .int .i64 f.2.1, .int .i64 f.2.2] 83)).alloc (.cells #[.slice none 0 0, .slice none 0 0] 33)).cell? ⟨w.heap.size, 0, none⟩ = some (.slice b1 a1.length c1) := by simp [go_sem]
  have hc1 : (((w.alloc (.cells #[.slice b1 a1.length c1, .slice b2 a2.length c2] 33)).alloc (.cells #[.bool f.1, .int .i64 f.2.1, .int .i64 f.2.2] 83)).alloc (.cells #[.slice none 0 0, .slice none 0 0] 33)).cell? ⟨w.heap.size, 1, none⟩ = some (.slice b2 a2.length c2) := by simp [go_sem]
  have hf0 : (((w.alloc (.cells #[.slice b1 a1.length c1, .slice b2 a2.length c2] 33)).alloc (.cells #[.bool f.1, .int .i64 f.2.1, .int .i64 f.2.2] 83)).alloc (.cells #[.slice none 0 0, .slice none 0 0] 33)).cell? ⟨w.heap.size + 1, 0, none⟩ = some (.bool f.1) := by simp [go_sem]
  have hf1 : (((w.alloc (.cells #[.slice b1 a1.length c1, .slice b2 a2.length c2] 33)).alloc (.cells #[.bool f.1, .int .i64 f.2.1, .int .i64 f.2.2] 83)).alloc (.cells #[.slice none 0 0, .slice none 0 0] 33)).cell? ⟨w.heap.size + 1, 1, none⟩ = some (.int .i64 f.2.1) := by simp [go_sem]
  have hf2 : (((w.alloc (.cells #[.slice b1 a1.length c1, .slice b2 a2.length c2] 33)).alloc (.cells #[.bool f.1, .int .i64 f.2.1, .int .i64 f.2.2] 83)).alloc (.cells #[.slice none 0 0, .slice none 0 0] 33)).cell? ⟨w.heap.size + 1, 2, none⟩ = some (.int .i64 f.2.2) := by simp [go_sem]
  have hA := heap_alloc_new ((w.alloc (.cells #[.slice b1 a1.length c1, .slice b2 a2.length c2] 33)).alloc (.cells #[.bool f.1, .int .i64 f.2.1, .int .i64 f.2.2] 83)) (.cells #[.slice none 0 0, .slice none 0 0] 33)
  have hW : Below w.heap.size w (((w.alloc (.cells #[.slice b1 a1.length c1, .slice b2 a2.length c2] 33)).alloc (.cells #[.bool f.1, .int .i64 f.2.1, .int .i64 f.2.2] 83)).alloc (.cells #[.slice none 0 0, .slice none 0 0] 33)) := ba (ba (below_alloc _ _) _) _
  have hz : (((w.alloc (.cells #[.slice b1 a1.length c1, .slice b2 a2.length c2] 33)).alloc (.cells #[.bool f.1, .int .i64 f.2.1, .int .i64 f.2.2] 83)).alloc (.cells #[.slice none 0 0, .slice none 0 0] 33)).heap.size = w.heap.size + 3 := by simp
  rw [World.size_alloc, World.size_alloc] at hA
  generalize ((w.alloc (.cells #[.slice b1 a1.length c1, .slice b2 a2.length c2] 33)).alloc (.cells #[.bool f.1, .int .i64 f.2.1, .int .i64 f.2.2] 83)).alloc (.cells #[.slice none 0 0, .slice none 0 0] 33) = w0 at *
  have HA := Lib.hid hA
  have HZ := Lib.hid hz
  clear hA hz
  go_region_held3 (fun w' => (w'.cell? ⟨w.heap.size, 0, none⟩ = some (.slice b1 a1.length c1) ∧ w'.cell? ⟨w.heap.size, 1, none⟩ = some (.slice b2 a2.length c2)) ∧ (w'.cell? ⟨w.heap.size + 1, 0, none⟩ = some (.bool f.1) ∧ w'.cell? ⟨w.heap.size + 1, 1, none⟩ = some (.int .i64 f.2.1) ∧ w'.cell? ⟨w.heap.size + 1, 2, none⟩ = some (.int .i64 f.2.2)))
    (exact ⟨⟨(by repeat (first | with_reducible exact hc0 | (with_reducible refine (fr_set _ _ _).cell (by first | (simp; done) | (simp; omega) | omega) ?_) | exact cell_keep Bl hc0)), (by repeat (first | with_reducible exact hc1 | (with_reducible refine (fr_set _ _ _).cell (by first | (simp; done) | (simp; omega) | omega) ?_) | exact cell_keep Bl hc1))⟩, (by repeat (first | with_reducible exact hf0 | (with_reducible refine (fr_set _ _ _).cell (by first | (simp; done) | (simp; omega) | omega) ?_) | exact cell_keep Bl hf0)), (by repeat (first | with_reducible exact hf1 | (with_reducible refine (fr_set _ _ _).cell (by first | (simp; done) | (simp; omega) | omega) ?_) | exact cell_keep Bl hf1)), (by repeat (first | with_reducible exact hf2 | (with_reducible refine (fr_set _ _ _).cell (by first | (simp; done) | (simp; omega) | omega) ?_) | exact cell_keep Bl hf2))⟩)
    (first
      | (go_at_call 198; (first | have rf := litF1 w0 w0.heap.size rfl f 83 | skip); (first | have rg := litF1 w0.drew w0.heap.size (by simp) f 83 | skip); go_must (first | refine (joinFacts_any _ _ a1 [f] _ (h1.keep (bt hW Bl)) rf (by simp; omega)).mono ?_ | refine (joinFacts_any _ _ a1 [f] _ (h1.keep (bt hW Bl)) rg (by simp; omega)).mono ?_ | refine (joinFacts_any _ _ a1 [f] _ (h1.keep (bt hW Bl)) (rf.keep (below_drew _)) (by simp; omega)).mono ?_); rintro e w5 ⟨x1, rfl, ⟨f1, o1, n1⟩, hb5'⟩; obtain ⟨d1, m1, k1, rfl⟩ := o1.read.forms; have hb5 : Below w0.heap.size w0 w5 := bt Bl hb5'; have hz5 := hb5.size)
      | (go_at_call 199; go_must (refine (joinAtoms_any _ _ a2 [] _ (h2.keep (bt hW Bl)) (RL.nil _ (fun _ => True)) (by simp; omega)).mono ?_; rintro e w6 ⟨y1, rfl, ⟨f2, o2, n2⟩, hb6'⟩; rw [List.append_nil] at o2; obtain ⟨d2, k2, rfl⟩ := o2.read.form; have hb6 : Below w0.heap.size w0 w6 := bt Bl hb6'; have hA6 := box_keep HA.out hb6; have ha0 := box0 hA6; have ha1 := box1 hA6; have haz : ∀ i, w6.frozen? ⟨w.heap.size + 2, i, none⟩ = false := boxz hA6; have hlA := box_lt hA6; clear hA6)))
  all_goals
    have hz0 := HZ.out
    have hz5 := hb5.size
    have hz5' := hb5'.size
    have HO := Lib.hid ((OA.join o1 n1 o2 n2 Bl (by first | exact Nat.le_refl _ | exact hb6'.size) (B := w.heap.size + 3) (by first | (simp; omega) | omega) (by first | (simp; omega) | omega)).res (R := w.heap.size + 2) (by omega) (by omega) (bt hW hb6) (.slice d1 m1 k1) (.slice d2 a2.length k2))
    have r := box_two (.slice d1 m1 k1) (.slice d2 a2.length k2) ha0 ha1
    clear o1 n1 o2 n2 hb5 hb5' hb6 hb6'
    go_wp2
    refine bodyPost_ret (v := .agg #[.slice d1 m1 k1, .slice d2 a2.length k2]) (by simp [results, Try.results149, go_sem, r.1, r.2]) rfl ?_
    exact ⟨_, _, rfl, HO.out.1, HO.out.2⟩
end Go.Proofs.Ytapoillhgimdiaa
/- Walks: an assertion divided by a fact: the program. -/
namespace Go.Proofs.Ytapoillhgimdiaa
open Go.RowKit

def splitOk (a : Asn) (f : Fact) : Bool := asnB a && (factB f && !decide (a.1.length = 12))
def splitTo (a : Asn) (f : Fact) (k : Nat) : List Asn := ([withF a f, withF a (nF f)].take k).filter consB
def splitR (a : Asn) (f : Fact) : List Asn := if splitOk a f = true then splitTo a f 2 else []
theorem splitTo_yes {a : Asn} {f : Fact} {k : Nat} (hk : k < 2) (h : consB (gd [withF a f, withF a (nF f)] k) = true) : splitTo a f (k + 1) = splitTo a f k ++ [gd [withF a f, withF a (nF f)] k] := by
  rw [splitTo, splitTo, take_gd hk, List.filter_append, List.filter_cons, if_pos h]; rfl
theorem splitTo_no {a : Asn} {f : Fact} {k : Nat} (hk : k < 2) (h : consB (gd [withF a f, withF a (nF f)] k) = false) : splitTo a f (k + 1) = splitTo a f k := by
  rw [splitTo, splitTo, take_gd hk, List.filter_append, List.filter_cons, h, if_neg (by decide), List.filter_nil, List.append_nil]
theorem splitTo_len (a : Asn) (f : Fact) (k : Nat) : (splitTo a f k).length ≤ 2 := by
  refine Nat.le_trans (List.length_filter_le _ _) ?_
  rw [List.length_take]; exact Nat.min_le_right _ _

/-- An owned list all of whose blocks lie outside some others. -/
def PX {α : Type} [Own α] [Tid α] (w : World) (B : Nat) (v : Value) (l : List α) (F : List Nat) : Prop :=
  ∃ (xs : List Value) (fps : List (List Nat)), w.ownsRow B (Tid.tid α) (Dat.sz α) v l.length xs ∧ fps.length = l.length ∧ (v.ownBlock.toList ++ fps.flatten).Nodup ∧
    (∀ i, i < l.length → Own.own w B (gd l i) (nth (Dat.sz α) xs i) (gd fps i)) ∧ ∀ k ∈ v.ownBlock.toList ++ fps.flatten, ¬ k ∈ F
section
variable {α : Type} [Own α] [Tid α] {w w' : World} {B : Nat} {v : Value} {l : List α} {F F' : List Nat}
theorem PX.nil (w : World) (B : Nat) (F : List Nat) : PX w B (.slice none 0 0) ([] : List α) F :=
  ⟨[], [], World.ownsRow_nil _ _ _ _, rfl, by simp [Value.ownBlock], fun i hi => absurd hi (by simp), by simp [Value.ownBlock]⟩
theorem PX.keep (h : PX w B v l F) (hb : Below w.heap.size w w') : PX w' B v l F := by
  obtain ⟨xs, fps, hr, hl, hn, ho, hF⟩ := h
  exact ⟨xs, fps, own_keep hr hb, hl, hn, fun i hi => Own.okept (ho i hi) (Below.fr hb) fun _ _ h => h, hF⟩
theorem PX.less (h : PX w B v l F) (hs : ∀ k ∈ F', k ∈ F) : PX w B v l F' := by
  obtain ⟨xs, fps, hr, hl, hn, ho, hF⟩ := h
  exact ⟨xs, fps, hr, hl, hn, ho, fun k hk h => hF k hk (hs k h)⟩
theorem PX.done (h : PX w B v l F) : OO w B v l := by
  obtain ⟨xs, fps, hr, hl, hn, ho, _⟩ := h
  exact ⟨_, ⟨xs, fps, hr, hl, rfl, ho⟩, hn⟩
theorem PX.avoid (h : PX w B v l F) : ∀ k, some k = v.ownBlock → ¬ k ∈ F := by
  obtain ⟨xs, fps, hr, hl, hn, ho, hF⟩ := h
  exact fun k hk => hF k (List.mem_append_left _ (mem_ownBlock.2 hk))
theorem PX.form (h : PX w B v l F) : ∃ a cap, v = .slice a l.length cap := h.done.form
theorem PX.grow (h : PX w B v l F) (hFl : ∀ k ∈ F, k < w.heap.size) :
    ∃ xs, w.ownsRow B (Tid.tid α) (Dat.sz α) v l.length xs ∧ ∀ (x : α) (cs : List Value) (fx : List Nat) (v' : Value) (w3 : World), Own.own w B x cs fx → fx.Nodup → (∀ k ∈ fx, k ∈ F) → (∀ k ∈ F', k ∈ F) → (∀ k ∈ fx, ¬ k ∈ F') →
      Fr (fun k => some k = v.ownBlock) w w3 → w3.ownsRow B (Tid.tid α) (Dat.sz α) v' (l.length + 1) (xs ++ cs) → (v'.ownBlock = v.ownBlock ∨ v'.ownBlock = some w.heap.size) → PX w3 B v' (l ++ [x]) F' := by
  obtain ⟨xs, fps, hr, hfl, hn, ho, hF⟩ := h
  refine ⟨xs, hr, fun x cs fx v' w3 hx hfx hin hsub hdis hf hr3 hlie => ?_⟩
  have hlt1 : ∀ k ∈ fps.flatten, k < w.heap.size := fun k hk => by
    obtain ⟨i, hi, hm⟩ := flat_mem hk
    exact (Own.lt (ho i (by omega)) k hm).2
  have hn0 := List.nodup_append.1 hn
  have hvl : ∀ k, some k = v.ownBlock → k < w.heap.size := fun k hk => (own_lt hr hk).2
  refine ⟨xs ++ cs, fps ++ [fx], by rw [List.length_append]; exact hr3, by simp [hfl], ?_, fun i hi => ?_, fun k hk => ?_⟩
  · rw [List.flatten_append, List.flatten_cons, List.flatten_nil, List.append_nil]
    refine List.nodup_append.2 ⟨nodup_own v', List.nodup_append.2 ⟨hn0.2.1, hfx, fun a ha b hb e => ?_⟩, fun a ha b hb2 e => ?_⟩
    · subst e; exact hF a (List.mem_append_right _ ha) (hin a hb)
    · subst e
      have ha' := mem_ownBlock.1 ha
      rcases hlie with h | h
      · rw [h] at ha'
        rcases List.mem_append.1 hb2 with hm | hm
        · exact hn0.2.2 a (mem_ownBlock.2 ha') a hm rfl
        · exact hF a (List.mem_append_left _ (mem_ownBlock.2 ha')) (hin a hm)
      · rw [h] at ha'
        injection ha' with ha'
        rcases List.mem_append.1 hb2 with hm | hm
        · have := hlt1 a hm; omega
        · have := hFl a (hin a hm); omega
  · rw [List.length_append, List.length_singleton] at hi
    by_cases hlt : i < l.length
    · rw [gd_app1 hlt, gd_app1 (by omega), nth_app1 hr.1 hlt]
      refine Own.okept (ho i hlt) hf fun k hk e => ?_
      exact hn0.2.2 k (mem_ownBlock.2 e) k (mem_flat (by omega) hk) rfl
    · obtain rfl : i = l.length := by omega
      rw [gd_snoc, nth_app2 hr.1 (Dat.len (Own.read hx)), ← hfl, gd_snoc]
      exact Own.okept hx hf fun k hk e => hF k (List.mem_append_left _ (mem_ownBlock.2 e)) (hin k hk)
  · rw [List.flatten_append, List.flatten_cons, List.flatten_nil, List.append_nil] at hk
    rcases List.mem_append.1 hk with hk | hk
    · rcases hlie with h | h
      · rw [h] at hk
        exact fun hk2 => hF k (List.mem_append_left _ hk) (hsub k hk2)
      · rw [h] at hk
        have e : k = w.heap.size := by simpa using hk
        intro hk2
        have := hFl k (hsub k hk2)
        omega
    · rcases List.mem_append.1 hk with hk | hk
      · exact fun hk2 => hF k (List.mem_append_right _ hk) (hsub k hk2)
      · exact hdis k hk
end
set_option maxRecDepth 100000 in
set_option maxHeartbeats 6400000 in
theorem splitI_any {S1 S2 : Nat → Prop} (v1 v2 : Value) (a : Asn) (f : Fact) (w : World) (h1 : RL w S1 v1 a.1) (h2 : RL w S2 v2 a.2) :
    Calls Try.prog 65 #[.agg #[v1, v2], .agg #[.bool f.1, .int .i64 f.2.1, .int .i64 f.2.2]] w fun e w' => ∃ v, e = .returned (.tuple #[v, .bool (splitOk a f)]) ∧ OO w' w.heap.size v (splitR a f) ∧ Below w.heap.size w w' := by
  obtain ⟨p1, c1, rfl⟩ := h1.form
  obtain ⟨p2, c2, rfl⟩ := h2.form
  obtain ⟨w0, hw0⟩ : ∃ w0, w0 = ((w.alloc (.cells #[.slice p1 a.1.length c1, .slice p2 a.2.length c2] 33)).alloc (.cells #[.bool f.1, .int .i64 f.2.1, .int .i64 f.2.2] 83)) := ⟨_, rfl⟩
  have hc0 : w0.cell? ⟨w.heap.size, 0, none⟩ = some (.slice p1 a.1.length c1) := by rw [hw0]; simp [go_sem]
  have hc1 : w0.cell? ⟨w.heap.size, 1, none⟩ = some (.slice p2 a.2.length c2) := by rw [hw0]; simp [go_sem]
  have hf0 : w0.cell? ⟨w.heap.size + 1, 0, none⟩ = some (.bool f.1) := by rw [hw0]; simp [go_sem]
  have hf1 : w0.cell? ⟨w.heap.size + 1, 1, none⟩ = some (.int .i64 f.2.1) := by rw [hw0]; simp [go_sem]
  have hf2 : w0.cell? ⟨w.heap.size + 1, 2, none⟩ = some (.int .i64 f.2.2) := by rw [hw0]; simp [go_sem]
  have hz : w0.heap.size = w.heap.size + 2 := by rw [hw0]; simp
  have hW : Below w.heap.size w w0 := by rw [hw0]; exact ba (below_alloc _ _) _
  have q1 := h1.keep hW
  have q2 := h2.keep hW
  have HZ := Lib.hid (And.intro hz hw0)
  clear hz hw0
  cases ha : asnB a
  · have hf : splitOk a f = false := by rw [splitOk, ha]; rfl
    have HF := Lib.hid (And.intro hf (And.intro (show splitR a f = [] by rw [splitR, hf]; rfl) ha))
    clear hf ha
    go_enter Try.func65, Try.ntmps65
    go_wp2_with fail
    rw [← HZ.out.2]
    refine (cb (asnValidI_any _ _ a _ q1 q2) HF.out.2.2).mono ?_
    rintro e w1 ⟨rfl, hb⟩
    go_wp2
    go_ret2
    exact ⟨_, by rw [HF.out.1]; rfl, by rw [HF.out.2.1]; exact OO.nil _ _, bt hW hb⟩
  have HVA := Lib.hid ha
  cases hv : factB f
  · have hf : splitOk a f = false := by rw [splitOk, ha, hv]; rfl
    have HF := Lib.hid (And.intro hf (And.intro (show splitR a f = [] by rw [splitR, hf]; rfl) hv))
    clear hf ha hv
    go_enter Try.func65, Try.ntmps65
    go_wp2_with fail
    rw [← HZ.out.2]
    refine (cb (asnValidI_any _ _ a _ q1 q2) HVA.out).mono ?_
    rintro e w1 ⟨rfl, hb⟩
    replace hf0 := cell_keep hb hf0; replace hf1 := cell_keep hb hf1; replace hf2 := cell_keep hb hf2
    go_wp2_with fail
    refine (cb (factValidI_any f _) HF.out.2.2).mono ?_
    rintro e w2 ⟨rfl, hb2⟩
    go_wp2
    go_ret2
    exact ⟨_, by rw [HF.out.1]; rfl, by rw [HF.out.2.1]; exact OO.nil _ _, bt hW (bt hb hb2)⟩
  have HVF := Lib.hid hv
  have hsz := asn_sz ha
  have h12 : a.1.length ≤ 12 := by simp only [asnB, factsB, Bool.and_eq_true, decide_eq_true_eq] at ha; exact ha.1.1
  by_cases hl : a.1.length = 12
  · have hf : splitOk a f = false := by rw [splitOk, ha, hv, hl]; rfl
    have HF := Lib.hid (And.intro hf (show splitR a f = [] by rw [splitR, hf]; rfl))
    have hli : ((a.1.length : Int) == 12) = true := by rw [hl]; rfl
    have HLI := Lib.hid hl
    clear hf ha hv hl
    go_enter Try.func65, Try.ntmps65
    go_wp2_with fail
    rw [← HZ.out.2]
    refine (cb (asnValidI_any _ _ a _ q1 q2) HVA.out).mono ?_
    rintro e w1 ⟨rfl, hb⟩
    replace hf0 := cell_keep hb hf0; replace hf1 := cell_keep hb hf1; replace hf2 := cell_keep hb hf2; replace hc0 := cell_keep hb hc0
    go_wp2_with fail
    refine (cb (factValidI_any f _) HVF.out).mono ?_
    rintro e w2 ⟨rfl, hb2⟩
    replace hc0 := cell_keep hb2 hc0
    go_wp2
    go_ret2
    exact ⟨_, by rw [HF.out.1]; rfl, by rw [HF.out.2]; exact OO.nil _ _, bt hW (bt hb hb2)⟩
  have hok : splitOk a f = true := by rw [splitOk, ha, hv, decide_eq_false hl]; rfl
  have HOK := Lib.hid (And.intro hok (show splitR a f = splitTo a f 2 by rw [splitR, if_pos hok]))
  have hli : ((a.1.length : Int) == 12) = false := by rw [beq_eq_false_iff_ne]; omega
  have HSZ := Lib.hid hsz
  clear hok ha hv hl hsz
  go_enter Try.func65, Try.ntmps65
  go_wp2_with fail
  rw [← HZ.out.2]
  refine (cb (asnValidI_any _ _ a _ q1 q2) HVA.out).mono ?_
  rintro e w1 ⟨rfl, hb⟩
  replace hf0 := cell_keep hb hf0; replace hf1 := cell_keep hb hf1; replace hf2 := cell_keep hb hf2; replace hc0 := cell_keep hb hc0; replace hc1 := cell_keep hb hc1
  replace hW := bt hW hb
  replace q1 := q1.keep hb
  replace q2 := q2.keep hb
  go_wp2_with fail
  refine (cb (factValidI_any f _) HVF.out).mono ?_
  rintro e w2 ⟨rfl, hb2⟩
  replace hf0 := cell_keep hb2 hf0; replace hf1 := cell_keep hb2 hf1; replace hf2 := cell_keep hb2 hf2; replace hc0 := cell_keep hb2 hc0; replace hc1 := cell_keep hb2 hc1
  replace hW := bt hW hb2
  replace q1 := q1.keep hb2
  replace q2 := q2.keep hb2
  have hgw : w.heap.size ≤ w2.heap.size := hW.size
  clear hb hb2
  go_wp2
  go_region_held3 (fun w' => (w'.cell? ⟨w.heap.size, 0, none⟩ = some (.slice p1 a.1.length c1) ∧ w'.cell? ⟨w.heap.size, 1, none⟩ = some (.slice p2 a.2.length c2)) ∧ (w'.cell? ⟨w.heap.size + 1, 0, none⟩ = some (.bool f.1) ∧ w'.cell? ⟨w.heap.size + 1, 1, none⟩ = some (.int .i64 f.2.1) ∧ w'.cell? ⟨w.heap.size + 1, 2, none⟩ = some (.int .i64 f.2.2)))
    (exact ⟨⟨cell_keep Bl hc0, cell_keep Bl hc1⟩, cell_keep Bl hf0, cell_keep Bl hf1, cell_keep Bl hf2⟩)
    (first
      | (go_at_call 149; (with_reducible refine (withFact_any _ _ a f _ (q1.keep Bl) (q2.keep Bl) HSZ.out).mono ?_); rintro e w5 ⟨x1, x2, rfl, ⟨f1, f2, o1, o2, n12⟩, hb5'⟩; obtain ⟨d1, m1, k1, rfl⟩ := o1.read.forms; obtain ⟨d2, m2, k2, rfl⟩ := o2.read.forms; have hb5 : Below w2.heap.size w2 w5 := bt Bl hb5')
      | (go_at_call 150; go_must (refine (negated_any f _).mono ?_; rintro e w6 ⟨rfl, hb6'⟩; have hb6 : Below w2.heap.size w2 w6 := bt (bt hb5 Bl) hb6'; have hb56 : Below w5.heap.size w5 w6 := bt Bl hb6'; replace o1 := o1.keep hb56; replace o2 := o2.keep hb56))
      | (go_at_call 149; go_must (refine (withFact_any _ _ a (nF f) _ (q1.keep Bl) (q2.keep Bl) HSZ.out).mono ?_; rintro e w7 ⟨y1, y2, rfl, ⟨g1, g2, r1, r2, n34⟩, hb7'⟩; obtain ⟨e1, s1, t1, rfl⟩ := r1.read.forms; obtain ⟨e2, s2, t2, rfl⟩ := r2.read.forms; have hb67 : Below w6.heap.size w6 w7 := bt Bl hb7'; have hb7 : Below w2.heap.size w2 w7 := bt hb6 hb67; have hlt1 := o1.lt; have hlt2 := o2.lt; replace o1 := o1.keep hb67; replace o2 := o2.keep hb67)))
  all_goals
    have hz67 : w6.heap.size ≤ w7.heap.size := hb67.size
    have hr1 := r1.lt
    have hr2 := r2.lt
    have hz26 : w2.heap.size ≤ w6.heap.size := hb6.size
    obtain ⟨F2, hF2⟩ : ∃ F2, F2 = g1 ++ g2 := ⟨_, rfl⟩
    obtain ⟨F1, hF1⟩ : ∃ F1, F1 = f1 ++ f2 := ⟨_, rfl⟩
    have hl1 : ∀ k ∈ F1, k < w6.heap.size := fun k hk => by
      rw [hF1] at hk
      rcases List.mem_append.1 hk with h | h
      · exact (hlt1 k h).2
      · exact (hlt2 k h).2
    have hl2 : ∀ k ∈ F2, w6.heap.size ≤ k ∧ k < w7.heap.size := fun k hk => by
      rw [hF2] at hk
      rcases List.mem_append.1 hk with h | h
      · have := hr1 k h; first | omega | (simp at this; omega)
      · have := hr2 k h; first | omega | (simp at this; omega)
    have HO := Lib.hid (And.intro (And.intro hF1 n12) (And.intro hF2 n34))
    have HL := Lib.hid (And.intro hl1 hl2)
    have hWs := bt hW hb7
    have a1 : OL w7 w.heap.size (.slice d1 m1 k1) (withF a f).1 f1 ∧ OL w7 w.heap.size (.slice d2 m2 k2) (withF a f).2 f2 := ⟨o1.mono (by first | exact hgw | (simp; omega)), o2.mono (by first | exact hgw | (simp; omega))⟩
    have a2 : OL w7 w.heap.size (.slice e1 s1 t1) (withF a (nF f)).1 g1 ∧ OL w7 w.heap.size (.slice e2 s2 t2) (withF a (nF f)).2 g2 := ⟨r1.mono (by first | omega | (simp; omega)), r2.mono (by first | omega | (simp; omega))⟩
    clear o1 o2 r1 r2 n12 n34 hlt1 hlt2 hr1 hr2 hb5 hb5' hb6 hb6' hb67 hb7 hb7' hb56 hl1 hl2 hF1 hF2 q1 q2 hc0 hc1 hf0 hf1 hf2 hW
    have HS := Lib.hid (And.intro a1 (And.intro a2 hWs))
    clear a1 a2 hWs
    go_wp2
    go_loopg [6, 31] 2 (fun q x i wr => ∃ k : Nat, k + q = 2 ∧ i = .int .i64 k ∧ PX wr w.heap.size x (splitTo a f k) (if k = 0 then F1 ++ F2 else if k = 1 then F2 else []) ∧ (k = 0 → OL wr w.heap.size (.slice d1 m1 k1) (withF a f).1 f1 ∧ OL wr w.heap.size (.slice d2 m2 k2) (withF a f).2 f2) ∧ (k ≤ 1 → OL wr w.heap.size (.slice e1 s1 t1) (withF a (nF f)).1 g1 ∧ OL wr w.heap.size (.slice e2 s2 t2) (withF a (nF f)).2 g2) ∧ w7.heap.size ≤ wr.heap.size ∧ Below w.heap.size w wr)
    case atStart => exact ⟨0, by omega, rfl, PX.nil _ _ _, fun _ => HS.out.1, fun _ => HS.out.2.1, Nat.le_refl _, HS.out.2.2⟩
    case round =>
      obtain ⟨k, hk, rfl, hP, hA1, hA2, hz7, hb⟩ := hrel
      have HK := Lib.hid hk
      clear hk
      have hl2 := splitTo_len a f k
      obtain ⟨xa, xc, rfl⟩ := hP.form
      have HP := Lib.hid hP
      have hcase : k = 0 ∨ k = 1 ∨ k = 2 := by have := HK.out; omega
      clear hP
      rcases hcase with rfl | rfl | rfl
      · have hP : PX wr w.heap.size (.slice xa (splitTo a f 0).length xc) (splitTo a f 0) (F1 ++ F2) := HP.out
        have HPX := Lib.hid hP
        have me := hA1 rfl
        have ot := hA2 (by decide)
        clear hA1 hA2
        obtain ⟨t, ht⟩ : ∃ t, consB (withF a f) = t := ⟨_, rfl⟩
        have HT := Lib.hid ht
        clear hP ht
        rw [show ((0 : Nat) : Int) = 0 from rfl]
        have ix : ∀ w : World, (Instr.index 162 (.agg #[.slice d1 m1 k1, .slice d2 m2 k2, .slice e1 s1 t1, .slice e2 s2 t2]) (.int .i64 0)).run Try.prog w = .ok (.agg #[.slice d1 m1 k1, .slice d2 m2 k2]) w := fun _ => by kernel_rfl
        go_wp2_with fail
        refine (cb (consistentI_any _ _ (withF a f) _ (me.1.read.keep Bl) (me.2.read.keep Bl)) HT.out).mono ?_
        rintro e w8 ⟨rfl, hb8⟩
        have bx0 := cell_keep hb8 (p := ⟨wr.heap.size, 0, none⟩) (v := .slice d1 m1 k1) (by simp [go_sem])
        have bx1 := cell_keep hb8 (p := ⟨wr.heap.size, 1, none⟩) (v := .slice d2 m2 k2) (by simp [go_sem])
        replace hb8 : Below wr.heap.size wr w8 := bt Bl hb8
        have hz8 := hb8.size
        cases t with
        | false =>
          have HN := Lib.hid (show PX w8 w.heap.size (.slice xa (splitTo a f 0).length xc) (splitTo a f (0 + 1)) (F2) by
            rw [splitTo_no (a := a) (f := f) (k := 0) (by decide) HT.out]
            exact (HPX.out.keep hb8).less (fun k hk => List.mem_append_right _ hk))
          have hbn := bt hb hb8
          have HOT := Lib.hid (And.intro (ot.1.keep hb8) (ot.2.keep hb8))
          clear ot
          go_wp2
          go_roundg (gk - 1)
          case rel => exact ⟨0 + 1, by have := HK.out; omega, by go_num, HN.out, fun h => absurd h (by omega), fun _ => HOT.out, by omega, hbn⟩
          case measure => have := HK.out; omega
        | true =>
          have hFl : ∀ k ∈ (F1 ++ F2), k < (w8.alloc (.cells #[.slice d1 m1 k1, .slice d2 m2 k2] 33)).heap.size := fun k hk => by
            rw [World.size_alloc]
            rcases List.mem_append.1 hk with h | h
            · have := HL.out.1 k h; omega
            · have := (HL.out.2 k h).2; omega
          obtain ⟨xs, hr, hg⟩ := ((HPX.out.keep hb8).keep (below_alloc w8 (.cells #[.slice d1 m1 k1, .slice d2 m2 k2] 33))).grow (F' := F2) hFl
          have hbc := bt hb8 (below_alloc w8 (.cells #[.slice d1 m1 k1, .slice d2 m2 k2] 33))
          have hown : Own.own (w8.alloc (.cells #[.slice d1 m1 k1, .slice d2 m2 k2] 33)) w.heap.size (withF a f) [.slice d1 m1 k1, .slice d2 m2 k2] F1 := ⟨[_], [_], f1, f2, rfl, HO.out.1.1, ⟨_, rfl, me.1.keep hbc⟩, ⟨_, rfl, me.2.keep hbc⟩⟩
          have HG := Lib.hid (And.intro hown hg)
          clear hg hown hFl
          have HOT := Lib.hid (And.intro (ot.1.keep hbc) (ot.2.keep hbc))
          clear ot me hbc
          go_wp2_with (at_builtin; go_must (refine app_cells (n := (splitTo a f 0).length) (m := 1) (news := [.slice d1 m1 k1, .slice d2 m2 k2]) rfl (.tmp 36) (.tmp 38) _ rfl (B := w.heap.size) ti_asn rfl hr rfl rfl (news2g _ _ _ _ _ (by simp)) (one2 _ _ _ _ _ _) (by omega) (by simp; omega) ?_; intro v' w9 hr9 hf9 hl9))
          have hbn := below_own hr hf9 (ba (bt hb hb8) _) (by simp; omega)
          have hz9 := hf9.size
          rw [World.size_alloc] at hz9
          have HN := Lib.hid (show PX w9 w.heap.size v' (splitTo a f (0 + 1)) (F2) by
            rw [splitTo_yes (a := a) (f := f) (k := 0) (by decide) HT.out]
            exact HG.out.2 (withF a f) _ F1 v' w9 HG.out.1 (by rw [HO.out.1.1]; exact HO.out.1.2) (fun k hk => List.mem_append_left _ hk) (fun k hk => List.mem_append_right _ hk) (fun k hk h => by have := HL.out.1 k hk; have := (HL.out.2 k h).1; omega) hf9 hr9 hl9)
          have hav : ∀ j, some j = (Value.slice xa (splitTo a f 0).length xc).ownBlock → ¬ j ∈ F2 := fun j hj h2 => HPX.out.avoid j hj (List.mem_append_right _ h2)
          have HOT2 := Lib.hid (And.intro (HOT.out.1.okept hf9 fun j hj e => hav j e (by rw [HO.out.2.1]; exact List.mem_append_left _ hj)) (HOT.out.2.okept hf9 fun j hj e => hav j e (by rw [HO.out.2.1]; exact List.mem_append_right _ hj)))
          clear hr9 hf9 hl9 hr
          go_wp2
          go_roundg (gk - 1)
          case rel => exact ⟨0 + 1, by have := HK.out; omega, by go_num, HN.out, fun h => absurd h (by omega), fun _ => HOT2.out, by omega, hbn⟩
          case measure => have := HK.out; omega
      · have hP : PX wr w.heap.size (.slice xa (splitTo a f 1).length xc) (splitTo a f 1) (F2) := HP.out
        have HPX := Lib.hid hP
        have me := hA2 (by decide)
        clear hA1 hA2
        obtain ⟨t, ht⟩ : ∃ t, consB (withF a (nF f)) = t := ⟨_, rfl⟩
        have HT := Lib.hid ht
        clear hP ht
        rw [show ((1 : Nat) : Int) = 1 from rfl]
        have ix : ∀ w : World, (Instr.index 162 (.agg #[.slice d1 m1 k1, .slice d2 m2 k2, .slice e1 s1 t1, .slice e2 s2 t2]) (.int .i64 1)).run Try.prog w = .ok (.agg #[.slice e1 s1 t1, .slice e2 s2 t2]) w := fun _ => by kernel_rfl
        go_wp2_with fail
        refine (cb (consistentI_any _ _ (withF a (nF f)) _ (me.1.read.keep Bl) (me.2.read.keep Bl)) HT.out).mono ?_
        rintro e w8 ⟨rfl, hb8⟩
        have bx0 := cell_keep hb8 (p := ⟨wr.heap.size, 0, none⟩) (v := .slice e1 s1 t1) (by simp [go_sem])
        have bx1 := cell_keep hb8 (p := ⟨wr.heap.size, 1, none⟩) (v := .slice e2 s2 t2) (by simp [go_sem])
        replace hb8 : Below wr.heap.size wr w8 := bt Bl hb8
        have hz8 := hb8.size
        cases t with
        | false =>
          have HN := Lib.hid (show PX w8 w.heap.size (.slice xa (splitTo a f 1).length xc) (splitTo a f (1 + 1)) (([] : List Nat)) by
            rw [splitTo_no (a := a) (f := f) (k := 1) (by decide) HT.out]
            exact (HPX.out.keep hb8).less (fun k hk => by cases hk))
          have hbn := bt hb hb8
          clear me
          go_wp2
          go_roundg (gk - 1)
          case rel => exact ⟨1 + 1, by have := HK.out; omega, by go_num, HN.out, fun h => absurd h (by omega), fun h => absurd h (by omega), by omega, hbn⟩
          case measure => have := HK.out; omega
        | true =>
          have hFl : ∀ k ∈ (F2), k < (w8.alloc (.cells #[.slice e1 s1 t1, .slice e2 s2 t2] 33)).heap.size := fun k hk => by
            rw [World.size_alloc]
            have := (HL.out.2 k hk).2; omega
          obtain ⟨xs, hr, hg⟩ := ((HPX.out.keep hb8).keep (below_alloc w8 (.cells #[.slice e1 s1 t1, .slice e2 s2 t2] 33))).grow (F' := ([] : List Nat)) hFl
          have hbc := bt hb8 (below_alloc w8 (.cells #[.slice e1 s1 t1, .slice e2 s2 t2] 33))
          have hown : Own.own (w8.alloc (.cells #[.slice e1 s1 t1, .slice e2 s2 t2] 33)) w.heap.size (withF a (nF f)) [.slice e1 s1 t1, .slice e2 s2 t2] F2 := ⟨[_], [_], g1, g2, rfl, HO.out.2.1, ⟨_, rfl, me.1.keep hbc⟩, ⟨_, rfl, me.2.keep hbc⟩⟩
          have HG := Lib.hid (And.intro hown hg)
          clear hg hown hFl
          clear me hbc
          go_wp2_with (at_builtin; go_must (refine app_cells (n := (splitTo a f 1).length) (m := 1) (news := [.slice e1 s1 t1, .slice e2 s2 t2]) rfl (.tmp 36) (.tmp 38) _ rfl (B := w.heap.size) ti_asn rfl hr rfl rfl (news2g _ _ _ _ _ (by simp)) (one2 _ _ _ _ _ _) (by omega) (by simp; omega) ?_; intro v' w9 hr9 hf9 hl9))
          have hbn := below_own hr hf9 (ba (bt hb hb8) _) (by simp; omega)
          have hz9 := hf9.size
          rw [World.size_alloc] at hz9
          have HN := Lib.hid (show PX w9 w.heap.size v' (splitTo a f (1 + 1)) (([] : List Nat)) by
            rw [splitTo_yes (a := a) (f := f) (k := 1) (by decide) HT.out]
            exact HG.out.2 (withF a (nF f)) _ F2 v' w9 HG.out.1 (by rw [HO.out.2.1]; exact HO.out.2.2) (fun k hk => hk) (fun k hk => by cases hk) (fun k hk h => by cases h) hf9 hr9 hl9)

          clear hr9 hf9 hl9 hr
          go_wp2
          go_roundg (gk - 1)
          case rel => exact ⟨1 + 1, by have := HK.out; omega, by go_num, HN.out, fun h => absurd h (by omega), fun h => absurd h (by omega), by omega, hbn⟩
          case measure => have := HK.out; omega
      · have hgg : gk = 0 := by have := HK.out; omega
        have HN := Lib.hid (show OO wr w.heap.size (.slice xa (splitTo a f 2).length xc) (splitTo a f 2) from HP.out.done)
        go_wp2
        go_ret2
        exact ⟨_, by rw [HOK.out.1]; rfl, by rw [HOK.out.2]; exact HN.out, hb⟩
end Go.Proofs.Ytapoillhgimdiaa
