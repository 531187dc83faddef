/- Walks: assertions with one fact more; the other way of a fact. -/
import Derived.Test.YthoingdcmdhllaaFam3
import Derived.Test.YthoingdcmdhllaaData2
namespace Go.Proofs.Ythoingdcmdhllaa
open Go.RowKit

/-- The other way of a fact; an assertion with one fact more. -/
def nF (f : Fact) : Fact := (!f.1, f.2)
def withF (a : Asn) (f : Fact) : Asn := (a.1 ++ [f], a.2)
theorem litF1 (W : World) (n : Nat) (hn : n = W.heap.size) (f : Fact) (T : TypeId) : RL (W.alloc (.cells #[.bool f.1, .int .i64 f.2.1, .int .i64 f.2.2] T)) (fun k => k = n) (.slice (some ⟨n, 0, none⟩) 1 1) [f] := by
  subst hn
  refine .inr ⟨W.heap.size, 0, 1, rfl, Nat.le_refl _, by unfold maxLen; omega, fun _ => ⟨rfl, by simp⟩, fun i hi => ⟨[.bool f.1, .int .i64 f.2.1, .int .i64 f.2.2], ?_, fun j u hj => ?_⟩⟩
  · obtain rfl : i = 0 := by simpa using hi
    exact ⟨[.bool f.1], [.int .i64 f.2.1, .int .i64 f.2.2], rfl, rfl, [.int .i64 f.2.1], [.int .i64 f.2.2], rfl, rfl, rfl⟩
  · obtain rfl : i = 0 := by simpa using hi
    match j, hj with
    | 0, hj => simp at hj; subst hj; simp
    | 1, hj => simp at hj; subst hj; simp
    | 2, hj => simp at hj; subst hj; simp
theorem negated_any (f : Fact) (w : World) :
    Calls Try.prog 87 #[.agg #[.bool f.1, .int .i64 f.2.1, .int .i64 f.2.2]] w fun e w' => e = .returned (.agg #[.bool (nF f).1, .int .i64 (nF f).2.1, .int .i64 (nF f).2.2]) ∧ Below w.heap.size w w' := by
  go_enter Try.func87, Try.ntmps87
  go_wp2
  refine bodyPost_ret (v := .agg #[.bool !f.1, .int .i64 f.2.1, .int .i64 f.2.2]) (by simp [results, Try.results87, go_sem]) rfl ⟨rfl, ?_⟩
  exact (by repeat (first | exact Below.refl _ _ | with_reducible assumption | exact below_alloc _ _ | (refine Below.setCell ?_ (by first | (simp; done) | (simp; omega) | omega) _) | apply bd | apply ba | apply be))
set_option maxRecDepth 100000 in
set_option maxHeartbeats 1600000 in
theorem withFact_any {S1 S2 : Nat → Prop} (v1 v2 : Value) (a : Asn) (f : Fact) (w : World) (h1 : RL w S1 v1 a.1) (h2 : RL w S2 v2 a.2) (hs : asSz a) :
    Calls Try.prog 86 #[.agg #[v1, v2], .agg #[.bool f.1, .int .i64 f.2.1, .int .i64 f.2.2]] w fun e w' => ∃ u1 u2, e = .returned (.agg #[u1, u2]) ∧ OA w' w.heap.size u1 u2 (withF a f) ∧ Below w.heap.size w w' := by
  obtain ⟨a1, a2⟩ := a
  obtain ⟨hn, hm⟩ := hs
  simp only at h1 h2 hn hm
  obtain ⟨b1, c1, rfl⟩ := h1.form
  obtain ⟨b2, c2, rfl⟩ := h2.form
  go_enter Try.func86, Try.ntmps86
  go_wp2
  have hc0 : (((w.alloc (.cells #[.slice b1 a1.length c1, .slice b2 a2.length c2] 34)).alloc (.cells #[.bool f.1, .int .i64 f.2.1, .int .i64 f.2.2] 41)).alloc (.cells #[.slice none 0 0, .slice none 0 0] 34)).cell? ⟨w.heap.size, 0, none⟩ = some (.slice b1 a1.length c1) := by simp [go_sem]
  have hc1 : (((w.alloc (.cells #[.slice b1 a1.length c1, .slice b2 a2.length c2] 34)).alloc (.cells #[.bool f.1, .int .i64 f.2.1, .int .i64 f.2.2] 41)).alloc (.cells #[.slice none 0 0, .slice none 0 0] 34)).cell? ⟨w.heap.size, 1, none⟩ = some (.slice b2 a2.length c2) := by simp [go_sem]
  have hf0 : (((w.alloc (.cells #[.slice b1 a1.length c1, .slice b2 a2.length c2] 34)).alloc (.cells #[.bool f.1, .int .i64 f.2.1, .int .i64 f.2.2] 41)).alloc (.cells #[.slice none 0 0, .slice none 0 0] 34)).cell? ⟨w.heap.size + 1, 0, none⟩ = some (.bool f.1) := by simp [go_sem]
  have hf1 : (((w.alloc (.cells #[.slice b1 a1.length c1, .slice b2 a2.length c2] 34)).alloc (.cells #[.bool f.1, .int .i64 f.2.1, .int .i64 f.2.2] 41)).alloc (.cells #[.slice none 0 0, .slice none 0 0] 34)).cell? ⟨w.heap.size + 1, 1, none⟩ = some (.int .i64 f.2.1) := by simp [go_sem]
  have hf2 : (((w.alloc (.cells #[.slice b1 a1.length c1, .slice b2 a2.length c2] 34)).alloc (.cells #[.bool f.1, .int .i64 f.2.1, .int .i64 f.2.2] 41)).alloc (.cells #[.slice none 0 0, .slice none 0 0] 34)).cell? ⟨w.heap.size + 1, 2, none⟩ = some (.int .i64 f.2.2) := by simp [go_sem]
  have hA := heap_alloc_new ((w.alloc (.cells #[.slice b1 a1.length c1, .slice b2 a2.length c2] 34)).alloc (.cells #[.bool f.1, .int .i64 f.2.1, .int .i64 f.2.2] 41)) (.cells #[.slice none 0 0, .slice none 0 0] 34)
  have hW : Below w.heap.size w (((w.alloc (.cells #[.slice b1 a1.length c1, .slice b2 a2.length c2] 34)).alloc (.cells #[.bool f.1, .int .i64 f.2.1, .int .i64 f.2.2] 41)).alloc (.cells #[.slice none 0 0, .slice none 0 0] 34)) := ba (ba (below_alloc _ _) _) _
  have hz : (((w.alloc (.cells #[.slice b1 a1.length c1, .slice b2 a2.length c2] 34)).alloc (.cells #[.bool f.1, .int .i64 f.2.1, .int .i64 f.2.2] 41)).alloc (.cells #[.slice none 0 0, .slice none 0 0] 34)).heap.size = w.heap.size + 3 := by simp
  rw [World.size_alloc, World.size_alloc] at hA
  generalize ((w.alloc (.cells #[.slice b1 a1.length c1, .slice b2 a2.length c2] 34)).alloc (.cells #[.bool f.1, .int .i64 f.2.1, .int .i64 f.2.2] 41)).alloc (.cells #[.slice none 0 0, .slice none 0 0] 34) = w0 at *
  have HA := Lib.hid hA
  have HZ := Lib.hid hz
  clear hA hz
  go_region_held3 (fun w' => (w'.cell? ⟨w.heap.size, 0, none⟩ = some (.slice b1 a1.length c1) ∧ w'.cell? ⟨w.heap.size, 1, none⟩ = some (.slice b2 a2.length c2)) ∧ (w'.cell? ⟨w.heap.size + 1, 0, none⟩ = some (.bool f.1) ∧ w'.cell? ⟨w.heap.size + 1, 1, none⟩ = some (.int .i64 f.2.1) ∧ w'.cell? ⟨w.heap.size + 1, 2, none⟩ = some (.int .i64 f.2.2)))
    (exact ⟨⟨(by repeat (first | with_reducible exact hc0 | (with_reducible refine (fr_set _ _ _).cell (by first | (simp; done) | (simp; omega) | omega) ?_) | exact cell_keep (by repeat (first | exact Below.refl _ _ | with_reducible assumption | exact below_alloc _ _ | (refine Below.setCell ?_ (by first | (simp; done) | (simp; omega) | omega) _) | apply bd | apply ba | apply be)) hc0)), (by repeat (first | with_reducible exact hc1 | (with_reducible refine (fr_set _ _ _).cell (by first | (simp; done) | (simp; omega) | omega) ?_) | exact cell_keep (by repeat (first | exact Below.refl _ _ | with_reducible assumption | exact below_alloc _ _ | (refine Below.setCell ?_ (by first | (simp; done) | (simp; omega) | omega) _) | apply bd | apply ba | apply be)) hc1))⟩, (by repeat (first | with_reducible exact hf0 | (with_reducible refine (fr_set _ _ _).cell (by first | (simp; done) | (simp; omega) | omega) ?_) | exact cell_keep (by repeat (first | exact Below.refl _ _ | with_reducible assumption | exact below_alloc _ _ | (refine Below.setCell ?_ (by first | (simp; done) | (simp; omega) | omega) _) | apply bd | apply ba | apply be)) hf0)), (by repeat (first | with_reducible exact hf1 | (with_reducible refine (fr_set _ _ _).cell (by first | (simp; done) | (simp; omega) | omega) ?_) | exact cell_keep (by repeat (first | exact Below.refl _ _ | with_reducible assumption | exact below_alloc _ _ | (refine Below.setCell ?_ (by first | (simp; done) | (simp; omega) | omega) _) | apply bd | apply ba | apply be)) hf1)), (by repeat (first | with_reducible exact hf2 | (with_reducible refine (fr_set _ _ _).cell (by first | (simp; done) | (simp; omega) | omega) ?_) | exact cell_keep (by repeat (first | exact Below.refl _ _ | with_reducible assumption | exact below_alloc _ _ | (refine Below.setCell ?_ (by first | (simp; done) | (simp; omega) | omega) _) | apply bd | apply ba | apply be)) hf2))⟩)
    (first
      | (go_at_call 165; (first | have rf := litF1 w0 w0.heap.size rfl f 41 | skip); (first | have rg := litF1 w0.drew w0.heap.size (by simp) f 41 | skip); go_must (first | refine (joinFacts_any _ _ a1 [f] _ (h1.keep (bt hW (by repeat (first | exact Below.refl _ _ | with_reducible assumption | exact below_alloc _ _ | (refine Below.setCell ?_ (by first | (simp; done) | (simp; omega) | omega) _) | apply bd | apply ba | apply be)))) rf (by simp; omega)).mono ?_ | refine (joinFacts_any _ _ a1 [f] _ (h1.keep (bt hW (by repeat (first | exact Below.refl _ _ | with_reducible assumption | exact below_alloc _ _ | (refine Below.setCell ?_ (by first | (simp; done) | (simp; omega) | omega) _) | apply bd | apply ba | apply be)))) rg (by simp; omega)).mono ?_ | refine (joinFacts_any _ _ a1 [f] _ (h1.keep (bt hW (by repeat (first | exact Below.refl _ _ | with_reducible assumption | exact below_alloc _ _ | (refine Below.setCell ?_ (by first | (simp; done) | (simp; omega) | omega) _) | apply bd | apply ba | apply be)))) (rf.keep (below_drew _)) (by simp; omega)).mono ?_); rintro e w5 ⟨x1, rfl, ⟨f1, o1, n1⟩, hb5'⟩; obtain ⟨d1, m1, k1, rfl⟩ := o1.read.forms; have hb5 : Below w0.heap.size w0 w5 := bt (by repeat (first | exact Below.refl _ _ | with_reducible assumption | exact below_alloc _ _ | (refine Below.setCell ?_ (by first | (simp; done) | (simp; omega) | omega) _) | apply bd | apply ba | apply be)) hb5'; have hz5 := hb5.size)
      | (go_at_call 166; go_must (refine (joinAtoms_any _ _ a2 [] _ (h2.keep (bt hW (by repeat (first | exact Below.refl _ _ | with_reducible assumption | exact below_alloc _ _ | (refine Below.setCell ?_ (by first | (simp; done) | (simp; omega) | omega) _) | apply bd | apply ba | apply be)))) (RL.nil _ (fun _ => True)) (by simp; omega)).mono ?_; rintro e w6 ⟨y1, rfl, ⟨f2, o2, n2⟩, hb6'⟩; rw [List.append_nil] at o2; obtain ⟨d2, k2, rfl⟩ := o2.read.form; have hb6 : Below w0.heap.size w0 w6 := bt (by repeat (first | exact Below.refl _ _ | with_reducible assumption | exact below_alloc _ _ | (refine Below.setCell ?_ (by first | (simp; done) | (simp; omega) | omega) _) | apply bd | apply ba | apply be)) hb6'; have hA6 := box_keep HA.out hb6; have ha0 := box0 hA6; have ha1 := box1 hA6; have haz : ∀ i, w6.frozen? ⟨w.heap.size + 2, i, none⟩ = false := boxz hA6; have hlA := box_lt hA6; clear hA6)))
  all_goals
    have hz0 := HZ.out
    have hz5 := hb5.size
    have hz5' := hb5'.size
    have HO := Lib.hid ((OA.join o1 n1 o2 n2 (by repeat (first | exact Below.refl _ _ | with_reducible assumption | exact below_alloc _ _ | (refine Below.setCell ?_ (by first | (simp; done) | (simp; omega) | omega) _) | apply bd | apply ba | apply be)) (by first | exact Nat.le_refl _ | exact hb6'.size) (B := w.heap.size + 3) (by first | (simp; omega) | omega) (by first | (simp; omega) | omega)).res (R := w.heap.size + 2) (by omega) (by omega) (bt hW hb6) (.slice d1 m1 k1) (.slice d2 a2.length k2))
    have r := box_two (.slice d1 m1 k1) (.slice d2 a2.length k2) ha0 ha1
    clear o1 n1 o2 n2 hb5 hb5' hb6 hb6'
    go_wp2
    refine bodyPost_ret (v := .agg #[.slice d1 m1 k1, .slice d2 a2.length k2]) (by simp [results, Try.results86, go_sem, r.1, r.2]) rfl ?_
    exact ⟨_, _, rfl, HO.out.1, HO.out.2⟩
end Go.Proofs.Ythoingdcmdhllaa
