/- Walks: drawing the arguments of laws of entailment. -/
import Derived.Test.YtapoillhgimdiaaDEnt
namespace Go.Proofs.Ytapoillhgimdiaa
open Go.RowKit

/-- Two drawn assertions. -/
def Two (w w' : World) (u1 u2 t1 t2 : Value) (A B : Asn) : Prop := ((A.1.length ≤ 1100 ∧ A.2.length ≤ 1100) ∧ (B.1.length ≤ 1100 ∧ B.2.length ≤ 1100)) ∧
      (RL w' (fun k => w.heap.size + 2 ≤ k) u1 A.1 ∧ RL w' (fun k => w.heap.size + 2 ≤ k) u2 A.2) ∧ (RL w' (fun k => w.heap.size + 2 ≤ k) t1 B.1 ∧ RL w' (fun k => w.heap.size + 2 ≤ k) t2 B.2) ∧ Below w.heap.size w w'
/-- The results are laid in their boxes. -/
theorem two_lay {w w1 : World} {x1 x2 y1 y2 : Value} {A B : Asn} {S : Nat → Prop} (hs : ∀ k, S k → w.heap.size + 2 ≤ k) (hl : (A.1.length ≤ 1100 ∧ A.2.length ≤ 1100) ∧ (B.1.length ≤ 1100 ∧ B.2.length ≤ 1100)) (r1 : RL w1 S x1 A.1) (r2 : RL w1 S x2 A.2) (s1 : RL w1 S y1 B.1) (s2 : RL w1 S y2 B.2) (hb : Below w.heap.size w w1) :
    Two w ((((w1.setCell ⟨w.heap.size, 0, none⟩ x1).setCell ⟨w.heap.size, 1, none⟩ x2).setCell ⟨w.heap.size + 1, 0, none⟩ y1).setCell ⟨w.heap.size + 1, 1, none⟩ y2) x1 x2 y1 y2 A B := by
  have hFF := fr_res4E w1 w.heap.size x1 x2 y1 y2
  have K : ∀ {α : Type} [Dat α] {v : Value} {l : List α}, RL w1 S v l → RL ((((w1.setCell ⟨w.heap.size, 0, none⟩ x1).setCell ⟨w.heap.size, 1, none⟩ x2).setCell ⟨w.heap.size + 1, 0, none⟩ y1).setCell ⟨w.heap.size + 1, 1, none⟩ y2) (fun k => w.heap.size + 2 ≤ k) v l :=
    fun h => (h.more fun k _ h => hs k h).kept hFF fun k _ h e => by omega
  exact ⟨hl, ⟨K r1, K r2⟩, ⟨K s1, K s2⟩, hb.trans (hFF.below hb.size fun k hk e => by omega)⟩
set_option maxRecDepth 100000 in
set_option maxHeartbeats 3200000 in
theorem specDrawProveEnt_any (v : Value) (n : Nat) (w : World) (h : RBytes w v n) :
    Calls Try.prog 36 #[v] w fun e w' => ∃ (u1 u2 t1 t2 : Value) (A B : Asn), e = .returned (.tuple #[.agg #[u1, u2], .agg #[t1, t2]]) ∧ Two w w' u1 u2 t1 t2 A B := by
  go_enter Try.func36, Try.ntmps36
  go_wp2_with fail
  refine (specDrawEntails_any v n _ (h.keep (bt (below_alloc w (.cells #[.slice none 0 0, .slice none 0 0] 33)) (below_alloc _ (.cells #[.slice none 0 0, .slice none 0 0] 33))))).mono ?_
  rintro e w1 ⟨u1, u2, t1, t2, A, B, rfl, hl, ⟨r1, r2⟩, ⟨s1, s2⟩, hb⟩
  have hA := box_keep (box_keep (heap_alloc_new w (.cells #[.slice none 0 0, .slice none 0 0] 33)) (below_alloc _ (.cells #[.slice none 0 0, .slice none 0 0] 33))) hb
  have hB := box_keep (heap_alloc_new (w.alloc (.cells #[.slice none 0 0, .slice none 0 0] 33)) (.cells #[.slice none 0 0, .slice none 0 0] 33)) hb
  simp only [World.size_alloc] at hB r1 r2 s1 s2
  obtain ⟨a1, c1, rfl⟩ := r1.form
  obtain ⟨a2, c2, rfl⟩ := r2.form
  obtain ⟨a3, c3, rfl⟩ := s1.form
  obtain ⟨a4, c4, rfl⟩ := s2.form
  have a0 := box0 hA
  have a1' := box1 hA
  have az := boxz hA
  have al := box_lt hA
  have b0 := box0 hB
  have b1' := box1 hB
  have bz := boxz hB
  have bl := box_lt hB
  have HT := Lib.hid (two_lay (w := w) (fun k h => by omega) hl r1 r2 s1 s2 (bt (bt (below_alloc w _) (below_alloc _ _)) hb))
  clear hA hB r1 r2 s1 s2 hb hl h
  go_wp2
  refine bodyPost_ret (v := .tuple #[.agg #[.slice a1 A.1.length c1, .slice a2 A.2.length c2], .agg #[.slice a3 B.1.length c3, .slice a4 B.2.length c4]]) (by simp [results, Try.results36, go_sem, a0, a1', b0, b1']) rfl ?_
  exact ⟨_, _, _, _, A, B, rfl, HT.out⟩
set_option maxRecDepth 100000 in
set_option maxHeartbeats 3200000 in
theorem specDrawWeaker_any (v : Value) (n : Nat) (w : World) (h : RBytes w v n) (hn : n ≤ 1048576) :
    Calls Try.prog 41 #[v] w fun e w' => ∃ (u1 u2 t1 t2 : Value) (A B : Asn), e = .returned (.tuple #[.agg #[u1, u2], .agg #[t1, t2]]) ∧ Two w w' u1 u2 t1 t2 A B := by
  obtain ⟨va, vc, rfl⟩ := bytes_form h
  go_enter Try.func41, Try.ntmps41
  go_wp2_with fail
  refine (specDrawEntails_any _ n _ (h.keep (bt (below_alloc w (.cells #[.slice none 0 0, .slice none 0 0] 33)) (below_alloc _ (.cells #[.slice none 0 0, .slice none 0 0] 33))))).mono ?_
  rintro e w1 ⟨u1, u2, t1, t2, A, B, rfl, hl, ⟨r1, r2⟩, ⟨s1, s2⟩, hb⟩
  have hA := box_keep (box_keep (heap_alloc_new w (.cells #[.slice none 0 0, .slice none 0 0] 33)) (below_alloc _ (.cells #[.slice none 0 0, .slice none 0 0] 33))) hb
  have hB := box_keep (heap_alloc_new (w.alloc (.cells #[.slice none 0 0, .slice none 0 0] 33)) (.cells #[.slice none 0 0, .slice none 0 0] 33)) hb
  simp only [World.size_alloc] at hB r1 r2 s1 s2
  obtain ⟨a1, c1, rfl⟩ := r1.form
  obtain ⟨a2, c2, rfl⟩ := r2.form
  obtain ⟨a3, c3, rfl⟩ := s1.form
  obtain ⟨a4, c4, rfl⟩ := s2.form
  have hbW : Below w1.heap.size w1 ((w1.alloc (.cells #[.slice a1 A.1.length c1, .slice a2 A.2.length c2] 33)).alloc (.cells #[.slice a3 B.1.length c3, .slice a4 B.2.length c4] 33)) := ba (below_alloc _ _) _
  have hP : ((w1.alloc (.cells #[.slice a1 A.1.length c1, .slice a2 A.2.length c2] 33)).alloc (.cells #[.slice a3 B.1.length c3, .slice a4 B.2.length c4] 33)).heap[w1.heap.size]? = some (.cells #[.slice a1 A.1.length c1, .slice a2 A.2.length c2] 33 (0, 0)) := box_keep (heap_alloc_new w1 _) (below_alloc _ _)
  have hQ : ((w1.alloc (.cells #[.slice a1 A.1.length c1, .slice a2 A.2.length c2] 33)).alloc (.cells #[.slice a3 B.1.length c3, .slice a4 B.2.length c4] 33)).heap[w1.heap.size + 1]? = some (.cells #[.slice a3 B.1.length c3, .slice a4 B.2.length c4] 33 (0, 0)) := heap_at (by simp)
  have HW0 := Lib.hid (bt (bt (bt (below_alloc w _) (below_alloc _ _)) hb) hbW)
  have HL := Lib.hid hl
  replace hA := box_keep hA hbW
  replace hB := box_keep hB hbW
  replace r1 := r1.keep hbW
  replace r2 := r2.keep hbW
  replace s1 := s1.keep hbW
  replace s2 := s2.keep hbW
  have hz1 : w.heap.size + 2 ≤ w1.heap.size := by have := hb.size; simp at this; omega
  have hm : ((n : Int) % 2 == 0) = true ∨ ((n : Int) % 2 == 0) = false := by cases ((n : Int) % 2 == 0) <;> simp
  clear hb hbW hl h
  go_upto_region 2 with fail
  generalize ((w1.alloc (.cells #[.slice a1 A.1.length c1, .slice a2 A.2.length c2] 33)).alloc (.cells #[.slice a3 B.1.length c3, .slice a4 B.2.length c4] 33)) = W at *
  have a0 := box0 hA
  have a1' := box1 hA
  have az := boxz hA
  have al := box_lt hA
  have b0 := box0 hB
  have b1' := box1 hB
  have bz := boxz hB
  have bl := box_lt hB
  have p0 := box0 hP
  have p1 := box1 hP
  have q0 := box0 hQ
  have q1 := box1 hQ
  have pl := box_lt hP
  have ql := box_lt hQ
  have HA := Lib.hid (And.intro hA hB)
  have hd := below_drew W
  rcases hm with hm | hm
  · have HT := Lib.hid (two_lay (w := w) (w1 := W.drew) (fun k h => by omega) ⟨HL.out.2, HL.out.1⟩ (s1.keep hd) (s2.keep hd) (r1.keep hd) (r2.keep hd) (bt HW0.out hd))
    clear r1 r2 s1 s2 hA hB hP hQ hd
    go_wp2
    go_region
    all_goals
      go_wp2
      refine bodyPost_ret (v := .tuple #[.agg #[.slice a3 B.1.length c3, .slice a4 B.2.length c4], .agg #[.slice a1 A.1.length c1, .slice a2 A.2.length c2]]) (by simp [results, Try.results41, go_sem, a0, a1', b0, b1']) rfl ?_
      exact ⟨_, _, _, _, B, A, rfl, HT.out⟩
  · have HT := Lib.hid (two_lay (w := w) (w1 := W.drew) (fun k h => by omega) HL.out (r1.keep hd) (r2.keep hd) (s1.keep hd) (s2.keep hd) (bt HW0.out hd))
    clear r1 r2 s1 s2 hA hB hP hQ hd
    go_wp2
    go_region
    all_goals
      go_wp2
      refine bodyPost_ret (v := .tuple #[.agg #[.slice a1 A.1.length c1, .slice a2 A.2.length c2], .agg #[.slice a3 B.1.length c3, .slice a4 B.2.length c4]]) (by simp [results, Try.results41, go_sem, a0, a1', b0, b1']) rfl ?_
      exact ⟨_, _, _, _, A, B, rfl, HT.out⟩
end Go.Proofs.Ytapoillhgimdiaa
