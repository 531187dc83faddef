/- Renamed heaps, in plain Lean: contents, allocated cells, how many. -/
import Derived.Test.YtnhhfbhhglhocaaPerm2
import Derived.Test.YtnhhfbhhglhocaaDMath3
namespace Go.Proofs.Ytnhhfbhhglhocaa

theorem nm_isAddr {ns : List Int} (hg : goodTo ns 8 = true) (v : Int) : isAddrB (nm ns v) = isAddrB v := by
  by_cases h : isAddrB v = true
  · rw [h]; exact isAddrB_iff.2 (nm_addr hg h)
  · rw [nm, if_neg h]
theorem nm_not {ns : List Int} {v : Int} (h : ¬ isAddrB v = true) : nm ns v = v := by rw [nm, if_neg h]
theorem ct_ren {ns hl : List Int} (hb : hl.length = 8) (hg : goodTo ns 8 = true) (v : Int) : ct (renH ns hl) (nm ns v) = nm ns (ct hl v) := by
  by_cases h : isAddrB v = true
  · have hv := isAddrB_iff.1 h
    have e : nm ns v = gi ns (v - 1).toNat := by rw [nm, if_pos h]
    have := renH_at (hs := hl) hb hg (j := (v - 1).toNat) (by omega)
    rw [ct, nm_isAddr hg, if_pos h, e, this, ct, if_pos h]
  · rw [nm_not h, ct, if_neg h, ct, if_neg h, nm]
    rfl
theorem al_ren {ns vl hl : List Int} (h : validB vl hl = true) (hg : goodTo ns 8 = true) (v : Int) : alB (renH ns hl) (nm ns v) = alB hl v := by
  have hc := valid_ct h v
  have := nm_val hg hc.1 hc.2
  rw [alB, ct_ren (valid_len h).2 hg, alB, decide_eq_decide]
  exact ⟨this.2.2.2, this.2.2.1⟩

theorem sub_len : ∀ {a b : List Int}, a.Nodup → (∀ x ∈ a, x ∈ b) → a.length ≤ b.length
  | [], _, _, _ => Nat.zero_le _
  | x :: a, b, hn, hs => by
    have hx := hs x List.mem_cons_self
    have hn' := List.nodup_cons.1 hn
    have ih := sub_len (a := a) (b := b.erase x) hn'.2 (fun y hy => by
      have hne : ¬ y = x := fun e => hn'.1 (e ▸ hy)
      exact (List.mem_erase_of_ne hne).2 (hs y (List.mem_cons_of_mem _ hy)))
    rw [List.length_erase_of_mem hx] at ih
    have : 0 < b.length := List.length_pos_of_mem hx
    simp only [List.length_cons]
    omega

def usedA' (hs : List Int) : List Int := sel (fun n => alB hs (n : Int)) 1 8
theorem mem_used {hs : List Int} {v : Int} : v ∈ usedA' hs ↔ alB hs v = true := by
  unfold usedA'
  rw [mem_sel]
  constructor
  · rintro ⟨i, rfl, _, _, h⟩; exact h
  · intro h
    have := al_addr h
    exact ⟨v.toNat, by omega, by omega, by omega, by rw [show ((v.toNat : Nat) : Int) = v by omega]; exact h⟩
theorem map_nodup {ns : List Int} (hg : goodTo ns 8 = true) : ∀ {l : List Int}, (∀ x ∈ l, x ≤ 8) → l.Nodup → (l.map (nm ns)).Nodup
  | [], _, _ => by simp
  | x :: l, h8, hn => by
    have hn' := List.nodup_cons.1 hn
    rw [List.map_cons, List.nodup_cons]
    refine ⟨fun hm => ?_, map_nodup hg (fun y hy => h8 y (List.mem_cons_of_mem _ hy)) hn'.2⟩
    obtain ⟨y, hy, e⟩ := List.mem_map.1 hm
    have := nm_inj hg (h8 y (List.mem_cons_of_mem _ hy)) (h8 x List.mem_cons_self) e
    exact hn'.1 (this ▸ hy)
theorem used_le {ns vl hl : List Int} (h : validB vl hl = true) (hg : goodTo ns 8 = true) : (usedA' hl).length ≤ (usedA' (renH ns hl)).length := by
  rw [← List.length_map (nm ns)]
  refine sub_len (map_nodup hg (fun x hx => (al_addr (mem_used.1 hx)).2) (sel_nodup _ _ _)) (fun x hx => ?_)
  obtain ⟨y, hy, rfl⟩ := List.mem_map.1 hx
  rw [mem_used, al_ren h hg]
  exact mem_used.1 hy
/-- A renamed state has as many cells. -/
theorem used_ren {ns vl hl : List Int} (h : validB vl hl = true) (hg : goodTo ns 8 = true) : (usedA' (renH ns hl)).length = (usedA' hl).length := by
  have h1 := used_le h hg
  have h2 := used_le (ren_valid hg h) (back_good hg)
  rw [renH_back (valid_len h).2 hg] at h2
  omega
end Go.Proofs.Ytnhhfbhhglhocaa
