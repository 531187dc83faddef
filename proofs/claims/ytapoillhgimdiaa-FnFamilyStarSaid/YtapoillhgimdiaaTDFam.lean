/- Walks: drawn families (the reference's l13Draw and l13Mutate). -/
import Derived.Test.YtapoillhgimdiaaTWkA
import Derived.Test.YtapoillhgimdiaaTChains
import Derived.Test.YtapoillhgimdiaaTMut2
import Derived.Test.YtapoillhgimdiaaTFam3
import Derived.Deep.Cut
import Derived.Handy
set_option linter.unusedSimpArgs false
set_option linter.unusedVariables false
namespace Go.Proofs.Ytapoillhgimdiaa
open Go.RowKit

section
variable {α : Type} [Dat α] {w w' : World} {B B' : Nat} {e : TypeId} {v v' : Value} {l m : List α}
theorem TR.kept (h : TR w B e v l) {T : Nat → Prop} (hf : Fr T w w') (hT : ∀ k, B ≤ k → ¬ T k) : TR w' B e v l := by
  obtain ⟨xs, hr, hx⟩ := h
  exact ⟨xs, own_kept hr hf fun k hk => hT k (own_lt hr hk).1, fun i hi => Dat.kept (hx i hi) hf fun k _ hk => hT k hk.1⟩
theorem TR.mono (h : TR w B e v l) (hB : B' ≤ B) : TR w B' e v l := by
  obtain ⟨xs, hr, hx⟩ := h
  exact ⟨xs, own_mono hr hB, fun i hi => Dat.more (hx i hi) fun k _ hk => ⟨by have := hk.1; omega, hk.2⟩⟩
theorem TR.form (h : TR w B e v l) : ∃ a cap, v = .slice a l.length cap := by
  exact h.rl.form
end
/-- One assertion is laid anew. -/
theorem TR.set2 {w : World} {B g n cap k : Nat} {e : TypeId} {l : List Asn} {x : Asn} {c0 c1 : Value} (h : TR w B e (.slice (some ⟨g, 0, none⟩) n cap) l) (hn : n = l.length) (hk : k < l.length)
    (h1 : RL w (fun j => B ≤ j ∧ ¬ j = g) c0 x.1) (h2 : RL w (fun j => B ≤ j ∧ ¬ j = g) c1 x.2) :
    TR ((w.setCell ⟨g, k * 2, none⟩ c0).setCell ⟨g, k * 2 + 1, none⟩ c1) B e (.slice (some ⟨g, 0, none⟩) n cap) (l.set k x) := by
  subst hn
  obtain ⟨xs, hr, hx⟩ := h
  have hr' : w.ownsRow B e 2 (.slice (some ⟨g, 0, none⟩) l.length cap) l.length xs := hr
  obtain ⟨t1, g1⟩ := hr'.stored (k * 2) c0
  obtain ⟨t2, g2⟩ := t1.stored (k * 2 + 1) c1
  have hfr : Fr (fun j => j = g) w ((w.setCell ⟨g, k * 2, none⟩ c0).setCell ⟨g, k * 2 + 1, none⟩ c1) := ((grown_fr g1).trans (grown_fr g2)).mono fun j _ e => by simpa using e
  refine ⟨_, by rw [List.length_set]; exact t2, fun i hi => ?_⟩
  rw [List.length_set] at hi
  show Dat.rd _ _ (gd (l.set k x) i) (nth 2 _ i)
  rw [nth_set2 hr'.1 hk, gd_set hk]
  by_cases e : i = k
  · rw [if_pos e, if_pos e]
    exact rd_asn_mk ((h1.kept hfr fun j _ hj e => hj.2 e).more fun j _ hj => ⟨hj.1, fun e => hj.2 (Option.some.inj e)⟩) ((h2.kept hfr fun j _ hj e => hj.2 e).more fun j _ hj => ⟨hj.1, fun e => hj.2 (Option.some.inj e)⟩)
  · rw [if_neg e, if_neg e]
    exact Dat.kept (hx i hi) hfr fun j _ hj e => hj.2 (by rw [e]; rfl)
/-- The first elements of what is read. -/
theorem RL.take {α : Type} [Dat α] {w : World} {S : Nat → Prop} {a : Option Addr} {n c k : Nat} {l : List α} (h : RL w S (.slice a n c) l) (hk : k ≤ l.length) : RL w S (.slice a k c) (l.take k) := by
  rcases h with ⟨a', c', e, h1, h2, h3⟩ | ⟨b, o, c', e, h1, h2, h3, h4⟩
  · subst h1
    obtain rfl : k = 0 := by simpa using hk
    injection e with e1 e2 e3
    subst e1; subst e3
    exact .inl ⟨_, _, rfl, rfl, h2, h3⟩
  · injection e with e1 e2 e3
    subst e1; subst e3
    have hl : (l.take k).length = k := by rw [List.length_take]; omega
    refine .inr ⟨b, o, c, by rw [hl], by omega, h2, fun hp => h3 (by omega), fun i hi => ?_⟩
    rw [hl] at hi
    obtain ⟨cs, hrd, hc⟩ := h4 i (by omega)
    exact ⟨cs, by rw [gd_take hi]; exact hrd, hc⟩
theorem asn_take {a : Asn} (h : asnB a = true) (k : Nat) : asnB (a.1, a.2.take k) = true := by
  simp only [asnB, Bool.and_eq_true, decide_eq_true_eq, List.all_eq_true] at h ⊢
  exact ⟨h.1, by rw [List.length_take]; omega, fun x hx => h.2.2 x (List.mem_of_mem_take hx)⟩
/-- A drawn family: its row, the reader, what has changed. -/
structure FD (w0 w : World) (g q : Nat) (v : Value) (l : List Asn) : Prop where
  row : TR w w0.heap.size 33 v l
  rdr : Rdr w g q
  fr : Fr (fun j => j = g) w0 w
section
variable {w0 w w' : World} {g q q' : Nat} {v v' : Value} {l : List Asn}
theorem FD.keep (h : FD w0 w g q v l) (hb : Below w.heap.size w w') : FD w0 w' g q v l := ⟨h.row.keep hb, h.rdr.keep hb, h.fr.thenB hb⟩
theorem FD.more (h : FD w0 w g q v l) (hq : q ≤ q') : FD w0 w g q' v l := ⟨h.row, h.rdr.more hq, h.fr⟩
theorem FD.drawn (h : FD w0 w g q v l) (hr : Rdr w' g q') (hf : Fr (fun j => j = g) w w') (hg : g < w0.heap.size) : FD w0 w' g q' v l :=
  ⟨h.row.kept hf fun k hk e => by have e2 : k = g := e; omega, hr, h.fr.trans hf⟩
end
theorem fr_two (w : World) (b : Nat) (x y : Value) : Fr (fun j => j = b) w ((w.setCell ⟨b, 0, none⟩ x).setCell ⟨b, 1, none⟩ y) := (fr_set w ⟨b, 0, none⟩ x).trans (fr_set _ ⟨b, 1, none⟩ y)
set_option maxRecDepth 100000 in
set_option maxHeartbeats 12800000 in
theorem l13Draw_any (g q : Nat) (w : World) (hr : Rdr w g q) (hq : q ≤ 700000) :
    Calls Try.prog 125 #[.pointer (some ⟨g, 0, none⟩)] w fun e w' => ∃ (v : Value) (l : List Asn), e = .returned v ∧ (l.length ≤ 4 ∧ l.all asnB = true) ∧ FD w w' g (q + 100) v l := by
  have hgl := hr.lt
  have D0 : FD w (w.alloc (.cells #[] 33)) g q (.slice (some ⟨w.heap.size, 0, none⟩) 0 0) [] :=
    ⟨TR.of (own_emp w _ _ _ (Nat.le_refl _)), hr.keep (below_alloc _ _), (Below.fr (below_alloc _ _)).mono fun _ _ h => h.elim⟩
  have hlit := lit_ints (w.alloc (.cells #[] 33)) [2, 3, 1, 0, 4] (by decide)
  simp only [World.size_alloc] at hlit
  have HLIT := Lib.hid hlit
  clear hlit
  go_enter Try.func125, Try.ntmps125
  go_wp2_with fail
  refine (num_any g q _ [2, 3, 1, 0, 4] _ (D0.rdr.keep (below_alloc _ _)) HLIT.out (by omega) (by decide) (by decide) (fun k hk e => by simp [Value.ownBlock] at hk; omega)).mono ?_
  rintro e w1 ⟨x, hx, rfl, hr1, hf1⟩
  obtain ⟨m, rfl, hm⟩ : ∃ m : Nat, x = (m : Int) ∧ m ≤ 4 := ⟨x.toNat, by simp at hx; omega, by simp at hx; omega⟩
  have D1 := (D0.keep (below_alloc _ _)).drawn hr1 hf1 hgl
  have HM := Lib.hid hm
  clear D0 hr1 hf1 hx hm hr HLIT
  go_wp2
  go_loopg [3, 4] m (fun k v i wr => ∃ l : List Asn, i = .int .i64 (k : Nat) ∧ l.length + k ≤ 4 ∧ l.all asnB = true ∧ FD w wr g (q + 1 + 20 * l.length) v l)
  case atStart => exact ⟨[], rfl, by have := HM.out; simpa using this, rfl, D1⟩
  case round =>
    clear D1
    obtain ⟨l, rfl, hle, hall, D⟩ := hrel
    obtain ⟨va, vc, rfl⟩ := D.row.form
    have HLE := Lib.hid hle
    have HAL := Lib.hid hall
    have hll : l.length ≤ 4 := by omega
    have hlI : (l.length : Int) ≤ 4 := by omega
    have hg2 : (gk : Int) ≤ 4 := by omega
    have hgr := D.rdr.lt
    clear hle hall
    by_cases hk0 : 0 < gk
    · have hki : (0 : Int) < (gk : Int) := by omega
      have HD := Lib.hid D
      clear D
      go_wp2_with fail
      refine (l6Chains_any g _ _ HD.out.rdr (by omega)).mono ?_
      rintro e w5 ⟨z1, z2, a, rfl, ha, hal, o1, o2, hr5, hf5⟩
      have r1 := o1.rl
      have r2 := o2.rl
      obtain ⟨a1, a2⟩ := a
      simp only at r1 r2 hal
      obtain ⟨za1, zc1, rfl⟩ := r1.form
      obtain ⟨za2, zc2, rfl, hcap, hmax, _⟩ := r2.cells
      unfold maxLen at hmax
      have hsz := hf5.size
      have hzo := HD.out.fr.size
      have hlt : ∀ j, some j = (Value.slice va l.length vc).ownBlock → j < wr.heap.size := HD.out.row.lt
      have hA := Lib.hid ha
      have HZ := Lib.hid (And.intro hsz (And.intro hzo hlt))
      have H5 := Lib.hid (And.intro (And.intro hr5 hf5) (And.intro r1 r2))
      have ha2 : (a2.length : Int) ≤ 4 := by omega
      have hz5 : w.heap.size ≤ wr.heap.size ∧ wr.heap.size ≤ w5.heap.size := ⟨hzo, hsz⟩
      clear ha o1 o2 hr5 hf5 r1 r2 hsz hzo hlt
      go_upto_if 19 with fail
      go_cut [] from 10 to 43 (fun wc => ∃ (y1 y2 : Value) (b : Asn), asnB b = true ∧ (RL wc (fun k => wr.heap.size ≤ k) y1 b.1 ∧ RL wc (fun k => wr.heap.size ≤ k) y2 b.2) ∧ wc.heap[w5.heap.size]? = some (.cells #[y1, y2] 33 (0, 0)) ∧ (Rdr wc g (q + 1 + 20 * l.length + 13) ∧ Fr (fun j => j = g) wr wc))
      case first =>
        by_cases h2 : 2 < a2.length
        · have h2i : (2 : Int) < (a2.length : Int) := by omega
          have H2 := Lib.hid h2
          clear h2
          go_wp2
          go_meet
          case rel => exact ⟨_, .slice za2 2 zc2, (a1, a2.take 2), asn_take hA.out 2, ⟨H5.out.2.1.keep Bl, (H5.out.2.2.take (by have := H2.out; omega)).keep Bl⟩, by first | exact box_set1 (heap_alloc_new w5 _) _ | exact heap_alloc_new w5 _, ⟨H5.out.1.1.keep Bl, H5.out.1.2.thenB Bl⟩⟩
        · have h2i : ¬ (2 : Int) < (a2.length : Int) := by omega
          clear h2
          go_wp2
          go_meet
          case rel => exact ⟨_, _, (a1, a2), hA.out, ⟨H5.out.2.1.keep Bl, H5.out.2.2.keep Bl⟩, heap_alloc_new w5 _, ⟨H5.out.1.1.keep Bl, H5.out.1.2.thenB Bl⟩⟩
      case rest =>
        clear H5 hA hal hcap hmax ha2
        obtain ⟨y1, y2, b, hv, ⟨r1, r2⟩, hbx, D⟩ := hcut
        obtain ⟨ya1, yc1, rfl⟩ := r1.form
        obtain ⟨ya2, yc2, rfl⟩ := r2.form
        obtain ⟨bA, hbA⟩ : ∃ b, w5.heap.size = b := ⟨_, rfl⟩
        rw [hbA] at hbx HZ hz5
        have HV := Lib.hid hv
        have HR := Lib.hid (And.intro (And.intro r1 r2) (And.intro hbx D))
        clear hv r1 r2 hbx D
        go_upto_region 8 with fail
        rw [hbA]
        clear hbA
        go_cut [31] from 10 to 43 (fun c wc => ∃ cb : Bool, c = .bool cb ∧ (cb = true → 0 < l.length) ∧ (RL wc (fun k => wr.heap.size ≤ k) (.slice ya1 b.1.length yc1) b.1 ∧ RL wc (fun k => wr.heap.size ≤ k) (.slice ya2 b.2.length yc2) b.2) ∧ wc.heap[bA]? = some (.cells #[.slice ya1 b.1.length yc1, .slice ya2 b.2.length yc2] 33 (0, 0)) ∧ (Rdr wc g (q + 1 + 20 * l.length + 14) ∧ Fr (fun j => j = g) wr wc))
        case first =>
          by_cases hl : 0 < l.length
          · have hli : (0 : Int) < (l.length : Int) := by omega
            have HLL := Lib.hid hl
            clear hl
            go_wp2_with fail
            refine (pick_any g _ 3 _ HR.out.2.2.1 (by omega) (by decide) (by decide)).mono ?_
            rintro e w9 ⟨k, rfl, hk, hr9, hf9⟩
            have HN := Lib.hid (And.intro (And.intro (HR.out.1.1.kept hf9 fun k _ h e => by have h2 : wr.heap.size ≤ k := h; have e2 : k = g := e; omega) (HR.out.1.2.kept hf9 fun k _ h e => by have h2 : wr.heap.size ≤ k := h; have e2 : k = g := e; omega)) (And.intro (box_kept HR.out.2.1 hf9 (by omega)) (And.intro hr9 (HR.out.2.2.2.trans hf9))))
            clear hr9 hf9
            go_wp2
            go_meet
            case rel => exact ⟨_, rfl, fun _ => HLL.out, HN.out⟩
          · have hli : ¬ (0 : Int) < (l.length : Int) := by omega
            clear hl
            go_wp2
            go_meet
            case rel => exact ⟨false, rfl, fun h => (by cases h), HR.out.1, HR.out.2.1, HR.out.2.2.1.more (by omega), HR.out.2.2.2⟩
        case rest =>
          clear HR
          obtain ⟨cb, rfl, hcb, ⟨r1, r2⟩, hbx, D⟩ := hcut
          have HCB := Lib.hid hcb
          have hlx := box_lt hbx
          have HR := Lib.hid (And.intro (And.intro r1 r2) (And.intro hbx D))
          clear hcb r1 r2 hbx D
          go_upto_if 31 with fail
          go_cut [] from 10 to 43 (fun wc => ∃ (y1 y2 : Value) (b : Asn), asnB b = true ∧ (RL wc (fun k => wr.heap.size ≤ k) y1 b.1 ∧ RL wc (fun k => wr.heap.size ≤ k) y2 b.2) ∧ wc.heap[bA]? = some (.cells #[y1, y2] 33 (0, 0)) ∧ (Rdr wc g (q + 1 + 20 * l.length + 19) ∧ Fr (fun j => j = g) wr wc))
          case first =>
            cases cb with
            | false =>
              go_wp2
              go_meet
              case rel => exact ⟨_, _, b, HV.out, HR.out.1, HR.out.2.1, HR.out.2.2.1.more (by omega), HR.out.2.2.2⟩
            | true =>
              have hl := HCB.out rfl
              have hli : (1 : Int) ≤ (l.length : Int) := by omega
              have hlast : ((l.length - 1 : Nat) : Int) = (l.length : Int) - 1 := by omega
              have hmem := gd_mem (show l.length - 1 < l.length by omega)
              have hva := (List.all_eq_true.1 HAL.out) _ hmem
              obtain ⟨ra, rc, hre, _, _, hrf⟩ := (HD.out.row.kept HR.out.2.2.2 (fun k hk e => by have e2 : k = g := e; omega)).rl.asnAt
              simp only [Value.slice.injEq] at hre
              obtain ⟨rfl, _, rfl⟩ := hre
              obtain ⟨gb, ob, u1, u2, rfl, _, hzb, hp1, hp2, q1, q2⟩ := hrf (l.length - 1) (by omega)
              obtain ⟨ua1, uc1, rfl⟩ := q1.form
              obtain ⟨ua2, uc2, rfl⟩ := q2.form
              have hidx : ((l.length : Int) - 1).toNat = l.length - 1 := by omega
              go_wp2_with fail
              refine (l6WeakV_any g _ _ _ (gd l (l.length - 1)) _ HR.out.2.2.1 (by omega) q1 q2 (by have := asn_len2 hva; omega)).mono ?_
              rintro e w9 ⟨z1, z2, b9, rfl, hwb, t1, t2, hr9, hf9⟩
              obtain ⟨ta1, tn1, tc1, rfl⟩ := t1.forms
              obtain ⟨ta2, tn2, tc2, rfl⟩ := t2.forms
              have hbx9 := box_kept HR.out.2.1 hf9 (by omega)
              have d0 := box0 hbx9
              have d1 := box1 hbx9
              have dz := boxz hbx9
              have dl := box_lt hbx9
              have hs6 := fr_two w9 bA (.slice ta1 tn1 tc1) (.slice ta2 tn2 tc2)
              have HN := Lib.hid (And.intro (hwb.2 hva) (And.intro (And.intro ((t1.kept hs6 (fun k _ h e => by have h2 : wc.heap.size ≤ k := h; have e2 : k = bA := e; omega)).more (S' := fun k => wr.heap.size ≤ k) fun k _ h => (by have h2 : wc.heap.size ≤ k := h; have := HR.out.2.2.2.size; show wr.heap.size ≤ k; omega)) ((t2.kept hs6 (fun k _ h e => by have h2 : wc.heap.size ≤ k := h; have e2 : k = bA := e; omega)).more (S' := fun k => wr.heap.size ≤ k) fun k _ h => (by have h2 : wc.heap.size ≤ k := h; have := HR.out.2.2.2.size; show wr.heap.size ≤ k; omega)))
                (And.intro (box_set1 (box_set0 hbx9 (.slice ta1 tn1 tc1)) (.slice ta2 tn2 tc2)) (And.intro (hr9.kept hs6 (fun k hk e => by have e2 : k = bA := e; omega)) ((HR.out.2.2.2.trans hf9).then hs6 fun i hi e => by have e2 : i = bA := e; omega)))))
              clear t1 t2 hr9 hf9 hbx9 hs6 hwb hrf
              go_wp2
              go_meet
              case rel => exact ⟨_, _, b9, HN.out.1, HN.out.2.1, HN.out.2.2.1, HN.out.2.2.2.1.more (by omega), HN.out.2.2.2.2⟩
          case rest =>
            clear HR HV HCB
            obtain ⟨y1, y2, b2, hv, ⟨r1, r2⟩, hbx, hrd, hfr⟩ := hcut
            have D := HD.out.drawn hrd hfr hgl
            obtain ⟨yb1, yd1, rfl⟩ := r1.form
            obtain ⟨yb2, yd2, rfl⟩ := r2.form
            have c0 := box0 hbx
            have c1 := box1 hbx
            have cl := box_lt hbx
            have HV := Lib.hid hv
            obtain ⟨xs, hrow, hx⟩ := D.row.keep (below_alloc wc (.cells #[.slice yb1 b2.1.length yd1, .slice yb2 b2.2.length yd2] 33))
            have HR := Lib.hid (And.intro (And.intro r1 r2) (And.intro hx D))
            have hDs := D.fr.size
            clear hv r1 r2 hbx D hx hrd hfr
            go_wp2_with (at_builtin; refine app_cells (n := l.length) (m := 1) (news := [.slice yb1 b2.1.length yd1, .slice yb2 b2.2.length yd2]) rfl (.tmp 40) (.tmp 42) _ rfl (B := w.heap.size) ti_asn rfl hrow rfl rfl (news2 _ _ _ _) (one2 _ _ _ _ _ _) (by omega) (by simp; omega) ?_; intro v' w7 hr7 hf7 hl7)
            have hTn := TR.app (m := [b2]) hrow HR.out.2.1 hf7 hr7 hl7 (fun i hi => by
              obtain rfl : i = 0 := by simpa using hi
              refine rd_asn_mk ((HR.out.1.1.alloc _).more fun j _ hj => ⟨?_, fun he => ?_⟩) ((HR.out.1.2.alloc _).more fun j _ hj => ⟨?_, fun he => ?_⟩)
              · have h2 : wr.heap.size ≤ j := hj; omega
              · have h2 : wr.heap.size ≤ j := hj; have := HZ.out.2.2 j he; omega
              · have h2 : wr.heap.size ≤ j := hj; omega
              · have h2 : wr.heap.size ≤ j := hj; have := HZ.out.2.2 j he; omega)
            have hD := HR.out.2.2.keep (below_alloc wc (.cells #[.slice yb1 b2.1.length yd1, .slice yb2 b2.2.length yd2] 33))
            have HN := Lib.hid (show FD w w7 g (q + 1 + 20 * (l ++ [b2]).length) v' (l ++ [b2]) from
              ⟨hTn, (hD.rdr.kept hf7 fun k hk e => by have := (own_lt hrow e).1; omega).more (by simp; omega), hD.fr.then hf7 fun i hi e => by have := (own_lt hrow e).1; omega⟩)
            clear hTn hD hr7 hf7 hl7 hrow
            go_wp2
            go_roundg (gk - 1)
            case rel => exact ⟨l ++ [b2], by go_num, by have := HLE.out; simp; omega, by rw [List.all_append, HAL.out]; simp [HV.out], HN.out⟩
            case measure => omega
    · obtain rfl : gk = 0 := by omega
      have HD := Lib.hid (D.more (q' := q + 100) (by omega))
      clear D
      go_wp2
      go_ret
      exact ⟨_, l, rfl, ⟨hll, HAL.out⟩, HD.out⟩
/-- Each assertion of a list has few facts and atoms. -/
def fmB (n : Nat) (l : List Asn) : Prop := ∀ a ∈ l, a.1.length ≤ n ∧ a.2.length ≤ n
theorem fmB.more {n m : Nat} {l : List Asn} (h : fmB n l) (hm : n ≤ m) : fmB m l := fun a ha => by have := h a ha; omega
theorem fmB.app {n : Nat} {l m : List Asn} (h : fmB n l) (h2 : fmB n m) : fmB n (l ++ m) := fun a ha => by
  rcases List.mem_append.1 ha with ha | ha
  · exact h a ha
  · exact h2 a ha
theorem fmB.set {n k : Nat} {l : List Asn} {x : Asn} (h : fmB n l) (hx : x.1.length ≤ n ∧ x.2.length ≤ n) : fmB n (l.set k x) := fun a ha => by
  rcases List.mem_or_eq_of_mem_set ha with ha | rfl
  · exact h a ha
  · exact hx
theorem fmB.val {l : List Asn} (h : l.all asnB = true) : fmB 12 l := fun a ha => by
  have := asn_len2 (List.all_eq_true.1 h a ha); omega
theorem fmB.sz {n : Nat} {l : List Asn} (h : fmB n l) (hn : n ≤ 1048576) : fmSz l := fun a ha => by have := h a ha; omega
theorem TR.at {w : World} {B : Nat} {e : TypeId} {v : Value} {l : List Asn} (h : TR w B e v l) (h0 : 0 < l.length) : ∃ gr cap, v = .slice (some ⟨gr, 0, none⟩) l.length cap ∧ B ≤ gr ∧ gr < w.heap.size ∧
    (∀ j, j < l.length * 2 → ∃ u, w.cell? ⟨gr, j, none⟩ = some u) ∧ ∀ j, w.frozen? ⟨gr, j, none⟩ = false := by
  obtain ⟨xs, hr, hx⟩ := h
  have hr' : w.ownsRow B e 2 v l.length xs := hr
  obtain ⟨a, cap, rfl, ha⟩ := row_form hr'
  obtain ⟨gr, rfl⟩ := ha 0 h0
  have hl := own_lt hr' (k := gr) rfl
  have hlen := hr'.1
  refine ⟨gr, cap, rfl, hl.1, hl.2, fun j hj => ⟨xs[j]'(by omega), ?_⟩, fun j => hr'.frozenAt j⟩
  rw [hr'.cellAt j (by omega)]
  exact List.getElem?_eq_getElem (by omega)
set_option maxRecDepth 100000 in
set_option maxHeartbeats 12800000 in
theorem l13Mutate_any {S : Nat → Prop} (g q : Nat) (v : Value) (l : List Asn) (w : World) (hr : Rdr w g q) (hq : q ≤ 800000) (h : RL w S v l) (hl : l.length ≤ 1000) (hs : fmB 1000 l) :
    Calls Try.prog 127 #[.pointer (some ⟨g, 0, none⟩), v] w fun e w' => ∃ (v' : Value) (l' : List Asn), e = .returned v' ∧ (l'.length ≤ 1013 ∧ fmB 1042 l') ∧ FD w w' g (q + 11) v' l' := by
  have hgl := hr.lt
  obtain ⟨va, vc, rfl⟩ := h.form
  go_enter Try.func127, Try.ntmps127
  go_wp2_with fail
  refine (l13Copy_any _ l _ h (hs.sz (by omega)) (by omega)).mono ?_
  rintro e w1 ⟨v1, rfl, hT, hb⟩
  have HD := Lib.hid (show FD w w1 g q v1 l from ⟨hT, hr.keep hb, (Below.fr hb).mono fun _ _ h => h.elim⟩)
  obtain ⟨ra, rc, rfl⟩ := hT.form
  have hz1 := hb.size
  clear hT hb hr h
  go_upto_region 2 with fail
  go_cut [15] from 6 (fun c wc => ∃ cb : Bool, c = .bool cb ∧ (cb = true → 0 < l.length) ∧ FD w wc g (q + 1) (.slice ra l.length rc) l)
  case first =>
    by_cases hl0 : 0 < l.length
    · have hli : (0 : Int) < (l.length : Int) := by omega
      have HLL := Lib.hid hl0
      clear hl0
      go_wp2_with fail
      refine (pick_any g _ 20 _ HD.out.rdr (by omega) (by decide) (by decide)).mono ?_
      rintro e w9 ⟨k, rfl, hk, hr9, hf9⟩
      have HN := Lib.hid (HD.out.drawn hr9 hf9 hgl)
      clear hr9 hf9
      go_wp2
      go_meet
      case rel => exact ⟨_, rfl, fun _ => HLL.out, HN.out⟩
    · have hli : ¬ (0 : Int) < (l.length : Int) := by omega
      clear hl0
      go_wp2
      go_meet
      case rel => exact ⟨false, rfl, fun h => (by cases h), HD.out.more (by omega)⟩
  case rest =>
    clear HD
    obtain ⟨cb, rfl, hcb, D⟩ := hcut
    have HD := Lib.hid (And.intro hcb D)
    clear hcb D
    go_upto_if 15 with fail
    go_cut [] from 6 (fun wc => ∃ l2 : List Asn, l2.length = l.length ∧ fmB 1042 l2 ∧ FD w wc g (q + 10) (.slice ra l.length rc) l2)
    case first =>
      cases cb with
      | false =>
        go_wp2
        go_meet
        case rel => exact ⟨l, rfl, hs.more (by omega), HD.out.2.more (by omega)⟩
      | true =>
        have hl0 := HD.out.1 rfl
        obtain ⟨gr, rc', hre, hBg, hgz, hcs, hfz⟩ := HD.out.2.row.at hl0
        simp only [Value.slice.injEq] at hre
        obtain ⟨rfl, _, rfl⟩ := hre
        obtain ⟨_, _, hre, _, _, hrf⟩ := HD.out.2.row.rl.asnAt
        simp only [Value.slice.injEq] at hre
        obtain ⟨rfl, _, rfl⟩ := hre
        obtain ⟨gb, ob, u1, u2, hbe, _, hzb, hp1, hp2, q1, q2⟩ := hrf 0 hl0
        simp only [Option.some.injEq, Addr.mk.injEq, and_true] at hbe
        obtain ⟨rfl, rfl⟩ := hbe
        simp only [Nat.zero_mul, Nat.zero_add] at hp1 hp2
        obtain ⟨ua1, uc1, rfl⟩ := q1.form
        obtain ⟨ua2, uc2, rfl⟩ := q2.form
        have hx0 := hs _ (gd_mem hl0)
        have hlI : (0 : Int) < (l.length : Int) := by omega
        go_wp2_with fail
        refine (l3Mutate_any g _ _ _ (gd l 0) _ HD.out.2.rdr (by omega) q1 q2 ⟨by omega, by omega⟩).mono ?_
        rintro e w3 ⟨x1, x2, b3, rfl, hb3, o1, o2, hr3, hf3⟩
        obtain ⟨xa1, xn1, xc1, rfl⟩ := o1.rl.forms
        obtain ⟨xa2, xn2, xc2, rfl⟩ := o2.rl.forms
        go_wp2_with fail
        refine (l3Mutate_any g _ _ _ b3 _ hr3 (by omega) o1.rl o2.rl ⟨by omega, by omega⟩).mono ?_
        rintro e w4 ⟨y1, y2, b4, rfl, hb4, p1, p2, hr4, hf4⟩
        obtain ⟨ya1, yn1, yc1, rfl⟩ := p1.rl.forms
        obtain ⟨ya2, yn2, yc2, rfl⟩ := p2.rl.forms
        go_wp2_with fail
        refine (l3Mutate_any g _ _ _ b4 _ hr4 (by omega) p1.rl p2.rl ⟨by omega, by omega⟩).mono ?_
        rintro e w5 ⟨z1, z2, b5, rfl, hb5, m1, m2, hr5, hf5⟩
        have t1 := m1.rl
        have t2 := m2.rl
        obtain ⟨za1, zn1, zc1, rfl⟩ := t1.forms
        obtain ⟨za2, zn2, zc2, rfl⟩ := t2.forms
        have hff := (hf3.trans hf4).trans hf5
        have D5 := HD.out.2.drawn hr5 hff hgl
        have hs4 := (hf3.trans hf4).size
        obtain ⟨gr2, rc2, hre, hBg2, hgz2, hcs2, hfz2⟩ := D5.row.at hl0
        simp only [Value.slice.injEq, Option.some.injEq, Addr.mk.injEq, and_true, true_and] at hre
        obtain ⟨rfl, rfl⟩ := hre
        obtain ⟨e0, he0⟩ := hcs2 0 (by omega)
        obtain ⟨e1, he1⟩ := hcs2 1 (by omega)
        have hTn := D5.row.set2 rfl hl0 (x := b5) (t1.more (S' := fun j => w.heap.size ≤ j ∧ ¬ j = gr) fun k _ h => by have h2 : w4.heap.size ≤ k := h; show w.heap.size ≤ k ∧ ¬ k = gr; have := D5.fr.size; omega) (t2.more (S' := fun j => w.heap.size ≤ j ∧ ¬ j = gr) fun k _ h => by have h2 : w4.heap.size ≤ k := h; show w.heap.size ≤ k ∧ ¬ k = gr; have := D5.fr.size; omega)
        simp only [Nat.zero_mul, Nat.zero_add] at hTn
        have hs6 := fr_two w5 gr (.slice za1 zn1 zc1) (.slice za2 zn2 zc2)
        have HN := Lib.hid (show fmB 1042 (l.set 0 b5) ∧ FD w ((w5.setCell ⟨gr, 0, none⟩ (.slice za1 zn1 zc1)).setCell ⟨gr, 1, none⟩ (.slice za2 zn2 zc2)) g (q + 10) (.slice (some ⟨gr, 0, none⟩) l.length rc) (l.set 0 b5) from
          ⟨(hs.more (by omega)).set (by omega), hTn, (hr5.kept hs6 fun k hk e => by have e2 : k = gr := e; omega).more (by omega), D5.fr.then hs6 fun i hi e => by have e2 : i = gr := e; omega⟩)
        clear hTn hs6 D5 hff t1 t2 m1 m2 p1 p2 o1 o2 hr3 hr4 hr5 hf3 hf4 hf5 hcs hcs2 hfz hrf q1 q2
        go_wp2
        go_meet
        case rel => exact ⟨_, by simp, HN.out.1, HN.out.2⟩
    case rest =>
      clear HD
      obtain ⟨l2, hl2, hb2, D⟩ := hcut
      have HD := Lib.hid (And.intro (And.intro hl2 hb2) D)
      clear hl2 hb2 D
      go_upto_region 4 with fail
      go_cut [29] from 6 (fun c wc => ∃ cb : Bool, c = .bool cb ∧ FD w wc g (q + 11) (.slice ra l.length rc) l2)
      case first =>
        go_wp2_with fail
        refine (pick_any g _ 40 _ HD.out.2.rdr (by omega) (by decide) (by decide)).mono ?_
        rintro e w9 ⟨k, rfl, hk, hr9, hf9⟩
        have HN := Lib.hid (HD.out.2.drawn hr9 hf9 hgl)
        clear hr9 hf9
        go_wp2
        go_meet
        case rel => exact ⟨_, rfl, HN.out⟩
      case rest =>
        obtain ⟨cb, rfl, D⟩ := hcut
        have HL := Lib.hid HD.out.1
        have HE := Lib.hid D
        clear HD D
        go_upto_if 29 with fail
        go_cut [5] from 6 (fun v wc => ∃ l3 : List Asn, (l3.length ≤ 1013 ∧ fmB 1042 l3) ∧ FD w wc g (q + 11) v l3)
        case first =>
          cases cb with
          | false =>
            go_wp2
            go_meet
            case rel => exact ⟨l2, ⟨by have := HL.out.1; omega, HL.out.2⟩, HE.out⟩
          | true =>
            go_wp2
            go_loopg [5] (13 - l2.length) (fun k v wr => ∃ l3 : List Asn, k = 13 - l3.length ∧ (l3.length ≤ 1013 ∧ fmB 1042 l3) ∧ FD w wr g (q + 11) v l3)
            case atStart => exact ⟨l2, rfl, ⟨by have := HL.out.1; omega, HL.out.2⟩, HE.out⟩
            case round =>
              obtain ⟨l3, hk, hlb, D⟩ := hrel
              obtain ⟨xa, xc, rfl⟩ := D.row.form
              have HK := Lib.hid (And.intro hk hlb)
              clear hk hlb
              by_cases h12 : l3.length ≤ 12
              · have h12i : (l3.length : Int) ≤ 12 := by omega
                obtain ⟨xs, hrow, hx⟩ := D.row.keep (below_alloc wr (.cells #[.slice none 0 0, .slice none 0 0] 33))
                have HX := Lib.hid (And.intro hx (D.keep (below_alloc wr (.cells #[.slice none 0 0, .slice none 0 0] 33))))
                have hDs := D.fr.size
                clear hx D
                go_wp2_with (at_builtin; refine app_cells (n := l3.length) (m := 1) (news := [.slice none 0 0, .slice none 0 0]) rfl (.tmp 33) (.tmp 35) _ rfl (B := w.heap.size) ti_asn rfl hrow rfl rfl (news2 _ _ _ _) (one2 _ _ _ _ _ _) (by omega) (by simp; omega) ?_; intro v' w7 hr7 hf7 hl7)
                have hTn := TR.app (m := [(([], []) : Asn)]) hrow HX.out.1 hf7 hr7 hl7 (fun i hi => by
                  obtain rfl : i = 0 := by simpa using hi
                  exact rd_asn_mk (RL.nil _ _) (RL.nil _ _))
                have HN := Lib.hid (show FD w w7 g (q + 11) v' (l3 ++ [([], [])]) from
                  ⟨hTn, HX.out.2.rdr.kept hf7 fun k hk e => by have := (own_lt hrow e).1; omega, HX.out.2.fr.then hf7 fun i hi e => by have := (own_lt hrow e).1; omega⟩)
                clear hTn hr7 hf7 hl7 hrow
                go_wp2
                go_roundg (gk - 1)
                case rel => exact ⟨l3 ++ [([], [])], by have := HK.out.1; simp; omega, ⟨by simp; omega, HK.out.2.2.app fun a ha => by rw [List.mem_singleton.1 ha]; exact ⟨by simp, by simp⟩⟩, HN.out⟩
                case measure => have := HK.out.1; omega
              · have h12i : ¬ (l3.length : Int) ≤ 12 := by omega
                have HN := Lib.hid D
                clear D
                go_wp2
                go_meet
                case rel => exact ⟨l3, HK.out.2, HN.out⟩
        case rest =>
          obtain ⟨l3, hlb, D⟩ := hcut
          have HN := Lib.hid (And.intro hlb D)
          clear hlb D
          go_wp2
          go_ret
          exact ⟨_, l3, rfl, HN.out⟩
end Go.Proofs.Ytapoillhgimdiaa
