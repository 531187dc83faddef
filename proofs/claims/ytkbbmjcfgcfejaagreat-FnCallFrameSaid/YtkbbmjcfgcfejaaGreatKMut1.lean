/- Laws for the walks: a drawn region in which a cell is read first and written last. -/
import Derived.Deep.RegionHeld3
import Derived.Test.YtkbbmjcfgcfejaaGreatKDHolds2
namespace Go.Proofs.YtkbbmjcfgcfejaaGreat
open Go
section
variable {P:Program} {ops:Array Oper} {Q:Exit→Act→World→Prop} {md:Region.Mode} {S T:World→Prop} {dep:List Nat}
def Early (dep:List Nat) (listed:Array Bool):Prop:=∀ k ∈ dep,listed.getD k true=false
theorem Early.of_set {i:Nat} {listed:Array Bool} (h:Early dep (listed.setIfInBounds i true)) (hi:i ∉ dep):Early dep listed:=fun k hk=>by
 have:=h k hk
 rwa [getD_set_ne true (fun e=>hi (by rw [e];exact hk))] at this
theorem Early.set {i:Nat} {listed:Array Bool} (h:Early dep listed) (hi:i ∉ dep):Early dep (listed.setIfInBounds i true):=fun k hk=>by
 rw [getD_set_ne true (fun e=>hi (by rw [e];exact hk))];exact h k hk
def wpAnyD (P:Program) (md:Region.Mode) (ops:Array Oper) (Q:Exit→Act→World→Prop) (S:World→Prop) (dep:List Nat):Nat→Array Bool→Act→World→Prop
 | 0,listed,a,w=>Region.ready md ops listed=[]∧Q .normal a w
 | fuel+1,listed,a,w=>(Region.ready md ops listed=[]→Q .normal a w) ∧
   ∀ i ∈ Region.ready md ops listed,wpOp P ops Q i (fun a' w'=>(Early dep (listed.setIfInBounds i true)→S w')∧wpAnyD P md ops Q S dep fuel (listed.setIfInBounds i true) a' w') a w
theorem wpAny_of_late:∀ (fuel:Nat) (listed:Array Bool) (a:Act) (w:World),wpAnyD P md ops Q S dep fuel listed a w→wpAny P md ops Q fuel listed a w
 | 0,_,_,_,h=>h
 | fuel+1,_,_,_,h=>⟨h.1,fun i hi=>wpOp_mono (fun a' w' h'=>wpAny_of_late fuel _ a' w' h'.2) (h.2 i hi)⟩
theorem wpAnyD_first {i:Nat} {oi:Oper} {v:Value} (hi:ops[i]?=some oi) (hsel:∀ (j:Nat) (o:Oper) cs b,ops[j]?=some o→o.op ≠ .select cs b)
 (hQ:∀ c a w,Q (.panic c) (a.put oi.dst v) w→Q (.panic c) a w) (hid:i ∉ dep) (Inv:Array Bool→Prop)
 (hinv:∀ (listed:Array Bool) (j:Nat) (w':World),Inv listed→i ∈ Region.ready md ops listed→j ∈ Region.ready md ops listed→j ≠ i→(Early dep (listed.setIfInBounds j true)→S w')→Inv (listed.setIfInBounds j true)∧T w') :
 ∀ (fuel:Nat) (listed:Array Bool) (a:Act) (w:World),
   (∀ j oj,ops[j]?=some oj→j ≠ i→listed.getD j true=false→(∀ e ∈ oj.after,Region.binds md e=true→e.on ≠ i)→oi.apart ops oj=true) →
   i ∈ Region.ready md ops listed→Inv listed→YieldsIf P ops T oi v a→T w→(Early dep listed→S w) →
   wpAnyD P md ops Q S dep fuel (listed.setIfInBounds i true) (a.put oi.dst v) w→wpAnyD P md ops Q S dep (fuel+1) listed a w:=by
 intro fuel
 induction fuel with
 | zero =>
   intro listed a w _ hr _ hy hT hS H
   refine ⟨fun h=>(by rw [h] at hr;cases hr),fun j hj=>?_⟩
   by_cases hji:j=i
   · subst hji;exact hy.wpOp hi hT ⟨fun h=>hS (h.of_set hid),H⟩
   · have:=ready_mono hj hji
     rw [H.1] at this
     cases this
 | succ fuel ih =>
   intro listed a w hfree hr hI hy hT hS H
   refine ⟨fun h=>(by rw [h] at hr;cases hr),fun j hj=>?_⟩
   by_cases hji:j=i
   · subst hji;exact hy.wpOp hi hT ⟨fun h=>hS (h.of_set hid),H⟩
   · have h1:=H.2 j (ready_mono hj hji)
     obtain ⟨hjun,oj,hoj,hall⟩:=mem_ready.1 hj
     have hnot:∀ e ∈ oj.after,Region.binds md e=true→e.on ≠ i:=fun e he hb heq=>by
      have h2:=hall e he hb
      rw [heq] at h2
      have h0:=(mem_ready.1 hr).1
      rcases Nat.lt_or_ge i listed.size with h' | h'
      · simp [h'] at h0 h2;rw [h0] at h2;cases h2
      · simp [Array.getElem?_eq_none h'] at h2
     have h2:=wpOp_putIf hoj (hfree j oj hoj hji hjun hnot) (fun cs b=>hsel i oi cs b hi) (fun cs b=>hsel j oj cs b hoj) hQ hy h1
     have hfree':∀ k ok,ops[k]?=some ok→k ≠ i→(listed.setIfInBounds j true).getD k true=false →
      (∀ e ∈ ok.after,Region.binds md e=true→e.on ≠ i)→oi.apart ops ok=true:=fun k ok hk hki hun hno=>by
      refine hfree k ok hk hki ?_ hno
      by_cases hjk:j=k
      · subst hjk;exact hjun
      · rw [getD_set_ne true hjk] at hun;exact hun
     refine wpOp_mono (fun a' w' h3=>?_) h2
     have hE:Early dep (listed.setIfInBounds j true)→S w':=fun he=>h3.2.1 (by
      rw [Array.setIfInBounds_comm _ _ (Ne.symm hji)]
      exact he.set hid)
     obtain ⟨hI',hT'⟩:=hinv listed j w' hI hr hj hji hE
     refine ⟨hE,ih (listed.setIfInBounds j true) a' w' hfree' (ready_mono hr (Ne.symm hji)) hI' h3.1 hT' hE ?_⟩
     rw [Array.setIfInBounds_comm _ _ hji]
     exact h3.2.2
def lateB (md:Region.Mode) (ops:Array Oper) (dep:List Nat) (i:Nat):Bool :=
 !dep.contains i && dep.all fun k=>match ops[k]? with
  | some ok=>ok.after.any fun e=>Region.binds md e && (e.on == i || dep.contains e.on)
  | none=>false
def earlyB (dep:List Nat) (listed:Array Bool):Bool:=dep.all fun k=>!listed.getD k true
theorem early_of {listed:Array Bool} (h:earlyB dep listed=true):Early dep listed:=fun k hk=>by
 have:=(List.all_eq_true.1 h) k hk
 simpa using this
theorem listed_two {i:Nat} {listed:Array Bool} (h:listed.getD i true=false) (h2:listed.getD i false=true):False:=by
 rcases Nat.lt_or_ge i listed.size with h' | h'
 · simp [h'] at h h2;rw [h] at h2;cases h2
 · simp [Array.getElem?_eq_none h'] at h
def cloB (md:Region.Mode) (ops:Array Oper) (i:Nat):List Nat :=
 (List.range ops.size).foldl (fun C k=>match ops[k]? with
   | some ok=>if ok.after.any fun e=>Region.binds md e && (e.on == i || C.contains e.on) then k :: C else C
   | none=>C) []
def lateC (md:Region.Mode) (ops:Array Oper) (dep:List Nat) (i:Nat):Bool :=
 !dep.contains i && (dep.all fun k=>(cloB md ops i).contains k) && lateB md ops (cloB md ops i) i
theorem wpAnyD_take {i:Nat} {oi:Oper} {v:Value} {fuel:Nat} {listed:Array Bool} {a:Act} {w:World} (hi:ops[i]?=some oi)
 (hs:Region.noSelect ops=true) (hf:Region.free md ops listed i=true) (hr:(Region.ready md ops listed).contains i=true) (hl:lateC md ops dep i=true) (he:earlyB (cloB md ops i) listed=true)
 (hQ:∀ c a w,Q (.panic c) (a.put oi.dst v) w→Q (.panic c) a w) (hy:YieldsIf P ops S oi v a) (hS:S w)
 (h:wpAnyD P md ops Q S dep fuel (listed.setIfInBounds i true) (a.put oi.dst v) w):wpAnyD P md ops Q S dep (fuel+1) listed a w:=by
 rw [lateC,Bool.and_eq_true,Bool.and_eq_true] at hl
 obtain ⟨⟨hid0,hsub⟩,hlb⟩:=hl
 have hid:i ∉ dep:=by simpa using hid0
 generalize cloB md ops i=C at *
 rw [lateB,Bool.and_eq_true] at hlb
 have hsub':∀ l:Array Bool,Early C l→Early dep l:=fun l hE k hk=>hE k (by simpa using (List.all_eq_true.1 hsub) k hk)
 refine wpAnyD_first (T:=S) hi (Region.noSelect_spec hs) hQ hid (Early C) (fun listed j w' hI hir hjr hji hE=>?_) fuel listed a w (Region.free_spec hi hf) (by simpa using hr) (early_of he) hy hS (fun _=>hS) h
 have hjd:j ∉ C:=fun hjd=>by
  have h1:=(List.all_eq_true.1 hlb.2) j hjd
  obtain ⟨hjun,oj,hoj,hall⟩:=mem_ready.1 hjr
  rw [hoj] at h1
  obtain ⟨e,hee,hb⟩:=Array.any_eq_true'.1 h1
  rw [Bool.and_eq_true,Bool.or_eq_true,beq_iff_eq] at hb
  have h2:=hall e hee hb.1
  rcases hb.2 with h3 | h3
  · rw [h3] at h2;exact listed_two (mem_ready.1 hir).1 h2
  · exact listed_two (hI e.on (by simpa using h3)) h2
 exact ⟨hI.set hjd,hE (hsub' _ (hI.set hjd))⟩
theorem wpAnyD_free {i:Nat} {oi:Oper} {v:Value} {fuel:Nat} {listed:Array Bool} {a:Act} {w:World} (hi:ops[i]?=some oi)
 (hs:Region.noSelect ops=true) (hf:Region.free md ops listed i=true) (hr:(Region.ready md ops listed).contains i=true) (hid:dep.contains i=false)
 (hQ:∀ c a w,Q (.panic c) (a.put oi.dst v) w→Q (.panic c) a w) (hy:YieldsIf P ops (fun _=>True) oi v a) (hS:Early dep listed→S w)
 (h:(Early dep (listed.setIfInBounds i true)→S w)→wpAnyD P md ops Q S dep fuel (listed.setIfInBounds i true) (a.put oi.dst v) w):wpAnyD P md ops Q S dep (fuel+1) listed a w:=by
 have hid':i ∉ dep:=by simpa using hid
 exact wpAnyD_first (T:=fun _=>True) hi (Region.noSelect_spec hs) hQ hid' (fun _=>True) (fun _ _ _ _ _ _ _ _=>⟨trivial,trivial⟩) fuel listed a w (Region.free_spec hi hf) (by simpa using hr) trivial hy trivial hS (h fun he=>hS (he.of_set hid'))
def AllReadyD (P:Program) (md:Region.Mode) (ops:Array Oper) (Q:Exit→Act→World→Prop) (S:World→Prop) (dep:List Nat) (fuel:Nat) (listed:Array Bool) (a:Act) (w:World) (rs:List Nat):Prop :=
 ∀ i ∈ rs,wpOp P ops Q i (fun a' w'=>(Early dep (listed.setIfInBounds i true)→S w')∧wpAnyD P md ops Q S dep fuel (listed.setIfInBounds i true) a' w') a w
theorem AllReadyD.nil {fuel:Nat} {listed:Array Bool} {a:Act} {w:World}:AllReadyD P md ops Q S dep fuel listed a w []:=fun _ h=>by cases h
theorem AllReadyD.cons {fuel:Nat} {listed:Array Bool} {a:Act} {w:World} {i:Nat} {o:Oper} {rs:List Nat} (ho:ops[i]?=some o)
 (h:∀ K':Act→World→Prop,Shut (∀ a w,(Early dep (listed.setIfInBounds i true)→S w)→((Early dep (listed.setIfInBounds i true)→S w)→wpAnyD P md ops Q S dep fuel (listed.setIfInBounds i true) a w)→K' a w)→if Region.wanted o (yielded ops a.tmps)=true then Oper.wp P o a w K' Q else K' (a.put o.dst undef) w)
 (hs:AllReadyD P md ops Q S dep fuel listed a w rs):AllReadyD P md ops Q S dep fuel listed a w (i :: rs):=fun j hj=>by
 rcases List.mem_cons.1 hj with rfl | hj
 · exact wpOp_step ho (fun K' hK=>h K' (fun a w hS hW=>hK a w ⟨hS,hW hS⟩))
 · exact hs j hj
theorem wpAnyD_ready {rs:List Nat} {fuel:Nat} {listed:Array Bool} {a:Act} {w:World} (hr:Region.ready md ops listed=rs) (hne:rs ≠ [])
 (h:AllReadyD P md ops Q S dep fuel listed a w rs):wpAnyD P md ops Q S dep (fuel+1) listed a w:=⟨fun h0=>absurd (hr ▸ h0) hne,hr ▸ h⟩
theorem wpAnyD_done {listed:Array Bool} {a:Act} {w:World} (hr:Region.ready md ops listed=[]) (h:Q .normal a w) :
 ∀ fuel,wpAnyD P md ops Q S dep fuel listed a w
 | 0=>⟨hr,h⟩
 | _+1=>⟨fun _=>h,by rw [hr];simp⟩
theorem wp_region_late {id:Nat} {a:Act} {w:World} (hm:P.follows .mixedOrders=true) (hS:S w.drew)
 (h:(Early dep (Array.replicate ops.size false)→S w.drew)→wpAnyD P .any ops Q S dep ops.size (Array.replicate ops.size false) a w.drew):(Code.region id ops true).wp P Q a w :=
 wp_region_any hm (wpAny_of_late _ _ _ _ (h fun _=>hS))
theorem late_none {p:Prop} {i:Nat} {listed:Array Bool} (h:earlyB dep (listed.setIfInBounds i true)=false):Early dep (listed.setIfInBounds i true)→p:=fun he=>by
 rw [show earlyB dep (listed.setIfInBounds i true)=true from List.all_eq_true.2 fun k hk=>by rw [he k hk];rfl] at h
 cases h
end
end Go.Proofs.YtkbbmjcfgcfejaaGreat
namespace Go.Proofs.YtkbbmjcfgcfejaaGreat
open Go.RowKit
theorem tf_below {w w':World} {B:Nat} {e:TypeId} (h:Fr (TF w B e) w w') (hB:B≤w.heap.size):Below B w w':=h.below hB fun k hk h2=>by have:=h2.1;omega
theorem FE.set2 {α:Type} [Flat α] [Tid α] {w:World} {B b:Nat} {v x y:Value} {l:List α} {T:TypeId} {cs:Array Value} (h:FE w B v l) (hb:w.heap[b]?=some (.cells cs T (0,0))) (hT:T ≠ Tid.tid α) :
 FE ((w.setCell ⟨b,0,none⟩ x).setCell ⟨b,1,none⟩ y) B v l:=by
 refine (h.setB (fun hk=>tf_ne hb hT hk)).setB fun hk=>?_
 refine hk.2.elim fun cs2 hc=>?_
 have hlt:=(Array.getElem?_eq_some_iff.1 hb).1
 have hb2:(w.setCell ⟨b,0,none⟩ x).heap[b]?=some (.cells (cs.setIfInBounds 0 x) T (0,0)):=by
  simp [World.setCell,Array.getElem?_modify,hb]
 simp only at hc
 rw [hb2] at hc
 injection hc with hc
 injection hc with _ hc
 exact hT hc
theorem da_more2 {w0 w:World} {g q q' bR bA:Nat} {v1 v2:Value} {l1:List Fact} {l2:List Atom} (h:DA w0 w g q bR bA v1 v2 l1 l2) (hq:q≤q'):DA w0 w g q' bR bA v1 v2 l1 l2 :=
 ⟨h.f,h.a,h.boxR,h.boxA,h.rdr.more hq,h.fr⟩
set_option maxRecDepth 100000 in
set_option maxHeartbeats 3200000 in
theorem l3StarF_any {S1 S2 S3 S4:Nat→Prop} (v1 v2 u1 u2:Value) (a b:Asn) (w:World) (h1:RL w S1 v1 a.1) (h2:RL w S2 v2 a.2) (k1:RL w S3 u1 b.1) (k2:RL w S4 u2 b.2)
 (n1:a.1.length≤1048576) (n2:a.2.length≤1048576) (n3:b.1.length≤1048576) (n4:b.2.length≤1048576) :
 Calls Tryz.prog 76 #[.agg #[v1,v2],.agg #[u1,u2]] w fun e w'=>∃ x1 x2,e=.returned (.agg #[x1,x2])∧FE w' w.heap.size x1 (a.1 ++ b.1)∧FE w' w.heap.size x2 (a.2 ++ b.2)∧Below w.heap.size w w':=by
 obtain ⟨a1,a2⟩:=a
 obtain ⟨b1,b2⟩:=b
 simp only at h1 h2 k1 k2 n1 n2 n3 n4
 obtain ⟨p1,c1,rfl⟩:=h1.form
 obtain ⟨p2,c2,rfl⟩:=h2.form
 obtain ⟨p3,c3,rfl⟩:=k1.form
 obtain ⟨p4,c4,rfl⟩:=k2.form
 go_enter Tryz.func76,Tryz.ntmps76
 go_wp2
 generalize hw0:(((w.alloc (.cells #[.slice p1 a1.length c1,.slice p2 a2.length c2] 26)).alloc (.cells #[.slice p3 b1.length c3,.slice p4 b2.length c4] 26)).alloc (.cells #[.slice none 0 0,.slice none 0 0] 26))=w0
 have hc0:w0.cell? ⟨w.heap.size,0,none⟩=some (.slice p1 a1.length c1):=by rw [← hw0];simp [go_sem]
 have hc1:w0.cell? ⟨w.heap.size,1,none⟩=some (.slice p2 a2.length c2):=by rw [← hw0];simp [go_sem]
 have hd0:w0.cell? ⟨w.heap.size+1,0,none⟩=some (.slice p3 b1.length c3):=by rw [← hw0];simp [go_sem]
 have hd1:w0.cell? ⟨w.heap.size+1,1,none⟩=some (.slice p4 b2.length c4):=by rw [← hw0];simp [go_sem]
 have hA:w0.heap[w.heap.size+2]?=some (.cells #[.slice none 0 0,.slice none 0 0] 26 (0,0)):=by
  rw [← hw0]
  have:=heap_alloc_new ((w.alloc (.cells #[.slice p1 a1.length c1,.slice p2 a2.length c2] 26)).alloc (.cells #[.slice p3 b1.length c3,.slice p4 b2.length c4] 26)) (.cells #[.slice none 0 0,.slice none 0 0] 26)
  simpa using this
 have hz:w0.heap.size=w.heap.size+3:=by rw [← hw0];simp
 have hW:Below w.heap.size w w0:=by rw [← hw0];exact ba (ba (below_alloc _ _) _) _
 clear hw0
 have HA:=Lib.hid hA
 have HZ:=Lib.hid hz
 have q1:=h1.keep hW
 have q2:=h2.keep hW
 have q3:=k1.keep hW
 have q4:=k2.keep hW
 clear hA hz h1 h2 k1 k2
 go_region_held3 (fun w'=>(w'.cell? ⟨w.heap.size,0,none⟩=some (.slice p1 a1.length c1)∧w'.cell? ⟨w.heap.size,1,none⟩=some (.slice p2 a2.length c2))∧(w'.cell? ⟨w.heap.size+1,0,none⟩=some (.slice p3 b1.length c3)∧w'.cell? ⟨w.heap.size+1,1,none⟩=some (.slice p4 b2.length c4)))
  (exact ⟨⟨(by repeat (first | with_reducible exact hc0 | (with_reducible refine (fr_set _ _ _).cell (by first | (simp;done) | (simp;omega) | omega) ?_) | exact cell_keep Bl hc0)),(by repeat (first | with_reducible exact hc1 | (with_reducible refine (fr_set _ _ _).cell (by first | (simp;done) | (simp;omega) | omega) ?_) | exact cell_keep Bl hc1))⟩,⟨(by repeat (first | with_reducible exact hd0 | (with_reducible refine (fr_set _ _ _).cell (by first | (simp;done) | (simp;omega) | omega) ?_) | exact cell_keep Bl hd0)),(by repeat (first | with_reducible exact hd1 | (with_reducible refine (fr_set _ _ _).cell (by first | (simp;done) | (simp;omega) | omega) ?_) | exact cell_keep Bl hd1))⟩⟩)
  (first
    | (refine step_F (l:=([]:List Fact)) (m:=a1) (B:=w0.heap.size) (by rfl) (.tmp 5) (.tmp 7) _ (by rfl) ti_fact (by rfl) (FE.nil _ _ _) (by rfl) (q1.keep Bl) (by simp;omega) (Below.size (w:=w0) (B:=w0.heap.size) Bl) ?_;intro v5 w5 o5 hb5';rw [List.nil_append] at o5;have hz5:w0.heap.size≤w5.heap.size:=Nat.le_trans (Below.size (w:=w0) (B:=w0.heap.size) Bl) hb5'.size;have hb5:Below w0.heap.size w0 w5:=Below.trans Bl (tf_below hb5' (Below.size (w:=w0) (B:=w0.heap.size) Bl));clear hb5')
    | (refine step_F (l:=a1) (m:=b1) (B:=w0.heap.size) (by rfl) (.tmp 8) (.tmp 10) _ (by rfl) ti_fact (by rfl) (o5.keep Bl) (by rfl) (q3.keep Bl) (by omega) (Below.size (w:=w0) (B:=w0.heap.size) Bl) ?_;intro v6 w6 o6 hb6';have hb6:Below w0.heap.size w0 w6:=Below.trans Bl (tf_below hb6' (Below.size (w:=w0) (B:=w0.heap.size) Bl));clear hb6';clear o5;obtain ⟨d6,m6,k6,rfl⟩:=o6.forms)
    | (refine step_F (l:=([]:List Atom)) (m:=a2) (B:=w0.heap.size) (by rfl) (.tmp 12) (.tmp 14) _ (by rfl) ti_atom (by rfl) (FE.nil _ _ _) (by rfl) (q2.keep Bl) (by simp;omega) (Below.size (w:=w0) (B:=w0.heap.size) Bl) ?_;intro v7 w7 o7 hb7';rw [List.nil_append] at o7;have o67:=(o6.keep Bl).tf hb7' (by decide);clear o6;have hb7:Below w0.heap.size w0 w7:=Below.trans Bl (tf_below hb7' (Below.size (w:=w0) (B:=w0.heap.size) Bl));clear hb7')
    | (refine step_F (l:=a2) (m:=b2) (B:=w0.heap.size) (by rfl) (.tmp 15) (.tmp 17) _ (by rfl) ti_atom (by rfl) (o7.keep Bl) (by rfl) (q4.keep Bl) (by omega) (Below.size (w:=w0) (B:=w0.heap.size) Bl) ?_;intro v8 w8 o8 hb8';have o68:=(o67.keep Bl).tf hb8' (by decide);have hb8:Below w0.heap.size w0 w8:=Below.trans Bl (tf_below hb8' (Below.size (w:=w0) (B:=w0.heap.size) Bl));clear hb8' o67 o7;obtain ⟨d8,m8,k8,rfl⟩:=o8.forms;have hA8:=box_keep HA.out hb8;have ha0:=box0 hA8;have ha1:=box1 hA8;have haz:∀ i,w8.frozen? ⟨w.heap.size+2,i,none⟩=false:=boxz hA8;have hlA:=box_lt hA8;have HA8:=Lib.hid hA8;clear hA8))
 all_goals
  have hz0:=HZ.out
  have f6:=(o68.set2 (x:=.slice d6 m6 k6) (y:=.slice d8 m8 k8) HA8.out (by decide)).mono (B':=w.heap.size) (by omega)
  have f8:=(o8.set2 (x:=.slice d6 m6 k6) (y:=.slice d8 m8 k8) HA8.out (by decide)).mono (B':=w.heap.size) (by omega)
  have fb:=((bt hW hb8).setCell (p:=⟨w.heap.size+2,0,none⟩) (by simp) (.slice d6 m6 k6)).setCell (p:=⟨w.heap.size+2,1,none⟩) (by simp) (.slice d8 m8 k8)
  have HO:=Lib.hid (And.intro f6 (And.intro f8 fb))
  have r:=box_two (.slice d6 m6 k6) (.slice d8 m8 k8) ha0 ha1
  clear f6 f8 fb o68 o8 hb5 hb6 hb7 hb8
  go_wp2
  refine bodyPost_ret (v:=.agg #[.slice d6 m6 k6,.slice d8 m8 k8]) (by simp [results,Tryz.results76,go_sem,r.1,r.2]) rfl ?_
  exact ⟨_,_,rfl,HO.out.1,HO.out.2.1,HO.out.2.2⟩
set_option maxRecDepth 100000 in
set_option maxHeartbeats 1600000 in
theorem l3CopyF_any {S1 S2:Nat→Prop} (v1 v2:Value) (a:Asn) (w:World) (h1:RL w S1 v1 a.1) (h2:RL w S2 v2 a.2) (hs:asSz a) :
 Calls Tryz.prog 141 #[.agg #[v1,v2]] w fun e w'=>∃ x1 x2,e=.returned (.agg #[x1,x2])∧FE w' w.heap.size x1 a.1∧FE w' w.heap.size x2 a.2∧Below w.heap.size w w':=by
 obtain ⟨p1,c1,rfl⟩:=h1.form
 obtain ⟨p2,c2,rfl⟩:=h2.form
 have HS:=Lib.hid hs
 clear hs
 go_enter Tryz.func141,Tryz.ntmps141
 go_wp2_with fail
 refine (l3StarF_any _ _ _ _ a ([],[]) _ ((h1.alloc _).alloc _) ((h2.alloc _).alloc _) (RL.nil _ (fun _=>True)) (RL.nil _ (fun _=>True)) HS.out.1 HS.out.2 (by decide) (by decide)).mono ?_
 rintro e w1 ⟨x1,x2,rfl,r1,r2,hb⟩
 simp only [List.append_nil] at r1 r2
 obtain ⟨d1,m1,k1,rfl⟩:=r1.forms
 obtain ⟨d2,m2,k2,rfl⟩:=r2.forms
 have hA:=box_keep (heap_alloc_new (w.alloc (.cells #[.slice p1 a.1.length c1,.slice p2 a.2.length c2] 26)) (.cells #[.slice none 0 0,.slice none 0 0] 26)) hb
 rw [World.size_alloc] at hA
 have ha0:=box0 hA
 have ha1:=box1 hA
 have haz:∀ i,w1.frozen? ⟨w.heap.size+1,i,none⟩=false:=boxz hA
 have hlA:=box_lt hA
 have r:=box_two (.slice d1 m1 k1) (.slice d2 m2 k2) ha0 ha1
 have f1:=(r1.set2 (x:=.slice d1 m1 k1) (y:=.slice d2 m2 k2) hA (by decide)).mono (B':=w.heap.size) (by simp;omega)
 have f2:=(r2.set2 (x:=.slice d1 m1 k1) (y:=.slice d2 m2 k2) hA (by decide)).mono (B':=w.heap.size) (by simp;omega)
 have fb:=((bt (ba (below_alloc w _) _) hb).setCell (p:=⟨w.heap.size+1,0,none⟩) (by simp) (.slice d1 m1 k1)).setCell (p:=⟨w.heap.size+1,1,none⟩) (by simp) (.slice d2 m2 k2)
 have HO:=Lib.hid (And.intro f1 (And.intro f2 fb))
 clear f1 f2 fb r1 r2 hb hA
 go_wp2
 refine bodyPost_ret (v:=.agg #[.slice d1 m1 k1,.slice d2 m2 k2]) (by simp [results,Tryz.results141,go_sem,r.1,r.2]) rfl ?_
 exact ⟨_,_,rfl,HO.out.1,HO.out.2.1,HO.out.2.2⟩
set_option maxRecDepth 100000 in
set_option maxHeartbeats 3200000 in
theorem l1Mutate_any {S:Nat→Prop} (g q:Nat) (v:Value) (l:List Fact) (w:World) (hr:Rdr w g q) (hq:q≤1000000) (h:RL w S v l) (hl:l.length≤1048577) :
 Calls Tryz.prog 142 #[.pointer (some ⟨g,0,none⟩),v] w fun e w'=>∃ (v':Value) (l':List Fact),e=.returned v'∧l'.length≤l.length+13∧FE w' w.heap.size v' l'∧Rdr w' g (q+2)∧Fr (fun j=>j=g) w w':=by
 have hgl:=hr.lt
 obtain ⟨a,c,rfl⟩:=h.form
 go_enter Tryz.func142,Tryz.ntmps142
 go_wp2_with (at_builtin;go_must (refine app_F (l:=([]:List Fact)) (m:=l) (B:=w.heap.size) rfl (.tmp 6) (.tmp 7) _ rfl ti_fact rfl (FE.nil _ _ _) rfl (h.keep Bl) (by simp;omega) (by simp) ?_;intro v5 w5 o5 hb5';rw [List.nil_append] at o5;have hb5:Below w.heap.size w w5:=Below.trans Bl (tf_below hb5' (by simp));have hz5:=hb5.size;clear hb5'))
 obtain ⟨d5,m5,k5,rfl⟩:=o5.forms
 have hr5:=hr.keepB hb5 hgl
 have hF5:Fr (fun j=>j=g) w w5:=(Below.fr hb5).mono fun _ _ h=>h.elim
 have HO5:=Lib.hid o5
 clear hr h o5 hb5
 go_wp2_with fail
 refine (pick_any g q _ _ hr5 (by omega) (by decide) (by decide)).mono ?_
 rintro e w6 ⟨k,rfl,hk,hr6,hf6⟩
 have o6:=HO5.out.kept hf6 (fun j hj e=>by have:=hj.1;omega)
 have hF6:=hF5.trans hf6
 have hz6:w.heap.size≤w6.heap.size:=hF6.size
 have hg6:=hr6.lt
 have HF:=Lib.hid (And.intro o6 (And.intro hr6 hF6))
 clear hf6 hF5 hr5 o6 hr6 hF6 HO5
 by_cases k0:k=0
 · subst k0
   have hlit:=lit_ints w6 [-1,9,9223372036854775807] (by decide)
   have HLIT:=Lib.hid hlit
   clear hlit
   go_wp2_with fail
   refine (num_any g (q+1) _ [-1,9,9223372036854775807] _ (HF.out.2.1.keep (below_alloc _ _)) HLIT.out (by omega) (by decide) (by decide) (fun k hk e=>by simp [Value.ownBlock] at hk;omega)).mono ?_
   rintro e w7 ⟨x,_,rfl,hr7,hf7⟩
   have o7:=(HF.out.1.keep (below_alloc w6 _)).kept hf7 (fun j hj e=>by have:=hj.1;omega)
   have hF7:=(HF.out.2.2.thenB (below_alloc _ _)).trans hf7
   have hz7:w.heap.size≤w7.heap.size:=hF7.size
   have H7:=Lib.hid (And.intro hr7 hF7)
   clear hf7 HLIT HF hr7 hF7
   go_wp2_with (at_builtin;go_must (refine app_F (l:=l) (m:=[(false,x,0)]) (B:=w.heap.size) rfl (.tmp 13) (.tmp 18) _ rfl ti_fact rfl (o7.keep (below_alloc _ _)) rfl (lit_fact _ _ _ _ _) (by simp;omega) (by simp;omega) ?_;intro v8 w8 o8 hf8))
   go_ret
   exact ⟨_,_,rfl,by simp,o8,(H7.out.1.keep (below_alloc _ _)).kept hf8 (fun k hk e=>by have:=e.1;omega),(H7.out.2.thenB (below_alloc _ _)).then hf8 fun i hi e=>by have:=e.1;omega⟩
 · have kb0:((k:Int) == 0)=false:=by simp;omega
   by_cases k1:k=1
   · subst k1
     go_wp2
     go_loopg [5] (13 - l.length) (fun qq x wr=>∃ l':List Fact,qq=13 - l'.length∧l'.length≤l.length+13∧FE wr w.heap.size x l'∧Rdr wr g (q+1)∧Fr (fun j=>j=g) w wr)
     case atStart=>exact ⟨l,rfl,by omega,HF.out.1,HF.out.2.1,HF.out.2.2⟩
     case round =>
      obtain ⟨l',hq',hle,o,hr',hF⟩:=hrel
      obtain ⟨a',c',rfl⟩:=o.form
      have hz:w.heap.size≤wr.heap.size:=hF.size
      have HQ:=Lib.hid hq'
      have H7:=Lib.hid (And.intro hr' hF)
      clear hq' hr' hF
      by_cases h12:l'.length≤12
      · have hi:(l'.length:Int)≤12:=by omega
        go_wp2_with (at_builtin;go_must (refine app_F (l:=l') (m:=[(true,1,2)]) (B:=w.heap.size) rfl (.tmp 25) (.tmp 27) _ rfl ti_fact rfl (o.keep (below_alloc _ _)) rfl (lit_fact _ _ _ _ _) (by simp;omega) (by simp;omega) ?_;intro v8 w8 o8 hf8))
        go_roundg (13 - (l'.length+1))
        case rel=>exact ⟨l' ++ [(true,1,2)],by simp,by simp;omega,o8,(H7.out.1.keep (below_alloc _ _)).kept hf8 (fun k hk e=>by have:=e.1;omega),(H7.out.2.thenB (below_alloc _ _)).then hf8 fun i hi e=>by have:=e.1;omega⟩
        case measure=>have:=HQ.out;omega
      · have hi:(12:Int) < (l'.length:Int):=by omega
        have HO:=Lib.hid o
        clear o
        go_wp2
        go_ret
        exact ⟨_,l',rfl,hle,HO.out,H7.out.1.more (by omega),H7.out.2⟩
   · have kb1:((k:Int) == 1)=false:=by simp;omega
     go_wp2
     go_ret
     exact ⟨_,l,rfl,by omega,HF.out.1,HF.out.2.1.more (by omega),HF.out.2.2⟩
end Go.Proofs.YtkbbmjcfgcfejaaGreat
