/- Fam2: texts Star, Star2, Join in one. -/
import Derived.Test.YtkbbmjcfgcfejaaGreatLFam1
import Derived.Deep.RegionLaw
set_option linter.unusedVariables false
set_option linter.unusedSimpArgs false
set_option maxRecDepth 100000
set_option maxHeartbeats 12800000
namespace Go.Proofs.YtkbbmjcfgcfejaaGreat
open Go.RowKit
theorem RL.setB {α:Type} [Dat α] {w:World} {S:Nat→Prop} {v:Value} {l:List α} (h:RL w S v l) {p:Addr} {u:Value} (hp:∀ k,S k→¬ k=p.block):RL (w.setCell p u) S v l:=h.kept (Aw _ _ _) fun k _ h1 h2=>hp k h1 h2
theorem RL.forms {α:Type} [Dat α] {w:World} {S:Nat→Prop} {v:Value} {l:List α} (h:RL w S v l):∃ a n cap,v=.slice a n cap:=by obtain ⟨a,c,h⟩:=h.form;exact ⟨a,_,c,h⟩
theorem FH {S1 S2 S3 S4:Nat→Prop} (v1 v2 u1 u2:Value) (a b:Aj) (w:World) (h1:RL w S1 v1 a.1) (h2:RL w S2 v2 a.2) (k1:RL w S3 u1 b.1) (k2:RL w S4 u2 b.2)
 (n1:a.1.length≤1048576) (n2:a.2.length≤1048576) (n3:b.1.length≤1048576) (n4:b.2.length≤1048576) :
 Calls Tryz.prog 76 #[.agg #[v1,v2],.agg #[u1,u2]] w fun e w'=>∃ x1 x2,e=.returned (.agg #[x1,x2])∧RL w' (fun k=>w.heap.size≤k) x1 (a.1 ++ b.1)∧RL w' (fun k=>w.heap.size≤k) x2 (a.2 ++ b.2)∧Below w.heap.size w w':=by
 obtain ⟨a1,a2⟩:=a;obtain ⟨b1,b2⟩:=b;simp only at h1 h2 k1 k2 n1 n2 n3 n4;obtain ⟨p1,c1,rfl⟩:=h1.form;obtain ⟨p2,c2,rfl⟩:=h2.form;obtain ⟨p3,c3,rfl⟩:=k1.form;obtain ⟨p4,c4,rfl⟩:=k2.form;go_enter Tryz.func76,Tryz.ntmps76
 go_wp2;generalize hw0:(((w.alloc (.cells #[.slice p1 a1.length c1,.slice p2 a2.length c2] 26)).alloc (.cells #[.slice p3 b1.length c3,.slice p4 b2.length c4] 26)).alloc (.cells #[.slice none 0 0,.slice none 0 0] 26))=w0;have hc0:w0.cell? ⟨w.heap.size,0,none⟩=some (.slice p1 a1.length c1):=by rw [← hw0];simp [go_sem]
 have hc1:w0.cell? ⟨w.heap.size,1,none⟩=some (.slice p2 a2.length c2):=by rw [← hw0];simp [go_sem]
 have hd0:w0.cell? ⟨w.heap.size+1,0,none⟩=some (.slice p3 b1.length c3):=by rw [← hw0];simp [go_sem]
 have hd1:w0.cell? ⟨w.heap.size+1,1,none⟩=some (.slice p4 b2.length c4):=by rw [← hw0];simp [go_sem]
 have hA:w0.heap[w.heap.size+2]?=some (.cells #[.slice none 0 0,.slice none 0 0] 26 (0,0)):=by
  rw [← hw0];have:=heap_alloc_new ((w.alloc (.cells #[.slice p1 a1.length c1,.slice p2 a2.length c2] 26)).alloc (.cells #[.slice p3 b1.length c3,.slice p4 b2.length c4] 26)) (.cells #[.slice none 0 0,.slice none 0 0] 26);simpa using this
 have hz:w0.heap.size=w.heap.size+3:=by rw [← hw0];simp
 have hW:Below w.heap.size w w0:=by rw [← hw0];exact ba (ba (Aa _ _) _) _
 clear hw0;have HA:=Ad hA;have HZ:=Ad hz;have q1:=h1.keep hW;have q2:=h2.keep hW;have q3:=k1.keep hW;have q4:=k2.keep hW;clear hA hz h1 h2 k1 k2;go_region_held3 (fun w'=>(w'.cell? ⟨w.heap.size,0,none⟩=some (.slice p1 a1.length c1)∧w'.cell? ⟨w.heap.size,1,none⟩=some (.slice p2 a2.length c2))∧(w'.cell? ⟨w.heap.size+1,0,none⟩=some (.slice p3 b1.length c3)∧w'.cell? ⟨w.heap.size+1,1,none⟩=some (.slice p4 b2.length c4)))
  (exact ⟨⟨(Ck hc0),(Ck hc1)⟩,⟨(Ck hd0),(Ck hd1)⟩⟩)
  (first
    | (refine DG (l:=a1) (by rfl) (.tmp 5) (.tmp 7) _ (by rfl) A0 (by rfl) (by rfl) (q1.keep Bl) n1 ?_;intro B1 hB1 v5 w5 y1 r1 t1 hb5';have hle1:w0.heap.size≤B1:=(by rw [hB1];exact Below.size (w:=w0) (B:=w0.heap.size) Bl);have hle5:B1≤w5.heap.size:=(by rw [hB1];exact hb5'.size);have HB1:=Ad hB1;clear hB1;have hb5:Below w0.heap.size w0 w5:=Below.trans Bl (hb5'.mono hle1))
    | (refine Eo (l:=b1) (n:=a1.length) (by rfl) (.tmp 8) (.tmp 10) _ (by rfl) (B:=B1) A0 (by rfl) (r1.keep Bl) (by rfl) (q3.keep Bl) Om (Nat.le_trans hle5 (Below.size (w:=w5) (B:=w5.heap.size) Bl)) ?_;intro v6 w6 y2 r2 _ t2 hb6';have hb6:Below w0.heap.size w0 w6:=Below.trans Bl (hb6'.mono hle1);have rl6:=Fe r2 r1.len t1 t2;obtain ⟨d6,m6,k6,rfl⟩:=rl6.forms)
    | (refine DG (l:=a2) (by rfl) (.tmp 12) (.tmp 14) _ (by rfl) A3 (by rfl) (by rfl) (q2.keep Bl) n2 ?_;intro B2 hB2 v7 w7 y3 r3 t3 hb7';have hle2:w0.heap.size≤B2:=(by rw [hB2];exact Below.size (w:=w0) (B:=w0.heap.size) Bl);have hle26:w6.heap.size≤B2:=(by rw [hB2];exact Below.size (w:=w6) (B:=w6.heap.size) Bl);have hle7:B2≤w7.heap.size:=(by rw [hB2];exact hb7'.size);have HB2:=Ad hB2;clear hB2;have hb7:Below w0.heap.size w0 w7:=Below.trans Bl (hb7'.mono hle2);have hb67:Below w6.heap.size w6 w7:=Below.trans Bl (hb7'.mono hle26))
    | (refine Eo (l:=b2) (n:=a2.length) (by rfl) (.tmp 15) (.tmp 17) _ (by rfl) (B:=B2) A3 (by rfl) (r3.keep Bl) (by rfl) (q4.keep Bl) Om (Nat.le_trans hle7 (Below.size (w:=w7) (B:=w7.heap.size) Bl)) ?_;intro v8 w8 y4 r4 _ t4 hb8';have hb8:Below w0.heap.size w0 w8:=Below.trans Bl (hb8'.mono hle2);have hb68:Below w6.heap.size w6 w8:=Below.trans Bl (hb8'.mono hle26);have rl8:=Fe r4 r3.len t3 t4;obtain ⟨d8,m8,k8,rfl⟩:=rl8.forms;have hA8:=Ac HA.o hb8;have ha0:=Bd hA8;have ha1:=AY hA8;have haz:∀ i,w8.frozen? ⟨w.heap.size+2,i,none⟩=false:=BI hA8;have hlA:=Ae hA8;clear hA8))
 all_goals
  have hz0:=HZ.o;have f6:=(((rl6.keep hb68).setB (p:=⟨w.heap.size+2,0,none⟩) (u:=.slice d6 m6 k6) (fun k h e=>by simp at e;omega)).setB (p:=⟨w.heap.size+2,1,none⟩) (u:=.slice d8 m8 k8) (fun k h e=>by simp at e;omega)).more (S':=fun k=>w.heap.size≤k) fun k _ h=>by omega
  have f8:=((rl8.setB (p:=⟨w.heap.size+2,0,none⟩) (u:=.slice d6 m6 k6) (fun k h e=>by simp at e;omega)).setB (p:=⟨w.heap.size+2,1,none⟩) (u:=.slice d8 m8 k8) (fun k h e=>by simp at e;omega)).more (S':=fun k=>w.heap.size≤k) fun k _ h=>by omega
  have fb:=((bt hW hb8).setCell (p:=⟨w.heap.size+2,0,none⟩) Sp (.slice d6 m6 k6)).setCell (p:=⟨w.heap.size+2,1,none⟩) Sp (.slice d8 m8 k8);have HO:=Ad (An f6 (An f8 fb));have r:=Au (.slice d6 m6 k6) (.slice d8 m8 k8) ha0 ha1;clear f6 f8 fb rl6 rl8 r1 r2 r3 r4 t1 t2 t3 t4 hb5 hb5' hb6 hb6' hb7 hb7' hb8 hb8' hb67 hb68;go_wp2;refine bodyPost_ret (v:=.agg #[.slice d6 m6 k6,.slice d8 m8 k8]) (by simp [results,Tryz.results76,go_sem,r.1,r.2]) rfl ?_;exact ⟨_,_,rfl,HO.o.1,HO.o.2.1,HO.o.2.2⟩
section
variable {α:Type} [Dat α] {w w':World} {B:Nat} {e:TypeId} {v v':Value} {l m:List α} {xs ys:List Value}
end
def Hg (a:Aj):Prop:=a.1.length≤1048576∧a.2.length≤1048576
theorem Px {S1 S2:Nat→Prop} (v1 v2:Value) (a:Aj) (w:World) (h1:RL w S1 v1 a.1) (h2:RL w S2 v2 a.2) (hs:Hg a) :
 Calls Tryz.prog 141 #[.agg #[v1,v2]] w fun e w'=>∃ x1 x2,e=.returned (.agg #[x1,x2])∧RL w' (fun k=>w.heap.size≤k) x1 a.1∧RL w' (fun k=>w.heap.size≤k) x2 a.2∧Below w.heap.size w w':=by
 obtain ⟨p1,c1,rfl⟩:=h1.form;obtain ⟨p2,c2,rfl⟩:=h2.form;have HS:=Ad hs;clear hs;go_enter Tryz.func141,Tryz.ntmps141
 go_wp2_with fail
 refine (FH _ _ _ _ a ([],[]) _ ((h1.alloc _).alloc _) ((h2.alloc _).alloc _) (RL.nil _ (fun _=>True)) (RL.nil _ (fun _=>True)) HS.o.1 HS.o.2 Dc Dc).mono ?_;rintro e w1 ⟨x1,x2,rfl,r1,r2,hb⟩;simp only [List.append_nil] at r1 r2;obtain ⟨d1,m1,k1,rfl⟩:=r1.forms;obtain ⟨d2,m2,k2,rfl⟩:=r2.forms;have hA:=Ac (heap_alloc_new (w.alloc (.cells #[.slice p1 a.1.length c1,.slice p2 a.2.length c2] 26)) (.cells #[.slice none 0 0,.slice none 0 0] 26)) hb;rw [World.size_alloc] at hA;have ha0:=Bd hA;have ha1:=AY hA;have haz:∀ i,w1.frozen? ⟨w.heap.size+1,i,none⟩=false:=BI hA;have hlA:=Ae hA;have r:=Au (.slice d1 m1 k1) (.slice d2 m2 k2) ha0 ha1;have f1:=((r1.setB (p:=⟨w.heap.size+1,0,none⟩) (u:=.slice d1 m1 k1) (fun k h e=>by simp at h e;omega)).setB (p:=⟨w.heap.size+1,1,none⟩) (u:=.slice d2 m2 k2) (fun k h e=>by simp at h e;omega)).more (S':=fun k=>w.heap.size≤k) fun k _ h=>by simp at h;omega
 have f2:=((r2.setB (p:=⟨w.heap.size+1,0,none⟩) (u:=.slice d1 m1 k1) (fun k h e=>by simp at h e;omega)).setB (p:=⟨w.heap.size+1,1,none⟩) (u:=.slice d2 m2 k2) (fun k h e=>by simp at h e;omega)).more (S':=fun k=>w.heap.size≤k) fun k _ h=>by simp at h;omega
 have fb:=((bt (ba (Aa w _) _) hb).setCell (p:=⟨w.heap.size+1,0,none⟩) Sp (.slice d1 m1 k1)).setCell (p:=⟨w.heap.size+1,1,none⟩) Sp (.slice d2 m2 k2);have HO:=Ad (An f1 (An f2 fb));clear f1 f2 fb r1 r2 hb hA;go_wp2;refine bodyPost_ret (v:=.agg #[.slice d1 m1 k1,.slice d2 m2 k2]) (by simp [results,Tryz.results141,go_sem,r.1,r.2]) rfl ?_;exact ⟨_,_,rfl,HO.o.1,HO.o.2.1,HO.o.2.2⟩
section
variable {w:World} {b:Nat} {T:TypeId} {x y z:Value}
theorem Lp (h:w.heap[b]?=some (.cells #[x,y,z] T (0,0))):w.cell? ⟨b,0,none⟩=some x:=cell_of_row w b 0 _ _ _ h
theorem JZ (h:w.heap[b]?=some (.cells #[x,y,z] T (0,0))):w.cell? ⟨b,1,none⟩=some y:=cell_of_row w b 1 _ _ _ h
theorem J0 (h:w.heap[b]?=some (.cells #[x,y,z] T (0,0))):w.cell? ⟨b,2,none⟩=some z:=cell_of_row w b 2 _ _ _ h
end
structure DA (w0 w:World) (g q bR bA:Nat) (v1 v2:Value) (l1:List Ap) (l2:List Am):Prop where
 f:FE w w0.heap.size v1 l1
 a:FE w w0.heap.size v2 l2
 boxR:w.heap[bR]?=some (.cells #[.slice none 0 0,.slice none 0 0] 26 (0,0))
 boxA:w.heap[bA]?=some (.cells #[v1,v2] 26 (0,0))
 rdr:WI w g q
 fr:Fr (fun j=>j=g) w0 w
section
variable {w0 w w':World} {g q q' bR bA:Nat} {v1 v2 v':Value} {l1 m1:List Ap} {l2 m2:List Am}
end
end Go.Proofs.YtkbbmjcfgcfejaaGreat
namespace Go.Proofs.YtkbbmjcfgcfejaaGreat
open Go
section
variable {P:Program} {ops:Array Oper} {Q:Exit→Act→World→Prop} {md:Region.Mode} {S T:World→Prop} {dep:List Nat}
def Early (dep:List Nat) (listed:Array Bool):Prop:=∀ k ∈ dep,listed.getD k true=false
theorem Early.of_set {i:Nat} {listed:Array Bool} (h:Early dep (listed.setIfInBounds i true)) (hi:i ∉ dep):Early dep listed:=fun k hk=>by
 have:=h k hk;rwa [getD_set_ne true (fun e=>hi (by rw [e];exact hk))] at this
theorem Early.set {i:Nat} {listed:Array Bool} (h:Early dep listed) (hi:i ∉ dep):Early dep (listed.setIfInBounds i true):=fun k hk=>by
 rw [getD_set_ne true (fun e=>hi (by rw [e];exact hk))];exact h k hk
def DJ (P:Program) (md:Region.Mode) (ops:Array Oper) (Q:Exit→Act→World→Prop) (S:World→Prop) (dep:List Nat):Nat→Array Bool→Act→World→Prop
 | 0,listed,a,w=>Region.ready md ops listed=[]∧Q .normal a w
 | fuel+1,listed,a,w=>(Region.ready md ops listed=[]→Q .normal a w) ∧
   ∀ i ∈ Region.ready md ops listed,wpOp P ops Q i (fun a' w'=>(Early dep (listed.setIfInBounds i true)→S w')∧DJ P md ops Q S dep fuel (listed.setIfInBounds i true) a' w') a w
theorem G3:∀ (fuel:Nat) (listed:Array Bool) (a:Act) (w:World),DJ P md ops Q S dep fuel listed a w→wpAny P md ops Q fuel listed a w
 | 0,_,_,_,h=>h
 | fuel+1,_,_,_,h=>⟨h.1,fun i hi=>wpOp_mono (fun a' w' h'=>G3 fuel _ a' w' h'.2) (h.2 i hi)⟩
theorem Id {i:Nat} {oi:Oper} {v:Value} (hi:ops[i]?=some oi) (hsel:∀ (j:Nat) (o:Oper) cs b,ops[j]?=some o→o.op ≠ .select cs b)
 (hQ:∀ c a w,Q (.panic c) (a.put oi.dst v) w→Q (.panic c) a w) (hid:i ∉ dep) (Inv:Array Bool→Prop)
 (hinv:∀ (listed:Array Bool) (j:Nat) (w':World),Inv listed→i ∈ Region.ready md ops listed→j ∈ Region.ready md ops listed→j ≠ i→(Early dep (listed.setIfInBounds j true)→S w')→Inv (listed.setIfInBounds j true)∧T w') :
 ∀ (fuel:Nat) (listed:Array Bool) (a:Act) (w:World),
   (∀ j oj,ops[j]?=some oj→j ≠ i→listed.getD j true=false→(∀ e ∈ oj.after,Region.binds md e=true→e.on ≠ i)→oi.apart ops oj=true) →
   i ∈ Region.ready md ops listed→Inv listed→YieldsIf P ops T oi v a→T w→(Early dep listed→S w) →
   DJ P md ops Q S dep fuel (listed.setIfInBounds i true) (a.put oi.dst v) w→DJ P md ops Q S dep (fuel+1) listed a w:=by
 intro fuel;induction fuel with
 | zero =>
   intro listed a w _ hr _ hy hT hS H;refine ⟨fun h=>(by rw [h] at hr;cases hr),fun j hj=>?_⟩;by_cases hji:j=i
   · subst hji;exact hy.wpOp hi hT ⟨fun h=>hS (h.of_set hid),H⟩
   · have:=ready_mono hj hji
     rw [H.1] at this;cases this
 | succ fuel ih =>
   intro listed a w hfree hr hI hy hT hS H;refine ⟨fun h=>(by rw [h] at hr;cases hr),fun j hj=>?_⟩;by_cases hji:j=i
   · subst hji;exact hy.wpOp hi hT ⟨fun h=>hS (h.of_set hid),H⟩
   · have h1:=H.2 j (ready_mono hj hji)
     obtain ⟨hjun,oj,hoj,hall⟩:=mem_ready.1 hj;have hnot:∀ e ∈ oj.after,Region.binds md e=true→e.on ≠ i:=fun e he hb heq=>by
      have h2:=hall e he hb;rw [heq] at h2;have h0:=(mem_ready.1 hr).1;rcases Nat.lt_or_ge i listed.size with h' | h'
      · simp [h'] at h0 h2;rw [h0] at h2;cases h2
      · simp [Array.getElem?_eq_none h'] at h2
     have h2:=wpOp_putIf hoj (hfree j oj hoj hji hjun hnot) (fun cs b=>hsel i oi cs b hi) (fun cs b=>hsel j oj cs b hoj) hQ hy h1;have hfree':∀ k ok,ops[k]?=some ok→k ≠ i→(listed.setIfInBounds j true).getD k true=false →
      (∀ e ∈ ok.after,Region.binds md e=true→e.on ≠ i)→oi.apart ops ok=true:=fun k ok hk hki hun hno=>by
      refine hfree k ok hk hki ?_ hno;by_cases hjk:j=k
      · subst hjk;exact hjun
      · rw [getD_set_ne true hjk] at hun;exact hun
     refine wpOp_mono (fun a' w' h3=>?_) h2;have hE:Early dep (listed.setIfInBounds j true)→S w':=fun he=>h3.2.1 (by
      rw [Array.setIfInBounds_comm _ _ (Ne.symm hji)];exact he.set hid)
     obtain ⟨hI',hT'⟩:=hinv listed j w' hI hr hj hji hE;refine ⟨hE,ih (listed.setIfInBounds j true) a' w' hfree' (ready_mono hr (Ne.symm hji)) hI' h3.1 hT' hE ?_⟩;rw [Array.setIfInBounds_comm _ _ hji];exact h3.2.2
def Vo (md:Region.Mode) (ops:Array Oper) (dep:List Nat) (i:Nat):Bool :=
 !dep.contains i && dep.all fun k=>match ops[k]? with
  | some ok=>ok.after.any fun e=>Region.binds md e && (e.on == i || dep.contains e.on)
  | none=>false
def MK (dep:List Nat) (listed:Array Bool):Bool:=dep.all fun k=>!listed.getD k true
theorem BC {listed:Array Bool} (h:MK dep listed=true):Early dep listed:=fun k hk=>by
 have:=(List.all_eq_true.1 h) k hk;simpa using this
theorem Ko {i:Nat} {listed:Array Bool} (h:listed.getD i true=false) (h2:listed.getD i false=true):False:=by
 rcases Nat.lt_or_ge i listed.size with h' | h'
 · simp [h'] at h h2;rw [h] at h2;cases h2
 · simp [Array.getElem?_eq_none h'] at h
def UI (md:Region.Mode) (ops:Array Oper) (i:Nat):List Nat :=
 (List.range ops.size).foldl (fun C k=>match ops[k]? with
   | some ok=>if ok.after.any fun e=>Region.binds md e && (e.on == i || C.contains e.on) then k :: C else C
   | none=>C) []
def Vp (md:Region.Mode) (ops:Array Oper) (dep:List Nat) (i:Nat):Bool :=
 !dep.contains i && (dep.all fun k=>(UI md ops i).contains k) && Vo md ops (UI md ops i) i
theorem AW {i:Nat} {oi:Oper} {v:Value} {fuel:Nat} {listed:Array Bool} {a:Act} {w:World} (hi:ops[i]?=some oi)
 (hs:Region.noSelect ops=true) (hf:Region.free md ops listed i=true) (hr:(Region.ready md ops listed).contains i=true) (hl:Vp md ops dep i=true) (he:MK (UI md ops i) listed=true)
 (hQ:∀ c a w,Q (.panic c) (a.put oi.dst v) w→Q (.panic c) a w) (hy:YieldsIf P ops S oi v a) (hS:S w)
 (h:DJ P md ops Q S dep fuel (listed.setIfInBounds i true) (a.put oi.dst v) w):DJ P md ops Q S dep (fuel+1) listed a w:=by
 rw [Vp,Bool.and_eq_true,Bool.and_eq_true] at hl;obtain ⟨⟨hid0,hsub⟩,hlb⟩:=hl;have hid:i ∉ dep:=by simpa using hid0
 generalize UI md ops i=C at *;rw [Vo,Bool.and_eq_true] at hlb;have hsub':∀ l:Array Bool,Early C l→Early dep l:=fun l hE k hk=>hE k (by simpa using (List.all_eq_true.1 hsub) k hk);refine Id (T:=S) hi (Region.noSelect_spec hs) hQ hid (Early C) (fun listed j w' hI hir hjr hji hE=>?_) fuel listed a w (Region.free_spec hi hf) (by simpa using hr) (BC he) hy hS (fun _=>hS) h;have hjd:j ∉ C:=fun hjd=>by
  have h1:=(List.all_eq_true.1 hlb.2) j hjd;obtain ⟨hjun,oj,hoj,hall⟩:=mem_ready.1 hjr;rw [hoj] at h1;obtain ⟨e,hee,hb⟩:=Array.any_eq_true'.1 h1;rw [Bool.and_eq_true,Bool.or_eq_true,beq_iff_eq] at hb;have h2:=hall e hee hb.1;rcases hb.2 with h3 | h3
  · rw [h3] at h2;exact Ko (mem_ready.1 hir).1 h2
  · exact Ko (hI e.on (by simpa using h3)) h2
 exact ⟨hI.set hjd,hE (hsub' _ (hI.set hjd))⟩
theorem Ao {i:Nat} {oi:Oper} {v:Value} {fuel:Nat} {listed:Array Bool} {a:Act} {w:World} (hi:ops[i]?=some oi)
 (hs:Region.noSelect ops=true) (hf:Region.free md ops listed i=true) (hr:(Region.ready md ops listed).contains i=true) (hid:dep.contains i=false)
 (hQ:∀ c a w,Q (.panic c) (a.put oi.dst v) w→Q (.panic c) a w) (hy:YieldsIf P ops (fun _=>True) oi v a) (hS:Early dep listed→S w)
 (h:(Early dep (listed.setIfInBounds i true)→S w)→DJ P md ops Q S dep fuel (listed.setIfInBounds i true) (a.put oi.dst v) w):DJ P md ops Q S dep (fuel+1) listed a w:=by
 have hid':i ∉ dep:=by simpa using hid
 exact Id (T:=fun _=>True) hi (Region.noSelect_spec hs) hQ hid' (fun _=>True) (fun _ _ _ _ _ _ _ _=>⟨trivial,trivial⟩) fuel listed a w (Region.free_spec hi hf) (by simpa using hr) trivial hy trivial hS (h fun he=>hS (he.of_set hid'))
def AllReadyD (P:Program) (md:Region.Mode) (ops:Array Oper) (Q:Exit→Act→World→Prop) (S:World→Prop) (dep:List Nat) (fuel:Nat) (listed:Array Bool) (a:Act) (w:World) (rs:List Nat):Prop :=
 ∀ i ∈ rs,wpOp P ops Q i (fun a' w'=>(Early dep (listed.setIfInBounds i true)→S w')∧DJ P md ops Q S dep fuel (listed.setIfInBounds i true) a' w') a w
theorem AllReadyD.nil {fuel:Nat} {listed:Array Bool} {a:Act} {w:World}:AllReadyD P md ops Q S dep fuel listed a w []:=fun _ h=>by cases h
theorem AllReadyD.cons {fuel:Nat} {listed:Array Bool} {a:Act} {w:World} {i:Nat} {o:Oper} {rs:List Nat} (ho:ops[i]?=some o)
 (h:∀ K':Act→World→Prop,Shut (∀ a w,(Early dep (listed.setIfInBounds i true)→S w)→((Early dep (listed.setIfInBounds i true)→S w)→DJ P md ops Q S dep fuel (listed.setIfInBounds i true) a w)→K' a w)→if Region.wanted o (yielded ops a.tmps)=true then Oper.wp P o a w K' Q else K' (a.put o.dst undef) w)
 (hs:AllReadyD P md ops Q S dep fuel listed a w rs):AllReadyD P md ops Q S dep fuel listed a w (i :: rs):=fun j hj=>by
 rcases List.mem_cons.1 hj with rfl | hj
 · exact wpOp_step ho (fun K' hK=>h K' (fun a w hS hW=>hK a w ⟨hS,hW hS⟩))
 · exact hs j hj
theorem AK {rs:List Nat} {fuel:Nat} {listed:Array Bool} {a:Act} {w:World} (hr:Region.ready md ops listed=rs) (hne:rs ≠ [])
 (h:AllReadyD P md ops Q S dep fuel listed a w rs):DJ P md ops Q S dep (fuel+1) listed a w:=⟨fun h0=>absurd (hr ▸ h0) hne,hr ▸ h⟩
theorem Db {listed:Array Bool} {a:Act} {w:World} (hr:Region.ready md ops listed=[]) (h:Q .normal a w) :
 ∀ fuel,DJ P md ops Q S dep fuel listed a w
 | 0=>⟨hr,h⟩
 | _+1=>⟨fun _=>h,by rw [hr];simp⟩
theorem Cj {id:Nat} {a:Act} {w:World} (hm:P.follows .mixedOrders=true) (hS:S w.drew)
 (h:(Early dep (Array.replicate ops.size false)→S w.drew)→DJ P .any ops Q S dep ops.size (Array.replicate ops.size false) a w.drew):(Code.region id ops true).wp P Q a w :=
 wp_region_any hm (G3 _ _ _ _ (h fun _=>hS))
theorem Dd {p:Prop} {i:Nat} {listed:Array Bool} (h:MK dep (listed.setIfInBounds i true)=false):Early dep (listed.setIfInBounds i true)→p:=fun he=>by
 rw [show MK dep (listed.setIfInBounds i true)=true from List.all_eq_true.2 fun k hk=>by rw [he k hk];rfl] at h;cases h
end
end Go.Proofs.YtkbbmjcfgcfejaaGreat
namespace Go.Proofs.YtkbbmjcfgcfejaaGreat
open Go.RowKit
theorem AG {w w':World} {B:Nat} {e:TypeId} (h:Fr (TF w B e) w w') (hB:B≤w.heap.size):Below B w w':=h.below hB fun k hk h2=>by have:=h2.1;omega
theorem FE.set2 {α:Type} [Flat α] [Tid α] {w:World} {B b:Nat} {v x y:Value} {l:List α} {T:TypeId} {cs:Array Value} (h:FE w B v l) (hb:w.heap[b]?=some (.cells cs T (0,0))) (hT:T ≠ Tid.tid α) :
 FE ((w.setCell ⟨b,0,none⟩ x).setCell ⟨b,1,none⟩ y) B v l:=by
 refine (h.setB (fun hk=>Ge hb hT hk)).setB fun hk=>?_;refine hk.2.elim fun cs2 hc=>?_;have hlt:=(Array.getElem?_eq_some_iff.1 hb).1;have hb2:(w.setCell ⟨b,0,none⟩ x).heap[b]?=some (.cells (cs.setIfInBounds 0 x) T (0,0)):=by
  simp [World.setCell,Array.getElem?_modify,hb]
 simp only at hc;rw [hb2] at hc;injection hc with hc
 injection hc with _ hc
 exact hT hc
theorem DU {S1 S2 S3 S4:Nat→Prop} (v1 v2 u1 u2:Value) (a b:Aj) (w:World) (h1:RL w S1 v1 a.1) (h2:RL w S2 v2 a.2) (k1:RL w S3 u1 b.1) (k2:RL w S4 u2 b.2)
 (n1:a.1.length≤1048576) (n2:a.2.length≤1048576) (n3:b.1.length≤1048576) (n4:b.2.length≤1048576) :
 Calls Tryz.prog 76 #[.agg #[v1,v2],.agg #[u1,u2]] w fun e w'=>∃ x1 x2,e=.returned (.agg #[x1,x2])∧FE w' w.heap.size x1 (a.1 ++ b.1)∧FE w' w.heap.size x2 (a.2 ++ b.2)∧Below w.heap.size w w':=by
 obtain ⟨a1,a2⟩:=a;obtain ⟨b1,b2⟩:=b;simp only at h1 h2 k1 k2 n1 n2 n3 n4;obtain ⟨p1,c1,rfl⟩:=h1.form;obtain ⟨p2,c2,rfl⟩:=h2.form;obtain ⟨p3,c3,rfl⟩:=k1.form;obtain ⟨p4,c4,rfl⟩:=k2.form;go_enter Tryz.func76,Tryz.ntmps76
 go_wp2;generalize hw0:(((w.alloc (.cells #[.slice p1 a1.length c1,.slice p2 a2.length c2] 26)).alloc (.cells #[.slice p3 b1.length c3,.slice p4 b2.length c4] 26)).alloc (.cells #[.slice none 0 0,.slice none 0 0] 26))=w0;have hc0:w0.cell? ⟨w.heap.size,0,none⟩=some (.slice p1 a1.length c1):=by rw [← hw0];simp [go_sem]
 have hc1:w0.cell? ⟨w.heap.size,1,none⟩=some (.slice p2 a2.length c2):=by rw [← hw0];simp [go_sem]
 have hd0:w0.cell? ⟨w.heap.size+1,0,none⟩=some (.slice p3 b1.length c3):=by rw [← hw0];simp [go_sem]
 have hd1:w0.cell? ⟨w.heap.size+1,1,none⟩=some (.slice p4 b2.length c4):=by rw [← hw0];simp [go_sem]
 have hA:w0.heap[w.heap.size+2]?=some (.cells #[.slice none 0 0,.slice none 0 0] 26 (0,0)):=by
  rw [← hw0];have:=heap_alloc_new ((w.alloc (.cells #[.slice p1 a1.length c1,.slice p2 a2.length c2] 26)).alloc (.cells #[.slice p3 b1.length c3,.slice p4 b2.length c4] 26)) (.cells #[.slice none 0 0,.slice none 0 0] 26);simpa using this
 have hz:w0.heap.size=w.heap.size+3:=by rw [← hw0];simp
 have hW:Below w.heap.size w w0:=by rw [← hw0];exact ba (ba (Aa _ _) _) _
 clear hw0;have HA:=Ad hA;have HZ:=Ad hz;have q1:=h1.keep hW;have q2:=h2.keep hW;have q3:=k1.keep hW;have q4:=k2.keep hW;clear hA hz h1 h2 k1 k2;go_region_held3 (fun w'=>(w'.cell? ⟨w.heap.size,0,none⟩=some (.slice p1 a1.length c1)∧w'.cell? ⟨w.heap.size,1,none⟩=some (.slice p2 a2.length c2))∧(w'.cell? ⟨w.heap.size+1,0,none⟩=some (.slice p3 b1.length c3)∧w'.cell? ⟨w.heap.size+1,1,none⟩=some (.slice p4 b2.length c4)))
  (exact ⟨⟨(Ck hc0),(Ck hc1)⟩,⟨(Ck hd0),(Ck hd1)⟩⟩)
  (first
    | (refine DH (l:=([]:List Ap)) (m:=a1) (B:=w0.heap.size) (by rfl) (.tmp 5) (.tmp 7) _ (by rfl) A0 (by rfl) (FE.nil _ _ _) (by rfl) (q1.keep Bl) (by simp;omega) (Below.size (w:=w0) (B:=w0.heap.size) Bl) ?_;intro v5 w5 o5 hb5';rw [List.nil_append] at o5;have hz5:w0.heap.size≤w5.heap.size:=Nat.le_trans (Below.size (w:=w0) (B:=w0.heap.size) Bl) hb5'.size;have hb5:Below w0.heap.size w0 w5:=Below.trans Bl (AG hb5' (Below.size (w:=w0) (B:=w0.heap.size) Bl));clear hb5')
    | (refine DH (l:=a1) (m:=b1) (B:=w0.heap.size) (by rfl) (.tmp 8) (.tmp 10) _ (by rfl) A0 (by rfl) (o5.keep Bl) (by rfl) (q3.keep Bl) Om (Below.size (w:=w0) (B:=w0.heap.size) Bl) ?_;intro v6 w6 o6 hb6';have hb6:Below w0.heap.size w0 w6:=Below.trans Bl (AG hb6' (Below.size (w:=w0) (B:=w0.heap.size) Bl));clear hb6';clear o5;obtain ⟨d6,m6,k6,rfl⟩:=o6.forms)
    | (refine DH (l:=([]:List Am)) (m:=a2) (B:=w0.heap.size) (by rfl) (.tmp 12) (.tmp 14) _ (by rfl) A3 (by rfl) (FE.nil _ _ _) (by rfl) (q2.keep Bl) (by simp;omega) (Below.size (w:=w0) (B:=w0.heap.size) Bl) ?_;intro v7 w7 o7 hb7';rw [List.nil_append] at o7;have o67:=(o6.keep Bl).tf hb7' Dc;clear o6;have hb7:Below w0.heap.size w0 w7:=Below.trans Bl (AG hb7' (Below.size (w:=w0) (B:=w0.heap.size) Bl));clear hb7')
    | (refine DH (l:=a2) (m:=b2) (B:=w0.heap.size) (by rfl) (.tmp 15) (.tmp 17) _ (by rfl) A3 (by rfl) (o7.keep Bl) (by rfl) (q4.keep Bl) Om (Below.size (w:=w0) (B:=w0.heap.size) Bl) ?_;intro v8 w8 o8 hb8';have o68:=(o67.keep Bl).tf hb8' Dc;have hb8:Below w0.heap.size w0 w8:=Below.trans Bl (AG hb8' (Below.size (w:=w0) (B:=w0.heap.size) Bl));clear hb8' o67 o7;obtain ⟨d8,m8,k8,rfl⟩:=o8.forms;have hA8:=Ac HA.o hb8;have ha0:=Bd hA8;have ha1:=AY hA8;have haz:∀ i,w8.frozen? ⟨w.heap.size+2,i,none⟩=false:=BI hA8;have hlA:=Ae hA8;have HA8:=Ad hA8;clear hA8))
 all_goals
  have hz0:=HZ.o;have f6:=(o68.set2 (x:=.slice d6 m6 k6) (y:=.slice d8 m8 k8) HA8.o Dc).mono (B':=w.heap.size) Om;have f8:=(o8.set2 (x:=.slice d6 m6 k6) (y:=.slice d8 m8 k8) HA8.o Dc).mono (B':=w.heap.size) Om;have fb:=((bt hW hb8).setCell (p:=⟨w.heap.size+2,0,none⟩) Sp (.slice d6 m6 k6)).setCell (p:=⟨w.heap.size+2,1,none⟩) Sp (.slice d8 m8 k8);have HO:=Ad (An f6 (An f8 fb));have r:=Au (.slice d6 m6 k6) (.slice d8 m8 k8) ha0 ha1;clear f6 f8 fb o68 o8 hb5 hb6 hb7 hb8;go_wp2;refine bodyPost_ret (v:=.agg #[.slice d6 m6 k6,.slice d8 m8 k8]) (by simp [results,Tryz.results76,go_sem,r.1,r.2]) rfl ?_;exact ⟨_,_,rfl,HO.o.1,HO.o.2.1,HO.o.2.2⟩
theorem Gg {S1 S2:Nat→Prop} (v1 v2:Value) (a:Aj) (w:World) (h1:RL w S1 v1 a.1) (h2:RL w S2 v2 a.2) (hs:Hg a) :
 Calls Tryz.prog 141 #[.agg #[v1,v2]] w fun e w'=>∃ x1 x2,e=.returned (.agg #[x1,x2])∧FE w' w.heap.size x1 a.1∧FE w' w.heap.size x2 a.2∧Below w.heap.size w w':=by
 obtain ⟨p1,c1,rfl⟩:=h1.form;obtain ⟨p2,c2,rfl⟩:=h2.form;have HS:=Ad hs;clear hs;go_enter Tryz.func141,Tryz.ntmps141
 go_wp2_with fail
 refine (DU _ _ _ _ a ([],[]) _ ((h1.alloc _).alloc _) ((h2.alloc _).alloc _) (RL.nil _ (fun _=>True)) (RL.nil _ (fun _=>True)) HS.o.1 HS.o.2 Dc Dc).mono ?_;rintro e w1 ⟨x1,x2,rfl,r1,r2,hb⟩;simp only [List.append_nil] at r1 r2;obtain ⟨d1,m1,k1,rfl⟩:=r1.forms;obtain ⟨d2,m2,k2,rfl⟩:=r2.forms;have hA:=Ac (heap_alloc_new (w.alloc (.cells #[.slice p1 a.1.length c1,.slice p2 a.2.length c2] 26)) (.cells #[.slice none 0 0,.slice none 0 0] 26)) hb;rw [World.size_alloc] at hA;have ha0:=Bd hA;have ha1:=AY hA;have haz:∀ i,w1.frozen? ⟨w.heap.size+1,i,none⟩=false:=BI hA;have hlA:=Ae hA;have r:=Au (.slice d1 m1 k1) (.slice d2 m2 k2) ha0 ha1;have f1:=(r1.set2 (x:=.slice d1 m1 k1) (y:=.slice d2 m2 k2) hA Dc).mono (B':=w.heap.size) (by simp;omega);have f2:=(r2.set2 (x:=.slice d1 m1 k1) (y:=.slice d2 m2 k2) hA Dc).mono (B':=w.heap.size) (by simp;omega);have fb:=((bt (ba (Aa w _) _) hb).setCell (p:=⟨w.heap.size+1,0,none⟩) Sp (.slice d1 m1 k1)).setCell (p:=⟨w.heap.size+1,1,none⟩) Sp (.slice d2 m2 k2);have HO:=Ad (An f1 (An f2 fb));clear f1 f2 fb r1 r2 hb hA;go_wp2;refine bodyPost_ret (v:=.agg #[.slice d1 m1 k1,.slice d2 m2 k2]) (by simp [results,Tryz.results141,go_sem,r.1,r.2]) rfl ?_;exact ⟨_,_,rfl,HO.o.1,HO.o.2.1,HO.o.2.2⟩
theorem J1 {w:World} {C:Nat} {cs:Array Value} {T:TypeId} (h:w.heap[C]?=some (.cells cs T (0,0))) (i:Nat) (v:Value):(w.setCell ⟨C,i,none⟩ v).heap[C]?=some (.cells (cs.setIfInBounds i v) T (0,0)):=by
 rw [heap_setCell_same w C i _ T v h]
theorem GH {w w':World} {B:Nat} (h:Below B w w') (p:Addr) (v:Value) (hp:B≤p.block):Below B w (w'.setCell p v):=Below.setCell h hp v
end Go.Proofs.YtkbbmjcfgcfejaaGreat
namespace Go.Proofs.YtkbbmjcfgcfejaaGreat
open Go.RowKit
theorem UJ:(⟨#[101,110,100]⟩:ByteArray)=Fg [101,110,100]:=rfl
theorem SW:(⟨#[101,108,115,101]⟩:ByteArray)=Fg [101,108,115,101]:=rfl
attribute [local go_sem] UJ SW
end Go.Proofs.YtkbbmjcfgcfejaaGreat
namespace Go.Proofs.YtkbbmjcfgcfejaaGreat
open Go.RowKit
theorem VT {e:Nat} (c:Cm (e+1)) (l:List (Cm (e+1))):C4 (e+1) (c :: l)=1+C4 e c.body+C4 e c.els+C4 (e+1) l:=rfl
theorem SX:∀ e:Nat,C4 e ([]:List (Cm e))=0
 | 0=>rfl
 | _+1=>rfl
def Ie:(d:Nat)→List (Cm d)→List (Cm (d+1))
 | 0,_=>[]
 | d+1,l=>l.map fun c=>Cm.mk (Cm.kind c) (Cm.a c) (Cm.b c) (Cm.test c) (Cm.inv c) (Ie d (Cm.body c)) (Ie d (Cm.els c))
theorem VU {α β:Type} [Inhabited α] [Inhabited β] {l:List α} {f:α→β} {i:Nat} (h:i < l.length):gd (l.map f) i=f (gd l i):=by
 rw [BT (by simpa using h),BT h,List.getElem_map]
theorem ML:∀ (d:Nat) {w:World} {S:Nat→Prop} {v:Value} {l:List (Cm d)},RL w S v l→RL w S v (Ie d l)
 | 0,w,S,v,l,h=>by
   obtain rfl:=h.cm0;rcases h with ⟨a,cap,e,_,h2,h3⟩ | ⟨b,o,cap,e,h1,h2,_,_⟩
   · exact .inl ⟨a,cap,e,rfl,h2,h3⟩
   · exact .inl ⟨_,cap,e,rfl,h2,fun h=>by cases h⟩
 | d+1,w,S,v,l,h=>by
   rcases h with ⟨a,cap,e,rfl,h2,h3⟩ | ⟨b,o,cap,e,h1,h2,h3,h4⟩
   · exact .inl ⟨a,cap,e,rfl,h2,h3⟩
   · have hl:(Ie (d+1) l).length=l.length:=by rw [Ie,List.length_map]
     refine .inr ⟨b,o,cap,by rw [hl];exact e,by rw [hl];exact h1,h2,by rw [hl];exact h3,fun i hi=>?_⟩;rw [hl] at hi;obtain ⟨cs,hr,hc⟩:=h4 i hi;obtain ⟨f1,f2,x,y,rfl,⟨g1,g2⟩,g3,g4⟩:=SL hr;refine ⟨_,?_,fun j u hj=>by rw [Ny];have:=hc j u hj;rwa [Ny] at this⟩;rw [Ie,VU hi];exact Nz (c:=Cm.mk (gd l i).kind (gd l i).a (gd l i).b (gd l i).test (gd l i).inv (Ie d (gd l i).body) (Ie d (gd l i).els)) g1 g2 (ML d g3) (ML d g4)
theorem CW {xs:List Value} {k j i:Nat} (u:Value) (hj:j < 10) (hl:(k+1) * 10≤xs.length):Bz 10 (xs.set (k * 10+j) u) i=if i=k then (Bz 10 xs k).set j u else Bz 10 xs i:=by
 unfold Bz;split
 · rename_i e;subst e
   refine List.ext_getElem? fun m=>?_;rw [List.getElem?_take,List.getElem?_drop,List.getElem?_set,List.getElem?_set,List.getElem?_take,List.getElem?_drop];by_cases hm:m < 10
   · rw [if_pos hm,if_pos hm]
     by_cases e:j=m
     · subst e;rw [if_pos rfl,if_pos Om,if_pos rfl,if_pos (by rw [List.length_take,List.length_drop];omega)]
     · rw [if_neg Om,if_neg e]
   · rw [if_neg hm,if_neg hm];split
     · omega
     · rfl
 · rename_i e
   refine List.ext_getElem? fun m=>?_;rw [List.getElem?_take,List.getElem?_drop,List.getElem?_set,List.getElem?_take,List.getElem?_drop];by_cases hm:m < 10
   · rw [if_pos hm,if_pos hm,if_neg (by omega)]
   · rw [if_neg hm,if_neg hm]
def Lq:(d:Nat)→List (Cm d)→Nat
 | 0,_=>0
 | d+1,l=>l.length+(l.map fun c=>Mk.size (α:=Aj) c.inv+Lq d c.body+Lq d c.els).sum
def Fh {d:Nat} (c:Cm (d+1)):Nat:=Mk.size (α:=Aj) c.inv+Lq d c.body+Lq d c.els
theorem Kp {d:Nat} (l:List (Cm (d+1))):Lq (d+1) l=l.length+(l.map Fh).sum:=rfl
theorem Py:∀ (d:Nat) (l:List (Cm d)),C4 d l≤Lq d l
 | 0,l=>Nat.le_refl 0
 | d+1,l=>by
   rw [Kp];show (l.map fun c=>1+C4 d (Cm.body c)+C4 d (Cm.els c)).sum≤_
   induction l with
   | nil=>simp
   | cons c r ih =>
     have h1:=Py d (Cm.body c);have h2:=Py d (Cm.els c);simp only [List.map_cons,List.sum_cons,List.length_cons];have h3:Fh c=Mk.size (α:=Aj) c.inv+Lq d c.body+Lq d c.els:=rfl;omega
def SY (d:Nat):Prop:=∀ (S:Nat→Prop) (v:Value) (l:List (Cm d)) (left:Int) (w:World) (_h:RL w S v l) (_h0:0≤left) (_h1:left≤1048576),
    Calls Tryz.prog 17 #[v,.int .i64 left] w fun e w'=>e=.returned (.int .i64 (JX left (Lq d l)))∧Below w.heap.size w w'
theorem Kq {d:Nat} (ih:SY d) {S1 S2 S3 S4:Nat→Prop} (c:Cm (d+1)) (f1 f2 x y:Value) (left:Int) (w:World) (h1:RL w S1 f1 c.inv.1) (h2:RL w S2 f2 c.inv.2) (h3:RL w S3 x c.body) (h4:RL w S4 y c.els) (h0:0≤left) (hle:left≤1048576) :
 Calls Tryz.prog 26 #[.agg #[.int .i64 c.kind,.int .i64 c.a,.int .i64 c.b,.bool c.test.1,.int .i64 c.test.2.1,.int .i64 c.test.2.2,f1,f2,x,y],.int .i64 left] w fun e w'=>e=.returned (.int .i64 (JX left (Fh c)))∧Below w.heap.size w w':=by
 obtain ⟨a1,c1,rfl⟩:=h1.form;obtain ⟨a2,c2,rfl⟩:=h2.form;obtain ⟨a3,c3,rfl⟩:=h3.form;obtain ⟨a4,c4,rfl⟩:=h4.form;obtain ⟨q1,hq1⟩:∃ q,q=Mk.size (α:=Aj) c.inv:=⟨_,rfl⟩;obtain ⟨q2,hq2⟩:∃ q,q=Lq d c.body:=⟨_,rfl⟩;obtain ⟨q3,hq3⟩:∃ q,q=Lq d c.els:=⟨_,rfl⟩;have hsz:Fh c=q1+q2+q3:=by rw [hq1,hq2,hq3];rfl
 have IH:=Ad ih;have HQ:=Ad (An hq1 (An hq2 hq3));clear hq1 hq2 hq3 ih;have HR:=Ad (An (An h1 h2) (An h3 h4));clear h1 h2 h3 h4;have e1:(left < (q1:Int))∨((q1:Int)≤left):=by omega
 rcases e1 with hb | hf1
 · have hfin:JX left (Fh c)=-1:=Bg (by rw [hsz];omega)
   have HF:=Ad (An hfin (Bg hb));clear hfin hb hsz;go_enter Tryz.func26,Tryz.ntmps26
   (go_wp2_with fail);refine (A4 _ _ c.inv left _ (HR.o.1.1.keep (Aa _ _)) (HR.o.1.2.keep (Aa _ _)) Om Om).mono ?_;rw [← HQ.o.1];rw [HF.o.2];rintro e w1 ⟨rfl,hb⟩;have hW:=hb;have hp:=Ac (heap_alloc_new w (.cells #[.int .i64 c.kind,.int .i64 c.a,.int .i64 c.b,.bool c.test.1,.int .i64 c.test.2.1,.int .i64 c.test.2.2,.slice a1 c.inv.1.length c1,.slice a2 c.inv.2.length c2,.slice a3 c.body.length c3,.slice a4 c.els.length c4] 56)) hb;clear hb;go_wp2;go_ret;exact ⟨by rw [HF.o.1];rfl,bt (Aa _ _) hW⟩
 have HS0:=Ad (BN hf1);have e2:(left - q1 < (q2:Int))∨((q2:Int)≤left - q1):=by omega
 rcases e2 with hb | hf2
 · have hfin:JX left (Fh c)=-1:=Bg (by rw [hsz];omega)
   have HF:=Ad (An hfin (Bg hb));clear hfin hb hsz;go_enter Tryz.func26,Tryz.ntmps26
   (go_wp2_with fail);refine (A4 _ _ c.inv left _ (HR.o.1.1.keep (Aa _ _)) (HR.o.1.2.keep (Aa _ _)) Om Om).mono ?_;rw [← HQ.o.1];rw [HS0.o];rintro e w1 ⟨rfl,hb⟩;have hW:=hb;have hp:=Ac (heap_alloc_new w (.cells #[.int .i64 c.kind,.int .i64 c.a,.int .i64 c.b,.bool c.test.1,.int .i64 c.test.2.1,.int .i64 c.test.2.2,.slice a1 c.inv.1.length c1,.slice a2 c.inv.2.length c2,.slice a3 c.body.length c3,.slice a4 c.els.length c4] 56)) hb;clear hb;have p8:=cr 8 hp;(go_wp2_with fail);refine (IH.o _ _ c.body (left - q1) _ ((HR.o.2.1.keep (Aa _ _)).keep hW) Om Om).mono ?_;rw [← HQ.o.2.1];rw [HF.o.2];rintro e w2 ⟨rfl,hb⟩;replace hW:=hW.trans (hb.mono hW.size);replace hp:=Ac hp hb;clear hb;go_wp2;go_ret;exact ⟨by rw [HF.o.1];rfl,bt (Aa _ _) hW⟩
 have HS1:=Ad (BN hf2);have e3:(left - q1 - q2 < (q3:Int))∨((q3:Int)≤left - q1 - q2):=by omega
 rcases e3 with hb | hf3
 · have hfin:JX left (Fh c)=-1:=Bg (by rw [hsz];omega)
   have HF:=Ad (An hfin (Bg hb));clear hfin hb hsz;go_enter Tryz.func26,Tryz.ntmps26
   (go_wp2_with fail);refine (A4 _ _ c.inv left _ (HR.o.1.1.keep (Aa _ _)) (HR.o.1.2.keep (Aa _ _)) Om Om).mono ?_;rw [← HQ.o.1];rw [HS0.o];rintro e w1 ⟨rfl,hb⟩;have hW:=hb;have hp:=Ac (heap_alloc_new w (.cells #[.int .i64 c.kind,.int .i64 c.a,.int .i64 c.b,.bool c.test.1,.int .i64 c.test.2.1,.int .i64 c.test.2.2,.slice a1 c.inv.1.length c1,.slice a2 c.inv.2.length c2,.slice a3 c.body.length c3,.slice a4 c.els.length c4] 56)) hb;clear hb;have p8:=cr 8 hp;(go_wp2_with fail);refine (IH.o _ _ c.body (left - q1) _ ((HR.o.2.1.keep (Aa _ _)).keep hW) Om Om).mono ?_;rw [← HQ.o.2.1];rw [HS1.o];rintro e w2 ⟨rfl,hb⟩;replace hW:=hW.trans (hb.mono hW.size);replace hp:=Ac hp hb;clear hb;have p9:=cr 9 hp;(go_wp2_with fail);refine (IH.o _ _ c.els (left - q1 - q2) _ ((HR.o.2.2.keep (Aa _ _)).keep hW) Om Om).mono ?_;rw [← HQ.o.2.2];rw [HF.o.2];rintro e w3 ⟨rfl,hb⟩;replace hW:=hW.trans (hb.mono hW.size);replace hp:=Ac hp hb;clear hb;go_wp2;go_ret;exact ⟨by rw [HF.o.1];rfl,bt (Aa _ _) hW⟩
 have HS2:=Ad (BN hf3);have hfin:JX left (Fh c)=left - q1 - q2 - q3:=by rw [BN (by rw [hsz];omega),hsz];omega
 have HF:=Ad (An hfin HS2.o);clear hfin hsz;go_enter Tryz.func26,Tryz.ntmps26
 go_wp2_with fail
 refine (A4 _ _ c.inv left _ (HR.o.1.1.keep (Aa _ _)) (HR.o.1.2.keep (Aa _ _)) Om Om).mono ?_;rw [← HQ.o.1];rw [HS0.o];rintro e w1 ⟨rfl,hb⟩;have hW:=hb;have hp:=Ac (heap_alloc_new w (.cells #[.int .i64 c.kind,.int .i64 c.a,.int .i64 c.b,.bool c.test.1,.int .i64 c.test.2.1,.int .i64 c.test.2.2,.slice a1 c.inv.1.length c1,.slice a2 c.inv.2.length c2,.slice a3 c.body.length c3,.slice a4 c.els.length c4] 56)) hb;clear hb;have p8:=cr 8 hp;go_wp2_with fail
 refine (IH.o _ _ c.body (left - q1) _ ((HR.o.2.1.keep (Aa _ _)).keep hW) Om Om).mono ?_;rw [← HQ.o.2.1];rw [HS1.o];rintro e w2 ⟨rfl,hb⟩;replace hW:=hW.trans (hb.mono hW.size);replace hp:=Ac hp hb;clear hb;have p9:=cr 9 hp;go_wp2_with fail
 refine (IH.o _ _ c.els (left - q1 - q2) _ ((HR.o.2.2.keep (Aa _ _)).keep hW) Om Om).mono ?_;rw [← HQ.o.2.2];rw [HF.o.2];rintro e w3 ⟨rfl,hb⟩;replace hW:=hW.trans (hb.mono hW.size);replace hp:=Ac hp hb;clear hb;go_wp2;go_ret;exact ⟨by rw [HF.o.1];rfl,bt (Aa _ _) hW⟩
theorem NF:SY 0:=by
 intro S v l left w h h0 h1;obtain rfl:=h.cm0;obtain ⟨a,c,rfl⟩:=h.form;have HF:=Ad (show JX left (Lq 0 ([]:List (Cm 0)))=left by rw [BN (by show ((0:Nat):Int)≤left;omega)];show left - ((0:Nat):Int)=left;omega);clear h;go_enter Tryz.func17,Tryz.ntmps17
 go_wp2;go_loopg [1,5] 1 (fun q x i wr=>x=.int .i64 left∧i=.int .i64 0∧wr=w)
 case atStart=>exact ⟨by simp,rfl,rfl⟩
 case round =>
  obtain ⟨rfl,rfl,rfl⟩:=hrel;go_wp2;go_ret;exact ⟨by rw [HF.o];rfl,Bl⟩
theorem NG {d:Nat} (ih:SY d):SY (d+1):=by
 intro S v l left w h h0 h1;have IH:=Ad ih;have hm:=h.len;unfold maxLen at hm;obtain ⟨a,c,rfl,_,_,hf⟩:=h.cmAt;have F1:=Ad hf;have hsz:=Kp l;clear hf h ih;by_cases hl:(l.length:Int)≤left;rotate_left
 · have hfin:JX left (Lq (d+1) l)=-1:=Bg (by rw [hsz];omega)
   have HF:=Ad hfin;clear hfin hsz;go_enter Tryz.func17,Tryz.ntmps17
   go_wp2;go_ret;exact ⟨by rw [HF.o];rfl,Below.refl _ _⟩
 have HZ:=Ad hsz;clear hsz;go_enter Tryz.func17,Tryz.ntmps17
 go_wp2;go_loopg [1,5] l.length (fun q x i wr=>∃ k:Nat,k+q=l.length∧i=.int .i64 k∧x=.int .i64 (left - l.length - (JT Fh l k:Nat))∧((JT Fh l k:Nat):Int)≤left - l.length∧Below w.heap.size w wr)
 case atStart=>exact ⟨0,by omega,rfl,by simp [LL],by rw [LL];omega,Below.refl _ _⟩
 case round =>
  obtain ⟨k,hk,rfl,rfl,hp0,hb⟩:=hrel;have HK:=Ad hk;clear hk;by_cases hk8:k < l.length
  · obtain ⟨b1,o1,u1,u2,x,y,rfl,_,hbl1,hcc,⟨r1,r2⟩,r3,r4⟩:=F1.o k hk8
    obtain ⟨ua1,uc1,rfl⟩:=r1.form;obtain ⟨ua2,uc2,rfl⟩:=r2.form;obtain ⟨ua3,uc3,rfl⟩:=r3.form;obtain ⟨ua4,uc4,rfl⟩:=r4.form;have hs:=hb.size;have p0:wr.cell? ⟨b1,o1+k * 10,none⟩=some (.int .i64 (gd l k).kind):=Ab hb (hcc 0 _ rfl);have p1:=Ab hb (hcc 1 _ rfl);have p2:=Ab hb (hcc 2 _ rfl);have p3:=Ab hb (hcc 3 _ rfl);have p4:=Ab hb (hcc 4 _ rfl);have p5:=Ab hb (hcc 5 _ rfl);have p6:=Ab hb (hcc 6 _ rfl);have p7:=Ab hb (hcc 7 _ rfl);have p8:=Ab hb (hcc 8 _ rfl);have p9:=Ab hb (hcc 9 _ rfl);clear hcc;(have i1:(k:Int) < (l.length:Int):=by omega);(have hzb:b1 < wr.heap.size:=by omega);have hps:=LM (f:=Fh) hk8;have hle:=QN (f:=Fh) (l:=l) (k+1);obtain ⟨P,hP⟩:=Ey (JT Fh l k);obtain ⟨Q,hQ⟩:=Ey (Fh (gd l k));rw [← hP] at hp0 hps;rw [← hQ] at hps;rw [← hP];have HQ:=Ad hQ;clear hP hQ;by_cases hfit:(Q:Int)≤left - l.length - (P:Nat);rotate_left
    · have hfin:JX left (Lq (d+1) l)=-1:=Bg (by rw [HZ.o];omega)
      have HF:=Ad (An hfin (Bg (left:=left - l.length - (P:Nat)) (s:=Q) Om));clear hfin hps hle hfit;(go_wp2_with fail);refine (Kq IH.o (gd l k) _ _ _ _ (left - l.length - (P:Nat)) _ (r1.keep hb) (r2.keep hb) (r3.keep hb) (r4.keep hb) Om Om).mono ?_;rw [← HQ.o,HF.o.2];rintro e w2 ⟨rfl,hb2⟩;go_wp2;go_ret;exact ⟨by rw [HF.o.1];rfl,bt hb hb2⟩
    · have HF:=Ad (An (BN hfit) hps)
      (have hnn:¬ left - (l.length:Int) - (P:Int) - (Q:Int) < 0:=by omega);clear hps hle;(go_wp2_with fail);refine (Kq IH.o (gd l k) _ _ _ _ (left - l.length - (P:Nat)) _ (r1.keep hb) (r2.keep hb) (r3.keep hb) (r4.keep hb) Om Om).mono ?_;rw [← HQ.o,HF.o.1];rintro e w2 ⟨rfl,hb2⟩;go_wp2;go_roundg (gk - 1)
      case rel=>exact ⟨k+1,by have:=HK.o;omega,by go_num,by rw [HF.o.2,show left - (l.length:Int) - ((P+Q:Nat):Int)=left - l.length - (P:Nat) - (Q:Nat) by omega],by rw [HF.o.2];omega,bt hb hb2⟩
      case measure=>have:=HK.o;omega
  · obtain rfl:k=l.length:=by have:=HK.o;omega
    have hall:=SF (f:=Fh) (l:=l);(have hfin:JX left (Lq (d+1) l)=left - l.length - (JT Fh l l.length:Nat):=by rw [BN (by rw [HZ.o,← hall];omega),HZ.o,← hall];omega);have HF:=Ad hfin;clear hfin hall;go_wp2;go_ret;exact ⟨by rw [HF.o];rfl,hb⟩
theorem FI:∀ d:Nat,SY d
 | 0=>NF
 | d+1=>NG (FI d)
section
variable {d:Nat} {w:World} {B g cap:Nat} {l:List (Cm (d+1))} {k:Nat}
end
end Go.Proofs.YtkbbmjcfgcfejaaGreat
