/- Walks: a contract is bent (reference: l12Mutate). (Printed by gen_dcm.py.) -/
import Derived.Test.YtkbbmjcfgcfejaaGreatKDCa
import Derived.Test.YtkbbmjcfgcfejaaGreatKDCb
set_option linter.unusedVariables false
set_option linter.unusedSimpArgs false
namespace Go.Proofs.YtkbbmjcfgcfejaaGreat
open Go.RowKit
theorem rowE_split {w:World} {B e sz n:Nat} {v:Value} {xs:List Value} (h:RowE w B e sz v n xs):(n=0∧xs=[]∧∃ a,v=.slice a 0 0)∨(w.ownsRow B e sz v n xs∧¬ ∃ a,v=.slice a 0 0):=by
 by_cases he:∃ a,v=.slice a 0 0
 · refine .inl ?_
   obtain ⟨a,rfl⟩:=he
   rcases h with h | h
   · exact ⟨h.1,h.2.1,a,rfl⟩
   · have hl:=h.1
     have hn:n=0:=by
      rcases h.2 with ⟨_,h0⟩ | ⟨g,cap,cur,h0,_⟩
      · exact h0
      · injection h0 with _ h0 _
        exact h0.symm
     subst hn
     exact ⟨rfl,List.eq_nil_of_length_eq_zero (by simpa using hl),a,rfl⟩
 · rcases h with h | h
   · exact absurd h.2.2 he
   · exact .inr ⟨h,he⟩
theorem run_cellsG {w:World} {B:Nat} {t e:TypeId} {sz:Nat} (ti:TI t e sz) (ty:TypeId) {v:Value} {n:Nat} {xs:List Value} (hown:RowE w B e sz v n xs) {A:Option Addr} {m c:Nat} {news:List Value} (hl:news.length=m * sz)
 (hnews:0 < m→∃ b o,A=some ⟨b,o,none⟩∧∀ j u,news[j]?=some u→w.cell? ⟨b,o+j,none⟩=some u) (h1:∀ u ∈ news,u.oneCell'=true) (hn:n+m≤1099511627776) (hB:B≤w.heap.size) :
 ∃ v' w',(Builtin.append_ #[t,t] ty #[v,.slice A m c]).run Tryz.prog w=.ok v' w'∧RowE w' B e sz v' (n+m) (xs ++ news)∧Fr (fun k=>(some k=v.ownBlock∧TF w B e k)∧¬ ∃ a,v=.slice a 0 0) w w':=by
 rcases rowE_split hown with ⟨rfl,rfl,a,rfl⟩ | ⟨hown,hne⟩
 · by_cases hm:m=0
   · subst hm
     obtain ⟨i,z,t1,t2,_⟩:=ti
     obtain rfl:news=[]:=List.eq_nil_of_length_eq_zero (by simpa using hl)
     exact ⟨_,w,run_same t1 t2 a A c,.inl ⟨rfl,rfl,a,rfl⟩,Fr.refl _ _⟩
   · cases a with
     | none =>
       obtain ⟨v',w',hrun,ho,hf,_⟩:=run_cells ti ty (World.ownsRow_nil w B e sz) hl hnews h1 hn hB (c:=c)
       exact ⟨v',w',hrun,.inr ho,hf.mono fun k _ hk=>by simp [Value.ownBlock] at hk⟩
     | some ad =>
       obtain ⟨i,z,t1,t2,t3,t4,t5,t6,t7⟩:=ti
       obtain ⟨b,o,rfl,hc⟩:=hnews (by omega)
       have hc':∀ j u,news[j]?=some u→w.cell? ((⟨b,o,none⟩:Addr).add j)=some u:=fun j u hj=>by
        have e:(⟨b,o,none⟩:Addr).add j=⟨b,o+j,none⟩:=by unfold Addr.add;split <;> simp_all
        rw [e];exact hc j u hj
       have hbytes:(0+m) * i.bytes≤140737488355328:=by
        have:(0+m) * i.bytes≤1099511627776 * 128:=Nat.mul_le_mul hn t5
        omega
       subst t4
       have hr:=run_append_grow (P:=Tryz.prog) w t ty e i z t1 t2 t3 ad 0 0 [] (by simp) (fun j u hj=>by simp at hj) ⟨b,o,none⟩ m c news hl hc' (by omega) (by omega) (growslice_fits (by omega) hbytes)
       refine ⟨_,_,hr,.inr ?_,?_⟩
       · have hge:=grownCap_ge w (0+m) 0 e
         have hcm:grownCap w (0+m) 0 e≤maxLen:=grownCap_le_maxLen w (0+m) 0 e (by unfold maxLen;omega)
         refine ⟨by rw [List.nil_append,hl,Nat.zero_add],.inr ⟨w.heap.size,_,_,rfl,hB,heap_alloc_new w.drew _,hge,hcm,?_,?_⟩⟩
         · simp only [Array.size_append,List.size_toArray,size_zeroCells,t6,hl,List.length_nil,Nat.zero_add,← Nat.add_mul]
           simp only [Nat.zero_add] at hge
           rw [Nat.add_sub_cancel' hge]
         · simp only [Array.toList_append,List.nil_append,Nat.zero_add]
           rw [← hl]
           exact List.take_left
       · exact (Below.fr (below_drew w |>.trans ((below_alloc w.drew _).mono (Nat.le_refl _)))).mono fun _ _ h=>h.elim
 · obtain ⟨v',w',hrun,ho,hf,_⟩:=run_cells ti ty hown hl hnews h1 hn hB (c:=c)
   exact ⟨v',w',hrun,.inr ho,hf.mono fun k _ hk=>⟨⟨hk,row_tf hown k hk⟩,hne⟩⟩
section
variable {α:Type} [Flat α] [Tid α] {w w':World} {B:Nat} {v:Value} {l m:List α} {S:Nat→Prop}
theorem FE.kept2 (h:FE w B v l) (hf:Fr S w w') (hs:∀ k,some k=v.ownBlock→TF w B (Tid.tid α) k→(¬ ∃ a,v=.slice a 0 0)→¬ S k):FE w' B v l:=by
 obtain ⟨xs,h1,h2⟩:=h
 refine ⟨xs,?_,fun i hi=>flat_conv (h2 i hi)⟩
 rcases rowE_split h1 with h1 | ⟨h1,hne⟩
 · exact .inl h1
 · exact .inr (own_kept h1 hf fun k hk=>hs k hk (row_tf h1 k hk) hne)
theorem FE.inside (h:FE w B v l):(∃ a,v=.slice a 0 0)∨∀ k,some k=v.ownBlock→k < w.heap.size:=by
 obtain ⟨xs,h1,h2⟩:=h
 rcases rowE_split h1 with h1 | ⟨h1,_⟩
 · exact .inl h1.2.2
 · refine .inr fun k hk=>?_
   obtain ⟨_,cs,hc⟩:=row_tf h1 k hk
   exact (Array.getElem?_eq_some_iff.1 hc).1
theorem wp_appG {o:Oper} {a:Act} {K:Act→World→Prop} {Q:Exit→Act→World→Prop} (s x:Operand) (t:TypeId)
 (ho:o.op=.call { callee:=.builtin .append,args:=#[s,x],argTypes:=#[t,t] }) (ti:TI t (Tid.tid α) (Dat.sz α)) {v vx:Value} (hs:a.eval s=v) (h:FE w B v l)
 (hx:a.eval x=vx) (hr:RL w S vx m) (hn:l.length+m.length≤1099511627776) (hB:B≤w.heap.size)
 (hK:∀ v' w',FE w' B v' (l ++ m)→Fr (fun k=>(some k=v.ownBlock∧TF w B (Tid.tid α) k)∧¬ ∃ a,v=.slice a 0 0) w w'→K (a.put o.dst v') w'):o.wp Tryz.prog a w K Q:=by
 obtain ⟨xs,hown,hxx⟩:=h
 obtain ⟨aa,c,rfl⟩:=hr.form
 obtain ⟨_,news,hrd,hone,hnth⟩:=hr.reads
 obtain ⟨v',w',hrun,h1,h2⟩:=run_cellsG ti o.type hown hrd.1 (A:=aa) (c:=c) (fun hm=>by
  rcases hr with ⟨a',cap,e,rfl,_⟩ | ⟨b,o,cap,e,_⟩
  · simp at hm
  · injection e with e
    subst e
    obtain ⟨ad,e2,_,hc⟩:=hrd.2 hm
    injection e2 with e2
    subst e2
    exact ⟨b,o,rfl,fun j u hj=>by
     have e:(⟨b,o,none⟩:Addr).add j=⟨b,o+j,none⟩:=by unfold Addr.add;split <;> simp_all
     rw [← e];exact hc j u hj⟩) hone hn hB
 have hfe:FE w' B v' (l ++ m):=by
  refine ⟨xs ++ news,by rw [List.length_append];exact h1,fun i hi=>?_⟩
  rw [List.length_append] at hi
  have hxl:=hown.len
  by_cases hlt:i < l.length
  · rw [gd_app1 hlt,nth_app1 hxl hlt];exact flat_conv (hxx i hlt)
  · obtain ⟨j,rfl⟩:∃ j,i=l.length+j:=⟨i - l.length,by omega⟩
    rw [gd_app2 (by omega),nth_app3 hxl,Nat.add_sub_cancel_left]
    exact flat_conv (hnth j (by omega))
 unfold Oper.wp execOp
 simp only [ho,resolve,invoke,builtin,Sem.run_bind,Sem.run_pure,Result.andThen_ok,List.map_toArray,List.map_cons,List.map_nil,hs,hx,hrun]
 exact hK v' w' hfe h2
theorem app_G {ops:Array Oper} {rest:List Oper} {o:Oper} {a:Act} {Q:Exit→Act→World→Prop} (hgd:o.guard=none) (s x:Operand) (t:TypeId)
 (ho:o.op=.call { callee:=.builtin .append,args:=#[s,x],argTypes:=#[t,t] }) (ti:TI t (Tid.tid α) (Dat.sz α)) {v vx:Value} (hs:a.eval s=v) (hown:FE w B v l)
 (hx:a.eval x=vx) (hr:RL w S vx m) (hn:l.length+m.length≤1099511627776) (hB:B≤w.heap.size)
 (h:∀ v' w',FE w' B v' (l ++ m)→Fr (fun k=>(some k=v.ownBlock∧TF w B (Tid.tid α) k)∧¬ ∃ a,v=.slice a 0 0) w w'→wpList Tryz.prog ops Q rest (a.put o.dst v') w'):wpList Tryz.prog ops Q (o :: rest) a w :=
 wpList_plain hgd fun _ hK=>wp_appG s x t ho ti hs hown hx hr hn hB fun v' w' h1 h2=>hK _ _ (h v' w' h1 h2)
end
structure KD (w0 w:World) (g q bR bA:Nat) (v1 v2 u1 u2 ch:Value) (c:Con):Prop where
 f1:FE w w0.heap.size v1 c.1.1
 a1:FE w w0.heap.size v2 c.1.2
 f2:FE w w0.heap.size u1 c.2.1.1
 a2:FE w w0.heap.size u2 c.2.1.2
 cs:FE w w0.heap.size ch c.2.2
 boxR:BoxK w bR (.slice none 0 0) (.slice none 0 0) (.slice none 0 0) (.slice none 0 0) (.slice none 0 0)
 boxA:BoxK w bA v1 v2 u1 u2 ch
 rdr:Rdr w g q
 fr:Fr (fun j=>j=g) w0 w
structure Aside (w:World) (m:Nat) (v1 v2 u1 u2:Value) (c:Con):Prop where
 f2:FE w m u1 c.2.1.1
 a2:FE w m u2 c.2.1.2
 lo1:(∃ a,v1=.slice a 0 0)∨∀ k,some k=v1.ownBlock→k < m
 lo2:(∃ a,v2=.slice a 0 0)∨∀ k,some k=v2.ownBlock→k < m
section
variable {w0 w w':World} {g q q' bR bA m:Nat} {v1 v2 u1 u2 ch v':Value} {c:Con}
theorem KD.keep (h:KD w0 w g q bR bA v1 v2 u1 u2 ch c) (hb:Below w.heap.size w w'):KD w0 w' g q bR bA v1 v2 u1 u2 ch c :=
 ⟨h.f1.keep hb,h.a1.keep hb,h.f2.keep hb,h.a2.keep hb,h.cs.keep hb,box_keep h.boxR hb,box_keep h.boxA hb,h.rdr.keep hb,h.fr.thenB hb⟩
theorem KD.drawn (h:KD w0 w g q bR bA v1 v2 u1 u2 ch c) (hr:Rdr w' g q') (hf:Fr (fun j=>j=g) w w') (hg:g < w0.heap.size) (hR:¬ bR=g) (hA:¬ bA=g):KD w0 w' g q' bR bA v1 v2 u1 u2 ch c :=
 ⟨h.f1.kept hf fun k hk e=>by have:=hk.1;omega,h.a1.kept hf fun k hk e=>by have:=hk.1;omega,h.f2.kept hf fun k hk e=>by have:=hk.1;omega,h.a2.kept hf fun k hk e=>by have:=hk.1;omega,
   h.cs.kept hf fun k hk e=>by have:=hk.1;omega,box_kept h.boxR hf hR,box_kept h.boxA hf hA,hr,h.fr.trans hf⟩
theorem Aside.keep (h:Aside w m v1 v2 u1 u2 c) (hb:Below w.heap.size w w'):Aside w' m v1 v2 u1 u2 c:=⟨h.f2.keep hb,h.a2.keep hb,h.lo1,h.lo2⟩
theorem Aside.drawn (h:Aside w m v1 v2 u1 u2 c) (hf:Fr (fun j=>j=g) w w') (hg:g < m):Aside w' m v1 v2 u1 u2 c :=
 ⟨h.f2.kept hf fun k hk e=>by have:=hk.1;omega,h.a2.kept hf fun k hk e=>by have:=hk.1;omega,h.lo1,h.lo2⟩
theorem KD.more (h:KD w0 w g q bR bA v1 v2 u1 u2 ch c) (hq:q≤q'):KD w0 w g q' bR bA v1 v2 u1 u2 ch c:=⟨h.f1,h.a1,h.f2,h.a2,h.cs,h.boxR,h.boxA,h.rdr.more hq,h.fr⟩
theorem k_tf {e B b:Nat} {p1 p2 q1 q2 x:Value} (h:BoxK w b p1 p2 q1 q2 x) (hne:29 ≠ e):¬ TF w B e b:=tf_ne h hne
theorem KD.putC {l:List Int} (h:KD w0 w g q bR bA v1 v2 u1 u2 ch c) (hg:g < w0.heap.size) (hne:¬ bR=bA) (hlo:w0.heap.size≤bA) (h1:FE w' w0.heap.size v' l) (hf:Fr (TF w w0.heap.size 3) w w') :
 KD w0 (w'.setCell ⟨bA,4,none⟩ v') g q bR bA v1 v2 u1 u2 v' (c.1,c.2.1,l):=by
 have hA:BoxK w' bA v1 v2 u1 u2 ch:=box_tf h.boxA hf (by decide)
 have hS:∀ {e:TypeId},29 ≠ e→¬ TF w' w0.heap.size e bA:=fun hne=>k_tf hA hne
 exact ⟨(h.f1.tf hf (by decide)).setB (hS (by decide)),(h.a1.tf hf (by decide)).setB (hS (by decide)),(h.f2.tf hf (by decide)).setB (hS (by decide)),(h.a2.tf hf (by decide)).setB (hS (by decide)),h1.setB (hS (by decide)),
  box_other (box_tf h.boxR hf (by decide)) _ _ hne,by unfold BoxK;have:=row_set hA 4 v';simpa using this,
  ((h.rdr.kept hf fun k hk e=>by have:=e.1;omega).kept (fr_set _ _ _) fun k hk e=>by simp at e;omega),
  (h.fr.then hf fun i hi e=>by have:=e.1;omega).then (fr_set _ _ _) fun i hi e=>by simp at e;omega⟩
theorem KD.putA {l:List Atom} (h:KD w0 w g q bR bA v1 v2 u1 u2 ch c) (ha:Aside w m v1 v2 u1 u2 c) (hm:w0.heap.size≤m) (hg:g < w0.heap.size) (hne:¬ bR=bA) (hlo:w0.heap.size≤bA) (h1:FE w' w0.heap.size v' l)
 (hf:Fr (fun k=>(some k=v2.ownBlock∧TF w w0.heap.size 118 k)∧¬ ∃ a,v2=.slice a 0 0) w w') :
 KD w0 (w'.setCell ⟨bA,1,none⟩ v') g q bR bA v1 v' u1 u2 ch ((c.1.1,l),c.2):=by
 have hf2:Fr (TF w w0.heap.size 118) w w':=hf.mono fun k _ hk=>hk.1.2
 have hA:BoxK w' bA v1 v2 u1 u2 ch:=box_tf h.boxA hf2 (by decide)
 have hS:∀ {e:TypeId},29 ≠ e→¬ TF w' w0.heap.size e bA:=fun hne=>k_tf hA hne
 have h2:FE w' w0.heap.size u2 c.2.1.2:=(ha.a2.kept hf fun k hk e=>by have h3:=hk.1;rcases ha.lo2 with h4 | h4;exact e.2 h4;have:=h4 k e.1.1;omega).mono hm
 exact ⟨(h.f1.tf hf2 (by decide)).setB (hS (by decide)),h1.setB (hS (by decide)),(h.f2.tf hf2 (by decide)).setB (hS (by decide)),h2.setB (hS (by decide)),(h.cs.tf hf2 (by decide)).setB (hS (by decide)),
  box_other (box_tf h.boxR hf2 (by decide)) _ _ hne,by unfold BoxK;have:=row_set hA 1 v';simpa using this,
  ((h.rdr.kept hf2 fun k hk e=>by have:=e.1;omega).kept (fr_set _ _ _) fun k hk e=>by simp at e;omega),
  (h.fr.then hf2 fun i hi e=>by have:=e.1;omega).then (fr_set _ _ _) fun i hi e=>by simp at e;omega⟩
theorem KD.putF {l:List Fact} (h:KD w0 w g q bR bA v1 v2 u1 u2 ch c) (ha:Aside w m v1 v2 u1 u2 c) (hm:w0.heap.size≤m) (hg:g < w0.heap.size) (hne:¬ bR=bA) (hlo:w0.heap.size≤bA) (h1:FE w' m v' l)
 (hf:Fr (TF w m 61) w w') :
 KD w0 (w'.setCell ⟨bA,2,none⟩ v') g q bR bA v1 v2 v' u2 ch (c.1,(l,c.2.1.2),c.2.2):=by
 have hf2:Fr (TF w w0.heap.size 61) w w':=hf.mono fun k _ hk=>⟨Nat.le_trans hm hk.1,hk.2⟩
 have hA:BoxK w' bA v1 v2 u1 u2 ch:=box_tf h.boxA hf2 (by decide)
 have hS:∀ {e:TypeId},29 ≠ e→¬ TF w' w0.heap.size e bA:=fun hne=>k_tf hA hne
 have h2:FE w' w0.heap.size v1 c.1.1:=h.f1.kept2 hf fun k hk _ hne e=>by have h3:=e.1;rcases ha.lo1 with h4 | h4;exact hne h4;have:=h4 k hk;omega
 exact ⟨h2.setB (hS (by decide)),(h.a1.tf hf2 (by decide)).setB (hS (by decide)),(h1.mono hm).setB (hS (by decide)),(h.a2.tf hf2 (by decide)).setB (hS (by decide)),(h.cs.tf hf2 (by decide)).setB (hS (by decide)),
  box_other (box_tf h.boxR hf2 (by decide)) _ _ hne,by unfold BoxK;have:=row_set hA 2 v';simpa using this,
  ((h.rdr.kept hf2 fun k hk e=>by have:=e.1;omega).kept (fr_set _ _ _) fun k hk e=>by simp at e;omega),
  (h.fr.then hf2 fun i hi e=>by have:=e.1;omega).then (fr_set _ _ _) fun i hi e=>by simp at e;omega⟩
end
section
variable {w0 w w':World} {g q q' bR bA m t:Nat} {v1 v2 u1 u2 ch v':Value} {c:Con} {n0 n1 n2 n3 n4:Value}
theorem FE.set5 {α:Type} [Flat α] [Tid α] {B:Nat} {v:Value} {l:List α} (h:FE w B v l) (hT:BoxK w t n0 n1 n2 n3 n4) (hne:29 ≠ Tid.tid α) (x0 x1 x2 x3 x4:Value) :
 FE (((((w.setCell ⟨t,0,none⟩ x0).setCell ⟨t,1,none⟩ x1).setCell ⟨t,2,none⟩ x2).setCell ⟨t,3,none⟩ x3).setCell ⟨t,4,none⟩ x4) B v l :=
 h.kept (fr_five w t x0 x1 x2 x3 x4) fun k hk e=>by
  have e2:k=t:=e
  subst e2
  exact k_tf hT hne hk
theorem kd_set (f1:FE w w0.heap.size v1 c.1.1) (a1:FE w w0.heap.size v2 c.1.2) (cs:FE w w0.heap.size ch c.2.2) (ha:Aside w m v1 v2 u1 u2 c) (hm:w0.heap.size≤m)
 (boxR:BoxK w bR (.slice none 0 0) (.slice none 0 0) (.slice none 0 0) (.slice none 0 0) (.slice none 0 0)) (hT:BoxK w t n0 n1 n2 n3 n4) (hne:¬ bR=t) (hlo:w0.heap.size≤t) (hg:g < w0.heap.size)
 (hr:Rdr w g q) (hf:Fr (fun j=>j=g) w0 w) :
 KD w0 (((((w.setCell ⟨t,0,none⟩ v1).setCell ⟨t,1,none⟩ v2).setCell ⟨t,2,none⟩ u1).setCell ⟨t,3,none⟩ u2).setCell ⟨t,4,none⟩ ch) g q bR t v1 v2 u1 u2 ch c ∧
  Aside (((((w.setCell ⟨t,0,none⟩ v1).setCell ⟨t,1,none⟩ v2).setCell ⟨t,2,none⟩ u1).setCell ⟨t,3,none⟩ u2).setCell ⟨t,4,none⟩ ch) m v1 v2 u1 u2 c :=
 ⟨⟨f1.set5 hT (by decide) _ _ _ _ _,a1.set5 hT (by decide) _ _ _ _ _,(ha.f2.mono hm).set5 hT (by decide) _ _ _ _ _,(ha.a2.mono hm).set5 hT (by decide) _ _ _ _ _,cs.set5 hT (by decide) _ _ _ _ _,
   box_kept boxR (fr_five w t v1 v2 u1 u2 ch) hne,boxK_put5 hT _ _ _ _ _,hr.kept (fr_five w t v1 v2 u1 u2 ch) (fun k hk e=>by have e2:k=t:=e;omega),hf.then (fr_five w t v1 v2 u1 u2 ch) fun i hi e=>by have e2:i=t:=e;omega⟩,
  ⟨ha.f2.set5 hT (by decide) _ _ _ _ _,ha.a2.set5 hT (by decide) _ _ _ _ _,ha.lo1,ha.lo2⟩⟩
theorem kd_new (f1:FE w w0.heap.size v1 c.1.1) (a1:FE w w0.heap.size v2 c.1.2) (cs:FE w w0.heap.size ch c.2.2) (ha:Aside w m v1 v2 u1 u2 c) (hm:w0.heap.size≤m)
 (boxR:BoxK w bR (.slice none 0 0) (.slice none 0 0) (.slice none 0 0) (.slice none 0 0) (.slice none 0 0))
 (hr:Rdr w g q) (hf:Fr (fun j=>j=g) w0 w) :
 KD w0 (w.alloc (.cells #[v1,v2,u1,u2,ch] 29)) g q bR w.heap.size v1 v2 u1 u2 ch c∧Aside (w.alloc (.cells #[v1,v2,u1,u2,ch] 29)) m v1 v2 u1 u2 c:=by
 have hb:=below_alloc w (.cells #[v1,v2,u1,u2,ch] 29)
 exact ⟨⟨f1.keep hb,a1.keep hb,(ha.f2.mono hm).keep hb,(ha.a2.mono hm).keep hb,cs.keep hb,boxR.keep hb,boxK_new _ _ _ _ _ _,hr.keep hb,hf.thenB hb⟩,ha.keep hb⟩
theorem KD.done (h:KD w0 w g q bR bA v1 v2 u1 u2 ch c) (hg:g < w0.heap.size) (hlo:w0.heap.size≤bR) (x0 x1 x2 x3 x4:Value) :
 RCon (((((w.setCell ⟨bR,0,none⟩ x0).setCell ⟨bR,1,none⟩ x1).setCell ⟨bR,2,none⟩ x2).setCell ⟨bR,3,none⟩ x3).setCell ⟨bR,4,none⟩ x4) (fun k=>w0.heap.size≤k) v1 v2 u1 u2 ch c ∧
 Rdr (((((w.setCell ⟨bR,0,none⟩ x0).setCell ⟨bR,1,none⟩ x1).setCell ⟨bR,2,none⟩ x2).setCell ⟨bR,3,none⟩ x3).setCell ⟨bR,4,none⟩ x4) g q ∧
 Fr (fun j=>j=g) w0 (((((w.setCell ⟨bR,0,none⟩ x0).setCell ⟨bR,1,none⟩ x1).setCell ⟨bR,2,none⟩ x2).setCell ⟨bR,3,none⟩ x3).setCell ⟨bR,4,none⟩ x4) :=
 ⟨⟨(h.f1.set5 h.boxR (by decide) _ _ _ _ _).rl,(h.a1.set5 h.boxR (by decide) _ _ _ _ _).rl,(h.f2.set5 h.boxR (by decide) _ _ _ _ _).rl,(h.a2.set5 h.boxR (by decide) _ _ _ _ _).rl,(h.cs.set5 h.boxR (by decide) _ _ _ _ _).rl⟩,
   h.rdr.kept (fr_five w bR x0 x1 x2 x3 x4) (fun k hk e=>by have e2:k=bR:=e;omega),h.fr.then (fr_five w bR x0 x1 x2 x3 x4) fun i hi e=>by have e2:i=bR:=e;omega⟩
end
theorem bkA {Y w5:World} (hb:Below (Y.alloc (.cells #[.slice none 0 0,.slice none 0 0,.slice none 0 0,.slice none 0 0,.slice none 0 0] 29)).heap.size (Y.alloc (.cells #[.slice none 0 0,.slice none 0 0,.slice none 0 0,.slice none 0 0,.slice none 0 0] 29)) w5):BoxK w5 Y.heap.size (.slice none 0 0) (.slice none 0 0) (.slice none 0 0) (.slice none 0 0) (.slice none 0 0):=(boxK_new Y (.slice none 0 0) (.slice none 0 0) (.slice none 0 0) (.slice none 0 0) (.slice none 0 0)).keep hb
theorem bkB {Y w5:World} {o:Obj} (hb:Below ((Y.alloc (.cells #[.slice none 0 0,.slice none 0 0,.slice none 0 0,.slice none 0 0,.slice none 0 0] 29)).alloc o).heap.size ((Y.alloc (.cells #[.slice none 0 0,.slice none 0 0,.slice none 0 0,.slice none 0 0,.slice none 0 0] 29)).alloc o) w5):BoxK w5 Y.heap.size (.slice none 0 0) (.slice none 0 0) (.slice none 0 0) (.slice none 0 0) (.slice none 0 0):=((boxK_new Y (.slice none 0 0) (.slice none 0 0) (.slice none 0 0) (.slice none 0 0) (.slice none 0 0)).keep (below_alloc _ _)).keep hb
theorem bkC {Y w5:World} (hb:Below (Y.alloc (.cells #[.slice none 0 0,.slice none 0 0,.slice none 0 0,.slice none 0 0,.slice none 0 0] 29)).drew.heap.size (Y.alloc (.cells #[.slice none 0 0,.slice none 0 0,.slice none 0 0,.slice none 0 0,.slice none 0 0] 29)).drew w5):BoxK w5 Y.heap.size (.slice none 0 0) (.slice none 0 0) (.slice none 0 0) (.slice none 0 0) (.slice none 0 0):=((boxK_new Y (.slice none 0 0) (.slice none 0 0) (.slice none 0 0) (.slice none 0 0) (.slice none 0 0)).keep (below_drew _)).keep hb
theorem bkD {Y w5:World} {o:Obj} (hb:Below ((Y.alloc (.cells #[.slice none 0 0,.slice none 0 0,.slice none 0 0,.slice none 0 0,.slice none 0 0] 29)).alloc o).drew.heap.size ((Y.alloc (.cells #[.slice none 0 0,.slice none 0 0,.slice none 0 0,.slice none 0 0,.slice none 0 0] 29)).alloc o).drew w5):BoxK w5 Y.heap.size (.slice none 0 0) (.slice none 0 0) (.slice none 0 0) (.slice none 0 0) (.slice none 0 0):=(((boxK_new Y (.slice none 0 0) (.slice none 0 0) (.slice none 0 0) (.slice none 0 0) (.slice none 0 0)).keep (below_alloc _ _)).keep (below_drew _)).keep hb
theorem tkA {Y w5:World} {B e:Nat} (hne:29 ≠ e) (hf:Fr (TF (Y.alloc (.cells #[.slice none 0 0,.slice none 0 0,.slice none 0 0,.slice none 0 0,.slice none 0 0] 29)) B e) (Y.alloc (.cells #[.slice none 0 0,.slice none 0 0,.slice none 0 0,.slice none 0 0,.slice none 0 0] 29)) w5):BoxK w5 Y.heap.size (.slice none 0 0) (.slice none 0 0) (.slice none 0 0) (.slice none 0 0) (.slice none 0 0):=box_tf (boxK_new Y (.slice none 0 0) (.slice none 0 0) (.slice none 0 0) (.slice none 0 0) (.slice none 0 0)) hf hne
theorem tkB {Y w5:World} {o:Obj} {B e:Nat} (hne:29 ≠ e) (hf:Fr (TF ((Y.alloc (.cells #[.slice none 0 0,.slice none 0 0,.slice none 0 0,.slice none 0 0,.slice none 0 0] 29)).alloc o) B e) ((Y.alloc (.cells #[.slice none 0 0,.slice none 0 0,.slice none 0 0,.slice none 0 0,.slice none 0 0] 29)).alloc o) w5):BoxK w5 Y.heap.size (.slice none 0 0) (.slice none 0 0) (.slice none 0 0) (.slice none 0 0) (.slice none 0 0):=box_tf ((boxK_new Y (.slice none 0 0) (.slice none 0 0) (.slice none 0 0) (.slice none 0 0) (.slice none 0 0)).keep (below_alloc _ _)) hf hne
set_option maxRecDepth 100000 in
set_option maxHeartbeats 6400000 in
theorem l12Mutate_any {S:Nat→Prop} (g q:Nat) (v1 v2 u1 u2 ch:Value) (c:Con) (w:World) (hr:Rdr w g q) (hq:q≤900000) (h:RCon w S v1 v2 u1 u2 ch c) (hs:asSz c.1∧asSz c.2.1∧c.2.2.length≤1048576) :
 Calls Tryz.prog 62 #[.pointer (some ⟨g,0,none⟩),.agg #[v1,v2,u1,u2,ch]] w fun e w'=>∃ (x1 x2 y1 y2 z:Value) (b:Con),e=.returned (.agg #[x1,x2,y1,y2,z]) ∧
  ((b.1.1.length≤c.1.1.length+1∧b.1.2.length≤c.1.2.length+1)∧(b.2.1.1.length≤c.2.1.1.length+1∧b.2.1.2.length≤c.2.1.2.length+1)∧b.2.2.length≤c.2.2.length+1) ∧
  RCon w' (fun k=>w.heap.size≤k) x1 x2 y1 y2 z b∧Rdr w' g (q+2)∧Fr (fun j=>j=g) w w':=by
 have hgl:=hr.lt
 obtain ⟨p1,c1,rfl⟩:=h.pre1.form
 obtain ⟨p2,c2,rfl⟩:=h.pre2.form
 obtain ⟨p3,c3,rfl⟩:=h.post1.form
 obtain ⟨p4,c4,rfl⟩:=h.post2.form
 obtain ⟨p5,c5,rfl⟩:=h.chg.form
 have HS:=Lib.hid hs
 obtain ⟨W1,hW1⟩:∃ W1,W1=(w.alloc (.cells #[.slice p1 c.1.1.length c1,.slice p2 c.1.2.length c2,.slice p3 c.2.1.1.length c3,.slice p4 c.2.1.2.length c4,.slice p5 c.2.2.length c5] 29)).alloc (.cells #[.slice none 0 0,.slice none 0 0,.slice none 0 0,.slice none 0 0,.slice none 0 0] 29):=⟨_,rfl⟩
 have hK:BoxK W1 w.heap.size (.slice p1 c.1.1.length c1) (.slice p2 c.1.2.length c2) (.slice p3 c.2.1.1.length c3) (.slice p4 c.2.1.2.length c4) (.slice p5 c.2.2.length c5):=by
  rw [hW1];exact (boxK_new _ _ _ _ _ _).keep (below_alloc _ _)
 have hR:BoxK W1 (w.heap.size+1) (.slice none 0 0) (.slice none 0 0) (.slice none 0 0) (.slice none 0 0) (.slice none 0 0):=by
  rw [hW1]
  have:=boxK_new (w.alloc (.cells #[.slice p1 c.1.1.length c1,.slice p2 c.1.2.length c2,.slice p3 c.2.1.1.length c3,.slice p4 c.2.1.2.length c4,.slice p5 c.2.2.length c5] 29)) (.slice none 0 0) (.slice none 0 0) (.slice none 0 0) (.slice none 0 0) (.slice none 0 0)
  rw [World.size_alloc] at this
  exact this
 have hbW:Below w.heap.size w W1:=by rw [hW1];exact ba (below_alloc _ _) _
 have hz1:W1.heap.size=w.heap.size+2:=by rw [hW1];simp
 have HW1:=Lib.hid hW1
 have HZ1:=Lib.hid hz1
 have H1:=Lib.hid (And.intro (h.keep hbW) (And.intro (hr.keep hbW) (And.intro hR ((Below.fr hbW).mono (S':=fun j=>j=g) fun _ _ h=>h.elim))))
 obtain ⟨a0,a1,a2,a3,a4⟩:=hK.cells
 have al:=hK.lt
 clear hK hR hbW hW1 hz1 h hr hs
 go_enter Tryz.func62,Tryz.ntmps62
 go_upto_region 1 with fail
 rw [← HW1.out]
 go_cut [5] (fun s5 wx=>∃ (t m:Nat) (x1 x2 y1 y2 z:Value),s5=.pointer (some ⟨t,0,none⟩)∧(W1.heap.size≤t∧W1.heap.size≤m∧m≤wx.heap.size)∧KD w wx g q (w.heap.size+1) t x1 x2 y1 y2 z c∧Aside wx m x1 x2 y1 y2 c)
 case first =>
  go_region_held3 (fun w'=>((w'.cell? ⟨w.heap.size,0,none⟩=some (.slice p1 c.1.1.length c1)∧w'.cell? ⟨w.heap.size,1,none⟩=some (.slice p2 c.1.2.length c2))∧(w'.cell? ⟨w.heap.size,2,none⟩=some (.slice p3 c.2.1.1.length c3)∧w'.cell? ⟨w.heap.size,3,none⟩=some (.slice p4 c.2.1.2.length c4)))∧w'.cell? ⟨w.heap.size,4,none⟩=some (.slice p5 c.2.2.length c5))
   (exact ⟨⟨⟨(by repeat (first | with_reducible exact a0 | (with_reducible refine (fr_set _ _ _).cell (by first | (simp;done) | (simp;omega) | omega) ?_) | exact cell_keep Bl a0)),(by repeat (first | with_reducible exact a1 | (with_reducible refine (fr_set _ _ _).cell (by first | (simp;done) | (simp;omega) | omega) ?_) | exact cell_keep Bl a1))⟩,⟨(by repeat (first | with_reducible exact a2 | (with_reducible refine (fr_set _ _ _).cell (by first | (simp;done) | (simp;omega) | omega) ?_) | exact cell_keep Bl a2)),(by repeat (first | with_reducible exact a3 | (with_reducible refine (fr_set _ _ _).cell (by first | (simp;done) | (simp;omega) | omega) ?_) | exact cell_keep Bl a3))⟩⟩,(by repeat (first | with_reducible exact a4 | (with_reducible refine (fr_set _ _ _).cell (by first | (simp;done) | (simp;omega) | omega) ?_) | exact cell_keep Bl a4))⟩)
   (first
     | (go_at_call 141;refine (l3CopyF_any (.slice p1 c.1.1.length c1) (.slice p2 c.1.2.length c2) c.1 _ (H1.out.1.pre1.keep Bl) (H1.out.1.pre2.keep Bl) HS.out.1).mono ?_;rintro e w5 ⟨x1,x2,rfl,o1',o2',hb5'⟩;have o1:=o1'.mono (B':=W1.heap.size) (Below.size (w:=W1) (B:=W1.heap.size) Bl);have o2:=o2'.mono (B':=W1.heap.size) (Below.size (w:=W1) (B:=W1.heap.size) Bl);have hb5:Below W1.heap.size W1 w5:=bt Bl hb5';have hz5:=hb5.size;
         (first | (have hT:=bkC hb5') | (have hT:=bkD hb5') | (have hT:=bkA hb5') | (have hT:=bkB hb5') | skip);(try simp only [World.size_alloc,World.size_drew] at hT);clear o1' o2' hb5';obtain ⟨d1,n1,k1,rfl⟩:=o1.forms;obtain ⟨d2,n2,k2,rfl⟩:=o2.forms)
     | (go_at_call 141;refine (l3CopyF_any (.slice p3 c.2.1.1.length c3) (.slice p4 c.2.1.2.length c4) c.2.1 _ (H1.out.1.post1.keep Bl) (H1.out.1.post2.keep Bl) HS.out.2.1).mono ?_;rintro e w6 ⟨y1,y2,rfl,r1',r2',hb6'⟩;have r1:=r1'.mono (B':=w5.heap.size) (Below.size (w:=w5) (B:=w5.heap.size) Bl);have r2:=r2'.mono (B':=w5.heap.size) (Below.size (w:=w5) (B:=w5.heap.size) Bl);have hb6:Below W1.heap.size W1 w6:=bt Bl hb6';have hb56:Below w5.heap.size w5 w6:=bt Bl hb6';have hz6:=hb56.size;
         (first | (replace hT:=BoxK.keep hT hb56;have _h:=hT) | (have hT:=bkA hb6') | (have hT:=bkB hb6') | skip);(try simp only [World.size_alloc,World.size_drew] at hT);clear r1' r2' hb6';obtain ⟨d3,n3,k3,rfl⟩:=r1.forms;obtain ⟨d4,n4,k4,rfl⟩:=r2.forms)
     | ((fail_if_success have _o:=hb67);refine step_F (l:=([]:List Int)) (m:=c.2.2) (B:=w6.heap.size) (by rfl) (.tmp 12) (.tmp 14) _ (by rfl) ti_int (by rfl) (FE.nil _ _ _) (by rfl) (H1.out.1.chg.keep Bl) (by have:=HS.out.2.2;simp;omega) (Below.size (w:=w6) (B:=w6.heap.size) Bl) ?_;intro v7 w7 o7 hb7';rw [List.nil_append] at o7;have hb7'':=tf_below hb7' (Below.size (w:=w6) (B:=w6.heap.size) Bl);have hb67:Below w6.heap.size w6 w7:=Below.trans Bl hb7'';have hz7:=hb67.size;have hb7:Below W1.heap.size W1 w7:=bt hb6 hb67;
         (first | (replace hT:=BoxK.keep hT hb67;have _h:=hT) | (have hT:=tkA (by decide) hb7') | (have hT:=tkB (by decide) hb7') | skip);(try simp only [World.size_alloc,World.size_drew] at hT);
         (first | (obtain ⟨t0,t1,t2,t3,t4⟩:=hT.cells;have tl:=hT.lt;have tz:=fun i:Nat=>frozen_of_row w7 _ i _ _ hT) | skip);clear hb7' hb7'';obtain ⟨d7,n7,k7,rfl⟩:=o7.forms))
  all_goals
   have hb57:Below w5.heap.size w5 w7:=bt hb56 hb67
   have hz1:=HZ1.out
   have A7:Aside w7 w5.heap.size (.slice d1 n1 k1) (.slice d2 n2 k2) (.slice d3 n3 k3) (.slice d4 n4 k4) c:=⟨r1.keep hb67,r2.keep hb67,o1.inside,o2.inside⟩
   have F7:=Lib.hid (And.intro ((o1.mono (B':=w.heap.size) (by omega)).keep hb57) (And.intro ((o2.mono (B':=w.heap.size) (by omega)).keep hb57) (And.intro (o7.mono (B':=w.heap.size) (by omega)) (And.intro A7 (And.intro (H1.out.2.2.1.keep hb7) (And.intro (H1.out.2.1.keep hb7) (H1.out.2.2.2.thenB hb7)))))))
   clear o1 o2 r1 r2 o7 A7
   go_wp2
   go_meet
   case rel =>
    first
      | (have _h:=hT
         have hZ:=kd_set (t:=_) F7.out.1 F7.out.2.1 F7.out.2.2.1 F7.out.2.2.2.1 (by omega) F7.out.2.2.2.2.1 hT (by omega) (by omega) hgl F7.out.2.2.2.2.2.1 F7.out.2.2.2.2.2.2
         exact ⟨_,w5.heap.size,_,_,_,_,_,rfl,⟨by omega,by omega,by have:=hb57.size;simp;omega⟩,hZ.1,hZ.2⟩)
      | (have hZ:=kd_new F7.out.1 F7.out.2.1 F7.out.2.2.1 F7.out.2.2.2.1 (by omega) F7.out.2.2.2.2.1 F7.out.2.2.2.2.2.1 F7.out.2.2.2.2.2.2
         exact ⟨_,w5.heap.size,_,_,_,_,_,rfl,⟨by omega,by omega,by have:=hb57.size;simp;omega⟩,hZ.1,hZ.2⟩)
 case rest =>
  obtain ⟨t,m,x1,x2,y1,y2,z,rfl,⟨ht,hm,hmx⟩,D0,A0⟩:=hcut
  have hz1:=HZ1.out
  obtain ⟨d1,k1,rfl⟩:=D0.f1.form
  obtain ⟨d2,k2,rfl⟩:=D0.a1.form
  obtain ⟨d3,k3,rfl⟩:=D0.f2.form
  obtain ⟨d4,k4,rfl⟩:=D0.a2.form
  obtain ⟨d5,k5,rfl⟩:=D0.cs.form
  go_wp2_with fail
  refine (pick_any g q _ _ D0.rdr (by omega) (by decide) (by decide)).mono ?_
  rintro e w6 ⟨k,rfl,hk,hr6,hf6⟩
  have D:=D0.drawn hr6 hf6 hgl (by omega) (by omega)
  have A:=A0.drawn hf6 (by omega)
  have hz6:w.heap.size≤w6.heap.size:=D.fr.size
  have hm6:m≤w6.heap.size:=Nat.le_trans hmx hf6.size
  have htw:=box_lt D.boxA
  have HT:=Lib.hid (show ¬ w.heap.size+1=t∧w.heap.size≤t∧w.heap.size≤m from ⟨by omega,by omega,by omega⟩)
  clear D0 A0 hr6 hf6 HZ1 hz1 H1 HW1 a0 a1 a2 a3 a4 al ht hm hmx
  obtain ⟨t0,t1,t2,t3,t4⟩:=D.boxA.cells
  have tz:=fun i:Nat=>frozen_of_row w6 _ i _ _ D.boxA
  go_upto_block 0 with fail
  go_cut [] (fun wc=>∃ (x1 x2 y1 y2 z:Value) (b:Con),((b.1.1.length≤c.1.1.length+1∧b.1.2.length≤c.1.2.length+1)∧(b.2.1.1.length≤c.2.1.1.length+1∧b.2.1.2.length≤c.2.1.2.length+1)∧b.2.2.length≤c.2.2.length+1)∧KD w wc g (q+2) (w.heap.size+1) t x1 x2 y1 y2 z b)
  case first =>
   have HLC:=Lib.hid HS.out.2.2
   by_cases hk0:k=0
   · subst hk0
     go_wp2
     refine wp_region_late (S:=(fun w'=>w'.cell? ⟨t,4,none⟩=some (.slice d5 c.2.2.length k5))) (dep:=[6,8]) (by kernel_rfl) (cell_keep (below_drew _) D.boxA.cells.2.2.2.2) (fun hHeld=>?_)
     refine wpAnyD_free (i:=0) (oi:=_) (v:=?_) rfl (by kernel_rfl) (by kernel_rfl) (by kernel_rfl) (by kernel_rfl) (fun _ _ _ h=>h) (Or.inl ⟨by rfl,?_⟩) hHeld (fun hHeld=>?_)
     rotate_left
     · (intro w _;first | (go_simp;done) | (go_simp;with_reducible rfl))
     try simp only [Act.put,List.setIfInBounds_toArray,List.set_cons_zero,List.set_cons_succ]
     refine wpAnyD_free (i:=2) (oi:=_) (v:=?_) rfl (by kernel_rfl) (by kernel_rfl) (by kernel_rfl) (by kernel_rfl) (fun _ _ _ h=>h) (Or.inl ⟨by rfl,?_⟩) hHeld (fun hHeld=>?_)
     rotate_left
     · (intro w _;first | (go_simp;done) | (go_simp;with_reducible rfl))
     try simp only [Act.put,List.setIfInBounds_toArray,List.set_cons_zero,List.set_cons_succ]
     refine wpAnyD_take (i:=1) (oi:=_) (v:=?_) rfl (by kernel_rfl) (by kernel_rfl) (by kernel_rfl) (by kernel_rfl) (by kernel_rfl) (fun _ _ _ h=>h) (Or.inl ⟨by rfl,?_⟩) (hHeld (early_of (by kernel_rfl))) ?_
     rotate_left
     · (intro w hSw;(try dsimp only at hSw);first | (go_simp;done) | (go_simp;with_reducible rfl))
     try simp only [Act.put,List.setIfInBounds_toArray,List.set_cons_zero,List.set_cons_succ]
     replace hHeld:=fun (he:Early _ _)=>hHeld (Early.of_set (i:=1) he (by decide))
     refine wpAnyD_ready (rs:=[3]) (by kernel_rfl) (by simp) ?_
     refine (AllReadyD.cons (o:=_) rfl (fun K hK=>?_) AllReadyD.nil)
     clear hHeld
     go_simp
     refine hK.out _ _ ?_ (fun hHeld=>?_)
     · exact fun _=>cell_keep (w':=(w6.drew.alloc (.cells #[.int .i64 (1),.int .i64 (5),.int .i64 (-1),.int .i64 (4)] 3))) Bl (D.boxA.cells.2.2.2.2)
     clear hK K
     try simp only [Act.put,List.setIfInBounds_toArray,List.set_cons_zero,List.set_cons_succ]
     have L3:RInts (w6.drew.alloc (.cells #[.int .i64 (1),.int .i64 (5),.int .i64 (-1),.int .i64 (4)] 3)) (.slice (some ⟨w6.heap.size,0,none⟩) 4 4) [1,5,-1,4]:=by have h:=lit_ints w6.drew [1,5,-1,4] (by decide);(try simp only [World.size_alloc,World.size_drew] at h);exact h
     refine wpAnyD_ready (rs:=[4]) (by kernel_rfl) (by simp) ?_
     refine (AllReadyD.cons (o:=_) rfl (fun K hK=>?_) AllReadyD.nil)
     clear hHeld
     go_simp
     (go_at_call 143;refine (num_any g (q+1) _ [1,5,-1,4] _ (D.keep (w':=(w6.drew.alloc (.cells #[.int .i64 (1),.int .i64 (5),.int .i64 (-1),.int .i64 (4)] 3))) Bl).rdr (L3.keep (w':=(w6.drew.alloc (.cells #[.int .i64 (1),.int .i64 (5),.int .i64 (-1),.int .i64 (4)] 3))) Bl) (by omega) (by decide) (by decide) (fun k hk e=>by simp [Value.ownBlock] at hk;omega)).mono ?_;rintro e y1 ⟨x1,hx1,rfl,hr1,hf1⟩)
     have D1:=(D.keep (w':=(w6.drew.alloc (.cells #[.int .i64 (1),.int .i64 (5),.int .i64 (-1),.int .i64 (4)] 3))) Bl).drawn hr1 hf1 hgl (by omega) (by have:=HT.out.2.1;omega)
     have hg1:=D1.rdr.lt
     clear hr1 hf1 L3
     go_wp2_with fail
     refine hK.out _ _ ?_ (fun hHeld=>?_)
     · exact fun _=>(D1.boxA.cells.2.2.2.2)
     clear hK K
     try simp only [Act.put,List.setIfInBounds_toArray,List.set_cons_zero,List.set_cons_succ]
     refine wpAnyD_ready (rs:=[5]) (by kernel_rfl) (by simp) ?_
     refine (AllReadyD.cons (o:=_) rfl (fun K hK=>?_) AllReadyD.nil)
     clear hHeld
     go_simp
     refine hK.out _ _ ?_ (fun hHeld=>?_)
     · exact fun _=>cell_keep (below_alloc _ _) (D1.boxA.cells.2.2.2.2)
     clear hK K
     try simp only [Act.put,List.setIfInBounds_toArray,List.set_cons_zero,List.set_cons_succ]
     refine wpAnyD_ready (rs:=[6]) (by kernel_rfl) (by simp) ?_
     refine (AllReadyD.cons (o:=_) rfl (fun K hK=>?_) AllReadyD.nil)
     clear hHeld
     refine step_F (by rfl) (.tmp 22) (.tmp 26) _ (by rfl) ti_int (by rfl) (D1.cs.keep (below_alloc _ _)) (by rfl) (lit_ints _ [x1] (by simp)).rl (by have:=HLC.out;simp;omega) (by have:=D1.fr.size;simp;omega) ?_
     intro v' y9 hfe hfr
     obtain ⟨a',n',c',rfl⟩:=hfe.forms
     have DZ:=(D1.keep (below_alloc _ _)).putC hgl HT.out.1 HT.out.2.1 hfe hfr
     have hbz:=box_tf (D1.keep (below_alloc _ _)).boxA hfr (by decide)
     have hbz0:=BoxK.cells hbz
     have hbzz:=frozen_of_row _ _ 4 _ _ hbz
     have hbzl:=box_lt hbz
     clear hbz
     refine hK.out _ _ ?_ (fun hHeld=>?_)
     · exact late_none (by kernel_rfl)
     clear hK K
     try simp only [Act.put,List.setIfInBounds_toArray,List.set_cons_zero,List.set_cons_succ]
     refine wpAnyD_free (i:=7) (oi:=_) (v:=?_) rfl (by kernel_rfl) (by kernel_rfl) (by kernel_rfl) (by kernel_rfl) (fun _ _ _ h=>h) (Or.inl ⟨by rfl,?_⟩) hHeld (fun hHeld=>?_)
     rotate_left
     · (intro w _;first | (go_simp;done) | (go_simp;with_reducible rfl))
     try simp only [Act.put,List.setIfInBounds_toArray,List.set_cons_zero,List.set_cons_succ]
     refine wpAnyD_ready (rs:=[8]) (by kernel_rfl) (by simp) ?_
     refine (AllReadyD.cons (o:=_) rfl (fun K hK=>?_) AllReadyD.nil)
     clear hHeld
     go_simp
     refine hK.out _ _ ?_ (fun hHeld=>?_)
     · exact late_none (by kernel_rfl)
     clear hK K
     try simp only [Act.put,List.setIfInBounds_toArray,List.set_cons_zero,List.set_cons_succ]
     refine wpAnyD_done (by kernel_rfl) ?_ _
     clear hHeld
     have hDZ:=Lib.hid DZ
     clear DZ D D1 hfe hfr hbz0 hbzz hbzl
     go_wp2
     go_meet
     case rel=>exact ⟨_,_,_,_,_,(c.1,c.2.1,c.2.2 ++ [x1]),⟨⟨by simp,by simp⟩,⟨by simp,by simp⟩,by simp⟩,hDZ.out⟩
   · have kb0:((k:Int) == 0)=false:=by simp;omega
     by_cases hk1:k=1
     · subst hk1
       have HD:=Lib.hid (And.intro D A)
       clear D A
       go_wp2_with (at_builtin;go_must (refine app_G (l:=c.1.2) (m:=[(0,0,0)]) (B:=w.heap.size) rfl (.tmp 33) (.tmp 35) _ rfl ti_atom rfl (HD.out.1.a1.keep (below_alloc _ _)) rfl (lit_atom _ _ _ _ _) (by have:=HS.out.1.2;simp;omega) (by simp;omega) ?_;intro v8 w8 o8 hf8;obtain ⟨a8,n8,c8,rfl⟩:=o8.forms;have hA8:=box_tf (HD.out.1.keep (below_alloc w6 (.cells #[.int .i64 0,.int .i64 0,.int .i64 0] 118))).boxA (hf8.mono fun k _ hk=>hk.1.2) (by decide);obtain ⟨e0,e1,e2,e3,e4⟩:=BoxK.cells hA8;have ez:=frozen_of_row _ _ 1 _ _ hA8;have el:=box_lt hA8;clear hA8))
       have DZ:=(HD.out.1.keep (below_alloc w6 (.cells #[.int .i64 0,.int .i64 0,.int .i64 0] 118))).putA (HD.out.2.keep (below_alloc w6 _)) HT.out.2.2 hgl HT.out.1 HT.out.2.1 o8 hf8
       have HZ:=Lib.hid DZ
       clear DZ o8 hf8
       go_meet
       case rel=>exact ⟨_,_,_,_,_,((c.1.1,c.1.2 ++ [(0,0,0)]),c.2),⟨⟨by simp,by simp⟩,⟨by simp,by simp⟩,by simp⟩,HZ.out.more (by omega)⟩
     · have kb1:((k:Int) == 1)=false:=by simp;omega
       by_cases hk2:k=2
       · subst hk2
         have HD:=Lib.hid (And.intro D A)
         clear D A
         go_wp2_with (at_builtin;go_must (refine app_F (l:=c.2.1.1) (m:=[(false,9,0)]) (B:=m) rfl (.tmp 43) (.tmp 45) _ rfl ti_fact rfl (HD.out.2.f2.keep (below_alloc _ _)) rfl (lit_fact _ _ _ _ _) (by have:=HS.out.2.1.1;simp;omega) (by simp;omega) ?_;intro v8 w8 o8 hf8;obtain ⟨a8,n8,c8,rfl⟩:=o8.forms;have hA8:=box_tf (HD.out.1.keep (below_alloc w6 (.cells #[.bool false,.int .i64 9,.int .i64 0] 61))).boxA hf8 (by decide);obtain ⟨e0,e1,e2,e3,e4⟩:=BoxK.cells hA8;have ez:=frozen_of_row _ _ 2 _ _ hA8;have el:=box_lt hA8;clear hA8))
         have DZ:=(HD.out.1.keep (below_alloc w6 (.cells #[.bool false,.int .i64 9,.int .i64 0] 61))).putF (HD.out.2.keep (below_alloc w6 _)) HT.out.2.2 hgl HT.out.1 HT.out.2.1 o8 hf8
         have HZ:=Lib.hid DZ
         clear DZ o8 hf8
         go_meet
         case rel=>exact ⟨_,_,_,_,_,(c.1,(c.2.1.1 ++ [(false,9,0)],c.2.1.2),c.2.2),⟨⟨by simp,by simp⟩,⟨by simp,by simp⟩,by simp⟩,HZ.out.more (by omega)⟩
       · have kb2:((k:Int) == 2)=false:=by simp;omega
         have HD:=Lib.hid D
         clear D A
         go_wp2
         go_meet
         case rel=>exact ⟨_,_,_,_,_,c,⟨⟨by omega,by omega⟩,⟨by omega,by omega⟩,by omega⟩,HD.out.more (by omega)⟩
  case rest =>
   obtain ⟨x1,x2,y1,y2,z,b,hbl,D⟩:=hcut
   obtain ⟨b1,m1,rfl⟩:=D.f1.form
   obtain ⟨b2,m2,rfl⟩:=D.a1.form
   obtain ⟨b3,m3,rfl⟩:=D.f2.form
   obtain ⟨b4,m4,rfl⟩:=D.a2.form
   obtain ⟨b5,m5,rfl⟩:=D.cs.form
   obtain ⟨r0,r1,r2,r3,r4⟩:=D.boxR.cells
   have rl:=box_lt D.boxR
   have rz:=fun i:Nat=>frozen_of_row wc _ i _ _ D.boxR
   obtain ⟨s0,s1,s2,s3,s4⟩:=D.boxA.cells
   have sl:=box_lt D.boxA
   have HD:=Lib.hid (And.intro D hbl)
   clear D hbl t0 t1 t2 t3 t4 tz A
   go_wp2
   have hD:=HD.out.1.done hgl (by omega) (.slice b1 b.1.1.length m1) (.slice b2 b.1.2.length m2) (.slice b3 b.2.1.1.length m3) (.slice b4 b.2.1.2.length m4) (.slice b5 b.2.2.length m5)
   refine bodyPost_ret (v:=.agg #[.slice b1 b.1.1.length m1,.slice b2 b.1.2.length m2,.slice b3 b.2.1.1.length m3,.slice b4 b.2.1.2.length m4,.slice b5 b.2.2.length m5]) (by simp [results,Tryz.results62,go_sem,r0,r1,r2,r3,r4,rl]) rfl ?_
   exact ⟨_,_,_,_,_,b,rfl,HD.out.2,hD.1,hD.2.1,hD.2.2⟩
end Go.Proofs.YtkbbmjcfgcfejaaGreat
