/- Laws for the walks: rows of flat data that grow; what lies in blocks of another type stays. -/
import Derived.Test.YtkbbmjcfgcfejaaGreatLData3
import Derived.Test.YtkbbmjcfgcfejaaGreatLData2
set_option linter.unusedVariables false
set_option linter.unusedSimpArgs false
set_option maxRecDepth 100000
set_option maxHeartbeats 12800000
namespace Go.Proofs.YtkbbmjcfgcfejaaGreat
open Go.RowKit
theorem cr {w:World} {g:Nat} {cs:Array Value} {t:TypeId} {fr:Nat×Nat} (j:Nat) (h:w.heap[g]?=some (.cells cs t fr)):w.cell? ⟨g,j,none⟩=cs[j]?:=cell_of_row _ _ j _ _ _ h
def TF (w:World) (B:Nat) (e:TypeId) (k:Nat):Prop:=B≤k∧∃ cs,w.heap[k]?=some (.cells cs e (0,0))
theorem Ge {w:World} {B b:Nat} {e T:TypeId} {cs:Array Value} (h:w.heap[b]?=some (.cells cs T (0,0))) (hne:T ≠ e):¬ TF w B e b:=by
 rintro ⟨_,cs',h'⟩;rw [h] at h';injection h' with h'
 injection h' with _ h2
 exact hne h2
theorem Pp {w:World} {B e sz n:Nat} {v:Value} {xs:List Value} (h:w.ownsRow B e sz v n xs):∀ k,some k=v.ownBlock→TF w B e k:=fun k hk=>by
 rcases h.2 with ⟨rfl,_⟩ | ⟨g,cap,cur,rfl,hg,hh,_⟩
 · simp [Value.ownBlock] at hk
 · injection hk with hk
   have hk':k=g:=hk;subst hk';exact ⟨hg,cur,hh⟩
theorem SJ {w w':World} {B B' e e' sz n:Nat} {v:Value} {xs:List Value} (h:w.ownsRow B e sz v n xs) (hf:Fr (TF w B' e') w w') (hne:e ≠ e'):w'.ownsRow B e sz v n xs :=
 BR h hf fun k hk=>by
  obtain ⟨_,cs,hc⟩:=Pp h k hk;exact Ge hc hne
theorem AM {w w':World} {B b:Nat} {e T:TypeId} {cs:Array Value} (h:w.heap[b]?=some (.cells cs T (0,0))) (hf:Fr (TF w B e) w w') (hne:T ≠ e):w'.heap[b]?=some (.cells cs T (0,0)) :=
 AA h hf (Ge h hne)
section
variable {w:World}
theorem Pq {B:Nat} {t e:TypeId} {sz:Nat} (ti:TI t e sz) (ty:TypeId) {v:Value} {n:Nat} {xs:List Value} (hown:RowE w B e sz v n xs) {A:Option Addr} {m c:Nat} {news:List Value} (hl:news.length=m * sz)
 (hnews:0 < m→∃ b o,A=some ⟨b,o,none⟩∧∀ j u,news[j]?=some u→w.cell? ⟨b,o+j,none⟩=some u) (h1:∀ u ∈ news,u.oneCell'=true) (hn:n+m≤1099511627776) (hB:B≤w.heap.size) :
 ∃ v' w',(Builtin.append_ #[t,t] ty #[v,.slice A m c]).run Tryz.prog w=.ok v' w'∧RowE w' B e sz v' (n+m) (xs ++ news)∧Fr (TF w B e) w w':=by
 rcases hown with ⟨rfl,rfl,a,rfl⟩ | hown
 · by_cases hm:m=0
   · subst hm
     obtain ⟨i,z,t1,t2,_⟩:=ti;obtain rfl:news=[]:=List.eq_nil_of_length_eq_zero (by simpa using hl);exact ⟨_,w,Ki t1 t2 a A c,.inl ⟨rfl,rfl,a,rfl⟩,Fr.refl _ _⟩
   · cases a with
     | none =>
       obtain ⟨v',w',hrun,ho,hf,_⟩:=DF ti ty (World.ownsRow_nil w B e sz) hl hnews h1 hn hB (c:=c);exact ⟨v',w',hrun,.inr ho,hf.mono fun k _ hk=>by simp [Value.ownBlock] at hk⟩
     | some ad =>
       obtain ⟨i,z,t1,t2,t3,t4,t5,t6,t7⟩:=ti;obtain ⟨b,o,rfl,hc⟩:=hnews Om;have hc':∀ j u,news[j]?=some u→w.cell? ((⟨b,o,none⟩:Addr).add j)=some u:=fun j u hj=>by
        (have e:(⟨b,o,none⟩:Addr).add j=⟨b,o+j,none⟩:=by unfold Addr.add;split <;> simp_all);rw [e];exact hc j u hj
       have hbytes:(0+m) * i.bytes≤140737488355328:=by
        have:(0+m) * i.bytes≤1099511627776 * 128:=Nat.mul_le_mul hn t5;omega
       subst t4;have hr:=run_append_grow (P:=Tryz.prog) w t ty e i z t1 t2 t3 ad 0 0 [] Sp (fun j u hj=>by simp at hj) ⟨b,o,none⟩ m c news hl hc' Om Om (growslice_fits Om hbytes);refine ⟨_,_,hr,.inr ?_,?_⟩
       · have hge:=grownCap_ge w (0+m) 0 e
         have hcm:grownCap w (0+m) 0 e≤maxLen:=grownCap_le_maxLen w (0+m) 0 e (by unfold maxLen;omega);refine ⟨by rw [List.nil_append,hl,Nat.zero_add],.inr ⟨w.heap.size,_,_,rfl,hB,heap_alloc_new w.drew _,hge,hcm,?_,?_⟩⟩
         · simp only [Array.size_append,List.size_toArray,size_zeroCells,t6,hl,List.length_nil,Nat.zero_add,← Nat.add_mul]
           simp only [Nat.zero_add] at hge;rw [Nat.add_sub_cancel' hge]
         · simp only [Array.toList_append,List.nil_append,Nat.zero_add]
           rw [← hl];exact List.take_left
       · exact (Below.fr (Ai w |>.trans ((Aa w.drew _).mono (Nat.le_refl _)))).mono fun _ _ h=>h.elim
 · obtain ⟨v',w',hrun,ho,hf,_⟩:=DF ti ty hown hl hnews h1 hn hB (c:=c)
   exact ⟨v',w',hrun,.inr ho,hf.mono fun k _ hk=>Pp hown k hk⟩
end
def FE {α:Type} [Flat α] [Tid α] (w:World) (B:Nat) (v:Value) (l:List α):Prop :=
 ∃ xs,RowE w B (Tid.tid α) (Dat.sz α) v l.length xs∧∀ i,i < l.length→Dat.rd w (fun _=>False) (gd l i) (Bz (Dat.sz α) xs i)
theorem GF {α:Type} [Flat α] {w w1:World} {S:Nat→Prop} {a:α} {cs:List Value} (h:Dat.rd w1 S a cs):Dat.rd w (fun _=>False) a cs:=Dat.more (Own.read (Flat.flat (w':=w) (B:=0) h)) fun k _ hk=>by cases hk
section
variable {α:Type} [Flat α] [Tid α] {w w':World} {B:Nat} {v:Value} {l m:List α} {S:Nat→Prop}
theorem FE.nil (w:World) (B:Nat) (a:Option Addr):FE w B (.slice a 0 0) ([]:List α):=⟨[],Hc _ _ _ _ a,fun i hi=>absurd hi Sp⟩
theorem FE.rl (h:FE w B v l):RL w (fun k=>B≤k) v l:=by
 obtain ⟨xs,h1,h2⟩:=h;exact (RowE.rl h1 h2).more fun k _ hk=>hk.elim (fun h=>h.elim) id
theorem FE.kept (h:FE w B v l) (hf:Fr S w w') (hs:∀ k,TF w B (Tid.tid α) k→¬ S k):FE w' B v l:=by
 obtain ⟨xs,h1,h2⟩:=h;refine ⟨xs,?_,fun i hi=>GF (h2 i hi)⟩;rcases h1 with h1 | h1
 · exact .inl h1
 · exact .inr (BR h1 hf fun k hk=>hs k (Pp h1 k hk))
theorem FE.keep (h:FE w B v l) (hb:Below w.heap.size w w'):FE w' B v l:=h.kept (Below.fr hb) fun _ _ h=>h
theorem FE.alloc (h:FE w B v l) (o:Obj):FE (w.alloc o) B v l:=h.keep (Aa _ _)
theorem FE.mono {B':Nat} (h:FE w B v l) (hB:B'≤B):FE w B' v l:=by
 obtain ⟨xs,h1,h2⟩:=h;exact ⟨xs,h1.mono hB,h2⟩
theorem FE.setB (h:FE w B v l) {p:Addr} {u:Value} (hp:¬ TF w B (Tid.tid α) p.block):FE (w.setCell p u) B v l:=h.kept (Aw _ _ _) fun _ hk e=>hp (e ▸ hk)
theorem FE.tf {B':Nat} {e':TypeId} (h:FE w B v l) (hf:Fr (TF w B' e') w w') (hne:Tid.tid α ≠ e'):FE w' B v l:=h.kept hf fun k hk hk2=>by
 obtain ⟨_,cs,hc⟩:=hk;exact Ge hc hne hk2
theorem FE.form (h:FE w B v l):∃ a c,v=.slice a l.length c:=h.rl.form
theorem FE.forms (h:FE w B v l):∃ a n c,v=.slice a n c:=by obtain ⟨a,c,h⟩:=h.form;exact ⟨a,_,c,h⟩
theorem SK {t:TypeId} (ti:TI t (Tid.tid α) (Dat.sz α)) (ty:TypeId) (h:FE w B v l) {x:Value} (hr:RL w S x m) (hn:l.length+m.length≤1099511627776) (hB:B≤w.heap.size) :
 ∃ v' w',(Builtin.append_ #[t,t] ty #[v,x]).run Tryz.prog w=.ok v' w'∧FE w' B v' (l ++ m)∧Fr (TF w B (Tid.tid α)) w w':=by
 obtain ⟨xs,hown,hx⟩:=h;obtain ⟨a,c,rfl⟩:=hr.form;obtain ⟨_,news,hrd,hone,hnth⟩:=hr.reads;obtain ⟨v',w',hrun,h1,h2⟩:=Pq ti ty hown hrd.1 (A:=a) (c:=c) (fun hm=>by
  rcases hr with ⟨a',cap,e,rfl,_⟩ | ⟨b,o,cap,e,_⟩
  · simp at hm
  · injection e with e
    subst e;obtain ⟨ad,e2,_,hc⟩:=hrd.2 hm;injection e2 with e2
    subst e2;exact ⟨b,o,rfl,fun j u hj=>by
     (have e:(⟨b,o,none⟩:Addr).add j=⟨b,o+j,none⟩:=by unfold Addr.add;split <;> simp_all);rw [← e];exact hc j u hj⟩) hone hn hB
 refine ⟨v',w',hrun,⟨xs ++ news,by rw [List.length_append];exact h1,fun i hi=>?_⟩,h2⟩;rw [List.length_append] at hi;have hxl:=hown.len;by_cases hlt:i < l.length
 · rw [Dj hlt,Fb hxl hlt];exact GF (hx i hlt)
 · obtain ⟨j,rfl⟩:∃ j,i=l.length+j:=⟨i - l.length,by omega⟩
   rw [Fx Om,Gd hxl,Nat.add_sub_cancel_left];exact GF (hnth j Om)
theorem CA {o:Oper} {a:Act} {K:Act→World→Prop} {Q:Exit→Act→World→Prop} (s x:Operand) (t:TypeId)
 (ho:o.op=.call { callee:=.builtin .append,args:=#[s,x],argTypes:=#[t,t] }) (ti:TI t (Tid.tid α) (Dat.sz α)) {v vx:Value} (hs:a.eval s=v) (hown:FE w B v l)
 (hx:a.eval x=vx) (hr:RL w S vx m) (hn:l.length+m.length≤1099511627776) (hB:B≤w.heap.size)
 (h:∀ v' w',FE w' B v' (l ++ m)→Fr (TF w B (Tid.tid α)) w w'→K (a.put o.dst v') w'):o.wp Tryz.prog a w K Q:=by
 obtain ⟨v',w',hrun,h1,h2⟩:=SK ti o.type hown hr hn hB;unfold Oper.wp execOp;simp only [ho,resolve,invoke,builtin,Sem.run_bind,Sem.run_pure,Result.andThen_ok,List.map_toArray,List.map_cons,List.map_nil,hs,hx,hrun];exact h v' w' h1 h2
theorem Ez {ops:Array Oper} {rest:List Oper} {o:Oper} {a:Act} {Q:Exit→Act→World→Prop} (hgd:o.guard=none) (s x:Operand) (t:TypeId)
 (ho:o.op=.call { callee:=.builtin .append,args:=#[s,x],argTypes:=#[t,t] }) (ti:TI t (Tid.tid α) (Dat.sz α)) {v vx:Value} (hs:a.eval s=v) (hown:FE w B v l)
 (hx:a.eval x=vx) (hr:RL w S vx m) (hn:l.length+m.length≤1099511627776) (hB:B≤w.heap.size)
 (h:∀ v' w',FE w' B v' (l ++ m)→Fr (TF w B (Tid.tid α)) w w'→wpList Tryz.prog ops Q rest (a.put o.dst v') w'):wpList Tryz.prog ops Q (o :: rest) a w :=
 wpList_plain hgd fun _ hK=>CA s x t ho ti hs hown hx hr hn hB fun v' w' h1 h2=>hK _ _ (h v' w' h1 h2)
theorem DH {ops:Array Oper} {o:Oper} {a:Act} {K:Act→World→Prop} {Q:Exit→Act→World→Prop} {E:Prop} (hgd:o.guard=none) (s x:Operand) (t:TypeId)
 (ho:o.op=.call { callee:=.builtin .append,args:=#[s,x],argTypes:=#[t,t] }) (ti:TI t (Tid.tid α) (Dat.sz α)) {v vx:Value} (hs:a.eval s=v) (hown:FE w B v l)
 (hx:a.eval x=vx) (hr:RL w S vx m) (hn:l.length+m.length≤1099511627776) (hB:B≤w.heap.size)
 (h:∀ v' w',FE w' B v' (l ++ m)→Fr (TF w B (Tid.tid α)) w w'→K (a.put o.dst v') w') :
 if Region.wanted o (yielded ops a.tmps)=true then Oper.wp Tryz.prog o a w K Q else E:=by
 have hw:Region.wanted o (yielded ops a.tmps)=true:=by simp [Region.wanted,hgd]
 rw [if_pos hw];exact CA s x t ho ti hs hown hx hr hn hB h
end
theorem QP {α:Type} [Dat α] (w:World) (cs:List Value) (T:TypeId) (x:α) (hrd:Dat.rd w (fun _=>False) x cs):RL (w.alloc (.cells cs.toArray T)) (fun k=>k=w.heap.size) (.slice (some ⟨w.heap.size,0,none⟩) 1 1) [x]:=by
 refine .inr ⟨w.heap.size,0,1,rfl,by simp,by unfold maxLen;omega,fun _=>⟨rfl,by simp⟩,fun i hi=>⟨cs,?_,fun j u hj=>?_⟩⟩
 · have:i=0:=by simpa using hi
   subst this;exact Dat.more (Dat.kept hrd (Below.fr (Aa w _)) fun _ _ h=>h.elim) fun _ _ h=>h.elim
 · have:i=0:=by simpa using hi
   subst this;rw [cell_of_row _ _ _ _ _ _ (heap_alloc_new w _)];simp [hj]
theorem Bm (w:World) (a:Bool) (b c:Int) (T:TypeId):RL (w.alloc (.cells #[.bool a,.int .i64 b,.int .i64 c] T)) (fun k=>k=w.heap.size) (.slice (some ⟨w.heap.size,0,none⟩) 1 1) [((a,b,c):Ap)] :=
 QP w [.bool a,.int .i64 b,.int .i64 c] T ((a,b,c):Ap) (Ha w _ (a,b,c))
theorem BB (w:World) (a b c:Int) (T:TypeId):RL (w.alloc (.cells #[.int .i64 a,.int .i64 b,.int .i64 c] T)) (fun k=>k=w.heap.size) (.slice (some ⟨w.heap.size,0,none⟩) 1 1) [((a,b,c):Am)] :=
 QP w [.int .i64 a,.int .i64 b,.int .i64 c] T ((a,b,c):Am) (Hb w _ (a,b,c))
def FW2 {α:Type} [Flat α] [Tid α] (w:World) (B:Nat) (v:Value) (l:List α) (fp:List Nat):Prop:=(l=[]∧fp=[]∧∃ a,v=.slice a 0 0)∨(OL w B v l fp∧fp=v.ownBlock.toList)
section
variable {α:Type} [Flat α] [Tid α] {w w':World} {B B':Nat} {v:Value} {l:List α} {fp:List Nat} {T:Nat→Prop}
theorem FW2.lt (h:FW2 w B v l fp):∀ k ∈ fp,B≤k∧k < w.heap.size:=by
 rcases h with ⟨_,rfl,_⟩ | ⟨h,_⟩
 · intro k hk;cases hk
 · exact h.lt
theorem FW2.read (h:FW2 w B v l fp):RL w (· ∈ fp) v l:=by
 rcases h with ⟨rfl,rfl,a,rfl⟩ | ⟨h,_⟩
 · exact .inl ⟨a,0,rfl,rfl,by unfold maxLen;omega,fun _=>rfl⟩
 · exact h.read
theorem FW2.okept (h:FW2 w B v l fp) (hf:Fr T w w') (hs:∀ k ∈ fp,¬ T k):FW2 w' B v l fp:=by
 rcases h with h | ⟨h,e⟩
 · exact .inl h
 · exact .inr ⟨h.okept hf hs,e⟩
theorem FW2.mono (h:FW2 w B v l fp) (hB:B'≤B):FW2 w B' v l fp:=by
 rcases h with h | ⟨h,e⟩
 · exact .inl h
 · exact .inr ⟨h.mono hB,e⟩
end
def Pr:Type:=Aj
instance:Own Pr where
 default:=(([],[]):Aj)
 sz:=2
 rd:=fun w S a cs=>Dat.rd (α:=Aj) w S a cs
 len:=fun h=>Dat.len (α:=Aj) h
 kept:=fun h hf hs=>Dat.kept (α:=Aj) h hf hs
 more:=fun h hs=>Dat.more (α:=Aj) h hs
 one:=fun h=>Dat.one (α:=Aj) h
 own:=fun w B (a:Aj) cs fp=>∃ v1 v2 f1 f2,cs=[v1,v2]∧fp=f1 ++ f2∧FW2 w B v1 a.1 f1∧FW2 w B v2 a.2 f2
 lt:=fun h k hk=>by
  obtain ⟨v1,v2,f1,f2,_,rfl,h1,h2⟩:=h;rcases List.mem_append.1 hk with hk | hk
  · exact h1.lt k hk
  · exact h2.lt k hk
 read:=fun h=>by
  obtain ⟨v1,v2,f1,f2,rfl,rfl,h1,h2⟩:=h;exact GE (h1.read.more fun k _ hk=>List.mem_append_left _ hk) (h2.read.more fun k _ hk=>List.mem_append_right _ hk)
 okept:=fun h hf hs=>by
  obtain ⟨v1,v2,f1,f2,e1,rfl,h1,h2⟩:=h;exact ⟨v1,v2,f1,f2,e1,rfl,h1.okept hf fun k hk=>hs k (List.mem_append_left _ hk),h2.okept hf fun k hk=>hs k (List.mem_append_right _ hk)⟩
 mono:=fun h hB=>by
  obtain ⟨v1,v2,f1,f2,e1,e2,h1,h2⟩:=h;exact ⟨v1,v2,f1,f2,e1,e2,h1.mono hB,h2.mono hB⟩
def Cm:Nat→Type
 | 0=>Unit
 | d+1=>Int × Int × Int × Ap × Pr × List (Cm d) × List (Cm d)
instance tidCm (d:Nat):Tid (Cm d):=⟨63⟩
instance ownCm:(d:Nat)→Own (Cm d)
 | 0=>{ default:=(),sz:=10,rd:=fun _ _ _ _=>False,len:=fun h=>h.elim,kept:=fun h _ _=>h,more:=fun h _=>h,one:=fun h=>h.elim,
        own:=fun _ _ _ _ _=>False,lt:=fun h=>h.elim,read:=fun h=>h,okept:=fun h _ _=>h,mono:=fun h _=>h }
 | d+1=>by
   haveI:=ownCm d
   exact inferInstanceAs (Own (Int × Int × Int × Ap × Pr × List (Cm d) × List (Cm d)))
section
variable {d:Nat}
def Cm.kind (c:Cm (d+1)):Int:=c.1
def Cm.a (c:Cm (d+1)):Int:=c.2.1
def Cm.b (c:Cm (d+1)):Int:=c.2.2.1
def Cm.test (c:Cm (d+1)):Ap:=c.2.2.2.1
def Cm.inv (c:Cm (d+1)):Aj:=c.2.2.2.2.1
def Cm.body (c:Cm (d+1)):List (Cm d):=c.2.2.2.2.2.1
def Cm.els (c:Cm (d+1)):List (Cm d):=c.2.2.2.2.2.2
def Cm.mk (k a b:Int) (t:Ap) (i:Aj) (x y:List (Cm d)):Cm (d+1):=(k,a,b,t,i,x,y)
def Cq (k a b:Int) (t:Ap) (f1 f2 x y:Value):List Value:=[.int .i64 k,.int .i64 a,.int .i64 b,.bool t.1,.int .i64 t.2.1,.int .i64 t.2.2,f1,f2,x,y]
end
theorem Ny (d:Nat):Dat.sz (Cm d)=10:=by cases d <;> rfl
section
variable {d:Nat} {w:World} {S:Nat→Prop} {B:Nat} {v:Value}
theorem SL {c:Cm (d+1)} {cs:List Value} (h:Dat.rd w S c cs) :
 ∃ f1 f2 x y,cs=Cq c.kind c.a c.b c.test f1 f2 x y∧(RL w S f1 c.inv.1∧RL w S f2 c.inv.2)∧(RL w S x c.body∧RL w S y c.els):=by
 obtain ⟨c1,r1,rfl,h1,c2,r2,rfl,h2,c3,r3,rfl,h3,c4,r4,rfl,h4,c5,r5,rfl,h5,c6,r6,rfl,h6,h7⟩:=h;obtain ⟨x,e6,k6⟩:=QI h6;obtain ⟨y,e7,k7⟩:=QI h7;subst e6 e7;obtain ⟨f1,f2,rfl,g1,g2⟩:=Pc h5;have e4:=QJ h4;subst e4;have e1:c1=[.int .i64 c.1]:=h1;have e2:c2=[.int .i64 c.2.1]:=h2;have e3:c3=[.int .i64 c.2.2.1]:=h3;subst e1 e2 e3;exact ⟨f1,f2,x,y,rfl,⟨g1,g2⟩,k6,k7⟩
theorem Nz {c:Cm (d+1)} {f1 f2 x y:Value} (h1:RL w S f1 c.inv.1) (h2:RL w S f2 c.inv.2) (h3:RL w S x c.body) (h4:RL w S y c.els):Dat.rd w S c (Cq c.kind c.a c.b c.test f1 f2 x y) :=
 ⟨[.int .i64 c.1],_,rfl,rfl,[.int .i64 c.2.1],_,rfl,rfl,[.int .i64 c.2.2.1],_,rfl,rfl,[.bool c.test.1,.int .i64 c.test.2.1,.int .i64 c.test.2.2],_,rfl,Ha w S c.test,[f1,f2],[x,y],rfl,⟨[f1],[f2],rfl,⟨f1,rfl,h1⟩,f2,rfl,h2⟩,[x],[y],rfl,⟨x,rfl,h3⟩,y,rfl,h4⟩
theorem RL.cmAt {l:List (Cm (d+1))} (h:RL w S v l):∃ a cap,v=.slice a l.length cap∧l.length≤cap∧cap≤maxLen ∧
 ∀ i,i < l.length→∃ b o f1 f2 x y,a=some ⟨b,o,none⟩∧S b∧b < w.heap.size∧(∀ j u,(Cq (gd l i).kind (gd l i).a (gd l i).b (gd l i).test f1 f2 x y)[j]?=some u→w.cell? ⟨b,o+i * 10+j,none⟩=some u) ∧
   (RL w S f1 (gd l i).inv.1∧RL w S f2 (gd l i).inv.2)∧(RL w S x (gd l i).body∧RL w S y (gd l i).els):=by
 obtain ⟨a,cap,e,h1,h2,h3⟩:=h.cells;refine ⟨a,cap,e,h1,h2,fun i hi=>?_⟩;obtain ⟨b,o,ea,hs,hb,cs,hr,hc⟩:=h3 i hi;obtain ⟨f1,f2,x,y,rfl,g1,g2⟩:=SL hr;refine ⟨b,o,f1,f2,x,y,ea,hs,hb,fun j u hj=>?_,g1,g2⟩;have:=hc j u hj;rw [Ny] at this;rwa [← Nat.add_assoc] at this
theorem RL.cm0 {l:List (Cm 0)} (h:RL w S v l):l=[]:=by
 cases l with
 | nil=>rfl
 | cons c l =>
   obtain ⟨a,cap,e,h1,h2,h3⟩:=h.cells;obtain ⟨b,o,ea,hs,hb,cs,hr,hc⟩:=h3 0 Sp;exact hr.elim
theorem Rx {c:Cm (d+1)} {f1 f2 x y:Value} {p1 p2 p3 p4:List Nat} (h1:FW2 w B f1 c.inv.1 p1) (h2:FW2 w B f2 c.inv.2 p2) (h3:OL w B x c.body p3) (h4:OL w B y c.els p4):Own.own w B c (Cq c.kind c.a c.b c.test f1 f2 x y) ((p1 ++ p2) ++ (p3 ++ p4)) :=
 ⟨[.int .i64 c.1],_,[],_,rfl,rfl,⟨rfl,rfl⟩,[.int .i64 c.2.1],_,[],_,rfl,rfl,⟨rfl,rfl⟩,[.int .i64 c.2.2.1],_,[],_,rfl,rfl,⟨rfl,rfl⟩,[.bool c.test.1,.int .i64 c.test.2.1,.int .i64 c.test.2.2],_,[],_,rfl,rfl,LJ w B c.test,[f1,f2],[x,y],_,_,rfl,rfl,⟨f1,f2,p1,p2,rfl,rfl,h1,h2⟩,[x],[y],p3,p4,rfl,rfl,⟨x,rfl,h3⟩,y,rfl,h4⟩
end
theorem OO.ints {w:World} {B:Nat} {v:Value} {l:List Int} (h:w.ownsRow B 3 1 v l.length (ints l)):OO w B v l:=⟨_,QO h,Ff v⟩
section
variable {α:Type} [Own α] [Tid α] {w0 w2:World} {B:Nat} {v:Value} {l:List α} {T:Nat→Prop}
theorem PL.grow (h:PL w0 B v l.length l l.length) (hf0:Fr T w0 w2) (hT:∀ k,B≤k→k < w0.heap.size→¬ T k) (hB:B≤w0.heap.size) :
 ∃ xs,w2.ownsRow B (Tid.tid α) (Dat.sz α) v l.length xs∧∀ (x:α) (cs:List Value) (fx:List Nat) (v':Value) (w3:World),Own.own w2 w0.heap.size x cs fx→fx.Nodup→Fr (fun k=>some k=v.ownBlock) w2 w3 →
   w3.ownsRow B (Tid.tid α) (Dat.sz α) v' (l.length+1) (xs ++ cs)→(v'.ownBlock=v.ownBlock∨v'.ownBlock=some w2.heap.size)→PL w3 B v' (l ++ [x]).length (l ++ [x]) (l ++ [x]).length:=by
 obtain ⟨xs,fps,hr,hfl,hn,ho⟩:=h;have hr2:=BR hr hf0 (fun k hk=>hT k (AD hr hk).1 (AD hr hk).2);refine ⟨xs,hr2,fun x cs fx v' w3 hx hfx hf hr3 hlie=>?_⟩;have ho2:∀ i,i < l.length→Own.own w2 B (gd l i) (Bz (Dat.sz α) xs i) (gd fps i):=fun i hi=>Own.okept (ho i hi) hf0 fun k hk=>hT k (Own.lt (ho i hi) k hk).1 (Own.lt (ho i hi) k hk).2;have hlt1:∀ k ∈ fps.flatten,k < w0.heap.size:=fun k hk=>by
  obtain ⟨i,hi,hm⟩:=F8 hk;exact (Own.lt (ho i Om) k hm).2
 have hlt2:∀ k ∈ fx,w0.heap.size≤k∧k < w2.heap.size:=fun k hk=>Own.lt hx k hk;have hn0:=List.nodup_append.1 hn;have hz:=hf0.size;have hvl:∀ k,some k=v.ownBlock→k < w0.heap.size:=fun k hk=>(AD hr hk).2;refine ⟨xs ++ cs,fps ++ [fx],by rw [List.length_append];exact hr3,by simp [hfl],?_,fun i hi=>?_⟩
 · rw [List.flatten_append,List.flatten_cons,List.flatten_nil,List.append_nil]
   refine List.nodup_append.2 ⟨Ff v',List.nodup_append.2 ⟨hn0.2.1,hfx,fun a ha b hb e=>by
    have:=hlt1 a ha;have:=(hlt2 b hb).1;omega⟩,fun a ha b hb2 e=>?_⟩
   subst e;have ha':=Ba.1 ha;rcases hlie with h | h
   · rw [h] at ha'
     rcases List.mem_append.1 hb2 with hm | hm
     · exact hn0.2.2 a (Ba.2 ha') a hm rfl
     · have:=hvl a ha'
       have:=(hlt2 a hm).1;omega
   · rw [h] at ha'
     injection ha' with ha'
     rcases List.mem_append.1 hb2 with hm | hm
     · have:=hlt1 a hm;omega
     · have:=(hlt2 a hm).2;omega
 · rw [List.length_append,List.length_singleton] at hi
   by_cases hlt:i < l.length
   · rw [Dj hlt,Dj Om,Fb hr.1 hlt]
     refine Own.okept (ho2 i hlt) hf fun k hk e=>?_;exact hn0.2.2 k (Ba.2 e) k (Fc Om hk) rfl
   · obtain rfl:i=l.length:=by omega
     rw [Hv,SB hr.1 (Dat.len (Own.read hx)),← hfl,Hv];exact Own.mono (Own.okept hx hf fun k hk e=>by have:=hvl k e;have:=(hlt2 k hk).1;omega) hB
theorem OO.pl (h:OO w0 B v l):PL w0 B v l.length l l.length:=by
 obtain ⟨fp,⟨xs,fps,hr,hl,rfl,ho⟩,hn⟩:=h;exact ⟨xs,fps,hr,hl,hn,ho⟩
theorem OO.nil (w:World) (B:Nat):OO w B (.slice none 0 0) ([]:List α):=⟨[],OL.nil _ _,List.nodup_nil⟩
end
theorem QQ:TI 238 27 1:=Nv Tryz.underlying238 Po Dc rfl Dc
theorem Vn (w:World) (u:Value) (e:TypeId):0 < 1→∃ b o,some (⟨w.heap.size,0,none⟩:Addr)=some ⟨b,o,none⟩∧∀ j x,[u][j]?=some x→(w.alloc (.cells #[u] e)).cell? ⟨b,o+j,none⟩=some x:=fun _ =>
 ⟨w.heap.size,0,rfl,fun j x hj=>by
   match j,hj with
   | 0,hj=>simp at hj;subst hj;simp⟩
theorem Wo (a:Option Addr) (n c:Nat):∀ u ∈ [Value.slice a n c],u.oneCell'=true:=fun u hu=>by
 simp at hu;subst hu;rfl
section
variable {d:Nat} {w w':World} {B:Nat} {v:Value} {l:List (Cm d)} {T:Nat→Prop}
end
section
variable {w:World}
end
def BP (n:Int):Bool:=decide (1≤n) && decide (n≤4)
def Ib (f:Ap):Bool:=!f.1 && (decide (f.2.1=0) && decide (f.2.2=0))
def C3 (a:Pr):Bool:=decide (a.1.length=0) && decide (a.2.length=0)
def Bs {d:Nat} (c:Cm (d+1)):Bool :=
 Ib c.test && (C3 c.inv && (decide (c.body.length=0) && (decide (c.els.length=0) &&
  (((decide (c.kind=1) || decide (c.kind=2)) && (BP c.a && Al c.b)) ||
    ((decide (c.kind=3) && (Al c.a && Al c.b)) ||
      ((decide (c.kind=4) && (BP c.a && decide (c.b=0))) || (decide (c.kind=5) && (Al c.a && decide (c.b=0)))))))))
theorem FC (n:Int) (w:World) :
 Calls Tryz.prog 154 #[.int .i64 n] w fun e w'=>e=.returned (.bool (BP n))∧w=w':=by
 by_cases h1:1≤n
 · by_cases h2:n≤4
   all_goals
    go_enter Tryz.func154,Tryz.ntmps154
    go_wp2;go_ret;simp [BP,h1,h2]
 · go_enter Tryz.func154,Tryz.ntmps154
   go_wp2;go_ret;simp [BP];omega
theorem Js {S1 S2:Nat→Prop} (v1 v2:Value) (a:Pr) (w:World) (h1:RL w S1 v1 a.1) (h2:RL w S2 v2 a.2) :
 Calls Tryz.prog 215 #[.agg #[v1,v2]] w fun e w'=>e=.returned (.bool (C3 a))∧Below w.heap.size w w':=by
 obtain ⟨a1,c1,rfl⟩:=h1.form;obtain ⟨a2,c2,rfl⟩:=h2.form;have hm1:a.1.length≤maxLen:=by have:=h1.len;omega
 have hm2:a.2.length≤maxLen:=by have:=h2.len;omega
 by_cases e1:a.1.length=0
 · by_cases e2:a.2.length=0
   all_goals
    go_enter Tryz.func215,Tryz.ntmps215
    go_wp2;go_ret;exact ⟨by simp [C3,e1,e2],Aa _ _⟩
 · go_enter Tryz.func215,Tryz.ntmps215
   go_wp2;go_ret;exact ⟨by simp [C3,e1],Aa _ _⟩
theorem MH (f:Ap) (w:World) :
 Calls Tryz.prog 255 #[.agg #[.bool f.1,.int .i64 f.2.1,.int .i64 f.2.2]] w fun e w'=>e=.returned (.bool (Ib f))∧Below w.heap.size w w':=by
 go_enter Tryz.func255,Tryz.ntmps255
 go_wp2;all_goals
  go_ret;refine ⟨?_,Aa _ _⟩;simp [Ib, *]
theorem Jt {d:Nat} {S1 S2 S3 S4:Nat→Prop} (c:Cm (d+1)) (f1 f2 x y:Value) (w:World) (h1:RL w S1 f1 c.inv.1) (h2:RL w S2 f2 c.inv.2) (h3:RL w S3 x c.body) (h4:RL w S4 y c.els) :
 Calls Tryz.prog 216 #[.agg #[.int .i64 c.kind,.int .i64 c.a,.int .i64 c.b,.bool c.test.1,.int .i64 c.test.2.1,.int .i64 c.test.2.2,f1,f2,x,y]] w fun e w'=>e=.returned (.bool (Bs c))∧Below w.heap.size w w':=by
 obtain ⟨a1,c1,rfl⟩:=h1.form;obtain ⟨a2,c2,rfl⟩:=h2.form;obtain ⟨a3,c3,rfl⟩:=h3.form;obtain ⟨a4,c4,rfl⟩:=h4.form;have hm3:c.body.length≤maxLen:=by have:=h3.len;omega
 have hm4:c.els.length≤maxLen:=by have:=h4.len;omega
 have HR1:=Ad h1;have HR2:=Ad h2;clear h1 h2 h3 h4;go_enter Tryz.func216,Tryz.ntmps216
 go_wp2_with fail
 refine (MH c.test _).mono ?_;rintro e w1 ⟨rfl,hb1⟩;cases e1:Ib c.test
 · go_wp2
   go_ret;exact ⟨by simp [Bs,e1],bt (Aa _ _) (by simpa using hb1)⟩
 · have hp:=Ac (heap_alloc_new w (.cells #[.int .i64 c.kind,.int .i64 c.a,.int .i64 c.b,.bool c.test.1,.int .i64 c.test.2.1,.int .i64 c.test.2.2,.slice a1 c.inv.1.length c1,.slice a2 c.inv.2.length c2,.slice a3 c.body.length c3,.slice a4 c.els.length c4] 63)) hb1
   have HP:=Ad hp;have p0:=cr 0 hp;have p1:=cr 1 hp;have p2:=cr 2 hp;have p3:=cr 3 hp;have p4:=cr 4 hp;have p5:=cr 5 hp;have p6:=cr 6 hp;have p7:=cr 7 hp;have p8:=cr 8 hp;have p9:=cr 9 hp;(go_wp2_with fail);refine (Js (.slice a1 c.inv.1.length c1) (.slice a2 c.inv.2.length c2) c.inv _ ((HR1.o.keep (Aa _ _)).keep hb1) ((HR2.o.keep (Aa _ _)).keep hb1)).mono ?_;rintro e w2 ⟨rfl,hb2⟩;have hB2:=bt (Aa w (.cells #[.int .i64 c.kind,.int .i64 c.a,.int .i64 c.b,.bool c.test.1,.int .i64 c.test.2.1,.int .i64 c.test.2.2,.slice a1 c.inv.1.length c1,.slice a2 c.inv.2.length c2,.slice a3 c.body.length c3,.slice a4 c.els.length c4] 63)) (bt hb1 hb2);have hq:=Ac hp hb2;have q0:=cr 0 hq;have q1:=cr 1 hq;have q2:=cr 2 hq;have q3:=cr 3 hq;have q4:=cr 4 hq;have q5:=cr 5 hq;have q6:=cr 6 hq;have q7:=cr 7 hq;have q8:=cr 8 hq;have q9:=cr 9 hq;clear p0 p1 p2 p3 p4 p5 p6 p7 p8 p9 hp hb1 hb2;have HB:=Ad hB2;clear hB2 hm3 hm4;cases e2:C3 c.inv
   · go_wp2
     go_ret;exact ⟨by simp [Bs,e2],HB.o⟩
   · by_cases k3:c.body.length=0
     · by_cases k4:c.els.length=0
       · have b3:c.body=[]:=List.length_eq_zero_iff.1 k3
         have b4:c.els=[]:=List.length_eq_zero_iff.1 k4;by_cases z1:c.kind=1
         · have y1:(c.kind == 1)=true:=by simp [z1]
           (go_wp2_with fail);refine (FC c.a _).mono ?_;rintro e w3 ⟨rfl,rfl⟩;cases e3:BP c.a
           · go_wp2
             go_ret;exact ⟨by simp [Bs,e1,e2,e3,b3,b4,z1],HB.o⟩
           · go_wp2_with fail
             refine (Cf c.b _).mono ?_;rintro e w4 ⟨rfl,rfl⟩;go_wp2;go_ret;exact ⟨by simp [Bs,e1,e2,e3,b3,b4,z1],HB.o⟩
         (have y1:(c.kind == 1)=false:=by simp [z1]);by_cases z2:c.kind=2
         · have y2:(c.kind == 2)=true:=by simp [z2]
           (go_wp2_with fail);refine (FC c.a _).mono ?_;rintro e w3 ⟨rfl,rfl⟩;cases e3:BP c.a
           · go_wp2
             go_ret;exact ⟨by simp [Bs,e1,e2,e3,b3,b4,z2],HB.o⟩
           · go_wp2_with fail
             refine (Cf c.b _).mono ?_;rintro e w4 ⟨rfl,rfl⟩;go_wp2;go_ret;exact ⟨by simp [Bs,e1,e2,e3,b3,b4,z2],HB.o⟩
         (have y2:(c.kind == 2)=false:=by simp [z2]);by_cases z3:c.kind=3
         · have y3:(c.kind == 3)=true:=by simp [z3]
           (go_wp2_with fail);refine (Cf c.a _).mono ?_;rintro e w3 ⟨rfl,rfl⟩;cases e3:Al c.a
           · go_wp2
             go_ret;exact ⟨by simp [Bs,e1,e2,e3,b3,b4,z3],HB.o⟩
           · go_wp2_with fail
             refine (Cf c.b _).mono ?_;rintro e w4 ⟨rfl,rfl⟩;go_wp2;go_ret;exact ⟨by simp [Bs,e1,e2,e3,b3,b4,z3],HB.o⟩
         (have y3:(c.kind == 3)=false:=by simp [z3]);by_cases z4:c.kind=4
         · have y4:(c.kind == 4)=true:=by simp [z4]
           (go_wp2_with fail);refine (FC c.a _).mono ?_;rintro e w3 ⟨rfl,rfl⟩;cases e3:BP c.a
           · go_wp2
             go_ret;exact ⟨by simp [Bs,e1,e2,e3,b3,b4,z4],HB.o⟩
           · go_wp2
             all_goals
              go_ret;exact ⟨by simp [Bs,e1,e2,e3,b3,b4,z4];rfl,HB.o⟩
         (have y4:(c.kind == 4)=false:=by simp [z4]);by_cases z5:c.kind=5
         · have y5:(c.kind == 5)=true:=by simp [z5]
           (go_wp2_with fail);refine (Cf c.a _).mono ?_;rintro e w3 ⟨rfl,rfl⟩;cases e3:Al c.a
           · go_wp2
             go_ret;exact ⟨by simp [Bs,e1,e2,e3,b3,b4,z5],HB.o⟩
           · go_wp2
             all_goals
              go_ret;exact ⟨by simp [Bs,e1,e2,e3,b3,b4,z5];rfl,HB.o⟩
         (have y5:(c.kind == 5)=false:=by simp [z5]);go_wp2;go_ret;exact ⟨by simp [Bs,z1,z2,z3,z4,z5],HB.o⟩
       · go_wp2
         go_ret;exact ⟨by simp [Bs,show ¬ c.els=[] from fun h=>k4 (by rw [h];rfl)],HB.o⟩
     · go_wp2
       go_ret;exact ⟨by simp [Bs,show ¬ c.body=[] from fun h=>k3 (by rw [h];rfl)],HB.o⟩
theorem Ci {f:Ap} (h:AH f=true):0≤f.2.1∧f.2.1≤8∧0≤f.2.2∧f.2.2≤8:=by
 simp [AH,Al] at h;omega
theorem FD {α:Type} [Dat α] {p:α→Bool} {l:List α} (h:l.all p=true) (k:Nat) (hk:k < l.length):p (gd l k)=true:=by
 rw [List.all_eq_true] at h;have e:gd l k=l[k]:=by simp [gd,hk]
 rw [e];exact h _ (List.getElem_mem hk)
end Go.Proofs.YtkbbmjcfgcfejaaGreat
