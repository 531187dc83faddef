/- ItrB: texts Itr3, Itr4 in one. -/
import Derived.Test.YtkbbmjcfgcfejaaGreatLItrA
import Derived.Test.YtkbbmjcfgcfejaaGreatLMtcA
set_option linter.unusedVariables false
set_option linter.unusedSimpArgs false
set_option maxRecDepth 100000
set_option maxHeartbeats 12800000
namespace Go.Proofs.YtkbbmjcfgcfejaaGreat
open Go Go.RowKit
attribute [local go_sem] Oper.semAt_some
theorem Tv {cl:List Int} (h:cl.length=9):∃ x0 x1 x2 x3 x4 x5 x6 x7 x8,cl=[x0,x1,x2,x3,x4,x5,x6,x7,x8]:=by
 match cl,h with
 | [x0,x1,x2,x3,x4,x5,x6,x7,x8],_=>exact ⟨x0,x1,x2,x3,x4,x5,x6,x7,x8,rfl⟩
theorem Ji {M:Nat} {a:Aj} {cl:List Int} (h:cl ∈ BU M a):cl.length=9:=by
 have:=(I4.1 h).1;rw [C5,Bool.and_eq_true,beq_iff_eq] at this;exact this.1
theorem J5 {α:Type} {pre xs:List α} {x:α} (h:pre ++ [x] <+: xs):x ∈ xs:=h.subset Sp
theorem Gw {W:World} {g:Nat} {T:TypeId} {a0 a1 a2 a3 a4 a5 a6 a7 a8:Value} (h:W.heap[g]?=some (.cells #[a0,a1,a2,a3,a4,a5,a6,a7,a8] T (0,0))) :
 (W.cell? ⟨g,0,none⟩=some a0∧W.cell? ⟨g,1,none⟩=some a1∧W.cell? ⟨g,2,none⟩=some a2∧W.cell? ⟨g,3,none⟩=some a3∧W.cell? ⟨g,4,none⟩=some a4∧W.cell? ⟨g,5,none⟩=some a5∧W.cell? ⟨g,6,none⟩=some a6∧W.cell? ⟨g,7,none⟩=some a7∧W.cell? ⟨g,8,none⟩=some a8)∧∀ i,W.frozen? ⟨g,i,none⟩=false :=
 ⟨⟨cr 0 h,cr 1 h,cr 2 h,cr 3 h,cr 4 h,cr 5 h,cr 6 h,cr 7 h,cr 8 h⟩,fun i=>frozen_of_row _ _ i _ _ h⟩
theorem GO {W:World} {g:Nat} {T:TypeId} {cs:Array Value} (h:W.heap[g]?=some (.cells cs T (0,0))):W.there g 0 cs.size:=fun j hj=>by
 rw [Nat.zero_add,cell_of_row _ _ j _ _ _ h,frozen_of_row _ _ j _ _ h];simp [hj]
theorem D3 {g:Nat}:∀ (cs:List Value) (o:Nat) (w:World),Fr (fun k=>k=g) w (w.setCells g o cs)
 | [],_,w=>Fr.refl _ w
 | c :: cs,o,w=>(Aw w ⟨g,o,none⟩ c).trans (D3 cs (o+1) _)
theorem KU {P:Program} {fn:Func} {p q:Tmp} {ty u:TypeId} (h:fn.results=#[.cell p ty,.cell q u]) {tmps:Array Value} {w:World} {a b:Addr} {v1 v2:Value}
 (hp:tmps.getD p undef=.pointer (some a)) (hq:tmps.getD q undef=.pointer (some b)) (h1:(loadVar ty a).run P w=.ok v1 w) (h2:(loadVar u b).run P w=.ok v2 w):(results fn tmps).run P w=.ok (.tuple #[v1,v2]) w:=by
 have hp':tmps[p]?.getD undef=.pointer (some a):=by simpa using hp
 have hq':tmps[q]?.getD undef=.pointer (some b):=by simpa using hq
 simp [results,h,hp',hq',asAddr,h1,h2]
theorem L3 {W:World} {g:Nat} {b:Bool} (h:W.cell? ⟨g,0,none⟩=some (.bool b)):(loadVar 4 ⟨g,0,none⟩).run Tryz.prog W=.ok (.bool b) W:=by
 simp [go_sem,h]
theorem V2 {W:World} {g:Nat} {q:List Int} (h:W.rangeAt g 0 (ints q)) (hq:q.length=9):(loadVar 161 ⟨g,0,none⟩).run Tryz.prog W=.ok (.agg (CD q)) W :=
 run_loadVar_mid (P:=Tryz.prog) W g 0 161 (ints q) _ h Tryz.underlying161 rfl (by rw [Vr];simp [hq])
theorem J6 {P:Program} {fn:Func} {p q:Tmp} (h:fn.results=#[.cell p 161,.cell q 4]) {tmps:Array Value} {W:World} {D g1 g2:Nat} {cl:List Int} {b:Bool} (hP:P=Tryz.prog)
 (hp:tmps.getD p undef=.pointer (some ⟨g1,0,none⟩)) (hq:tmps.getD q undef=.pointer (some ⟨g2,0,none⟩)) (h1:W.rangeAt g1 0 (ints cl)) (h9:cl.length=9) (h2:W.cell? ⟨g2,0,none⟩=some (.bool b)) (d1:¬ g1=D) (d2:¬ g2=D) :
 (results fn tmps).run P (W.putObj D (.deferred none))=.ok (.tuple #[.agg (CD cl),.bool b]) (W.putObj D (.deferred none)):=by
 subst hP;exact KU h hp hq (V2 (fun j v hj=>(CS W D _).cell d1 (h1 j v hj)) h9) (L3 ((CS W D _).cell d2 h2))
def C8 (M:Nat) (a:Aj):Option (List Int):=(BU M a).head?
theorem Lx {S1 S2:Nat→Prop} (v1 v2:Value) (a:Aj) (r:Option (List Int)) (w:World) (h1:RL w S1 v1 a.1) (h2:RL w S2 v2 a.2) (ha:Ah a=true) (hr:C8 (As (Ak a) 0) a=r) :
 Calls Tryz.prog 228 #[.agg #[v1,v2]] w fun e w'=>∃ tl:List Int,tl.length=9∧(∀ cl,r=some cl→tl=cl)∧e=.returned (.tuple #[.agg (CD tl),.bool r.isSome])∧Below w.heap.size w w':=by
 obtain ⟨xa1,xc1,rfl⟩:=h1.form;obtain ⟨xa2,xc2,rfl⟩:=h2.form;have HA:=Ad ha;have HR:=Ad hr;clear ha hr;refine EL Tryz.func228 rfl ?_;simp only [Tryz.ntmps228,List.size_toArray,List.length_cons,List.length_nil,Nat.reduceAdd,Nat.reduceSub,Array.replicate_succ,Array.replicate_zero,List.push_toArray,List.append_toArray,List.nil_append,List.cons_append];go_wp2_with fail
 refine (Dr _ _ a 0 _ (h1.keep Bl) (h2.keep Bl) Dc).mono ?_;rintro e w1 ⟨b1,b2,rfl,hb1,hb2,c0,c1,c2,hb⟩;rw [Nat.or_zero] at c2;have HB:=Ad hb;have HC:=Ad (An c0 (An c1 c2));have hW:=bt (a:=w) Bl hb;have hz:=hb.size;simp only [World.size_alloc] at hz;have hg0:w1.heap[w.heap.size+1]?=some (.cells #[.int .i64 0,.int .i64 0,.int .i64 0,.int .i64 0,.int .i64 0,.int .i64 0,.int .i64 0,.int .i64 0,.int .i64 0] 161 (0,0)):=Ac (Ac (by have:=heap_alloc_new (w.alloc (.cells #[.slice xa1 a.1.length xc1,.slice xa2 a.2.length xc2] 26)) (.cells #[.int .i64 0,.int .i64 0,.int .i64 0,.int .i64 0,.int .i64 0,.int .i64 0,.int .i64 0,.int .i64 0,.int .i64 0] 161);rwa [World.size_alloc] at this) (Aa _ _)) hb;have hg1:w1.heap[w.heap.size+1+1]?=some (.cells #[.bool false] 4 (0,0)):=Ac (by have:=heap_alloc_new ((w.alloc (.cells #[.slice xa1 a.1.length xc1,.slice xa2 a.2.length xc2] 26)).alloc (.cells #[.int .i64 0,.int .i64 0,.int .i64 0,.int .i64 0,.int .i64 0,.int .i64 0,.int .i64 0,.int .i64 0,.int .i64 0] 161)) (.cells #[.bool false] 4);simp only [World.size_alloc] at this;exact this) hb;have HW:=Ad (An hW (An hg0 hg1));clear c0 c1 c2 hb hW hg0 hg1;simp only [World.size_alloc] at hb1 hb2;go_wp2;refine Jf (xs:=BU (As (Ak a) 0) a) (R:=fun k=>k < w1.heap.size∧k ≠ w.heap.size+1∧k ≠ w.heap.size+1+1) (w0:=w1) rfl (enters_of Tryz.func187 Kr rfl)
  (Jh b1 b2 _ _ a _ w1 HC.o.1 HC.o.2.1 HC.o.2.2 ((h1.lt.keep HW.o.1).more fun k _ hk=>⟨by have:k < w.heap.size:=hk;omega,by have:k < w.heap.size:=hk;omega,by have:k < w.heap.size:=hk;omega⟩)
    ((h2.lt.keep HW.o.1).more fun k _ hk=>⟨by have:k < w.heap.size:=hk;omega,by have:k < w.heap.size:=hk;omega,by have:k < w.heap.size:=hk;omega⟩) (fun k hk=>hk.1) HA.o (AJ (Bw a)) (fun j hj=>by rw [Dn,hj];rfl)) (Below.refl _ _) (fun k hk=>hk.1) (fun _=>rfl)
  (fun X pre W=>pre=[]∧(∀ k,X k→w1.heap.size≤k)∧W.heap[w.heap.size+1]?=some (.cells #[.int .i64 0,.int .i64 0,.int .i64 0,.int .i64 0,.int .i64 0,.int .i64 0,.int .i64 0,.int .i64 0,.int .i64 0] 161 (0,0))∧W.heap[w.heap.size+1+1]?=some (.cells #[.bool false] 4 (0,0))∧Below w.heap.size w W)
  (fun c pre W=>∃ x,c=.ret∧pre=[x]∧x.length=9∧W.rangeAt (w.heap.size+1) 0 (ints x)∧W.cell? ⟨w.heap.size+1+1,0,none⟩=some (.bool true)∧Below w.heap.size w W)
  ?hI ?hIx ⟨rfl,fun _ h=>h.elim,HW.o.2.1,HW.o.2.2,HW.o.1⟩ ?hround ?hdone ?hstop
 case hI =>
  rintro X X' pre A B ⟨rfl,hX,h1,h2,hb⟩ hf hz' hX';refine ⟨rfl,fun k hk=>?_,AA h1 hf ?_,AA h2 hf ?_,hb.trans (hf.below hb.size fun k hk e=>?_)⟩
  · rcases hX' k hk with h | h
    · exact hX k h
    · omega
  · rintro (h | h | h)
    · have:=hX _ h;omega
    · omega
    · omega
  · rintro (h | h | h)
    · have:=hX _ h;omega
    · omega
    · omega
  · rcases e with h | h | h
    · have:=hX _ h;omega
    · omega
    · omega
 case hIx =>
  rintro c pre A B ⟨x,rfl,rfl,h9,h1,h2,hb⟩ hf;refine ⟨x,rfl,rfl,h9,fun j v hj=>hf.cell ?_ (h1 j v hj),hf.cell ?_ h2,hb.trans (hf.below hb.size fun k hk e=>?_)⟩
  · rintro (h | h) <;> (simp only at h;omega)
  · rintro (h | h) <;> (simp only at h;omega)
  · rcases e with h | h <;> omega
 case hround =>
  rintro m X pre x W hzW hX hpre ⟨rfl,hX2,hg0,hg1,hb⟩;obtain ⟨x0,x1,x2,x3,x4,x5,x6,x7,x8,rfl⟩:=Tv (Ji (J5 hpre));have HG:=Ad (An hg0 (An hg1 (An hb hX)));clear hpre hX hX2 hg0 hg1 hb;gi_wp2
  refine ⟨(Is _ _).mono fun _ _ h=>h.elim,fun w2 hf2=>?_⟩;have hfw:Fr (fun k=>k=w1.heap.size+1) W w2:=((Is W (.cells #[.int .i64 x0,.int .i64 x1,.int .i64 x2,.int .i64 x3,.int .i64 x4,.int .i64 x5,.int .i64 x6,.int .i64 x7,.int .i64 x8] 161)).mono fun _ _ h=>h.elim).trans hf2;have hx:=AA (heap_alloc_new W (.cells #[.int .i64 x0,.int .i64 x1,.int .i64 x2,.int .i64 x3,.int .i64 x4,.int .i64 x5,.int .i64 x6,.int .i64 x7,.int .i64 x8] 161)) hf2 Om;have hg:=AA HG.o.1 hfw Om;have hq:=AA HG.o.2.1 hfw Om;have HH:=Ad (An (GO hg) (An hq (HG.o.2.2.1.trans (hfw.below HG.o.2.2.1.size fun k hk e=>by omega))));obtain ⟨⟨d0,d1,d2,d3,d4,d5,d6,d7,d8⟩,_⟩:=Gw hx;obtain ⟨⟨e0,e1,e2,e3,e4,e5,e6,e7,e8⟩,ez⟩:=Gw hg;have q0:w2.cell? ⟨w.heap.size+1+1,0,none⟩=some (.bool false):=cr 0 hq;have qz:=frozen_of_row _ _ 0 _ _ hq;clear hx hg hq hfw hf2;gi_wp2
  have hfs:=D3 (g:=w.heap.size+1) [.int .i64 x0,.int .i64 x1,.int .i64 x2,.int .i64 x3,.int .i64 x4,.int .i64 x5,.int .i64 x6,.int .i64 x7,.int .i64 x8] 0 w2;have hra:=World.rangeAt_setCells_same w2 (w.heap.size+1) 0 [.int .i64 x0,.int .i64 x1,.int .i64 x2,.int .i64 x3,.int .i64 x4,.int .i64 x5,.int .i64 x6,.int .i64 x7,.int .i64 x8] HH.o.1;have hq2:=AA HH.o.2.1 hfs Om;refine ⟨?_,_,rfl,rfl,rfl,fun j v hj=>AC (hra j v hj) Sp,?_,?_⟩
  · exact (hfs.mono (S':=fun k=>k ≠ w1.heap.size∧k ≠ w1.heap.size+1) fun k _ e=>by omega).trans ((Aw _ _ _).mono fun k _ e=>by simp at e;omega)
  · exact World.cell?_setCell_same' _ _ _ (by have hcc:=cr 0 hq2;exact Option.isSome_iff_exists.2 ⟨_,hcc⟩)
  · exact (HH.o.2.2.trans (hfs.below HH.o.2.2.size fun k hk e=>by omega)).setCell (p:=⟨w.heap.size+1+1,0,none⟩) (by simp;omega) _
 case hdone =>
  rintro W ⟨hnil,_,hg0,hg1,hb⟩ hK;have HN:=Ad (show r=none by rw [← HR.o,C8,hnil];rfl);have HH:=Ad (An (GO hg0) (An hg1 (An hb hK)));obtain ⟨⟨e0,e1,e2,e3,e4,e5,e6,e7,e8⟩,ez⟩:=Gw hg0;have q0:W.cell? ⟨w.heap.size+1+1,0,none⟩=some (.bool false):=cr 0 hg1;have qz:=frozen_of_row _ _ 0 _ _ hg1;clear hg0 hg1 hb hK hnil;go_wp2;have hfs:=D3 (g:=w.heap.size+1) [.int .i64 0,.int .i64 0,.int .i64 0,.int .i64 0,.int .i64 0,.int .i64 0,.int .i64 0,.int .i64 0,.int .i64 0] 0 W;have hra:=World.rangeAt_setCells_same W (w.heap.size+1) 0 [.int .i64 0,.int .i64 0,.int .i64 0,.int .i64 0,.int .i64 0,.int .i64 0,.int .i64 0,.int .i64 0,.int .i64 0] HH.o.1;have hff:=(hfs.mono (S':=fun k=>k=w.heap.size+1∨k=w.heap.size+1+1) fun k _ e=>.inl e).trans ((Aw _ ⟨w.heap.size+1+1,0,none⟩ (.bool false)).mono fun k _ e=>.inr e);have hq2:=AA HH.o.2.1 hfs Om;refine Eq rfl (EJ hff HH.o.2.2.2 Om) (J6 rfl rfl rfl rfl (fun j v hj=>AC (hra j v hj) Sp) (cl:=[0,0,0,0,0,0,0,0,0]) rfl (World.cell?_setCell_same' _ _ _ (by have hcc:=cr 0 hq2;exact Option.isSome_iff_exists.2 ⟨_,hcc⟩)) Om Om) ?_;exact ⟨[0,0,0,0,0,0,0,0,0],rfl,fun cl e=>(by rw [HN.o] at e;cases e),by rw [HN.o];rfl,(HH.o.2.2.1.trans (hff.below HH.o.2.2.1.size fun k hk e=>by omega)).trans ((CS _ _ _).below (by have:=hff.size;have:=HH.o.2.2.1.size;omega) fun k hk e=>by omega)⟩
 case hstop =>
  rintro c pre W hpre ⟨x,rfl,rfl,h9,hra,hc1,hb⟩ hK;refine wp_ret ?_;have HN:=Ad (show r=some x by rw [← HR.o,C8];obtain ⟨t,ht⟩:=hpre;rw [← ht];rfl);refine Eq rfl hK (J6 rfl rfl rfl rfl hra h9 hc1 Om Om) ?_;exact ⟨x,h9,fun cl e=>by rw [HN.o] at e;injection e,by rw [HN.o];rfl,hb.trans ((CS W _ _).below hb.size fun k hk e=>by omega)⟩
theorem US (a b:Aj):FZ a b < 65536:=Nat.or_lt_two_pow (n:=16) (AJ (Bw a)) (Bw b)
theorem JU {S1 S2 S3 S4:Nat→Prop} (v1 v2 u1 u2:Value) (a b:Aj) (r:Option (List Int)) (w:World) (h1:RL w S1 v1 a.1) (h2:RL w S2 v2 a.2) (k1:RL w S3 u1 b.1) (k2:RL w S4 u2 b.2)
 (ha:Ah a=true) (hb:Ah b=true) (hr:Il a b=r) :
 Calls Tryz.prog 132 #[.agg #[v1,v2],.agg #[u1,u2]] w fun e w'=>∃ tl:List Int,tl.length=9∧(∀ cl,r=some cl→tl=cl)∧e=.returned (.tuple #[.agg (CD tl),.bool r.isSome])∧Below w.heap.size w w':=by
 obtain ⟨xa1,xc1,rfl⟩:=h1.form;obtain ⟨xa2,xc2,rfl⟩:=h2.form;obtain ⟨ya1,yc1,rfl⟩:=k1.form;obtain ⟨ya2,yc2,rfl⟩:=k2.form;have HA:=Ad ha;have HBV:=Ad hb;have HR:=Ad hr;clear ha hr hb;have hc0:((((w.alloc (.cells #[.slice xa1 a.1.length xc1,.slice xa2 a.2.length xc2] 26)).alloc (.cells #[.slice ya1 b.1.length yc1,.slice ya2 b.2.length yc2] 26)).alloc (.cells #[.int .i64 0,.int .i64 0,.int .i64 0,.int .i64 0,.int .i64 0,.int .i64 0,.int .i64 0,.int .i64 0,.int .i64 0] 161)).alloc (.cells #[.bool false] 4)).cell? ⟨w.heap.size,0,none⟩=some (.slice xa1 a.1.length xc1):=by simp [go_sem]
 have hc1:((((w.alloc (.cells #[.slice xa1 a.1.length xc1,.slice xa2 a.2.length xc2] 26)).alloc (.cells #[.slice ya1 b.1.length yc1,.slice ya2 b.2.length yc2] 26)).alloc (.cells #[.int .i64 0,.int .i64 0,.int .i64 0,.int .i64 0,.int .i64 0,.int .i64 0,.int .i64 0,.int .i64 0,.int .i64 0] 161)).alloc (.cells #[.bool false] 4)).cell? ⟨w.heap.size,1,none⟩=some (.slice xa2 a.2.length xc2):=by simp [go_sem]
 have hd0:((((w.alloc (.cells #[.slice xa1 a.1.length xc1,.slice xa2 a.2.length xc2] 26)).alloc (.cells #[.slice ya1 b.1.length yc1,.slice ya2 b.2.length yc2] 26)).alloc (.cells #[.int .i64 0,.int .i64 0,.int .i64 0,.int .i64 0,.int .i64 0,.int .i64 0,.int .i64 0,.int .i64 0,.int .i64 0] 161)).alloc (.cells #[.bool false] 4)).cell? ⟨w.heap.size+1,0,none⟩=some (.slice ya1 b.1.length yc1):=by simp [go_sem]
 have hd1:((((w.alloc (.cells #[.slice xa1 a.1.length xc1,.slice xa2 a.2.length xc2] 26)).alloc (.cells #[.slice ya1 b.1.length yc1,.slice ya2 b.2.length yc2] 26)).alloc (.cells #[.int .i64 0,.int .i64 0,.int .i64 0,.int .i64 0,.int .i64 0,.int .i64 0,.int .i64 0,.int .i64 0,.int .i64 0] 161)).alloc (.cells #[.bool false] 4)).cell? ⟨w.heap.size+1,1,none⟩=some (.slice ya2 b.2.length yc2):=by simp [go_sem]
 have hg0:((((w.alloc (.cells #[.slice xa1 a.1.length xc1,.slice xa2 a.2.length xc2] 26)).alloc (.cells #[.slice ya1 b.1.length yc1,.slice ya2 b.2.length yc2] 26)).alloc (.cells #[.int .i64 0,.int .i64 0,.int .i64 0,.int .i64 0,.int .i64 0,.int .i64 0,.int .i64 0,.int .i64 0,.int .i64 0] 161)).alloc (.cells #[.bool false] 4)).heap[w.heap.size+1+1]?=some (.cells #[.int .i64 0,.int .i64 0,.int .i64 0,.int .i64 0,.int .i64 0,.int .i64 0,.int .i64 0,.int .i64 0,.int .i64 0] 161 (0,0)):=Ac (by have:=heap_alloc_new ((w.alloc (.cells #[.slice xa1 a.1.length xc1,.slice xa2 a.2.length xc2] 26)).alloc (.cells #[.slice ya1 b.1.length yc1,.slice ya2 b.2.length yc2] 26)) (.cells #[.int .i64 0,.int .i64 0,.int .i64 0,.int .i64 0,.int .i64 0,.int .i64 0,.int .i64 0,.int .i64 0,.int .i64 0] 161);simp only [World.size_alloc] at this;exact this) (Aa _ _);have hg1:((((w.alloc (.cells #[.slice xa1 a.1.length xc1,.slice xa2 a.2.length xc2] 26)).alloc (.cells #[.slice ya1 b.1.length yc1,.slice ya2 b.2.length yc2] 26)).alloc (.cells #[.int .i64 0,.int .i64 0,.int .i64 0,.int .i64 0,.int .i64 0,.int .i64 0,.int .i64 0,.int .i64 0,.int .i64 0] 161)).alloc (.cells #[.bool false] 4)).heap[w.heap.size+1+1+1]?=some (.cells #[.bool false] 4 (0,0)):=by have:=heap_alloc_new (((w.alloc (.cells #[.slice xa1 a.1.length xc1,.slice xa2 a.2.length xc2] 26)).alloc (.cells #[.slice ya1 b.1.length yc1,.slice ya2 b.2.length yc2] 26)).alloc (.cells #[.int .i64 0,.int .i64 0,.int .i64 0,.int .i64 0,.int .i64 0,.int .i64 0,.int .i64 0,.int .i64 0,.int .i64 0] 161)) (.cells #[.bool false] 4);simp only [World.size_alloc] at this;exact this
 have hW0:Below w.heap.size w ((((w.alloc (.cells #[.slice xa1 a.1.length xc1,.slice xa2 a.2.length xc2] 26)).alloc (.cells #[.slice ya1 b.1.length yc1,.slice ya2 b.2.length yc2] 26)).alloc (.cells #[.int .i64 0,.int .i64 0,.int .i64 0,.int .i64 0,.int .i64 0,.int .i64 0,.int .i64 0,.int .i64 0,.int .i64 0] 161)).alloc (.cells #[.bool false] 4)):=Bl;have hzz:((((w.alloc (.cells #[.slice xa1 a.1.length xc1,.slice xa2 a.2.length xc2] 26)).alloc (.cells #[.slice ya1 b.1.length yc1,.slice ya2 b.2.length yc2] 26)).alloc (.cells #[.int .i64 0,.int .i64 0,.int .i64 0,.int .i64 0,.int .i64 0,.int .i64 0,.int .i64 0,.int .i64 0,.int .i64 0] 161)).alloc (.cells #[.bool false] 4)).heap.size=w.heap.size+1+1+1+1:=by simp
 have HX:=Ad (An (An (An hc0 hc1) (An hd0 hd1)) (An (An hg0 hg1) (An hW0 hzz)));clear hc0 hc1 hd0 hd1 hg0 hg1 hW0 hzz;refine EL Tryz.func132 rfl ?_;simp only [Tryz.ntmps132,List.size_toArray,List.length_cons,List.length_nil,Nat.reduceAdd,Nat.reduceSub,Array.replicate_succ,Array.replicate_zero,List.push_toArray,List.append_toArray,List.nil_append,List.cons_append];go_upto_region 1 with fail
 generalize ((((w.alloc (.cells #[.slice xa1 a.1.length xc1,.slice xa2 a.2.length xc2] 26)).alloc (.cells #[.slice ya1 b.1.length yc1,.slice ya2 b.2.length yc2] 26)).alloc (.cells #[.int .i64 0,.int .i64 0,.int .i64 0,.int .i64 0,.int .i64 0,.int .i64 0,.int .i64 0,.int .i64 0,.int .i64 0] 161)).alloc (.cells #[.bool false] 4))=w0 at HX ⊢;have hc0:=HX.o.1.1.1;have hc1:=HX.o.1.1.2;have hd0:=HX.o.1.2.1;have hd1:=HX.o.1.2.2;have hW:=HX.o.2.2.1;have htm:=Bw b;go_region_held3 (fun w'=>(w'.cell? ⟨w.heap.size,0,none⟩=some (.slice xa1 a.1.length xc1)∧w'.cell? ⟨w.heap.size,1,none⟩=some (.slice xa2 a.2.length xc2))∧(w'.cell? ⟨w.heap.size+1,0,none⟩=some (.slice ya1 b.1.length yc1)∧w'.cell? ⟨w.heap.size+1,1,none⟩=some (.slice ya2 b.2.length yc2)))
  (exact ⟨⟨Ab Bl hc0,Ab Bl hc1⟩,⟨Ab Bl hd0,Ab Bl hd1⟩⟩)
  (first
    | (go_at_call 66;(with_reducible refine (B6 _ _ b _ (k1.keep (bt hW Bl)) (k2.keep (bt hW Bl))).mono ?_);rintro e w2 ⟨rfl,hb2'⟩;have hb2:Below w0.heap.size w0 w2:=bt Bl hb2')
    | (go_at_call 117;(with_reducible refine (Dr _ _ a (Ak b) _ (h1.keep (bt hW Bl)) (h2.keep (bt hW Bl)) htm).mono ?_);rintro e w1 ⟨b1,b2,rfl,hb1,hb2x,c0,c1,c2,hb⟩;have hb3:Below w0.heap.size w0 w1:=bt (bt hb2 Bl) hb))
 have hz:=hb3.size;rw [HX.o.2.2.2] at hz;have hb1':w.heap.size+1+1+1+1≤b1:=by have:=hb2.size;have:=HX.o.2.2.2;omega
 have hb2':w.heap.size+1+1+1+1≤b2:=by have:=hb2.size;have:=HX.o.2.2.2;omega
 have HC:=Ad (An c0 (An c1 c2));have HY:=Ad (An (An (Ab hb3 hc0) (Ab hb3 hc1)) (An (Ab hb3 hd0) (Ab hb3 hd1)));have HW:=Ad (An (bt hW hb3) (An (Ac HX.o.2.1.1 hb3) (Ac HX.o.2.1.2 hb3)));clear c0 c1 c2 hb hb1 hb2x hb2 hb2' hb1' hc0 hc1 hd0 hd1 hW hb3;go_wp2;have hR':∀ k:Nat,k < w.heap.size→k < w1.heap.size∧k ≠ w.heap.size+1+1∧k ≠ w.heap.size+1+1+1:=fun k hk=>⟨by omega,by omega,by omega⟩;have HR':=Ad hR';refine Jf (xs:=BU (FZ a b) a) (R:=fun k=>k < w1.heap.size∧k ≠ w.heap.size+1+1∧k ≠ w.heap.size+1+1+1) (w0:=w1) rfl (enters_of Tryz.func187 Kr rfl)
  (Jh b1 b2 _ _ a _ w1 HC.o.1 HC.o.2.1 HC.o.2.2 ((h1.lt.keep HW.o.1).more fun k _ hk=>HR'.o k hk) ((h2.lt.keep HW.o.1).more fun k _ hk=>HR'.o k hk)
    (fun k hk=>hk.1) HA.o (US a b) (fun j hj=>by rw [FZ,Nat.testBit_or,Dn,hj];rfl)) (Below.refl _ _) (fun k hk=>hk.1) (fun _=>rfl)
  (fun X pre W=>(∀ x ∈ pre,EF a b x=false)∧(∀ k,X k→w1.heap.size≤k)∧((W.cell? ⟨w.heap.size,0,none⟩=some (.slice xa1 a.1.length xc1)∧W.cell? ⟨w.heap.size,1,none⟩=some (.slice xa2 a.2.length xc2))∧(W.cell? ⟨w.heap.size+1,0,none⟩=some (.slice ya1 b.1.length yc1)∧W.cell? ⟨w.heap.size+1,1,none⟩=some (.slice ya2 b.2.length yc2))) ∧
    W.heap[w.heap.size+1+1]?=some (.cells #[.int .i64 0,.int .i64 0,.int .i64 0,.int .i64 0,.int .i64 0,.int .i64 0,.int .i64 0,.int .i64 0,.int .i64 0] 161 (0,0))∧W.heap[w.heap.size+1+1+1]?=some (.cells #[.bool false] 4 (0,0))∧Below w.heap.size w W)
  (fun c pre W=>∃ q x,c=.ret∧pre=q ++ [x]∧(∀ y ∈ q,EF a b y=false)∧EF a b x=true∧x.length=9∧W.rangeAt (w.heap.size+1+1) 0 (ints x)∧W.cell? ⟨w.heap.size+1+1+1,0,none⟩=some (.bool true)∧Below w.heap.size w W)
  ?hI ?hIx ⟨fun _ h=>by (cases h),fun _ h=>h.elim,HY.o,HW.o.2.1,HW.o.2.2,HW.o.1⟩ ?hround ?hdone ?hstop
 case hI =>
  rintro X X' pre A B ⟨hp,hX,⟨⟨e0,e1⟩,e2,e3⟩,h1,h2,hb⟩ hf hz' hX';have hn:∀ k,k < w1.heap.size→¬ (X k∨k=w1.heap.size∨k=w1.heap.size+1):=fun k hk e=>by
   rcases e with h | h | h
   · have:=hX _ h;omega
   · omega
   · omega
  refine ⟨hp,fun k hk=>?_,⟨⟨hf.cell (hn _ (by simp;omega)) e0,hf.cell (hn _ (by simp;omega)) e1⟩,hf.cell (hn _ (by simp;omega)) e2,hf.cell (hn _ (by simp;omega)) e3⟩,AA h1 hf (hn _ Om),AA h2 hf (hn _ Om),hb.trans (hf.below hb.size fun k hk=>hn k Om)⟩;rcases hX' k hk with h | h
  · exact hX k h
  · omega
 case hIx =>
  rintro c pre A B ⟨q,x,rfl,rfl,hq,hx,h9,h1,h2,hb⟩ hf;refine ⟨q,x,rfl,rfl,hq,hx,h9,fun j v hj=>hf.cell ?_ (h1 j v hj),hf.cell ?_ h2,hb.trans (hf.below hb.size fun k hk e=>?_)⟩
  · rintro (h | h) <;> (simp only at h;omega)
  · rintro (h | h) <;> (simp only at h;omega)
  · rcases e with h | h <;> omega
 case hround =>
  rintro m X pre x W hzW hX hpre ⟨hp,hX2,hY,hg0,hg1,hb⟩;obtain ⟨x0,x1,x2,x3,x4,x5,x6,x7,x8,rfl⟩:=Tv (Ji (J5 hpre));have HG:=Ad (An hg0 (An hg1 (An hb (An hX (An hp hX2)))));have HY2:=Ad hY;clear hpre hX hX2 hg0 hg1 hb hY hp;gi_wp2
  refine ⟨(Is _ _).mono fun _ _ h=>h.elim,fun w2 hf2=>?_⟩;have hfw:Fr (fun k=>k=w1.heap.size+1) W w2:=((Is W (.cells #[.int .i64 x0,.int .i64 x1,.int .i64 x2,.int .i64 x3,.int .i64 x4,.int .i64 x5,.int .i64 x6,.int .i64 x7,.int .i64 x8] 161)).mono fun _ _ h=>h.elim).trans hf2;have hx:=AA (heap_alloc_new W (.cells #[.int .i64 x0,.int .i64 x1,.int .i64 x2,.int .i64 x3,.int .i64 x4,.int .i64 x5,.int .i64 x6,.int .i64 x7,.int .i64 x8] 161)) hf2 Om;have hg:=AA HG.o.1 hfw Om;have hq:=AA HG.o.2.1 hfw Om;have c0:=hfw.cell (by show ¬ w.heap.size=_;omega) HY2.o.1.1;have c1:=hfw.cell (by show ¬ w.heap.size=_;omega) HY2.o.1.2;have d0':=hfw.cell (by show ¬ w.heap.size+1=_;omega) HY2.o.2.1;have d1':=hfw.cell (by show ¬ w.heap.size+1=_;omega) HY2.o.2.2;have hb2:=HG.o.2.2.1.trans (hfw.below HG.o.2.2.1.size fun k hk e=>by omega);have HH:=Ad (An hg (An hq (An hb2 (An (An c0 c1) (An d0' d1')))));obtain ⟨⟨d0,d1,d2,d3,d4,d5,d6,d7,d8⟩,_⟩:=Gw hx;obtain ⟨⟨e0,e1,e2,e3,e4,e5,e6,e7,e8⟩,ez⟩:=Gw hg;have q0:w2.cell? ⟨w.heap.size+1+1+1,0,none⟩=some (.bool false):=cr 0 hq;have qz:=frozen_of_row _ _ 0 _ _ hq;obtain ⟨rm,hrm⟩:∃ r,KA a b [x0,x1,x2,x3,x4,x5,x6,x7,x8]=r:=⟨_,rfl⟩;have hmc:=Lv _ _ _ _ a b [x0,x1,x2,x3,x4,x5,x6,x7,x8] rm w2 (h1.keep hb2) (h2.keep hb2) (k1.keep hb2) (k2.keep hb2) HA.o HBV.o rfl hrm;have HRM:=Ad hrm;have hx9:=Ae hx;have HXB:=Ad hx;clear hx hg hq hfw hf2 hb2 hrm;have HM:=Ad hmc;clear hmc;cases rm with
  | some us =>
    have HF:=Ad (show EF a b [x0,x1,x2,x3,x4,x5,x6,x7,x8]=false by rw [EF,HRM.o];rfl);gi_wp2_with (refine ⟨trivial,fun h=>(by cases h),?_⟩;gi_at_call 206;refine (CallsIn.inRound _ (callsIn_wide.2 HM.o)).mono ?_;rintro e w5 ⟨vu,rfl,hU,hb5⟩)
    have hff:=Below.fr hb5;refine ⟨hff.mono fun _ _ h=>h.elim,?_,HG.o.2.2.2.2.2,⟨⟨Ab hb5 HH.o.2.2.2.1.1,Ab hb5 HH.o.2.2.2.1.2⟩,Ab hb5 HH.o.2.2.2.2.1,Ab hb5 HH.o.2.2.2.2.2⟩,Ac HH.o.1 hb5,Ac HH.o.2.1 hb5,bt HH.o.2.2.1 hb5⟩;intro y hy;rcases List.mem_append.1 hy with h | h
    · exact HG.o.2.2.2.2.1 y h
    · rw [List.mem_singleton.1 h];exact HF.o
  | none =>
    have HF:=Ad (show EF a b [x0,x1,x2,x3,x4,x5,x6,x7,x8]=true by rw [EF,HRM.o];rfl);gi_wp2_with (refine ⟨trivial,fun h=>(by cases h),?_⟩;gi_at_call 206;refine (CallsIn.inRound _ (callsIn_wide.2 HM.o)).mono ?_;rintro e w5 ⟨vu,rfl,hU,hb5⟩;obtain ⟨⟨d0,d1,d2,d3,d4,d5,d6,d7,d8⟩,_⟩:=Gw (Ac HXB.o hb5);have hg5:=Ac HH.o.1 hb5;have hq5:=Ac HH.o.2.1 hb5;obtain ⟨⟨e0,e1,e2,e3,e4,e5,e6,e7,e8⟩,ez⟩:=Gw hg5;have q0:w5.cell? ⟨w.heap.size+1+1+1,0,none⟩=some (.bool false):=cr 0 hq5;have qz:=frozen_of_row _ _ 0 _ _ hq5;have H5:=Ad (An hg5 hq5);have HB5:=Ad hb5;clear hg5 hq5 hb5)
    have hfs:=D3 (g:=w.heap.size+1+1) [.int .i64 x0,.int .i64 x1,.int .i64 x2,.int .i64 x3,.int .i64 x4,.int .i64 x5,.int .i64 x6,.int .i64 x7,.int .i64 x8] 0 w5;have hth:=GO H5.o.1;have hra:=World.rangeAt_setCells_same w5 (w.heap.size+1+1) 0 [.int .i64 x0,.int .i64 x1,.int .i64 x2,.int .i64 x3,.int .i64 x4,.int .i64 x5,.int .i64 x6,.int .i64 x7,.int .i64 x8] hth;have hq2:=AA H5.o.2 hfs Om;have hb5:=bt HH.o.2.2.1 HB5.o;refine ⟨?_,pre,[x0,x1,x2,x3,x4,x5,x6,x7,x8],rfl,rfl,HG.o.2.2.2.2.1,HF.o,rfl,fun j v hj=>AC (hra j v hj) Sp,?_,?_⟩
    · exact (((Below.fr HB5.o).mono fun _ _ h=>h.elim).trans (hfs.mono (S':=fun k=>k ≠ w1.heap.size∧k ≠ w1.heap.size+1) fun k _ e=>by omega)).trans ((Aw _ _ _).mono fun k _ e=>by simp at e;omega)
    · exact World.cell?_setCell_same' _ _ _ (by have hcc:=cr 0 hq2;exact Option.isSome_iff_exists.2 ⟨_,hcc⟩)
    · exact (hb5.trans (hfs.below hb5.size fun k hk e=>by omega)).setCell (p:=⟨w.heap.size+1+1+1,0,none⟩) (by simp;omega) _
 case hdone =>
  rintro W ⟨hp,_,_,hg0,hg1,hb⟩ hK;have HN:=Ad (show r=none by rw [← HR.o,Il,List.find?_eq_none];intro x hx;rw [hp x hx];decide);have HH:=Ad (An (GO hg0) (An hg1 (An hb hK)));obtain ⟨⟨e0,e1,e2,e3,e4,e5,e6,e7,e8⟩,ez⟩:=Gw hg0;have q0:W.cell? ⟨w.heap.size+1+1+1,0,none⟩=some (.bool false):=cr 0 hg1;have qz:=frozen_of_row _ _ 0 _ _ hg1;clear hg0 hg1 hb hK hp;go_wp2;have hfs:=D3 (g:=w.heap.size+1+1) [.int .i64 0,.int .i64 0,.int .i64 0,.int .i64 0,.int .i64 0,.int .i64 0,.int .i64 0,.int .i64 0,.int .i64 0] 0 W;have hra:=World.rangeAt_setCells_same W (w.heap.size+1+1) 0 [.int .i64 0,.int .i64 0,.int .i64 0,.int .i64 0,.int .i64 0,.int .i64 0,.int .i64 0,.int .i64 0,.int .i64 0] HH.o.1;have hff:=(hfs.mono (S':=fun k=>k=w.heap.size+1+1∨k=w.heap.size+1+1+1) fun k _ e=>.inl e).trans ((Aw _ ⟨w.heap.size+1+1+1,0,none⟩ (.bool false)).mono fun k _ e=>.inr e);have hq2:=AA HH.o.2.1 hfs Om;refine Eq rfl (EJ hff HH.o.2.2.2 Om) (J6 rfl rfl rfl rfl (fun j v hj=>AC (hra j v hj) Sp) (cl:=[0,0,0,0,0,0,0,0,0]) rfl (World.cell?_setCell_same' _ _ _ (by have hcc:=cr 0 hq2;exact Option.isSome_iff_exists.2 ⟨_,hcc⟩)) Om Om) ?_;exact ⟨[0,0,0,0,0,0,0,0,0],rfl,fun cl e=>(by rw [HN.o] at e;cases e),by rw [HN.o];rfl,(HH.o.2.2.1.trans (hff.below HH.o.2.2.1.size fun k hk e=>by omega)).trans ((CS _ _ _).below (by have:=hff.size;have:=HH.o.2.2.1.size;omega) fun k hk e=>by omega)⟩
 case hstop =>
  rintro c pre W hpre ⟨q,x,rfl,rfl,hq,hx,h9,hra,hc1,hb⟩ hK;refine wp_ret ?_;have HN:=Ad (show r=some x by
   rw [← HR.o,Il];obtain ⟨t,ht⟩:=hpre;rw [← ht,List.append_assoc,List.find?_append,List.find?_eq_none.2 (fun y hy=>by rw [hq y hy];decide),Option.none_or,List.singleton_append,List.find?_cons,hx])
  refine Eq rfl hK (J6 rfl rfl rfl rfl hra h9 hc1 Om Om) ?_;exact ⟨x,h9,fun cl e=>by rw [HN.o] at e;injection e,by rw [HN.o];rfl,hb.trans ((CS W _ _).below hb.size fun k hk e=>by omega)⟩
end Go.Proofs.YtkbbmjcfgcfejaaGreat
namespace Go.Proofs.YtkbbmjcfgcfejaaGreat
open Go Go.RowKit
theorem C1 {S1 S2:Nat→Prop} (v1 v2:Value) (a:Aj) (w:World) (h1:RL w S1 v1 a.1) (h2:RL w S2 v2 a.2) :
 Calls Tryz.prog 183 #[.agg #[v1,v2]] w fun e w'=>e=.returned (.bool (Cl a))∧Below w.heap.size w w':=by
 obtain ⟨xa1,xc1,rfl⟩:=h1.form;obtain ⟨xa2,xc2,rfl⟩:=h2.form;cases ha:Ah a with
 | false =>
   have HV:=Ad ha;have HR:=Ad (show Cl a=false by rw [Cl,ha];rfl);clear ha;go_enter Tryz.func183,Tryz.ntmps183
   (go_wp2_with fail);refine (cb (Aq _ _ a _ (h1.keep Bl) (h2.keep Bl)) HV.o).mono ?_;rintro e w1 ⟨rfl,hb⟩;go_wp2;go_returns;exact ⟨by rw [HR.o];rfl,bt Bl hb⟩
 | true =>
   obtain ⟨r,hr⟩:=Ex (C8 (As (Ak a) 0) a);have HV:=Ad ha;have HR:=Ad (show Cl a=r.isSome by
    rw [Cl,ha,← hr,C8,Bool.true_and];cases BU (As (Ak a) 0) a <;> rfl)
   have HF:=Ad hr;clear ha hr;go_enter Tryz.func183,Tryz.ntmps183
   (go_wp2_with fail);refine (cb (Aq _ _ a _ (h1.keep Bl) (h2.keep Bl)) HV.o).mono ?_;rintro e w1 ⟨rfl,hb⟩;have c0:=Ab hb (p:=⟨w.heap.size,0,none⟩) (v:=.slice xa1 a.1.length xc1) (by simp [go_sem]);have c1:=Ab hb (p:=⟨w.heap.size,1,none⟩) (v:=.slice xa2 a.2.length xc2) (by simp [go_sem]);have hW:=bt (a:=w) Bl hb;clear hb;(go_wp2_with fail);refine (Lx _ _ a r _ (h1.keep hW) (h2.keep hW) HV.o HF.o).mono ?_;rintro e w2 ⟨tl,h9,htl,rfl,hb⟩;clear htl;obtain ⟨x0,x1,x2,x3,x4,x5,x6,x7,x8,rfl⟩:=Tv h9;go_wp2;go_returns;exact ⟨by rw [HR.o];rfl,bt (bt hW hb) Bl⟩
theorem Iu {S1 S2 S3 S4:Nat→Prop} (v1 v2 u1 u2:Value) (a b:Aj) (w:World) (h1:RL w S1 v1 a.1) (h2:RL w S2 v2 a.2) (k1:RL w S3 u1 b.1) (k2:RL w S4 u2 b.2) :
 Calls Tryz.prog 50 #[.agg #[v1,v2],.agg #[u1,u2]] w fun e w'=>e=.returned (.bool (Cp a b))∧Below w.heap.size w w':=by
 obtain ⟨xa1,xc1,rfl⟩:=h1.form;obtain ⟨xa2,xc2,rfl⟩:=h2.form;obtain ⟨ya1,yc1,rfl⟩:=k1.form;obtain ⟨ya2,yc2,rfl⟩:=k2.form;cases ha:Ah a with
 | false =>
   have HV:=Ad ha;have HR:=Ad (show Cp a b=false by rw [Cp,ha];rfl);clear ha;go_enter Tryz.func50,Tryz.ntmps50
   (go_wp2_with fail);refine (cb (Aq _ _ a _ (h1.keep Bl) (h2.keep Bl)) HV.o).mono ?_;rintro e w1 ⟨rfl,hb⟩;go_wp2;go_returns;exact ⟨by rw [HR.o];rfl,bt Bl hb⟩
 | true =>
   cases hbv:Ah b with
   | false =>
     have HV:=Ad (An ha hbv);have HR:=Ad (show Cp a b=false by rw [Cp,ha,hbv];rfl);clear ha hbv;go_enter Tryz.func50,Tryz.ntmps50
     (go_wp2_with fail);refine (cb (Aq _ _ a _ (h1.keep Bl) (h2.keep Bl)) HV.o.1).mono ?_;rintro e w1 ⟨rfl,hb⟩;have c2:=Ab hb (p:=⟨w.heap.size+1,0,none⟩) (v:=.slice ya1 b.1.length yc1) (by simp [go_sem]);have c3:=Ab hb (p:=⟨w.heap.size+1,1,none⟩) (v:=.slice ya2 b.2.length yc2) (by simp [go_sem]);have hW:=bt (a:=w) Bl hb;clear hb;(go_wp2_with fail);refine (cb (Aq _ _ b _ (k1.keep hW) (k2.keep hW)) HV.o.2).mono ?_;rintro e w2 ⟨rfl,hb⟩;go_wp2;go_returns;exact ⟨by rw [HR.o];rfl,bt hW hb⟩
   | true =>
     obtain ⟨r,hr⟩:=Ex (Il a b);have HV:=Ad (An ha hbv);have HR:=Ad (show Cp a b=r.isNone by rw [Cp,ha,hbv,hr];rfl);have HF:=Ad hr;clear ha hr hbv;go_enter Tryz.func50,Tryz.ntmps50
     (go_wp2_with fail);refine (cb (Aq _ _ a _ (h1.keep Bl) (h2.keep Bl)) HV.o.1).mono ?_;rintro e w1 ⟨rfl,hb⟩;have c0:=Ab hb (p:=⟨w.heap.size,0,none⟩) (v:=.slice xa1 a.1.length xc1) (by simp [go_sem]);have c1:=Ab hb (p:=⟨w.heap.size,1,none⟩) (v:=.slice xa2 a.2.length xc2) (by simp [go_sem]);have c2:=Ab hb (p:=⟨w.heap.size+1,0,none⟩) (v:=.slice ya1 b.1.length yc1) (by simp [go_sem]);have c3:=Ab hb (p:=⟨w.heap.size+1,1,none⟩) (v:=.slice ya2 b.2.length yc2) (by simp [go_sem]);have hW:=bt (a:=w) Bl hb;clear hb;(go_wp2_with fail);refine (cb (Aq _ _ b _ (k1.keep hW) (k2.keep hW)) HV.o.2).mono ?_;rintro e w2 ⟨rfl,hb⟩;replace c0:=Ab hb c0;replace c1:=Ab hb c1;replace c2:=Ab hb c2;replace c3:=Ab hb c3;replace hW:=bt hW hb;clear hb;(go_wp2_with fail);refine (JU _ _ _ _ a b r _ (h1.keep hW) (h2.keep hW) (k1.keep hW) (k2.keep hW) HV.o.1 HV.o.2 HF.o).mono ?_;rintro e w3 ⟨tl,h9,htl,rfl,hb⟩;clear htl;obtain ⟨x0,x1,x2,x3,x4,x5,x6,x7,x8,rfl⟩:=Tv h9;cases r with
     | none =>
       go_wp2;go_returns;exact ⟨by rw [HR.o];rfl,bt (bt hW hb) Bl⟩
     | some c =>
       go_wp2;go_returns;exact ⟨by rw [HR.o];rfl,bt (bt hW hb) Bl⟩
end Go.Proofs.YtkbbmjcfgcfejaaGreat
