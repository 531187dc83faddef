/- ItrB: texts Itr3, Itr4 in one. -/
import Derived.Test.YtkbbmjcfgcfejaaGreatKItrA
import Derived.Test.YtkbbmjcfgcfejaaGreatKMtcA
import Derived.Test.YtkbbmjcfgcfejaaGreatKCase14
namespace Go.Proofs.YtkbbmjcfgcfejaaGreat
open Go Go.RowKit
attribute [local go_sem] Oper.semAt_some
theorem len9 {cl:List Int} (h:cl.length=9):∃ x0 x1 x2 x3 x4 x5 x6 x7 x8,cl=[x0,x1,x2,x3,x4,x5,x6,x7,x8]:=by
 match cl,h with
 | [x0,x1,x2,x3,x4,x5,x6,x7,x8],_=>exact ⟨x0,x1,x2,x3,x4,x5,x6,x7,x8,rfl⟩
theorem cases_len {M:Nat} {a:Asn} {cl:List Int} (h:cl ∈ casesL M a):cl.length=9:=by
 have:=(mem_cases.1 h).1
 rw [shapeC,Bool.and_eq_true,beq_iff_eq] at this
 exact this.1
theorem pre_mem {α:Type} {pre xs:List α} {x:α} (h:pre ++ [x] <+: xs):x ∈ xs:=h.subset (by simp)
theorem cells9 {W:World} {g:Nat} {T:TypeId} {a0 a1 a2 a3 a4 a5 a6 a7 a8:Value} (h:W.heap[g]?=some (.cells #[a0,a1,a2,a3,a4,a5,a6,a7,a8] T (0,0))) :
 (W.cell? ⟨g,0,none⟩=some a0∧W.cell? ⟨g,1,none⟩=some a1∧W.cell? ⟨g,2,none⟩=some a2∧W.cell? ⟨g,3,none⟩=some a3∧W.cell? ⟨g,4,none⟩=some a4∧W.cell? ⟨g,5,none⟩=some a5∧W.cell? ⟨g,6,none⟩=some a6∧W.cell? ⟨g,7,none⟩=some a7∧W.cell? ⟨g,8,none⟩=some a8)∧∀ i,W.frozen? ⟨g,i,none⟩=false :=
 ⟨⟨cell_of_row _ _ 0 _ _ _ h,cell_of_row _ _ 1 _ _ _ h,cell_of_row _ _ 2 _ _ _ h,cell_of_row _ _ 3 _ _ _ h,cell_of_row _ _ 4 _ _ _ h,cell_of_row _ _ 5 _ _ _ h,cell_of_row _ _ 6 _ _ _ h,cell_of_row _ _ 7 _ _ _ h,cell_of_row _ _ 8 _ _ _ h⟩,fun i=>frozen_of_row _ _ i _ _ h⟩
theorem there_row {W:World} {g:Nat} {T:TypeId} {cs:Array Value} (h:W.heap[g]?=some (.cells cs T (0,0))):W.there g 0 cs.size:=fun j hj=>by
 rw [Nat.zero_add,cell_of_row _ _ j _ _ _ h,frozen_of_row _ _ j _ _ h]
 simp [hj]
theorem fr_setCells {g:Nat}:∀ (cs:List Value) (o:Nat) (w:World),Fr (fun k=>k=g) w (w.setCells g o cs)
 | [],_,w=>Fr.refl _ w
 | c :: cs,o,w=>(fr_set w ⟨g,o,none⟩ c).trans (fr_setCells cs (o+1) _)
theorem results_cells2 {P:Program} {fn:Func} {p q:Tmp} {ty u:TypeId} (h:fn.results=#[.cell p ty,.cell q u]) {tmps:Array Value} {w:World} {a b:Addr} {v1 v2:Value}
 (hp:tmps.getD p undef=.pointer (some a)) (hq:tmps.getD q undef=.pointer (some b)) (h1:(loadVar ty a).run P w=.ok v1 w) (h2:(loadVar u b).run P w=.ok v2 w):(results fn tmps).run P w=.ok (.tuple #[v1,v2]) w:=by
 have hp':tmps[p]?.getD undef=.pointer (some a):=by simpa using hp
 have hq':tmps[q]?.getD undef=.pointer (some b):=by simpa using hq
 simp [results,h,hp',hq',asAddr,h1,h2]
theorem load_bool {W:World} {g:Nat} {b:Bool} (h:W.cell? ⟨g,0,none⟩=some (.bool b)):(loadVar 4 ⟨g,0,none⟩).run Tryz.prog W=.ok (.bool b) W:=by
 simp [go_sem,h]
theorem load9r {W:World} {g:Nat} {q:List Int} (h:W.rangeAt g 0 (ints q)) (hq:q.length=9):(loadVar 161 ⟨g,0,none⟩).run Tryz.prog W=.ok (.agg (iarr q)) W :=
 run_loadVar_mid (P:=Tryz.prog) W g 0 161 (ints q) _ h Tryz.underlying161 rfl (by rw [sizeC];simp [hq])
theorem res_put {P:Program} {fn:Func} {p q:Tmp} (h:fn.results=#[.cell p 161,.cell q 4]) {tmps:Array Value} {W:World} {D g1 g2:Nat} {cl:List Int} {b:Bool} (hP:P=Tryz.prog)
 (hp:tmps.getD p undef=.pointer (some ⟨g1,0,none⟩)) (hq:tmps.getD q undef=.pointer (some ⟨g2,0,none⟩)) (h1:W.rangeAt g1 0 (ints cl)) (h9:cl.length=9) (h2:W.cell? ⟨g2,0,none⟩=some (.bool b)) (d1:¬ g1=D) (d2:¬ g2=D) :
 (results fn tmps).run P (W.putObj D (.deferred none))=.ok (.tuple #[.agg (iarr cl),.bool b]) (W.putObj D (.deferred none)):=by
 subst hP
 exact results_cells2 h hp hq (load9r (fun j v hj=>(fr_put W D _).cell d1 (h1 j v hj)) h9) (load_bool ((fr_put W D _).cell d2 h2))
theorem both_lt (a b:Asn):bothM a b < 65536:=Nat.or_lt_two_pow (n:=16) (termM_lt (termsM_lt a)) (termsM_lt b)
set_option maxRecDepth 100000 in
set_option maxHeartbeats 6400000 in
theorem failingCase_any {S1 S2 S3 S4:Nat→Prop} (v1 v2 u1 u2:Value) (a b:Asn) (r:Option (List Int)) (w:World) (h1:RL w S1 v1 a.1) (h2:RL w S2 v2 a.2) (k1:RL w S3 u1 b.1) (k2:RL w S4 u2 b.2)
 (ha:asnB a=true) (hb:asnB b=true) (hr:failO a b=r) :
 Calls Tryz.prog 132 #[.agg #[v1,v2],.agg #[u1,u2]] w fun e w'=>∃ tl:List Int,tl.length=9∧(∀ cl,r=some cl→tl=cl)∧e=.returned (.tuple #[.agg (iarr tl),.bool r.isSome])∧Below w.heap.size w w':=by
 obtain ⟨xa1,xc1,rfl⟩:=h1.form
 obtain ⟨xa2,xc2,rfl⟩:=h2.form
 obtain ⟨ya1,yc1,rfl⟩:=k1.form
 obtain ⟨ya2,yc2,rfl⟩:=k2.form
 have HA:=Lib.hid ha
 have HBV:=Lib.hid hb
 have HR:=Lib.hid hr
 clear ha hr hb
 have hc0:((((w.alloc (.cells #[.slice xa1 a.1.length xc1,.slice xa2 a.2.length xc2] 26)).alloc (.cells #[.slice ya1 b.1.length yc1,.slice ya2 b.2.length yc2] 26)).alloc (.cells #[.int .i64 0,.int .i64 0,.int .i64 0,.int .i64 0,.int .i64 0,.int .i64 0,.int .i64 0,.int .i64 0,.int .i64 0] 161)).alloc (.cells #[.bool false] 4)).cell? ⟨w.heap.size,0,none⟩=some (.slice xa1 a.1.length xc1):=by simp [go_sem]
 have hc1:((((w.alloc (.cells #[.slice xa1 a.1.length xc1,.slice xa2 a.2.length xc2] 26)).alloc (.cells #[.slice ya1 b.1.length yc1,.slice ya2 b.2.length yc2] 26)).alloc (.cells #[.int .i64 0,.int .i64 0,.int .i64 0,.int .i64 0,.int .i64 0,.int .i64 0,.int .i64 0,.int .i64 0,.int .i64 0] 161)).alloc (.cells #[.bool false] 4)).cell? ⟨w.heap.size,1,none⟩=some (.slice xa2 a.2.length xc2):=by simp [go_sem]
 have hd0:((((w.alloc (.cells #[.slice xa1 a.1.length xc1,.slice xa2 a.2.length xc2] 26)).alloc (.cells #[.slice ya1 b.1.length yc1,.slice ya2 b.2.length yc2] 26)).alloc (.cells #[.int .i64 0,.int .i64 0,.int .i64 0,.int .i64 0,.int .i64 0,.int .i64 0,.int .i64 0,.int .i64 0,.int .i64 0] 161)).alloc (.cells #[.bool false] 4)).cell? ⟨w.heap.size+1,0,none⟩=some (.slice ya1 b.1.length yc1):=by simp [go_sem]
 have hd1:((((w.alloc (.cells #[.slice xa1 a.1.length xc1,.slice xa2 a.2.length xc2] 26)).alloc (.cells #[.slice ya1 b.1.length yc1,.slice ya2 b.2.length yc2] 26)).alloc (.cells #[.int .i64 0,.int .i64 0,.int .i64 0,.int .i64 0,.int .i64 0,.int .i64 0,.int .i64 0,.int .i64 0,.int .i64 0] 161)).alloc (.cells #[.bool false] 4)).cell? ⟨w.heap.size+1,1,none⟩=some (.slice ya2 b.2.length yc2):=by simp [go_sem]
 have hg0:((((w.alloc (.cells #[.slice xa1 a.1.length xc1,.slice xa2 a.2.length xc2] 26)).alloc (.cells #[.slice ya1 b.1.length yc1,.slice ya2 b.2.length yc2] 26)).alloc (.cells #[.int .i64 0,.int .i64 0,.int .i64 0,.int .i64 0,.int .i64 0,.int .i64 0,.int .i64 0,.int .i64 0,.int .i64 0] 161)).alloc (.cells #[.bool false] 4)).heap[w.heap.size+1+1]?=some (.cells #[.int .i64 0,.int .i64 0,.int .i64 0,.int .i64 0,.int .i64 0,.int .i64 0,.int .i64 0,.int .i64 0,.int .i64 0] 161 (0,0)):=box_keep (by have:=heap_alloc_new ((w.alloc (.cells #[.slice xa1 a.1.length xc1,.slice xa2 a.2.length xc2] 26)).alloc (.cells #[.slice ya1 b.1.length yc1,.slice ya2 b.2.length yc2] 26)) (.cells #[.int .i64 0,.int .i64 0,.int .i64 0,.int .i64 0,.int .i64 0,.int .i64 0,.int .i64 0,.int .i64 0,.int .i64 0] 161);simp only [World.size_alloc] at this;exact this) (below_alloc _ _)
 have hg1:((((w.alloc (.cells #[.slice xa1 a.1.length xc1,.slice xa2 a.2.length xc2] 26)).alloc (.cells #[.slice ya1 b.1.length yc1,.slice ya2 b.2.length yc2] 26)).alloc (.cells #[.int .i64 0,.int .i64 0,.int .i64 0,.int .i64 0,.int .i64 0,.int .i64 0,.int .i64 0,.int .i64 0,.int .i64 0] 161)).alloc (.cells #[.bool false] 4)).heap[w.heap.size+1+1+1]?=some (.cells #[.bool false] 4 (0,0)):=by have:=heap_alloc_new (((w.alloc (.cells #[.slice xa1 a.1.length xc1,.slice xa2 a.2.length xc2] 26)).alloc (.cells #[.slice ya1 b.1.length yc1,.slice ya2 b.2.length yc2] 26)).alloc (.cells #[.int .i64 0,.int .i64 0,.int .i64 0,.int .i64 0,.int .i64 0,.int .i64 0,.int .i64 0,.int .i64 0,.int .i64 0] 161)) (.cells #[.bool false] 4);simp only [World.size_alloc] at this;exact this
 have hW0:Below w.heap.size w ((((w.alloc (.cells #[.slice xa1 a.1.length xc1,.slice xa2 a.2.length xc2] 26)).alloc (.cells #[.slice ya1 b.1.length yc1,.slice ya2 b.2.length yc2] 26)).alloc (.cells #[.int .i64 0,.int .i64 0,.int .i64 0,.int .i64 0,.int .i64 0,.int .i64 0,.int .i64 0,.int .i64 0,.int .i64 0] 161)).alloc (.cells #[.bool false] 4)):=Bl
 have hzz:((((w.alloc (.cells #[.slice xa1 a.1.length xc1,.slice xa2 a.2.length xc2] 26)).alloc (.cells #[.slice ya1 b.1.length yc1,.slice ya2 b.2.length yc2] 26)).alloc (.cells #[.int .i64 0,.int .i64 0,.int .i64 0,.int .i64 0,.int .i64 0,.int .i64 0,.int .i64 0,.int .i64 0,.int .i64 0] 161)).alloc (.cells #[.bool false] 4)).heap.size=w.heap.size+1+1+1+1:=by simp
 have HX:=Lib.hid (And.intro (And.intro (And.intro hc0 hc1) (And.intro hd0 hd1)) (And.intro (And.intro hg0 hg1) (And.intro hW0 hzz)))
 clear hc0 hc1 hd0 hd1 hg0 hg1 hW0 hzz
 refine calls_of_marks Tryz.func132 rfl ?_
 simp only [Tryz.ntmps132,List.size_toArray,List.length_cons,List.length_nil,Nat.reduceAdd,Nat.reduceSub,Array.replicate_succ,Array.replicate_zero,List.push_toArray,List.append_toArray,List.nil_append,List.cons_append]
 go_upto_region 1 with fail
 generalize ((((w.alloc (.cells #[.slice xa1 a.1.length xc1,.slice xa2 a.2.length xc2] 26)).alloc (.cells #[.slice ya1 b.1.length yc1,.slice ya2 b.2.length yc2] 26)).alloc (.cells #[.int .i64 0,.int .i64 0,.int .i64 0,.int .i64 0,.int .i64 0,.int .i64 0,.int .i64 0,.int .i64 0,.int .i64 0] 161)).alloc (.cells #[.bool false] 4))=w0 at HX ⊢
 have hc0:=HX.out.1.1.1
 have hc1:=HX.out.1.1.2
 have hd0:=HX.out.1.2.1
 have hd1:=HX.out.1.2.2
 have hW:=HX.out.2.2.1
 have htm:=termsM_lt b
 go_region_held3 (fun w'=>(w'.cell? ⟨w.heap.size,0,none⟩=some (.slice xa1 a.1.length xc1)∧w'.cell? ⟨w.heap.size,1,none⟩=some (.slice xa2 a.2.length xc2))∧(w'.cell? ⟨w.heap.size+1,0,none⟩=some (.slice ya1 b.1.length yc1)∧w'.cell? ⟨w.heap.size+1,1,none⟩=some (.slice ya2 b.2.length yc2)))
  (exact ⟨⟨cell_keep Bl hc0,cell_keep Bl hc1⟩,⟨cell_keep Bl hd0,cell_keep Bl hd1⟩⟩)
  (first
    | (go_at_call 66;(with_reducible refine (termsIn_any _ _ b _ (k1.keep (bt hW Bl)) (k2.keep (bt hW Bl))).mono ?_);rintro e w2 ⟨rfl,hb2'⟩;have hb2:Below w0.heap.size w0 w2:=bt Bl hb2')
    | (go_at_call 117;(with_reducible refine (possibleCases_any _ _ a (termsM b) _ (h1.keep (bt hW Bl)) (h2.keep (bt hW Bl)) htm).mono ?_);rintro e w1 ⟨b1,b2,rfl,hb1,hb2x,c0,c1,c2,hb⟩;have hb3:Below w0.heap.size w0 w1:=bt (bt hb2 Bl) hb))
 have hz:=hb3.size
 rw [HX.out.2.2.2] at hz
 have hb1':w.heap.size+1+1+1+1≤b1:=by have:=hb2.size;have:=HX.out.2.2.2;omega
 have hb2':w.heap.size+1+1+1+1≤b2:=by have:=hb2.size;have:=HX.out.2.2.2;omega
 have HC:=Lib.hid (And.intro c0 (And.intro c1 c2))
 have HY:=Lib.hid (And.intro (And.intro (cell_keep hb3 hc0) (cell_keep hb3 hc1)) (And.intro (cell_keep hb3 hd0) (cell_keep hb3 hd1)))
 have HW:=Lib.hid (And.intro (bt hW hb3) (And.intro (box_keep HX.out.2.1.1 hb3) (box_keep HX.out.2.1.2 hb3)))
 clear c0 c1 c2 hb hb1 hb2x hb2 hb2' hb1' hc0 hc1 hd0 hd1 hW hb3
 go_wp2
 have hR':∀ k:Nat,k < w.heap.size→k < w1.heap.size∧k ≠ w.heap.size+1+1∧k ≠ w.heap.size+1+1+1:=fun k hk=>⟨by omega,by omega,by omega⟩
 have HR':=Lib.hid hR'
 refine wp_rangeW (xs:=casesL (bothM a b) a) (R:=fun k=>k < w1.heap.size∧k ≠ w.heap.size+1+1∧k ≠ w.heap.size+1+1+1) (w0:=w1) rfl (enters_of Tryz.func187 (by kernel_rfl) rfl)
  (cases_seq b1 b2 _ _ a _ w1 HC.out.1 HC.out.2.1 HC.out.2.2 ((h1.lt.keep HW.out.1).more fun k _ hk=>HR'.out k hk) ((h2.lt.keep HW.out.1).more fun k _ hk=>HR'.out k hk)
    (fun k hk=>hk.1) HA.out (both_lt a b) (fun j hj=>by rw [bothM,Nat.testBit_or,one_bit,hj];rfl)) (Below.refl _ _) (fun k hk=>hk.1) (fun _=>rfl)
  (fun X pre W=>(∀ x ∈ pre,failC a b x=false)∧(∀ k,X k→w1.heap.size≤k)∧((W.cell? ⟨w.heap.size,0,none⟩=some (.slice xa1 a.1.length xc1)∧W.cell? ⟨w.heap.size,1,none⟩=some (.slice xa2 a.2.length xc2))∧(W.cell? ⟨w.heap.size+1,0,none⟩=some (.slice ya1 b.1.length yc1)∧W.cell? ⟨w.heap.size+1,1,none⟩=some (.slice ya2 b.2.length yc2))) ∧
    W.heap[w.heap.size+1+1]?=some (.cells #[.int .i64 0,.int .i64 0,.int .i64 0,.int .i64 0,.int .i64 0,.int .i64 0,.int .i64 0,.int .i64 0,.int .i64 0] 161 (0,0))∧W.heap[w.heap.size+1+1+1]?=some (.cells #[.bool false] 4 (0,0))∧Below w.heap.size w W)
  (fun c pre W=>∃ q x,c=.ret∧pre=q ++ [x]∧(∀ y ∈ q,failC a b y=false)∧failC a b x=true∧x.length=9∧W.rangeAt (w.heap.size+1+1) 0 (ints x)∧W.cell? ⟨w.heap.size+1+1+1,0,none⟩=some (.bool true)∧Below w.heap.size w W)
  ?hI ?hIx ⟨fun _ h=>by (cases h),fun _ h=>h.elim,HY.out,HW.out.2.1,HW.out.2.2,HW.out.1⟩ ?hround ?hdone ?hstop
 case hI =>
  rintro X X' pre A B ⟨hp,hX,⟨⟨e0,e1⟩,e2,e3⟩,h1,h2,hb⟩ hf hz' hX'
  have hn:∀ k,k < w1.heap.size→¬ (X k∨k=w1.heap.size∨k=w1.heap.size+1):=fun k hk e=>by
   rcases e with h | h | h
   · have:=hX _ h;omega
   · omega
   · omega
  refine ⟨hp,fun k hk=>?_,⟨⟨hf.cell (hn _ (by simp;omega)) e0,hf.cell (hn _ (by simp;omega)) e1⟩,hf.cell (hn _ (by simp;omega)) e2,hf.cell (hn _ (by simp;omega)) e3⟩,box_kept h1 hf (hn _ (by omega)),box_kept h2 hf (hn _ (by omega)),hb.trans (hf.below hb.size fun k hk=>hn k (by omega))⟩
  rcases hX' k hk with h | h
  · exact hX k h
  · omega
 case hIx =>
  rintro c pre A B ⟨q,x,rfl,rfl,hq,hx,h9,h1,h2,hb⟩ hf
  refine ⟨q,x,rfl,rfl,hq,hx,h9,fun j v hj=>hf.cell ?_ (h1 j v hj),hf.cell ?_ h2,hb.trans (hf.below hb.size fun k hk e=>?_)⟩
  · rintro (h | h) <;> (simp only at h;omega)
  · rintro (h | h) <;> (simp only at h;omega)
  · rcases e with h | h <;> omega
 case hround =>
  rintro m X pre x W hzW hX hpre ⟨hp,hX2,hY,hg0,hg1,hb⟩
  obtain ⟨x0,x1,x2,x3,x4,x5,x6,x7,x8,rfl⟩:=len9 (cases_len (pre_mem hpre))
  have HG:=Lib.hid (And.intro hg0 (And.intro hg1 (And.intro hb (And.intro hX (And.intro hp hX2)))))
  have HY2:=Lib.hid hY
  clear hpre hX hX2 hg0 hg1 hb hY hp
  gi_wp2
  refine ⟨(fr_al _ _).mono fun _ _ h=>h.elim,fun w2 hf2=>?_⟩
  have hfw:Fr (fun k=>k=w1.heap.size+1) W w2:=((fr_al W (.cells #[.int .i64 x0,.int .i64 x1,.int .i64 x2,.int .i64 x3,.int .i64 x4,.int .i64 x5,.int .i64 x6,.int .i64 x7,.int .i64 x8] 161)).mono fun _ _ h=>h.elim).trans hf2
  have hx:=box_kept (heap_alloc_new W (.cells #[.int .i64 x0,.int .i64 x1,.int .i64 x2,.int .i64 x3,.int .i64 x4,.int .i64 x5,.int .i64 x6,.int .i64 x7,.int .i64 x8] 161)) hf2 (by omega)
  have hg:=box_kept HG.out.1 hfw (by omega)
  have hq:=box_kept HG.out.2.1 hfw (by omega)
  have c0:=hfw.cell (by show ¬ w.heap.size=_;omega) HY2.out.1.1
  have c1:=hfw.cell (by show ¬ w.heap.size=_;omega) HY2.out.1.2
  have d0':=hfw.cell (by show ¬ w.heap.size+1=_;omega) HY2.out.2.1
  have d1':=hfw.cell (by show ¬ w.heap.size+1=_;omega) HY2.out.2.2
  have hb2:=HG.out.2.2.1.trans (hfw.below HG.out.2.2.1.size fun k hk e=>by omega)
  have HH:=Lib.hid (And.intro hg (And.intro hq (And.intro hb2 (And.intro (And.intro c0 c1) (And.intro d0' d1')))))
  obtain ⟨⟨d0,d1,d2,d3,d4,d5,d6,d7,d8⟩,_⟩:=cells9 hx
  obtain ⟨⟨e0,e1,e2,e3,e4,e5,e6,e7,e8⟩,ez⟩:=cells9 hg
  have q0:w2.cell? ⟨w.heap.size+1+1+1,0,none⟩=some (.bool false):=cell_of_row _ _ 0 _ _ _ hq
  have qz:=frozen_of_row _ _ 0 _ _ hq
  obtain ⟨rm,hrm⟩:∃ r,matchC a b [x0,x1,x2,x3,x4,x5,x6,x7,x8]=r:=⟨_,rfl⟩
  have hmc:=matchCase_any _ _ _ _ a b [x0,x1,x2,x3,x4,x5,x6,x7,x8] rm w2 (h1.keep hb2) (h2.keep hb2) (k1.keep hb2) (k2.keep hb2) HA.out HBV.out rfl hrm
  have HRM:=Lib.hid hrm
  have hx9:=box_lt hx
  have HXB:=Lib.hid hx
  clear hx hg hq hfw hf2 hb2 hrm
  have HM:=Lib.hid hmc
  clear hmc
  cases rm with
  | some us =>
    have HF:=Lib.hid (show failC a b [x0,x1,x2,x3,x4,x5,x6,x7,x8]=false by rw [failC,HRM.out];rfl)
    gi_wp2_with (refine ⟨trivial,fun h=>(by cases h),?_⟩;gi_at_call 206;refine (CallsIn.inRound _ (callsIn_wide.2 HM.out)).mono ?_;rintro e w5 ⟨vu,rfl,hU,hb5⟩)
    have hff:=Below.fr hb5
    refine ⟨hff.mono fun _ _ h=>h.elim,?_,HG.out.2.2.2.2.2,⟨⟨cell_keep hb5 HH.out.2.2.2.1.1,cell_keep hb5 HH.out.2.2.2.1.2⟩,cell_keep hb5 HH.out.2.2.2.2.1,cell_keep hb5 HH.out.2.2.2.2.2⟩,box_keep HH.out.1 hb5,box_keep HH.out.2.1 hb5,bt HH.out.2.2.1 hb5⟩
    intro y hy
    rcases List.mem_append.1 hy with h | h
    · exact HG.out.2.2.2.2.1 y h
    · rw [List.mem_singleton.1 h];exact HF.out
  | none =>
    have HF:=Lib.hid (show failC a b [x0,x1,x2,x3,x4,x5,x6,x7,x8]=true by rw [failC,HRM.out];rfl)
    gi_wp2_with (refine ⟨trivial,fun h=>(by cases h),?_⟩;gi_at_call 206;refine (CallsIn.inRound _ (callsIn_wide.2 HM.out)).mono ?_;rintro e w5 ⟨vu,rfl,hU,hb5⟩;obtain ⟨⟨d0,d1,d2,d3,d4,d5,d6,d7,d8⟩,_⟩:=cells9 (box_keep HXB.out hb5);have hg5:=box_keep HH.out.1 hb5;have hq5:=box_keep HH.out.2.1 hb5;obtain ⟨⟨e0,e1,e2,e3,e4,e5,e6,e7,e8⟩,ez⟩:=cells9 hg5;have q0:w5.cell? ⟨w.heap.size+1+1+1,0,none⟩=some (.bool false):=cell_of_row _ _ 0 _ _ _ hq5;have qz:=frozen_of_row _ _ 0 _ _ hq5;have H5:=Lib.hid (And.intro hg5 hq5);have HB5:=Lib.hid hb5;clear hg5 hq5 hb5)
    have hfs:=fr_setCells (g:=w.heap.size+1+1) [.int .i64 x0,.int .i64 x1,.int .i64 x2,.int .i64 x3,.int .i64 x4,.int .i64 x5,.int .i64 x6,.int .i64 x7,.int .i64 x8] 0 w5
    have hth:=there_row H5.out.1
    have hra:=World.rangeAt_setCells_same w5 (w.heap.size+1+1) 0 [.int .i64 x0,.int .i64 x1,.int .i64 x2,.int .i64 x3,.int .i64 x4,.int .i64 x5,.int .i64 x6,.int .i64 x7,.int .i64 x8] hth
    have hq2:=box_kept H5.out.2 hfs (by omega)
    have hb5:=bt HH.out.2.2.1 HB5.out
    refine ⟨?_,pre,[x0,x1,x2,x3,x4,x5,x6,x7,x8],rfl,rfl,HG.out.2.2.2.2.1,HF.out,rfl,fun j v hj=>cell_set_other (hra j v hj) (by simp),?_,?_⟩
    · exact (((Below.fr HB5.out).mono fun _ _ h=>h.elim).trans (hfs.mono (S':=fun k=>k ≠ w1.heap.size∧k ≠ w1.heap.size+1) fun k _ e=>by omega)).trans ((fr_set _ _ _).mono fun k _ e=>by simp at e;omega)
    · exact World.cell?_setCell_same' _ _ _ (by have hcc:=cell_of_row _ _ 0 _ _ _ hq2;exact Option.isSome_iff_exists.2 ⟨_,hcc⟩)
    · exact (hb5.trans (hfs.below hb5.size fun k hk e=>by omega)).setCell (p:=⟨w.heap.size+1+1+1,0,none⟩) (by simp;omega) _
 case hdone =>
  rintro W ⟨hp,_,_,hg0,hg1,hb⟩ hK
  have HN:=Lib.hid (show r=none by rw [← HR.out,failO,List.find?_eq_none];intro x hx;rw [hp x hx];decide)
  have HH:=Lib.hid (And.intro (there_row hg0) (And.intro hg1 (And.intro hb hK)))
  obtain ⟨⟨e0,e1,e2,e3,e4,e5,e6,e7,e8⟩,ez⟩:=cells9 hg0
  have q0:W.cell? ⟨w.heap.size+1+1+1,0,none⟩=some (.bool false):=cell_of_row _ _ 0 _ _ _ hg1
  have qz:=frozen_of_row _ _ 0 _ _ hg1
  clear hg0 hg1 hb hK hp
  go_wp2
  have hfs:=fr_setCells (g:=w.heap.size+1+1) [.int .i64 0,.int .i64 0,.int .i64 0,.int .i64 0,.int .i64 0,.int .i64 0,.int .i64 0,.int .i64 0,.int .i64 0] 0 W
  have hra:=World.rangeAt_setCells_same W (w.heap.size+1+1) 0 [.int .i64 0,.int .i64 0,.int .i64 0,.int .i64 0,.int .i64 0,.int .i64 0,.int .i64 0,.int .i64 0,.int .i64 0] HH.out.1
  have hff:=(hfs.mono (S':=fun k=>k=w.heap.size+1+1∨k=w.heap.size+1+1+1) fun k _ e=>.inl e).trans ((fr_set _ ⟨w.heap.size+1+1+1,0,none⟩ (.bool false)).mono fun k _ e=>.inr e)
  have hq2:=box_kept HH.out.2.1 hfs (by omega)
  refine marks_ret rfl (fr_blk hff HH.out.2.2.2 (by omega)) (res_put rfl rfl rfl rfl (fun j v hj=>cell_set_other (hra j v hj) (by simp)) (cl:=[0,0,0,0,0,0,0,0,0]) rfl (World.cell?_setCell_same' _ _ _ (by have hcc:=cell_of_row _ _ 0 _ _ _ hq2;exact Option.isSome_iff_exists.2 ⟨_,hcc⟩)) (by omega) (by omega)) ?_
  exact ⟨[0,0,0,0,0,0,0,0,0],rfl,fun cl e=>(by rw [HN.out] at e;cases e),by rw [HN.out];rfl,(HH.out.2.2.1.trans (hff.below HH.out.2.2.1.size fun k hk e=>by omega)).trans ((fr_put _ _ _).below (by have:=hff.size;have:=HH.out.2.2.1.size;omega) fun k hk e=>by omega)⟩
 case hstop =>
  rintro c pre W hpre ⟨q,x,rfl,rfl,hq,hx,h9,hra,hc1,hb⟩ hK
  refine wp_ret ?_
  have HN:=Lib.hid (show r=some x by
   rw [← HR.out,failO]
   obtain ⟨t,ht⟩:=hpre
   rw [← ht,List.append_assoc,List.find?_append,List.find?_eq_none.2 (fun y hy=>by rw [hq y hy];decide),Option.none_or,List.singleton_append,List.find?_cons,hx])
  refine marks_ret rfl hK (res_put rfl rfl rfl rfl hra h9 hc1 (by omega) (by omega)) ?_
  exact ⟨x,h9,fun cl e=>by rw [HN.out] at e;injection e,by rw [HN.out];rfl,hb.trans ((fr_put W _ _).below hb.size fun k hk e=>by omega)⟩
end Go.Proofs.YtkbbmjcfgcfejaaGreat
namespace Go.Proofs.YtkbbmjcfgcfejaaGreat
open Go Go.RowKit
set_option maxRecDepth 100000 in
set_option maxHeartbeats 3200000 in
theorem entailsI_any {S1 S2 S3 S4:Nat→Prop} (v1 v2 u1 u2:Value) (a b:Asn) (w:World) (h1:RL w S1 v1 a.1) (h2:RL w S2 v2 a.2) (k1:RL w S3 u1 b.1) (k2:RL w S4 u2 b.2) :
 Calls Tryz.prog 50 #[.agg #[v1,v2],.agg #[u1,u2]] w fun e w'=>e=.returned (.bool (entB a b))∧Below w.heap.size w w':=by
 obtain ⟨xa1,xc1,rfl⟩:=h1.form
 obtain ⟨xa2,xc2,rfl⟩:=h2.form
 obtain ⟨ya1,yc1,rfl⟩:=k1.form
 obtain ⟨ya2,yc2,rfl⟩:=k2.form
 cases ha:asnB a with
 | false =>
   have HV:=Lib.hid ha
   have HR:=Lib.hid (show entB a b=false by rw [entB,ha];rfl)
   clear ha
   go_enter Tryz.func50,Tryz.ntmps50
   go_wp2_with fail
   refine (cb (asnValidI_any _ _ a _ (h1.keep Bl) (h2.keep Bl)) HV.out).mono ?_
   rintro e w1 ⟨rfl,hb⟩
   go_wp2
   go_returns
   exact ⟨by rw [HR.out];rfl,bt Bl hb⟩
 | true =>
   cases hbv:asnB b with
   | false =>
     have HV:=Lib.hid (And.intro ha hbv)
     have HR:=Lib.hid (show entB a b=false by rw [entB,ha,hbv];rfl)
     clear ha hbv
     go_enter Tryz.func50,Tryz.ntmps50
     go_wp2_with fail
     refine (cb (asnValidI_any _ _ a _ (h1.keep Bl) (h2.keep Bl)) HV.out.1).mono ?_
     rintro e w1 ⟨rfl,hb⟩
     have c2:=cell_keep hb (p:=⟨w.heap.size+1,0,none⟩) (v:=.slice ya1 b.1.length yc1) (by simp [go_sem])
     have c3:=cell_keep hb (p:=⟨w.heap.size+1,1,none⟩) (v:=.slice ya2 b.2.length yc2) (by simp [go_sem])
     have hW:=bt (a:=w) Bl hb
     clear hb
     go_wp2_with fail
     refine (cb (asnValidI_any _ _ b _ (k1.keep hW) (k2.keep hW)) HV.out.2).mono ?_
     rintro e w2 ⟨rfl,hb⟩
     go_wp2
     go_returns
     exact ⟨by rw [HR.out];rfl,bt hW hb⟩
   | true =>
     obtain ⟨r,hr⟩:∃ r,failO a b=r:=⟨_,rfl⟩
     have HV:=Lib.hid (And.intro ha hbv)
     have HR:=Lib.hid (show entB a b=r.isNone by rw [entB,ha,hbv,hr];rfl)
     have HF:=Lib.hid hr
     clear ha hr hbv
     go_enter Tryz.func50,Tryz.ntmps50
     go_wp2_with fail
     refine (cb (asnValidI_any _ _ a _ (h1.keep Bl) (h2.keep Bl)) HV.out.1).mono ?_
     rintro e w1 ⟨rfl,hb⟩
     have c0:=cell_keep hb (p:=⟨w.heap.size,0,none⟩) (v:=.slice xa1 a.1.length xc1) (by simp [go_sem])
     have c1:=cell_keep hb (p:=⟨w.heap.size,1,none⟩) (v:=.slice xa2 a.2.length xc2) (by simp [go_sem])
     have c2:=cell_keep hb (p:=⟨w.heap.size+1,0,none⟩) (v:=.slice ya1 b.1.length yc1) (by simp [go_sem])
     have c3:=cell_keep hb (p:=⟨w.heap.size+1,1,none⟩) (v:=.slice ya2 b.2.length yc2) (by simp [go_sem])
     have hW:=bt (a:=w) Bl hb
     clear hb
     go_wp2_with fail
     refine (cb (asnValidI_any _ _ b _ (k1.keep hW) (k2.keep hW)) HV.out.2).mono ?_
     rintro e w2 ⟨rfl,hb⟩
     replace c0:=cell_keep hb c0;replace c1:=cell_keep hb c1;replace c2:=cell_keep hb c2;replace c3:=cell_keep hb c3;replace hW:=bt hW hb;clear hb
     go_wp2_with fail
     refine (failingCase_any _ _ _ _ a b r _ (h1.keep hW) (h2.keep hW) (k1.keep hW) (k2.keep hW) HV.out.1 HV.out.2 HF.out).mono ?_
     rintro e w3 ⟨tl,h9,htl,rfl,hb⟩
     clear htl
     obtain ⟨x0,x1,x2,x3,x4,x5,x6,x7,x8,rfl⟩:=len9 h9
     cases r with
     | none =>
       go_wp2
       go_returns
       exact ⟨by rw [HR.out];rfl,bt (bt hW hb) Bl⟩
     | some c =>
       go_wp2
       go_returns
       exact ⟨by rw [HR.out];rfl,bt (bt hW hb) Bl⟩
end Go.Proofs.YtkbbmjcfgcfejaaGreat
