/- ItrA: texts Itr1, Itr2 in one. -/
import Derived.RangeFuncCalls
import Derived.RangeFuncBound
import Derived.OwnWalkIn
import Derived.Test.YtkbbmjcfgcfejaaGreatLCsA
import Derived.RangeFuncLeaves
import Derived.Shelf.Abstract
import Derived.TacticsInMore
import Derived.Sort.LoopGhostIn
import Derived.Sort.CutIn
set_option linter.unusedVariables false
set_option linter.unusedSimpArgs false
set_option maxRecDepth 100000
set_option maxHeartbeats 12800000
namespace Go.Proofs.YtkbbmjcfgcfejaaGreat
open Go Go.RowKit
def WC {α:Type} (J:(Nat→Prop)→List α→World→Prop):Prop :=
 ∀ (X X':Nat→Prop) pre W1 W2,J X pre W1→Fr X W1 W2→(∀ k,X' k→X k∨W1.heap.size≤k)→J X' pre W2
def PV {α:Type} (P:Program) (l:Nat) (encs:α→Array Value) (R:Nat→Prop) (B:Nat) (xs:List α) (J:(Nat→Prop)→List α→World→Prop) (Jx:List α→World→Prop):Prop :=
 ∀ (m:Nat) (X:Nat→Prop) (pre:List α) (x:α) (W1:World),B≤W1.heap.size→(∀ k,X k→B≤k∧k < W1.heap.size)→pre ++ [x] <+: xs→J X pre W1 →
   YieldAt Fence.wide m P l (encs x) W1 fun e W'=>(e=.returned (.bool true)∧J X (pre ++ [x]) W'∧Fr (fun k=>¬ X k∧¬ R k) W1 W')∨(e=.returned (.bool false)∧Jx (pre ++ [x]) W')
def V1 {α:Type} (P:Program) (g:Nat) (lb:Array Value) (encs:α→Array Value) (R:Nat→Prop) (xs:List α) (w:World):Prop :=
 ∀ (n l:Nat) (J:(Nat→Prop)→List α→World→Prop) (Jx:List α→World→Prop) (W:World),Below w.heap.size w W→WC J→PV P l encs R W.heap.size xs J Jx→J (fun _=>False) [] W →
   CallsIn Fence.wide n P g (#[.func (.yield l) #[] #[]] ++ lb) W fun e W'=>(∃ v,e=.returned v)∧(J (fun _=>False) xs W'∨∃ pre,pre <+: xs∧Jx pre W')
def Vu {α:Type} (B:Nat) (R X:Nat→Prop) (I:(Nat→Prop)→List α→World→Prop) (Ix:Code→List α→World→Prop) (xs:List α) (W:World):Exit→Act→World→Prop
 | .normal,_,W'=>Fr (fun k=>¬ X k∧¬ R k∧k ≠ B∧k ≠ B+1) W W'∧I X xs W'
 | .ret,_,W'=>Fr (fun k=>k ≠ B∧k ≠ B+1) W W'∧Ix .ret xs W'
 | .exit id,_,W'=>Fr (fun k=>k ≠ B∧k ≠ B+1) W W'∧Ix (.exit id) xs W'
 | .goto t,_,W'=>Fr (fun k=>k ≠ B∧k ≠ B+1) W W'∧Ix (.goto t) xs W'
 | .panic _,_,_=>False
 | .outgrown,_,_=>False
theorem CS (W:World) (l:Nat) (o:Obj):Fr (fun k=>k=l) W (W.putObj l o) :=
 ⟨rfl,rfl,rfl,by simp [World.putObj],fun k _ hk=>World.putObj_heap_other hk⟩
theorem Is (W:World) (o:Obj):Fr (fun _=>False) W (W.alloc o):=Below.fr (Aa W o)
theorem EJ {S:Nat→Prop} {W W':World} (h:Fr S W W') {k:Nat} {o:Obj} (ho:W.heap[k]?=some o) (hk:¬ S k):W'.heap[k]?=some o :=
 (h.block k (Array.getElem?_eq_some_iff.1 ho).1 hk).trans ho
theorem RN {α:Type} {n:Nat} {P:Program} {g:Operand} {ps:Array Tmp} {assign body:Code} {Q:Exit→Act→World→Prop} {a:Act} {w w0:World} {gf:Nat} {lb:Array Value}
 (hg:a.eval g=.func (.func gf) #[] lb) (eg:∀ args w,(callFunc gf args).run P w=.ok (.enter gf args) w)
 {encs:α→Array Value} {R:Nat→Prop} {xs:List α} (hseq:V1 P gf lb encs R xs w0) (hb0:Below w0.heap.size w0 w) (hR:∀ k,R k→k < w.heap.size) (hps:∀ x,(encs x).size=ps.size)
 (I:(Nat→Prop)→List α→World→Prop) (Ix:Code→List α→World→Prop)
 (hI:∀ (X X':Nat→Prop) pre W1 W2,I X pre W1→Fr (fun k=>X k∨k=w.heap.size∨k=w.heap.size+1) W1 W2→w.heap.size≤W1.heap.size→(∀ k,X' k→X k∨W1.heap.size≤k)→I X' pre W2)
 (hIx:∀ c pre W1 W2,Ix c pre W1→Fr (fun k=>k=w.heap.size∨k=w.heap.size+1) W1 W2→Ix c pre W2) (h0:I (fun _=>False) [] w)
 (hround:∀ (m:Nat) (X:Nat→Prop) (pre:List α) (x:α) (W:World),w.heap.size+2≤W.heap.size→(∀ k,X k→w.heap.size+2≤k∧k < W.heap.size)→pre ++ [x] <+: xs→I X pre W →
   assign.wpIn (Fence.wide.inRound (w.heap.size+1)) m P (Exit.then (fun a1 w1=>Fr (fun k=>¬ X k∧¬ R k∧k ≠ w.heap.size∧k ≠ w.heap.size+1) W w1 ∧
    ∀ w2,Fr (fun k=>k=w.heap.size+1) w1 w2→body.wpIn (Fence.wide.inRound (w.heap.size+1)) m P (Vu w.heap.size R X I Ix (pre ++ [x]) w2) a1 w2) (fun _ _ _=>False))
    { tmps:=(ps.zip (encs x)).foldl (fun t (p,v)=>t.setIfInBounds p v) a.tmps,defers:=[] } W)
 (hdone:∀ W,I (fun _=>False) xs W→W.heap[w.heap.size]?=some (.deferred (some []))→Q .normal { a with defers:={ target:=.collected w.heap.size,args:=#[] } :: a.defers } W)
 (hstop:∀ c pre W,pre <+: xs→Ix c pre W→W.heap[w.heap.size]?=some (.deferred (some []))→c.wpIn Fence.wide n P Q { a with defers:={ target:=.collected w.heap.size,args:=#[] } :: a.defers } W) :
 (Code.rangeFunc g ps assign body).wpIn Fence.wide n P Q a w:=by
 refine wpIn_rangeFunc ?_;intro fn hfn;obtain ⟨rec,hrec⟩:∃ rec:LoopState→Option Code→Loop,rec=fun st pe=>{ state:=st,pending:=pe,fn,tmps:=a.tmps,params:=ps,assign,body,defers:=w.heap.size }:=⟨_,rfl⟩;obtain ⟨W1,hW1⟩:=Ex ((w.alloc (.deferred (some []))).alloc (.loop (rec .ready none)));have hF1:Fr (fun _=>False) w W1:=by rw [← hW1];exact (Is _ _).trans (Is _ _)
 have hz1:W1.heap.size=w.heap.size+2:=by rw [← hW1];simp
 have hL1:W1.heap[w.heap.size+1]?=some (.loop (rec .ready none)):=by
  rw [← hW1];have:=World.alloc_heap_new (w.alloc (.deferred (some []))) (.loop (rec .ready none));rwa [World.size_alloc] at this
 have hK1:W1.heap[w.heap.size]?=some (.deferred (some [])):=by
  rw [← hW1];exact EJ (Is _ _) (World.alloc_heap_new w _) (fun h=>h)
 have hI1:I (fun _=>False) [] W1:=hI _ _ _ _ _ h0 (hF1.mono fun _ _ h=>h.elim) (Nat.le_refl _) (fun _ h=>h.elim);have hb1:Below w0.heap.size w0 W1:=hb0.trans ((hF1.below (Nat.le_refl _) (fun _ _ h=>h)).mono hb0.size);refine ⟨w.heap.size+1,[{ target:=.collected w.heap.size,args:=#[] }],W1,{ target:=.fn (.func gf) lb,args:=#[.func (.yield (w.heap.size+1)) #[] #[]] },W1,gf,
  #[.func (.yield (w.heap.size+1)) #[] #[]] ++ lb,W1,?_,?_,?_,?_,(fun h=>(by cases h)),?_⟩
 · rw [← hW1,hrec];exact run_enterLoop_outer _ _ _ _ _
 · simp only [resolve,hg]
   simp [go_sem]
 · intro f' hf';trivial
 · simp [invoke,go_sem,eg]
 · refine (hseq (n - 1) (w.heap.size+1)
    (fun X pre W=>I X pre W∧W.heap[w.heap.size+1]?=some (.loop (rec .ready none))∧W.heap[w.heap.size]?=some (.deferred (some []))∧∀ k,X k→w.heap.size+2≤k)
    (fun pre W=>∃ c,Ix c pre W∧W.heap[w.heap.size+1]?=some (.loop (rec .done (some c)))∧W.heap[w.heap.size]?=some (.deferred (some [])))
    W1 hb1 ?_ ?_ ⟨hI1,hL1,hK1,fun _ h=>h.elim⟩).mono ?_
   · rintro X X' pre A B ⟨hi,hl,hk,hx⟩ hf hx'
     have hlt:w.heap.size+1 < A.heap.size:=(Array.getElem?_eq_some_iff.1 hl).1;refine ⟨hI X X' pre A B hi (hf.mono fun k _ h=>.inl h) Om hx',EJ hf hl fun h=>by have:=hx _ h;omega,EJ hf hk fun h=>by have:=hx _ h;omega,fun k h=>?_⟩;rcases hx' k h with h | h
     · exact hx k h
     · omega
   · rintro m X pre x W _ hXb hpre ⟨hi,hl,hk,hx⟩
     have hlt:w.heap.size+1 < W.heap.size:=(Array.getElem?_eq_some_iff.1 hl).1;have hy:=run_yield (P:=P) (args:=encs x) hl (by rw [hrec];exact hps x);rw [hrec] at hy;refine ⟨fn,_,assign,body,hy,roundIn_of_wpIn hfn (wpIn_mono (hround m X pre x W Om (fun k h=>⟨hx k h,(hXb k h).2⟩) hpre hi) ?_)⟩;clear hy;rintro e a' Wa hpa;cases e with
     | normal =>
       obtain ⟨hfa,hbody⟩:=hpa;have hla:=EJ hfa hl (fun h=>h.2.2.2 rfl);have hka:=EJ hfa hk (fun h=>h.2.2.1 rfl);refine ⟨_,run_beginRound hla (by rw [hrec]),wpIn_mono (hbody _ (CS _ _ _)) ?_⟩;have hl2:(Wa.putObj (w.heap.size+1) (.loop { rec .ready none with state:=.busy })).heap[w.heap.size+1]?=some (.loop { rec .ready none with state:=.busy }):=World.putObj_heap_same (Array.getElem?_eq_some_iff.1 hla).1;have hk2:(Wa.putObj (w.heap.size+1) (.loop { rec .ready none with state:=.busy })).heap[w.heap.size]?=some (.deferred (some [])):=(World.putObj_heap_other Om).trans hka;(have hR1:¬ R (w.heap.size+1):=fun h=>by have:=hR _ h;omega);(have hX1:¬ X (w.heap.size+1):=fun h=>by have:=hx _ h;omega);have hfw:Fr (fun k=>¬ X k∧¬ R k) W (Wa.putObj (w.heap.size+1) (.loop { rec .ready none with state:=.busy })) :=
        (hfa.mono fun k _ h=>⟨h.1,h.2.1⟩).trans ((CS _ _ _).mono fun k _ h=>by subst h;exact ⟨hX1,hR1⟩)
       have fin:∀ (jump:Option Code) (W3:World),Fr (fun k=>k ≠ w.heap.size∧k ≠ w.heap.size+1) (Wa.putObj (w.heap.size+1) (.loop { rec .ready none with state:=.busy })) W3 →
        (Instr.endRound (w.heap.size+1) jump).run P W3=.ok (.bool jump.isNone) (W3.putObj (w.heap.size+1) (.loop (rec (if jump.isNone then .ready else .done) jump))) ∧
        (W3.putObj (w.heap.size+1) (.loop (rec (if jump.isNone then .ready else .done) jump))).heap[w.heap.size+1]?=some (.loop (rec (if jump.isNone then .ready else .done) jump)) ∧
        (W3.putObj (w.heap.size+1) (.loop (rec (if jump.isNone then .ready else .done) jump))).heap[w.heap.size]?=some (.deferred (some [])):=fun jump W3 hk3=>by
        have hl3:=EJ hk3 hl2 (fun h=>h.2 rfl);have:=run_endRound (P:=P) jump hl3;rw [hrec] at this ⊢;exact ⟨this,World.putObj_heap_same (Array.getElem?_eq_some_iff.1 hl3).1,(World.putObj_heap_other Om).trans (EJ hk3 hk2 (fun h=>h.1 rfl))⟩
       have leave:∀ (c:Code) (W3:World),Fr (fun k=>k ≠ w.heap.size∧k ≠ w.heap.size+1) (Wa.putObj (w.heap.size+1) (.loop { rec .ready none with state:=.busy })) W3→Ix c (pre ++ [x]) W3 →
        ∃ v w',(Instr.endRound (w.heap.size+1) (some c)).run P W3=.ok v w' ∧
          ((Ending.returned v=.returned (.bool true)∧(I X (pre ++ [x]) w'∧w'.heap[w.heap.size+1]?=some (.loop (rec .ready none))∧w'.heap[w.heap.size]?=some (.deferred (some []))∧∀ k,X k→w.heap.size+2≤k)∧Fr (fun k=>¬ X k∧¬ R k) W w') ∨
            (Ending.returned v=.returned (.bool false)∧∃ c,Ix c (pre ++ [x]) w'∧w'.heap[w.heap.size+1]?=some (.loop (rec .done (some c)))∧w'.heap[w.heap.size]?=some (.deferred (some [])))):=fun c W3 hk3 hi3=>by
        obtain ⟨hr,hl4,hk4⟩:=fin (some c) W3 hk3;exact ⟨_,_,hr,.inr ⟨rfl,c,hIx _ _ _ _ hi3 ((CS _ _ _).mono fun k _ h=>.inr h),hl4,hk4⟩⟩
       rintro e a3 W3 hp;cases e with
       | normal =>
         obtain ⟨hk3,hi3⟩:=hp;obtain ⟨hr,hl4,hk4⟩:=fin none W3 (hk3.mono fun k _ h=>h.2.2);refine ⟨_,_,hr,.inl ⟨rfl,⟨hI X X _ _ _ hi3 ((CS _ _ _).mono fun k _ h=>.inr (.inr h)) ?_ (fun k h=>.inl h),hl4,hk4,hx⟩,?_⟩⟩
         · have:=(Array.getElem?_eq_some_iff.1 (EJ (hk3.mono (S':=fun k=>k ≠ w.heap.size∧k ≠ w.heap.size+1) fun k _ h=>h.2.2) hl2 (fun h=>h.2 rfl))).1;omega
         · exact (hfw.trans (hk3.mono fun k _ h=>⟨h.1,h.2.1⟩)).trans ((CS _ _ _).mono fun k _ h=>by subst h;exact ⟨hX1,hR1⟩)
       | ret=>exact leave .ret W3 hp.1 hp.2
       | exit id=>exact leave (.exit id) W3 hp.1 hp.2
       | goto t=>exact leave (.goto t) W3 hp.1 hp.2
       | panic ch=>exact hp.elim
       | outgrown=>exact hp.elim
     | ret=>exact hpa.elim
     | exit id=>exact hpa.elim
     | goto t=>exact hpa.elim
     | panic ch=>exact hpa.elim
     | outgrown=>exact hpa.elim
   · rintro e W2 ⟨⟨v,rfl⟩,(⟨hi,hl,hk,_⟩ | ⟨pre,hSp,c,hi,hl,hk⟩)⟩
     · refine ⟨none,_,by have:=run_endLoop (P:=P) hl (by rw [hrec];simp);rw [hrec] at this;exact this,hdone _ (hI _ _ _ _ _ hi ((CS _ _ _).mono fun k _ h=>.inr (.inr h)) (by have:=(Array.getElem?_eq_some_iff.1 hl).1;omega) (fun k h=>h.elim)) ((World.putObj_heap_other Om).trans hk)⟩
     · exact ⟨some c,_,by have:=run_endLoop (P:=P) hl (by rw [hrec];simp);rw [hrec] at this;exact this,hstop c pre _ hSp (hIx _ _ _ _ hi ((CS _ _ _).mono fun k _ h=>.inr h)) ((World.putObj_heap_other Om).trans hk)⟩
theorem Jf {α:Type} {P:Program} {g:Operand} {ps:Array Tmp} {assign body:Code} {Q:Exit→Act→World→Prop} {a:Act} {w w0:World} {gf:Nat} {lb:Array Value}
 (hg:a.eval g=.func (.func gf) #[] lb) (eg:∀ args w,(callFunc gf args).run P w=.ok (.enter gf args) w)
 {encs:α→Array Value} {R:Nat→Prop} {xs:List α} (hseq:V1 P gf lb encs R xs w0) (hb0:Below w0.heap.size w0 w) (hR:∀ k,R k→k < w.heap.size) (hps:∀ x,(encs x).size=ps.size)
 (I:(Nat→Prop)→List α→World→Prop) (Ix:Code→List α→World→Prop)
 (hI:∀ (X X':Nat→Prop) pre W1 W2,I X pre W1→Fr (fun k=>X k∨k=w.heap.size∨k=w.heap.size+1) W1 W2→w.heap.size≤W1.heap.size→(∀ k,X' k→X k∨W1.heap.size≤k)→I X' pre W2)
 (hIx:∀ c pre W1 W2,Ix c pre W1→Fr (fun k=>k=w.heap.size∨k=w.heap.size+1) W1 W2→Ix c pre W2) (h0:I (fun _=>False) [] w)
 (hround:∀ (m:Nat) (X:Nat→Prop) (pre:List α) (x:α) (W:World),w.heap.size+2≤W.heap.size→(∀ k,X k→w.heap.size+2≤k∧k < W.heap.size)→pre ++ [x] <+: xs→I X pre W →
   assign.wpIn (Fence.wide.inRound (w.heap.size+1)) m P (Exit.then (fun a1 w1=>Fr (fun k=>¬ X k∧¬ R k∧k ≠ w.heap.size∧k ≠ w.heap.size+1) W w1 ∧
    ∀ w2,Fr (fun k=>k=w.heap.size+1) w1 w2→body.wpIn (Fence.wide.inRound (w.heap.size+1)) m P (Vu w.heap.size R X I Ix (pre ++ [x]) w2) a1 w2) (fun _ _ _=>False))
    { tmps:=(ps.zip (encs x)).foldl (fun t (p,v)=>t.setIfInBounds p v) a.tmps,defers:=[] } W)
 (hdone:∀ W,I (fun _=>False) xs W→W.heap[w.heap.size]?=some (.deferred (some []))→Q .normal { a with defers:={ target:=.collected w.heap.size,args:=#[] } :: a.defers } W)
 (hstop:∀ c pre W,pre <+: xs→Ix c pre W→W.heap[w.heap.size]?=some (.deferred (some []))→c.wp P Q { a with defers:={ target:=.collected w.heap.size,args:=#[] } :: a.defers } W) :
 (Code.rangeFunc g ps assign body).wp P Q a w :=
 wpIn_wide.1 (RN (n:=0) hg eg hseq hb0 hR hps I Ix hI hIx h0 hround hdone fun c pre W h1 h2 h3=>wpIn_wide.2 (hstop c pre W h1 h2 h3))
theorem EL {P:Program} {f:FuncId} {fn:Func} {c:Code} {args:Array Value} {w:World} {R:Ending→World→Prop} (hf:P.funcs[f]?=some fn) (hb:fn.body=some c)
 (h:c.wp P (bodyPostM Fence.wide 0 P fn R) { tmps:=args ++ Array.replicate (fn.ntmps - args.size) undef,defers:=[] } w):Calls P f args w R :=
 (callsIn_wide (n:=0)).1 (callsIn_of_wp_marks (F:=Fence.wide) hf hb trivial (wpIn_wide.2 h) rfl)
theorem Eq {P:Program} {fn:Func} {R:Ending→World→Prop} {a:Act} {W:World} {D:Nat} {v:Value} (hd:a.defers=[{ target:=.collected D,args:=#[] }]) (hK:W.heap[D]?=some (.deferred (some [])))
 (hres:(results fn a.tmps).run P (W.putObj D (.deferred none))=.ok v (W.putObj D (.deferred none))) (h:R (.returned v) (W.putObj D (.deferred none))):bodyPostM Fence.wide 0 P fn R .ret a W:=by
 show LeavesInM Fence.wide 0 P fn a.tmps R a.defers FrameMode.returning W
 rw [hd];exact ⟨by simp,.inl ⟨D,_,rfl,run_takeDeferred hK,⟨v,hres,h⟩⟩⟩
section
variable {F:Fence} {n:Nat} {P:Program} {ops:Array Oper} {rest:List Oper} {o:Oper} {a:Act} {w:World} {K:Act→World→Prop} {Q:Exit→Act→World→Prop}
theorem Lw (ty:TypeId) (x:Operand) (ho:o.op=.load ty x) {g:Nat} (hx:a.eval x=.pointer (some ⟨g,0,none⟩)) {u:Value} (hr:(Instr.loadAt ty (.pointer (some ⟨g,0,none⟩))).run P w=.ok u w)
 (h:K (a.put o.dst u) w):o.wpIn F n P a w K Q:=by
 unfold Oper.wpIn;refine ⟨by simp [Oper.about,ho],?_⟩;rw [Oper.semAt_plain F _ _ (by rw [ho];intro c hc';cases hc')];simp only [execOp,ho,hx,Sem.run_bind,hr,Result.andThen_ok,Sem.run_pure];exact h
theorem CB (hw:Region.wanted o (yielded ops a.tmps)=true) (ty:TypeId) (x:Operand) (ho:o.op=.load ty x) {g:Nat} (hx:a.eval x=.pointer (some ⟨g,0,none⟩)) {u:Value} (hr:(Instr.loadAt ty (.pointer (some ⟨g,0,none⟩))).run P w=.ok u w)
 (h:wpListIn F n P ops Q rest (a.put o.dst u) w):wpListIn F n P ops Q (o :: rest) a w:=by
 unfold wpListIn;rw [if_pos hw];exact Lw ty x ho hx hr h
end
end Go.Proofs.YtkbbmjcfgcfejaaGreat
namespace Go.Proofs.YtkbbmjcfgcfejaaGreat
open Go Go.RowKit
def Tr (p:List Int) (k:Nat):List Int:=((List.range k).filter fun j=>j == p.length || gi p j == (j:Int)).map Int.ofNat
def Bo (M:Nat) (a:Aj) (n:Nat) (p:List Int) (k:Nat):List (List Int):=(Tr p k).flatMap fun c=>Bq M a n (p ++ [c])
theorem N6 (M:Nat) (a:Aj) (n:Nat) (p:List Int):Bo M a n p 0=[]:=rfl
theorem EM {M:Nat} {a:Aj} {n:Nat} {p:List Int} {k:Nat} (h:(k == p.length || gi p k == (k:Int))=true):Bo M a n p (k+1)=Bo M a n p k ++ Bq M a n (p ++ [(k:Int)]):=by
 rw [Bo,Tr,List.range_succ,List.filter_append,List.filter_cons,if_pos h,List.filter_nil,List.map_append,List.flatMap_append];simp [Bo,Tr]
theorem Fn {M:Nat} {a:Aj} {n:Nat} {p:List Int} {k:Nat} (h:(k == p.length || gi p k == (k:Int))=false):Bo M a n p (k+1)=Bo M a n p k:=by
 rw [Bo,Tr,List.range_succ,List.filter_append,List.filter_cons,h,List.filter_nil,List.map_append,List.flatMap_append];simp [Bo,Tr]
theorem EN {M:Nat} {a:Aj} {n:Nat} {p:List Int} (h:M.testBit p.length=true):Bo M a n p (p.length+1)=Bq M a (n+1) p:=by
 rw [I5,UM,if_pos h];rfl
theorem KQ {M:Nat} {a:Aj} {n:Nat} {p:List Int}:∀ (d k:Nat),Bo M a n p k <+: Bo M a n p (k+d)
 | 0,k=>List.prefix_refl _
 | d+1,k=>by
   refine (KQ d k).trans ?_;cases h:(k+d == p.length || gi p (k+d) == ((k+d:Nat):Int)) with
   | true=>rw [← Nat.add_assoc,EM h];exact List.prefix_append _ _
   | false=>rw [← Nat.add_assoc,Fn h];exact List.prefix_refl _
theorem GN {M:Nat} {a:Aj} {n:Nat} {p:List Int} {k:Nat} (h:M.testBit p.length=true) (hk:k≤p.length+1):Bo M a n p k <+: Bq M a (n+1) p:=by
 rw [← EN h];have:=KQ (M:=M) (a:=a) (n:=n) (p:=p) (p.length+1 - k) k;rwa [Nat.add_sub_cancel' hk] at this
theorem It {M:Nat} {a:Aj} {n:Nat} {p:List Int} (h:M.testBit p.length=false):Bq M a (n+1) p=Bq M a n (p ++ [-1]):=by
 rw [I5,UM,if_neg (by rw [h];decide)];simp
theorem Gv {q:List Int} {t:Nat} (h:t < q.length) (x:Int):gi (q.set t x) t=x:=by simp [gi,h]
theorem Cc {q:List Int} {t i:Nat} (h:t ≠ i) (x:Int):gi (q.set t x) i=gi q i:=by simp [gi,h]
theorem KR {p:List Int} {x:Int} {i:Nat} (h:i < p.length):gi (p ++ [x]) i=gi p i:=QW h
theorem Jg {p q:List Int} (hq:q.length=9) (hp:p.length < 9) (h:∀ i,i < p.length→gi q i=gi p i) (x:Int):∀ i,i < (p ++ [x]).length→gi (q.set p.length x) i=gi (p ++ [x]) i:=fun i hi=>by
 rw [List.length_append,List.length_cons,List.length_nil] at hi;by_cases e:i=p.length
 · subst e;rw [Gv Om,MO]
 · rw [Cc (fun e'=>e e'.symm),KR (by omega)];exact h i Om
theorem KS {p q:List Int} (hq:q.length=9) (hp:p.length=9) (h:∀ i,i < p.length→gi q i=gi p i):q=p:=by
 apply List.ext_getElem Om;intro i h1 h2;have:=h i h2;rwa [G2 h1,G2 h2] at this
theorem RO {cl:List Int} {t:Nat} {a:Aj} (ha:Ah a=true) (h:(Ak a).testBit t=false):Bi cl t a=Bi cl ((t:Int) - 1) a:=by
 have hne:∀ z:Int,Al z=true→(Ak a).testBit z.toNat=true→z ≠ (t:Int):=fun z hz hb e=>by
  subst e;rw [Int.toNat_natCast,h] at hb;cases hb
 rw [Bi,Bi];congr 1
 · rw [Bool.eq_iff_iff,List.all_eq_true,List.all_eq_true]
   have key:∀ f ∈ a.1,GZ cl t f=GZ cl ((t:Int) - 1) f:=fun f hf=>by
    obtain ⟨⟨f1,f2⟩,f3,f4⟩:=GJ ha hf;have n1:=hne _ f1 f2;have n2:=hne _ f3 f4;rw [GZ,GZ];by_cases hc:f.2.1≤(t:Int)∧f.2.2≤(t:Int)
    · rw [if_pos hc,if_pos ⟨by omega,by omega⟩]
    · rw [if_neg hc,if_neg (by omega)]
   exact ⟨fun h f hf=>by rw [← key f hf];exact h f hf,fun h f hf=>by rw [key f hf];exact h f hf⟩
 · rw [B9,B9]
   have key:∀ x ∈ a.2,F5 cl t x=F5 cl ((t:Int) - 1) x:=fun x hx=>by
    obtain ⟨⟨f1,f2⟩,f3,f4⟩:=I1 ha hx;have n1:=hne _ f1 f2;have n2:=hne _ f3 f4;rw [F5,F5];rw [show decide (x.2.1≤(t:Int))=decide (x.2.1≤(t:Int) - 1) from decide_eq_decide.2 Om,show decide (x.2.2≤(t:Int))=decide (x.2.2≤(t:Int) - 1) from decide_eq_decide.2 (by omega)]
   rw [List.filter_congr key]
theorem RP {cl:List Int} {a:Aj} (ha:Ah a=true):Bi cl (-1) a=true:=by
 rw [Bi,Bool.and_eq_true];constructor
 · rw [List.all_eq_true]
   intro f hf;obtain ⟨f1,_,_,_⟩:=Ci ((AL ha).1 f hf);rw [GZ,if_neg (by omega)]
 · rw [B9]
   have:a.2.filter (F5 cl (-1))=[]:=by
    rw [List.filter_eq_nil_iff];intro x hx;obtain ⟨f1,_,_,_⟩:=BH ((AL ha).2 x hx);rw [F5,decide_eq_false (show ¬ x.2.1≤(-1:Int) by omega)];simp
   rw [this];rfl
theorem MR {a:Aj} (h:Ah a=true):a.1.all AH=true∧a.2.all AQ=true:=by
 simp only [Ah,Bv,Bool.and_eq_true] at h;exact ⟨h.1.2,h.2.2⟩
theorem Ts {M:Nat} {a:Aj} {p q:List Int} (hq:q.length=9) (hp:p.length=9) (h:∀ i,i < p.length→gi q i=gi p i) (hP:Bi q ((p.length:Int) - 1) a=true):Bq M a 0 p=[q]:=by
 have e:=KS hq hp h;subst e;replace hP:Bi q 8 a=true:=by simpa [hp] using hP
 rw [I6,if_pos hP]
attribute [local go_sem] Oper.semAt_some
section
variable {l B M:Nat} {R:Nat→Prop} {J:(Nat→Prop)→List (List Int)→World→Prop} {Jx:List (List Int)→World→Prop} {xs:List (List Int)} {a:Aj} {v1 v2:Value}
def UR (l B M:Nat) (R:Nat→Prop) (J:(Nat→Prop)→List (List Int)→World→Prop) (Jx:List (List Int)→World→Prop) (xs:List (List Int)) (a:Aj) (v1 v2:Value) (n:Nat):Prop :=
 ∀ (m t:Nat) (ti:Int) (p q:List Int) (X:Nat→Prop) (pre:List (List Int)) (W:World),ti=(t:Int)→p.length=t→t+n=9→q.length=9→(∀ i,i < p.length→gi q i=gi p i)→Bi q ((t:Int) - 1) a=true →
   RL W R v1 a.1→RL W R v2 a.2→B≤W.heap.size→(∀ k,X k→B≤k∧k < W.heap.size)→pre ++ Bq M a n p <+: xs→J X pre W →
   CallsIn Fence.wide m Tryz.prog 188 #[.agg (CD q),.int .i64 ti,.agg #[v1,v2],.int .u16 M,.func (.yield l) #[] #[]] W fun e W' =>
    (e=.returned (.bool true)∧J X (pre ++ Bq M a n p) W'∧Fr (fun k=>¬ X k∧¬ R k) W W')∨(e=.returned (.bool false)∧∃ r,pre ++ r <+: xs∧Jx (pre ++ r) W')
theorem Tt {W:World} {g:Nat} {q:List Int} (h:W.heap[g]?=some (.cells (CD q) 161 (0,0))) (hq:q.length=9):(Instr.loadAt 161 (.pointer (some ⟨g,0,none⟩))).run Tryz.prog W=.ok (.agg (CD q)) W:=by
 have:=run_loadAt_mid (P:=Tryz.prog) W g 0 161 (ints q) _ (fun j v hj=>by rw [Nat.zero_add,cell_of_row _ _ _ _ _ _ h];simpa using hj) Tryz.underlying161 rfl (by rw [Vr];simp [hq]);exact this
theorem N7 (hJ:WC J) (hY:PV Tryz.prog l (fun x:List Int=>#[.agg (CD x)]) R B xs J Jx):UR l B M R J Jx xs a v1 v2 0:=by
 rintro m t _ p q X pre W rfl hp ht hq hqp hP h1 h2 hB hX hpre hj;obtain rfl:t=9:=by omega
 have he:=Ts (M:=M) hq hp hqp (by rw [hp];exact hP);rw [he] at hpre ⊢;have hbb:=bt (Aa W (.cells (CD q) 161)) (Aa _ (.cells #[v1,v2] 26));have hJ1:=hJ X (fun k=>X k∨k=W.heap.size∨k=W.heap.size+1) pre _ _ hj ((Below.fr hbb).mono fun _ _ h=>h.elim) (fun k hk=>by rcases hk with hk | hk | hk;exact .inl hk;right;omega;right;omega);have hld:=Tt (Ac (heap_alloc_new W (.cells (CD q) 161)) (Aa _ (.cells #[v1,v2] 26))) hq;obtain ⟨fn,tmps,assign,body,hy,hR⟩:=hY (m - 1) _ pre q _ (by simp;omega) (fun k hk=>by simp;rcases hk with hk | hk | hk;(have:=hX k hk;omega);omega;omega) hpre hJ1;have HQ:=Ad hq;clear hq hqp hP hp;refine callsIn_of_wp Tryz.func188 rfl trivial ?_ rfl;simp only [Tryz.ntmps188,List.size_toArray,List.length_cons,List.length_nil,Nat.reduceAdd,Nat.reduceSub,Array.replicate_succ,Array.replicate_zero,List.push_toArray,List.append_toArray,List.nil_append,List.cons_append];gi_wp2_with (refine CB (by rfl) _ _ rfl rfl hld ?_)
 refine ⟨fun h=>(by cases h),?_⟩;refine hR.mono ?_;rintro e W3 (⟨rfl,hJ3,hf3⟩ | ⟨rfl,hJx3⟩)
 · gi_wp2
   go_ret;refine .inl ⟨rfl,hJ _ X _ _ _ hJ3 (Fr.refl _ _) (fun k hk=>.inl (.inl hk)),?_⟩;exact ((Below.fr hbb).mono fun _ _ h=>h.elim).trans (hf3.mono fun k _ h=>⟨fun h'=>h.1 (.inl h'),h.2⟩)
 · gi_wp2
   go_ret;exact .inr ⟨rfl,[q],hpre,hJx3⟩
theorem AC {W:World} {p r:Addr} {u v:Value} (h:W.cell? p=some v) (hne:¬ p.block=r.block):(W.setCell r u).cell? p=some v:=(Aw W r u).cell hne h
theorem Tu {W:World} {g:Nat} {q:List Int} (h:W.heap[g]?=some (.cells (CD q) 161 (0,0))) (hq:q.length=9):RArr W g q :=
 ⟨hq,Ae h,fun i hi=>GG h i Om⟩
theorem N8 (hJ:WC J) (hRB:∀ k,R k→k < B) (ha:Ah a=true) (hM:M < 65536) (hcov:∀ j,(Ak a).testBit j=true→M.testBit j=true) {n:Nat} (ih:UR l B M R J Jx xs a v1 v2 n):UR l B M R J Jx xs a v1 v2 (n+1):=by
 rintro m t _ p q X pre W rfl hp ht hq hqp hP h1 h2 hB hX hpre hj;have ht8:(t:Int)≤8:=by omega
 obtain ⟨xa1,xc1,rfl⟩:=h1.form;obtain ⟨xa2,xc2,rfl⟩:=h2.form;have hrow:=Ac (heap_alloc_new W (.cells (CD q) 161)) (Aa _ (.cells #[.slice xa1 a.1.length xc1,.slice xa2 a.2.length xc2] 26));have hcold:=GG hrow t Om;have hfz:=frozen_of_row _ W.heap.size t _ _ hrow;have hbb:=bt (Aa W (.cells (CD q) 161)) (Aa _ (.cells #[.slice xa1 a.1.length xc1,.slice xa2 a.2.length xc2] 26));have hx0:((W.alloc (.cells (CD q) 161)).alloc (.cells #[.slice xa1 a.1.length xc1,.slice xa2 a.2.length xc2] 26)).cell? ⟨W.heap.size+1,0,none⟩=some (.slice xa1 a.1.length xc1):=by simp [go_sem]
 have hx1:((W.alloc (.cells (CD q) 161)).alloc (.cells #[.slice xa1 a.1.length xc1,.slice xa2 a.2.length xc2] 26)).cell? ⟨W.heap.size+1,1,none⟩=some (.slice xa2 a.2.length xc2):=by simp [go_sem]
 have hz1:((W.alloc (.cells (CD q) 161)).alloc (.cells #[.slice xa1 a.1.length xc1,.slice xa2 a.2.length xc2] 26)).heap.size=W.heap.size+1+1:=by simp
 cases hbit:M.testBit t
 · have hh:AN M (t:Int)=false:=by rw [AN,Int.toNat_natCast,hbit];simp
   have HH:=Ad hh;have hb2:=hbb.setCell (p:=⟨W.heap.size,t,none⟩) (Nat.le_refl _) (.int .i64 (-1));have hJ2:=hJ X (fun k=>X k∨k=W.heap.size∨k=W.heap.size+1) pre _ _ hj ((Below.fr hb2).mono fun _ _ h=>h.elim) (fun k hk=>by rcases hk with hk | hk | hk;exact .inl hk;right;omega;right;omega);have hrow2:=NE hrow t (-1);have hld:=Tt hrow2 (by rw [List.length_set];exact hq);have hre:=It (M:=M) (a:=a) (n:=n) (p:=p) (by rw [hp];exact hbit);rw [hre] at hpre ⊢;have hP2:Bi (q.set t (-1)) (((t+1:Nat):Int) - 1) a=true:=by
    rw [show ((t+1:Nat):Int) - 1=(t:Int) by omega,RO ha (by rw [Bool.eq_false_iff];intro h';rw [hcov t h'] at hbit;cases hbit),Ky (c2:=q) ha fun i hi=>Cc Om _];exact hP
   have hih:=ih (m - 1) (t+1) ((t:Int)+1) (p ++ [-1]) (q.set t (-1)) _ pre _ Om (by simp [hp]) Om (by rw [List.length_set];exact hq) (by rw [← hp];exact Jg hq Om hqp (-1)) hP2 (h1.keep hb2) (h2.keep hb2) (by simp;omega) (fun k hk=>by simp;rcases hk with hk | hk | hk;(have:=hX k hk;omega);omega;omega) hpre hJ2;have HF:=Ad (show Fr (fun k=>¬ X k∧¬ R k) W _ from (Below.fr hb2).mono fun _ _ h=>h.elim);clear hrow2 hh hbit hP hP2 hq hqp hp hb2 hJ2 ih hpre hre hbb hrow h1 h2 ht hj;refine callsIn_of_wp Tryz.func188 rfl trivial ?_ rfl;simp only [Tryz.ntmps188,List.size_toArray,List.length_cons,List.length_nil,Nat.reduceAdd,Nat.reduceSub,Array.replicate_succ,Array.replicate_zero,List.push_toArray,List.append_toArray,List.nil_append,List.cons_append];gi_wp2_with fail
   generalize ((W.alloc (.cells (CD q) 161)).alloc (.cells #[.slice xa1 a.1.length xc1,.slice xa2 a.2.length xc2] 26))=W1 at *;gi_wp2_with (first
    | (refine CB (by rfl) _ _ rfl rfl hld ?_)
    | (refine ⟨trivial,fun h=>(by cases h),?_⟩;gi_at_call 148;refine (callsIn_wide.2 (CX _ hM HH.o)).mono ?_;rintro e w' ⟨rfl,rfl⟩)
    | (refine ⟨trivial,fun h=>(by cases h),?_⟩;gi_at_call 188;refine hih.mono ?_;rintro e w' (⟨rfl,hJ3,hf3⟩ | ⟨rfl,r,hr,hJx3⟩)))
   · go_ret
     exact .inl ⟨rfl,hJ _ X _ _ _ hJ3 (Fr.refl _ _) (fun k hk=>.inl (.inl hk)),HF.o.trans (hf3.mono fun k _ h=>⟨fun h'=>h.1 (.inl h'),h.2⟩)⟩
   · go_ret
     exact .inr ⟨rfl,r,hr,hJx3⟩
 · have hh:AN M (t:Int)=true:=by rw [AN,Int.toNat_natCast,hbit];simp [Al];omega
   have HH:=Ad hh;have hJ1:=hJ X (fun k=>X k∨k=W.heap.size∨k=W.heap.size+1) pre _ _ hj ((Below.fr hbb).mono fun _ _ h=>h.elim) (fun k hk=>by rcases hk with hk | hk | hk;exact .inl hk;right;omega;right;omega);have HF:=Ad (show Fr (fun k=>¬ X k∧¬ R k) W _ from (Below.fr hbb).mono fun _ _ h=>h.elim);have HST:=Ad (An hJ1 hrow);have hq9:=Ad hq;have hpt:=Ad hp;have htn:=Ad ht;have hqpH:=Ad hqp;have hpreH:=Ad hpre;have hXR:∀ g,W.heap.size≤g→¬ X g∧¬ R g:=fun g hg=>⟨fun h=>by have:=hX g h;omega,fun h=>by have:=hRB g h;omega⟩;have HXR:=Ad hXR;have HBT:=Ad hbit;clear hh hbit hq hp hqp hP hj hbb hrow hcold hfz hJ1 ht hpre hXR;refine callsIn_of_wp Tryz.func188 rfl trivial ?_ rfl;simp only [Tryz.ntmps188,List.size_toArray,List.length_cons,List.length_nil,Nat.reduceAdd,Nat.reduceSub,Array.replicate_succ,Array.replicate_zero,List.push_toArray,List.append_toArray,List.nil_append,List.cons_append];gi_wp2_with fail
   generalize ((W.alloc (.cells (CD q) 161)).alloc (.cells #[.slice xa1 a.1.length xc1,.slice xa2 a.2.length xc2] 26))=W1 at *;gi_wp2_with (refine ⟨trivial,fun h=>(by cases h),?_⟩;gi_at_call 148;refine (callsIn_wide.2 (CX _ hM HH.o)).mono ?_;rintro e w' ⟨rfl,rfl⟩)
   gi_loopg [11] (t+1) (fun gq i wr=>∃ (k:Nat) (qk:List Int),k+gq=t+1∧i=.int .i64 k∧qk.length=9∧(∀ i,i < t→gi qk i=gi q i)∧wr.heap[W.heap.size]?=some (.cells (CD qk) 161 (0,0)) ∧
    wr.cell? ⟨W.heap.size+1,0,none⟩=some (.slice xa1 a.1.length xc1)∧wr.cell? ⟨W.heap.size+1,1,none⟩=some (.slice xa2 a.2.length xc2)∧J (fun k=>X k∨k=W.heap.size∨k=W.heap.size+1) (pre ++ Bo M a n p k) wr∧Fr (fun k=>¬ X k∧¬ R k) W wr)
   case atStart=>exact ⟨0,q,by omega,rfl,hq9.out,fun _ _=>rfl,HST.o.2,hx0,hx1,by rw [N6,List.append_nil];exact HST.o.1,HF.o⟩
   case round =>
    clear hx0 hx1 hz1;obtain ⟨k,qk,hk,rfl,hqk,hag,hrow,hx0,hx1,hj,hf⟩:=hrel;have HK:=Ad hk;have HQK:=Ad hqk;have HAG:=Ad hag;have HROW:=Ad hrow;have HJ:=Ad hj;have HF2:=Ad hf;clear hk hqk hag hrow hj hf;by_cases hk8:k≤t
    · have hki:(k:Int)≤(t:Int):=by omega
      (have hk9:(k:Int) < 9:=by omega);by_cases hno:k < t∧¬ gi qk k=(k:Int)
      · obtain ⟨hlt,hne⟩:=hno
        (have hlti:(k:Int) < (t:Int):=by omega);obtain ⟨E,hE⟩:=Ex (gi qk k);rw [hE] at hne;have hcell:=GG HROW.o k (by rw [HQK.o];omega);rw [hE] at hcell;(have hnb:(E != (k:Int))=true:=by simp [hne]);have hstep:Bo M a n p (k+1)=Bo M a n p k:=Fn (by
         have e1:=HAG.o k hlt;have e2:=hqpH.out k (by rw [hpt.out];exact hlt);rw [Bool.or_eq_false_iff,beq_eq_false_iff_ne,beq_eq_false_iff_ne,hpt.out];exact ⟨by omega,by rw [← e2,← e1,hE];exact hne⟩)
        have HS:=Ad hstep;clear hE hne hstep;gi_wp2
        gi_roundg (gk - 1)
        case rel=>exact ⟨k+1,qk,by have:=HK.o;omega,by go_num,HQK.o,HAG.o,HROW.o,hx0,hx1,by rw [HS.o];exact HJ.o,HF2.o⟩
        case measure=>have:=HK.o;omega
      have hyes:(k < t∧gi qk k=(k:Int))∨k=t:=by
       by_cases e:k=t
       · exact .inr e
       · exact .inl ⟨by omega,Decidable.byContradiction fun h=>hno ⟨by omega,h⟩⟩
      have hstep:Bo M a n p (k+1)=Bo M a n p k ++ Bq M a n (p ++ [(k:Int)]):=EM (by
       rw [Bool.or_eq_true,beq_iff_eq,beq_iff_eq,hpt.out];rcases hyes with ⟨h1,h2⟩ | h
       · exact .inr (by rw [← hqpH.out k (by rw [hpt.out];exact h1),← HAG.o k h1];exact h2)
       · exact .inl h)
      have HS:=Ad hstep;clear hno hstep;have hag2:∀ i,i < (p ++ [(k:Int)]).length→gi (qk.set t (k:Int)) i=gi (p ++ [(k:Int)]) i:=by
       have:=Jg (p:=p) (q:=qk) HQK.o (by rw [hpt.out];omega) (fun i hi=>(HAG.o i (by rw [← hpt.out];exact hi)).trans (hqpH.out i hi)) (k:Int);rw [hpt.out] at this;exact this
      have HAG2:=Ad hag2;(have hl2:(qk.set t (k:Int)).length=9:=by rw [List.length_set];exact HQK.o);have HL2:=Ad hl2;have hf2:=HF2.o.trans ((Aw wr ⟨W.heap.size,t,none⟩ (.int .i64 (k:Int))).mono (S':=fun k=>¬ X k∧¬ R k) fun j _ h=>by have e:j=W.heap.size:=h;subst e;exact HXR.o _ (Nat.le_refl _));have hj2:=hJ _ (fun k=>X k∨k=W.heap.size∨k=W.heap.size+1) _ _ _ HJ.o ((Aw wr ⟨W.heap.size,t,none⟩ (.int .i64 (k:Int))).mono fun j _ h=>.inr (.inl h)) (fun j h=>.inl h);have hrow2:=NE HROW.o t (k:Int);have hcold:=GG HROW.o t (by rw [HQK.o];omega);have hfz:=frozen_of_row wr W.heap.size t _ _ HROW.o;have H2:=Ad (An hf2 (An hj2 hrow2));obtain ⟨r,hr⟩:=Ex (Bi (qk.set t (k:Int)) (t:Int) a);have HR:=Ad hr;(have hposs:=callsIn_wide (n:=m - 1) |>.2 (cb (Ls W.heap.size (qk.set t (k:Int)) (.slice xa1 a.1.length xc1) (.slice xa2 a.2.length xc2) a (t:Int) _ (Tu hrow2 hl2) (h1.kept hf2 fun j _ h h'=>h'.2 h) (h2.kept hf2 fun j _ h h'=>h'.2 h) (MR ha).1 (MR ha).2) hr));have HC:=Ad hcold;have hx:=Ad (An hx0 hx1);have hcell:=GG HROW.o k (by rw [HQK.o];omega);have HYES:=Ad hyes;(have hlt:(gi qk k=(k:Int)∧(k:Int) < (t:Int))∨¬ (k:Int) < (t:Int):=by rcases hyes with ⟨h1,h2⟩ | h;exact .inl ⟨h2,by omega⟩;right;omega);clear hag2 hl2 hf2 hj2 hrow2 hr hyes;cases r with
      | false =>
        have hcut:Bq M a n (p ++ [(k:Int)])=[]:=Tg (t:=t) (q:=qk.set t (k:Int)) ha (by have:=htn.out;have:=hpt.out;simp;omega) (by simp [hpt.out]) HAG2.o HR.o;have HCUT:=Ad hcut;clear hcut;rcases hlt with ⟨hE,hlti⟩ | hlti
        · rw [hE] at hcell
          clear hE;gi_wp2_with (refine ⟨trivial,fun h=>(by cases h),?_⟩;gi_at_call 233;refine hposs.mono ?_;rintro e w3 ⟨rfl,hb3⟩)
          refine ⟨trivial,?_⟩;gi_wp2
          gi_roundg (gk - 1)
          case rel=>exact ⟨k+1,qk.set t (k:Int),by have:=HK.o;omega,by go_num,HL2.o,fun i hi=>by rw [Cc (by omega)];exact HAG.o i hi,Ac H2.o.2.2 hb3,Ab hb3 (AC hx0 Sp),Ab hb3 (AC hx1 Sp),by rw [HS.o,HCUT.o,List.append_nil];exact hJ _ _ _ _ _ H2.o.2.1 ((Below.fr hb3).mono fun _ _ h=>h.elim) (fun j h=>.inl h),H2.o.1.trans ((Below.fr hb3).mono fun _ _ h=>h.elim)⟩
          case measure=>have:=HK.o;omega
        · clear hcell
          gi_wp2_with (refine ⟨trivial,fun h=>(by cases h),?_⟩;gi_at_call 233;refine hposs.mono ?_;rintro e w3 ⟨rfl,hb3⟩)
          refine ⟨trivial,?_⟩;gi_wp2
          gi_roundg (gk - 1)
          case rel=>exact ⟨k+1,qk.set t (k:Int),by have:=HK.o;omega,by go_num,HL2.o,fun i hi=>by rw [Cc (by omega)];exact HAG.o i hi,Ac H2.o.2.2 hb3,Ab hb3 (AC hx0 Sp),Ab hb3 (AC hx1 Sp),by rw [HS.o,HCUT.o,List.append_nil];exact hJ _ _ _ _ _ H2.o.2.1 ((Below.fr hb3).mono fun _ _ h=>h.elim) (fun j h=>.inl h),H2.o.1.trans ((Below.fr hb3).mono fun _ _ h=>h.elim)⟩
          case measure=>have:=HK.o;omega
      | true =>
        have HT:=Ad (show ∀ w3,Below (wr.setCell ⟨W.heap.size,t,none⟩ (.int .i64 (k:Int))).heap.size (wr.setCell ⟨W.heap.size,t,none⟩ (.int .i64 (k:Int))) w3 →
         (Instr.loadAt 161 (.pointer (some ⟨W.heap.size,0,none⟩))).run Tryz.prog w3=.ok (.agg (CD (qk.set t (k:Int)))) w3∧(w3.cell? ⟨W.heap.size+1,0,none⟩=some (.slice xa1 a.1.length xc1)∧w3.cell? ⟨W.heap.size+1,1,none⟩=some (.slice xa2 a.2.length xc2)) ∧
         CallsIn Fence.wide (m - 1) Tryz.prog 188 #[.agg (CD (qk.set t (k:Int))),.int .i64 ((t:Int)+1),.agg #[.slice xa1 a.1.length xc1,.slice xa2 a.2.length xc2],.int .u16 M,.func (.yield l) #[] #[]] w3 fun e W' =>
          (e=.returned (.bool true)∧J (fun k=>X k∨k=W.heap.size∨k=W.heap.size+1) (pre ++ Bo M a n p (k+1)) W'∧Fr (fun j=>¬ X j∧¬ R j) W W'∧W'.heap[W.heap.size]?=some (.cells (CD (qk.set t (k:Int))) 161 (0,0))∧W'.cell? ⟨W.heap.size+1,0,none⟩=some (.slice xa1 a.1.length xc1)∧W'.cell? ⟨W.heap.size+1,1,none⟩=some (.slice xa2 a.2.length xc2))∨(e=.returned (.bool false)∧∃ r,pre ++ r <+: xs∧Jx (pre ++ r) W') by
         intro w3 hb3;have hrow3:=Ac H2.o.2.2 hb3;have hf3:=H2.o.1.trans ((Below.fr hb3).mono (S':=fun j=>¬ X j∧¬ R j) fun _ _ h=>h.elim);have hj3:=hJ _ (fun k=>X k∨k=W.heap.size∨k=W.heap.size+1) _ _ _ H2.o.2.1 ((Below.fr hb3).mono fun _ _ h=>h.elim) (fun j h=>.inl h);have y0:=Ab hb3 (AC (r:=⟨W.heap.size,t,none⟩) (u:=.int .i64 (k:Int)) hx.out.1 Sp);have y1:=Ab hb3 (AC (r:=⟨W.heap.size,t,none⟩) (u:=.int .i64 (k:Int)) hx.out.2 Sp);have hz:=World.block_lt_of_cell? w3 _ y0;refine ⟨Tt hrow3 HL2.o,⟨y0,y1⟩,?_⟩;refine (ih (m - 1) (t+1) ((t:Int)+1) (p ++ [(k:Int)]) (qk.set t (k:Int)) _ _ w3 Om (by simp [hpt.out]) (by have:=htn.out;omega) HL2.o HAG2.o (by rw [show ((t+1:Nat):Int) - 1=(t:Int) by omega];exact HR.o)
          (h1.kept hf3 fun j _ h h'=>h'.2 h) (h2.kept hf3 fun j _ h h'=>h'.2 h) (by simp at hz;omega) (fun j hj=>by simp at hz;rcases hj with hj | hj | hj;(have:=hX j hj;omega);omega;omega)
          (by rw [List.append_assoc,← HS.o]
              have hto:=GN (M:=M) (a:=a) (n:=n) (p:=p) (k:=k+1) (by rw [hpt.out];exact HBT.o) (by rw [hpt.out];omega);exact ((List.prefix_append_right_inj pre).2 hto).trans hpreH.out) hj3).mono ?_
         rintro e W' (⟨rfl,hj',hf'⟩ | ⟨rfl,r,hr,hx'⟩)
         · refine .inl ⟨rfl,by rw [HS.o,← List.append_assoc];exact hj',hf3.trans (hf'.mono fun j _ h=>⟨fun h'=>h.1 (.inl h'),h.2⟩),?_,?_,?_⟩
           · exact AA hrow3 hf' fun h=>h.1 (.inr (.inl rfl))
           · exact hf'.cell (fun h=>h.1 (.inr (.inr rfl))) y0
           · exact hf'.cell (fun h=>h.1 (.inr (.inr rfl))) y1
         · exact .inr ⟨rfl,Bo M a n p k ++ r,by rw [← List.append_assoc];exact hr,by rw [← List.append_assoc];exact hx'⟩)
        rcases hlt with ⟨hE,hlti⟩ | hlti
        · rw [hE] at hcell
          clear hE;gi_wp2_with (first
           | (refine CB (by rfl) _ _ rfl rfl hld ?_)
           | (refine ⟨trivial,fun h=>(by cases h),?_⟩;gi_at_call 233;refine hposs.mono ?_;rintro e w3 ⟨rfl,hb3⟩;obtain ⟨hld,⟨y0,y1⟩,hih⟩:=HT.o w3 hb3)
           | (refine ⟨trivial,fun h=>(by cases h),?_⟩;gi_at_call 188;refine hih.mono ?_;clear hih hld y0 y1 hposs hcell;rintro e w4 (⟨rfl,hj4,hf4,hr4,z0,z1⟩ | ⟨rfl,r,hr4,hx4⟩)))
          · gi_roundg (gk - 1)
            case rel=>exact ⟨k+1,qk.set t (k:Int),by have:=HK.o;omega,by go_num,HL2.o,fun i hi=>by rw [Cc (by omega)];exact HAG.o i hi,hr4,z0,z1,hj4,hf4⟩
            case measure=>have:=HK.o;omega
          · go_ret
            exact .inr ⟨rfl,r,hr4,hx4⟩
        · clear hcell
          gi_wp2_with (first
           | (refine CB (by rfl) _ _ rfl rfl hld ?_)
           | (refine ⟨trivial,fun h=>(by cases h),?_⟩;gi_at_call 233;refine hposs.mono ?_;rintro e w3 ⟨rfl,hb3⟩;obtain ⟨hld,⟨y0,y1⟩,hih⟩:=HT.o w3 hb3)
           | (refine ⟨trivial,fun h=>(by cases h),?_⟩;gi_at_call 188;refine hih.mono ?_;clear hih hld y0 y1 hposs;rintro e w4 (⟨rfl,hj4,hf4,hr4,z0,z1⟩ | ⟨rfl,r,hr4,hx4⟩)))
          · gi_roundg (gk - 1)
            case rel=>exact ⟨k+1,qk.set t (k:Int),by have:=HK.o;omega,by go_num,HL2.o,fun i hi=>by rw [Cc (by omega)];exact HAG.o i hi,hr4,z0,z1,hj4,hf4⟩
            case measure=>have:=HK.o;omega
          · go_ret
            exact .inr ⟨rfl,r,hr4,hx4⟩
    · have hki:¬ (k:Int)≤(t:Int):=by omega
      (obtain rfl:k=t+1:=by have:=HK.o;omega);have hre:=EN (M:=M) (a:=a) (n:=n) (p:=p) (by rw [hpt.out];exact HBT.o);rw [hpt.out] at hre;have HRE:=Ad hre;clear hre;gi_wp2
      go_ret;exact .inl ⟨rfl,by rw [← HRE.o];exact hJ _ X _ _ _ HJ.o (Fr.refl _ _) (fun k hk=>.inl (.inl hk)),HF2.o⟩
theorem KT (hJ:WC J) (hY:PV Tryz.prog l (fun x:List Int=>#[.agg (CD x)]) R B xs J Jx) (hRB:∀ k,R k→k < B) (ha:Ah a=true) (hM:M < 65536) (hcov:∀ j,(Ak a).testBit j=true→M.testBit j=true):∀ n,UR l B M R J Jx xs a v1 v2 n
 | 0=>N7 hJ hY
 | n+1=>N8 hJ hRB ha hM hcov (KT hJ hY hRB ha hM hcov n)
end
theorem Jh {R:Nat→Prop} (b1 b2:Nat) (v1 v2:Value) (a:Aj) (M:Nat) (w:World) (c0:w.cell? ⟨b1,0,none⟩=some v1) (c1:w.cell? ⟨b1,1,none⟩=some v2) (c2:w.cell? ⟨b2,0,none⟩=some (.int .u16 M))
 (h1:RL w R v1 a.1) (h2:RL w R v2 a.2) (hR:∀ k,R k→k < w.heap.size) (ha:Ah a=true) (hM:M < 65536) (hcov:∀ j,(Ak a).testBit j=true→M.testBit j=true) :
 V1 Tryz.prog 187 #[.pointer (some ⟨b1,0,none⟩),.pointer (some ⟨b2,0,none⟩)] (fun x:List Int=>#[.agg (CD x)]) R (BU M a) w:=by
 intro n l J Jx W hb hJ hY h0;replace c0:=Ab hb c0;replace c1:=Ab hb c1;replace c2:=Ab hb c2;replace h1:=h1.keep hb;replace h2:=h2.keep hb;obtain ⟨xa1,xc1,rfl⟩:=h1.form;obtain ⟨xa2,xc2,rfl⟩:=h2.form;have hbb:=Aa W (.cells #[.int .i64 0,.int .i64 0,.int .i64 0,.int .i64 0,.int .i64 0,.int .i64 0,.int .i64 0,.int .i64 0,.int .i64 0] 161);have hE:=KT (v1:=.slice xa1 a.1.length xc1) (v2:=.slice xa2 a.2.length xc2) hJ hY (fun k hk=>Nat.lt_of_lt_of_le (hR k hk) hb.size) ha hM hcov 9 (n - 1) 0 0 [] [0,0,0,0,0,0,0,0,0] (fun _=>False) [] (W.alloc (.cells #[.int .i64 0,.int .i64 0,.int .i64 0,.int .i64 0,.int .i64 0,.int .i64 0,.int .i64 0,.int .i64 0,.int .i64 0] 161)) rfl rfl rfl rfl (fun i hi=>absurd hi Sp) (RP ha)
  (h1.keep hbb) (h2.keep hbb) Sp (fun k h=>h.elim) (by rw [List.nil_append];exact List.prefix_refl _) (hJ _ _ _ _ _ h0 (Below.fr hbb) fun k h=>.inl h)
 rw [List.nil_append] at hE;have HE:=Ad hE;have hl1:=World.block_lt_of_cell? W _ c0;have hl2:=World.block_lt_of_cell? W _ c2;clear hE h1 h2 h0 hb hbb;refine callsIn_of_wp Tryz.func187 rfl trivial ?_ rfl;simp only [Tryz.ntmps187,List.size_toArray,List.length_cons,List.length_nil,Nat.reduceAdd,Nat.reduceSub,Array.replicate_succ,Array.replicate_zero,List.push_toArray,List.append_toArray,List.nil_append,List.cons_append];gi_wp2_with (refine ⟨trivial,fun h=>(by cases h),?_⟩;gi_at_call 188;refine HE.o.mono ?_;rintro e w' (⟨rfl,hJ3,hf3⟩ | ⟨rfl,r,hr,hJx3⟩))
 · go_end0
   exact ⟨⟨_,rfl⟩,.inl hJ3⟩
 · go_end0
   exact ⟨⟨_,rfl⟩,.inr ⟨_,hr,hJx3⟩⟩
theorem Dr {S1 S2:Nat→Prop} (v1 v2:Value) (a:Aj) (m:Nat) (w:World) (h1:RL w S1 v1 a.1) (h2:RL w S2 v2 a.2) (hm:m < 65536) :
 Calls Tryz.prog 117 #[.agg #[v1,v2],.int .u16 m] w fun e w'=>∃ b1 b2,e=.returned (.func (.func 187) #[] #[.pointer (some ⟨b1,0,none⟩),.pointer (some ⟨b2,0,none⟩)]) ∧
  w.heap.size≤b1∧w.heap.size≤b2∧w'.cell? ⟨b1,0,none⟩=some v1∧w'.cell? ⟨b1,1,none⟩=some v2∧w'.cell? ⟨b2,0,none⟩=some (.int .u16 ((As (Ak a) 0 ||| m:Nat):Int))∧Below w.heap.size w w':=by
 obtain ⟨xa1,xc1,rfl⟩:=h1.form;obtain ⟨xa2,xc2,rfl⟩:=h2.form;obtain ⟨M1,hM1⟩:∃ M,Ak a=M:=⟨_,rfl⟩;have hl1:M1 < 65536:=by rw [← hM1];exact Bw a
 obtain ⟨M2,hM2⟩:∃ M,As M1 0=M:=⟨_,rfl⟩;have hl2:M2 < 65536:=by rw [← hM2];exact AJ hl1
 have hor:bits .or .u16 (M2:Int) (m:Int)=((M2 ||| m:Nat):Int):=u16_or_nat M2 m hl2 hm;have HM:=Ad (An hM1 hM2);have HOR:=Ad hor;clear hM1 hM2 hor;go_enter Tryz.func117,Tryz.ntmps117
 go_wp2_with fail
 refine (B6 _ _ a _ (h1.keep (Aa _ _)) (h2.keep (Aa _ _))).mono ?_;rw [HM.o.1];rintro e w2 ⟨rfl,hb2⟩;have c0:=Ab hb2 (p:=⟨w.heap.size,0,none⟩) (v:=.slice xa1 a.1.length xc1) (by simp [go_sem]);have c1:=Ab hb2 (p:=⟨w.heap.size,1,none⟩) (v:=.slice xa2 a.2.length xc2) (by simp [go_sem]);have hz:=World.block_lt_of_cell? w2 _ c0;have hb:=bt (Aa w _) hb2;clear hb2;go_wp2_with (go_at_call 147;go_must ((refine (A6 _ hl1 HM.o.2).mono ?_);rintro e w' ⟨rfl,rfl⟩))
 go_ret;refine ⟨w.heap.size,w2.heap.size,rfl,Nat.le_refl _,hb.size,Ab (Aa _ _) c0,Ab (Aa _ _) c1,?_,bt hb (Aa _ _)⟩;rw [HM.o.1,HM.o.2,← HOR.o];simp [go_sem]
end Go.Proofs.YtkbbmjcfgcfejaaGreat
