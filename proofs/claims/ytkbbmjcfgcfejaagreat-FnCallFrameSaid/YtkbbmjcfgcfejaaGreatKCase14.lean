/- CsA: texts Cs1, Cs2, Cs3, Cs4, Cs5 in one. -/
import Derived.Test.YtkbbmjcfgcfejaaGreatKCaseC
import Derived.Deep.Cut
import Derived.Deep.RegionHeld3
import Derived.Deep.MidRow
namespace Go.Proofs.YtkbbmjcfgcfejaaGreat
open Go.RowKit
def chC (M:Nat) (p:List Int):List Int :=
 if M.testBit p.length=true then ((List.range (p.length+1)).filter fun k=>k == p.length || gi p k == (k:Int)).map Int.ofNat else [-1]
def shapesL (M:Nat):Nat→List Int→List (List Int)
 | 0,p=>[p]
 | n+1,p=>(chC M p).flatMap fun c=>shapesL M n (p ++ [c])
def restL (M:Nat) (a:Asn) (n:Nat) (p:List Int):List (List Int):=(shapesL M n p).filter fun cl=>possC cl 8 a
def casesL (M:Nat) (a:Asn):List (List Int):=restL M a 9 []
theorem gi_app1 {p q:List Int} {i:Nat} (h:i < p.length):gi (p ++ q) i=gi p i:=by
 rw [gi,gi,List.getD_eq_getElem?_getD,List.getD_eq_getElem?_getD,List.getElem?_append_left h]
theorem gi_snoc (p:List Int) (x:Int):gi (p ++ [x]) p.length=x:=by
 rw [gi,List.getD_eq_getElem?_getD,List.getElem?_append_right (Nat.le_refl _),Nat.sub_self];rfl
theorem gi_pre {p cl:List Int} (h:cl.take p.length=p) {i:Nat} (hi:i < p.length):gi cl i=gi p i:=by
 have h2:cl=p ++ cl.drop p.length:=by
  have:=List.take_append_drop p.length cl
  rw [h] at this;exact this.symm
 rw [h2];exact gi_app1 hi
theorem mem_chC {M:Nat} {p:List Int} {c:Int} (hb:M.testBit p.length=true):c ∈ chC M p ↔ 0≤c∧c≤(p.length:Int)∧(c=(p.length:Int)∨gi p c.toNat=c):=by
 rw [chC,if_pos hb,List.mem_map]
 constructor
 · rintro ⟨k,hk,rfl⟩
   rw [List.mem_filter,List.mem_range] at hk
   obtain ⟨h1,h2⟩:=hk
   simp only [Bool.or_eq_true,beq_iff_eq] at h2
   refine ⟨Int.natCast_nonneg _,by show (k:Int)≤_;omega,?_⟩
   rcases h2 with h2 | h2
   · left;show (k:Int)=_;rw [h2]
   · right;exact h2
 · rintro ⟨h0,h1,h2⟩
   obtain ⟨k,rfl⟩:=Int.eq_ofNat_of_zero_le h0
   refine ⟨k,?_,rfl⟩
   rw [List.mem_filter,List.mem_range]
   refine ⟨by omega,?_⟩
   simp only [Bool.or_eq_true,beq_iff_eq]
   rcases h2 with h2 | h2
   · left;omega
   · right;simpa using h2
theorem mem_shapes {M:Nat}:∀ (n:Nat) (p cl:List Int),cl ∈ shapesL M n p ↔ cl.length=p.length+n∧cl.take p.length=p∧∀ t,p.length≤t→t < p.length+n→stepC M cl t=true
 | 0,p,cl=>by
   rw [shapesL,List.mem_singleton]
   constructor
   · rintro rfl
     exact ⟨rfl,List.take_length,fun t h1 h2=>by omega⟩
   · rintro ⟨h1,h2,_⟩
     rw [← h2,List.take_of_length_le (by omega)]
 | n+1,p,cl=>by
   rw [shapesL,List.mem_flatMap]
   constructor
   · rintro ⟨c,hc,hcl⟩
     rw [mem_shapes n] at hcl
     obtain ⟨h1,h2,h3⟩:=hcl
     simp only [List.length_append,List.length_cons,List.length_nil] at h1 h2 h3
     have hp:cl.take p.length=p:=by
      have:=congrArg (List.take p.length) h2
      rw [List.take_take,Nat.min_eq_left (by omega)] at this
      rw [this,List.take_left]
     refine ⟨by omega,hp,fun t h4 h5=>?_⟩
     by_cases e:t=p.length
     · subst e
       have hg:gi cl p.length=c:=by
        rw [gi_pre (p:=p ++ [c]) (by simpa using h2) (by simp),gi_snoc]
       rw [stepC]
       by_cases hb:M.testBit p.length=true
       · rw [if_pos hb,hg]
         obtain ⟨c0,c1,c2⟩:=(mem_chC hb).1 hc
         simp only [Bool.and_eq_true,decide_eq_true_eq,beq_iff_eq]
         refine ⟨c0,c1,?_⟩
         rcases c2 with c2 | c2
         · rw [show c.toNat=p.length by omega,hg]
         · by_cases hlt:c.toNat < p.length
           · rw [gi_pre hp hlt];exact c2
           · rw [show c.toNat=p.length by omega,hg]
       · rw [if_neg hb,hg,beq_iff_eq]
         rw [chC,if_neg hb] at hc
         exact List.mem_singleton.1 hc
     · exact h3 t (by omega) (by omega)
   · rintro ⟨h1,h2,h3⟩
     have hs:=h3 p.length (Nat.le_refl _) (by omega)
     have hlt:p.length < cl.length:=by omega
     have htk:cl.take (p.length+1)=p ++ [gi cl p.length]:=by
      rw [List.take_succ_eq_append_getElem hlt,h2,gi_of hlt]
     refine ⟨gi cl p.length,?_,?_⟩
     · rw [stepC] at hs
       by_cases hb:M.testBit p.length=true
       · rw [if_pos hb] at hs
         simp only [Bool.and_eq_true,decide_eq_true_eq,beq_iff_eq] at hs
         rw [mem_chC hb]
         refine ⟨hs.1,hs.2.1,?_⟩
         by_cases e:gi cl p.length=(p.length:Int)
         · exact .inl e
         · right
           rw [← gi_pre h2 (by omega)]
           exact hs.2.2
       · rw [if_neg hb,beq_iff_eq] at hs
         rw [chC,if_neg hb,hs]
         exact List.mem_singleton.2 rfl
     · rw [mem_shapes n]
       simp only [List.length_append,List.length_cons,List.length_nil]
       exact ⟨by omega,htk,fun t h4 h5=>h3 t (by omega) (by omega)⟩
theorem shapes_all {M:Nat} {cl:List Int}:cl ∈ shapesL M 9 [] ↔ shapeC M cl=true:=by
 rw [mem_shapes,shapeC,Bool.and_eq_true,beq_iff_eq,List.all_eq_true]
 simp only [List.length_nil,Nat.zero_add,List.take_zero,Nat.zero_le,true_and,forall_const]
 constructor
 · rintro ⟨h1,h2⟩
   exact ⟨h1,fun t ht=>h2 t (List.mem_range.1 ht)⟩
 · rintro ⟨h1,h2⟩
   exact ⟨h1,fun t ht=>h2 t (List.mem_range.2 ht)⟩
theorem mem_cases {M:Nat} {a:Asn} {cl:List Int}:cl ∈ casesL M a ↔ shapeC M cl=true∧possC cl 8 a=true:=by
 rw [casesL,restL,List.mem_filter,shapes_all]
theorem rest_succ (M:Nat) (a:Asn) (n:Nat) (p:List Int):restL M a (n+1) p=(chC M p).flatMap fun c=>restL M a n (p ++ [c]):=by
 rw [restL,shapesL,List.filter_flatMap];rfl
theorem rest_zero (M:Nat) (a:Asn) (p:List Int):restL M a 0 p=if possC p 8 a=true then [p] else []:=by
 rw [restL,shapesL,List.filter_cons]
 cases possC p 8 a <;> rfl
def stA (m:Nat):List Int→Bool
 | []=>true
 | c :: r=>if (c == 0 || hasT m c)=true then false else stA (termM m c) r
theorem hasT_more {m:Nat} {t z:Int} (h:hasT m z=true):hasT (termM m t) z=true:=by
 have hz:isTermB z=true:=by rw [hasT,Bool.and_eq_true] at h;exact h.1
 rw [hasT_term hz,h];rfl
theorem hasT_sub {m1 m2:Nat} (h:∀ z,hasT m1 z=true→hasT m2 z=true) (t:Int):∀ z,hasT (termM m1 t) z=true→hasT (termM m2 t) z=true:=fun z hz=>by
 have hb:isTermB z=true:=by rw [hasT,Bool.and_eq_true] at hz;exact hz.1
 rw [hasT_term hb,Bool.or_eq_true] at hz
 rw [hasT_term hb,Bool.or_eq_true]
 exact hz.imp (h z) id
theorem stA_sub {l1 l2:List Int} (hs:l1.Sublist l2):∀ {m1 m2:Nat},(∀ z,hasT m1 z=true→hasT m2 z=true)→stA m2 l2=true→stA m1 l1=true:=by
 induction hs with
 | slnil=>intro _ _ _ _;rfl
 | cons y _ ih =>
   intro m1 m2 h h2
   rw [stA] at h2
   by_cases hc:(y == 0 || hasT m2 y)=true
   · rw [if_pos hc] at h2;cases h2
   · rw [if_neg hc] at h2
     exact ih (fun z hz=>hasT_more (h z hz)) h2
 | cons_cons y _ ih =>
   intro m1 m2 h h2
   rw [stA] at h2 ⊢
   by_cases hc:(y == 0 || hasT m2 y)=true
   · rw [if_pos hc] at h2;cases h2
   · rw [if_neg hc] at h2
     rw [if_neg (fun h1=>hc (by rw [Bool.or_eq_true] at h1 ⊢;exact h1.imp id (h y)))]
     exact ih (hasT_sub h y) h2
theorem starts_stA {cl:List Int} {last:Int}:∀ (l:List Atom) (m:Nat),startsO cl last m l=stA m ((l.filter (inA cl last)).map fun x=>gi cl x.2.1.toNat)
 | [],_=>rfl
 | x :: l,m=>by
   rw [startsO,List.filter_cons]
   cases inA cl last x with
   | false=>simp only [Bool.false_eq_true,if_false];exact starts_stA l m
   | true=>simp only [if_true,List.map_cons,stA];rw [starts_stA l]
theorem asn_parts {a:Asn} (h:asnB a=true):(∀ f ∈ a.1,factB f=true)∧(∀ x ∈ a.2,atomB x=true):=by
 simp only [asnB,factsB,Bool.and_eq_true,List.all_eq_true] at h
 exact ⟨h.1.2,h.2.2⟩
theorem poss_mono {cl:List Int} {t:Int} {a:Asn} (ht:t≤8) (ha:asnB a=true) (h:possC cl 8 a=true):possC cl t a=true:=by
 rw [possC,Bool.and_eq_true,List.all_eq_true] at h
 rw [possC,Bool.and_eq_true,List.all_eq_true]
 obtain ⟨h1,h2⟩:=h
 refine ⟨fun f hf=>?_,?_⟩
 · have:=h1 f hf
   obtain ⟨_,f2,_,f4⟩:=factB_le ((asn_parts ha).1 f hf)
   rw [okF,if_pos ⟨f2,f4⟩] at this
   rw [okF]
   split
   · exact this
   · rfl
 · rw [starts_stA] at h2 ⊢
   refine stA_sub ?_ (fun z hz=>hz) h2
   refine List.Sublist.map _ ?_
   have:(a.2.filter (inA cl t))=(a.2.filter (inA cl 8)).filter (inA cl t):=by
    rw [List.filter_filter]
    refine List.filter_congr fun x _=>?_
    cases hx:inA cl t x with
    | false=>rfl
    | true =>
      simp only [inA,Bool.and_eq_true,decide_eq_true_eq] at hx
      rw [Bool.true_and,inA,decide_eq_true (show x.2.1≤8 by omega),decide_eq_true (show x.2.2≤8 by omega),hx.2.2];rfl
   rw [this]
   exact List.filter_sublist
theorem poss_congr {c1 c2:List Int} {t:Int} {a:Asn} (ha:asnB a=true) (h:∀ i:Nat,(i:Int)≤t→gi c1 i=gi c2 i):possC c1 t a=possC c2 t a:=by
 have hg:∀ z:Int,0≤z→z≤t→gi c1 z.toNat=gi c2 z.toNat:=fun z h0 hz=>h z.toNat (by omega)
 rw [possC,possC]
 congr 1
 · rw [Bool.eq_iff_iff,List.all_eq_true,List.all_eq_true]
   have key:∀ f ∈ a.1,okF c1 t f=okF c2 t f:=fun f hf=>by
    obtain ⟨f1,_,f3,_⟩:=factB_le ((asn_parts ha).1 f hf)
    rw [okF,okF]
    by_cases hc:f.2.1≤t∧f.2.2≤t
    · rw [if_pos hc,if_pos hc,factC,factC,hg _ f1 hc.1,hg _ f3 hc.2]
    · rw [if_neg hc,if_neg hc]
   exact ⟨fun h f hf=>by rw [← key f hf];exact h f hf,fun h f hf=>by rw [key f hf];exact h f hf⟩
 · rw [starts_stA,starts_stA]
   have key:∀ x ∈ a.2,inA c1 t x=inA c2 t x:=fun x hx=>by
    obtain ⟨x1,_,x3,_⟩:=atomB_le' ((asn_parts ha).2 x hx)
    rw [inA,inA]
    by_cases h1:x.2.1≤t
    · by_cases h2:x.2.2≤t
      · rw [fillC,fillC,hg _ x1 h1,hg _ x3 h2]
      · rw [decide_eq_false h2,Bool.false_and,Bool.false_and]
    · rw [decide_eq_false h1,Bool.false_and,Bool.false_and]
   rw [List.filter_congr key]
   congr 1
   refine List.map_congr_left fun x hx=>?_
   rw [List.mem_filter] at hx
   have hx2:=hx.2
   simp only [inA,Bool.and_eq_true,decide_eq_true_eq] at hx2
   exact hg _ (atomB_le' ((asn_parts ha).2 x hx.1)).1 hx2.1
theorem rest_cut {M:Nat} {a:Asn} {n:Nat} {p q:List Int} {t:Nat} (ha:asnB a=true) (hn:p.length+n=9) (ht:p.length=t+1) (hq:∀ i,i < p.length→gi q i=gi p i)
 (h:possC q t a=false):restL M a n p=[]:=by
 rw [restL,List.filter_eq_nil_iff]
 intro cl hcl hp
 rw [mem_shapes] at hcl
 have h1:=poss_mono (t:=t) (by omega) ha hp
 rw [poss_congr (c2:=q) ha fun i hi=>by rw [gi_pre hcl.2.1 (by omega),hq i (by omega)]] at h1
 rw [h] at h1;cases h1
def earlyE (cl:List Int) (m:Nat):List Atom→Bool
 | []=>true
 | x :: r=>if x.1 ≠ 1∨gi cl x.2.1.toNat < 0 then earlyE cl m r else if (gi cl x.2.1.toNat == 0 || hasT m (gi cl x.2.1.toNat))=true then false else earlyE cl (termM m (gi cl x.2.1.toNat)) r
def cellB (cl:List Int) (x:Atom):Bool:=(x.1 == 1) && decide (0≤gi cl x.2.1.toNat)
theorem early_stA {cl:List Int}:∀ (l:List Atom) (m:Nat),earlyE cl m l=stA m ((l.filter (cellB cl)).map fun x=>gi cl x.2.1.toNat)
 | [],_=>rfl
 | x :: l,m=>by
   rw [earlyE,List.filter_cons]
   by_cases h:x.1 ≠ 1∨gi cl x.2.1.toNat < 0
   · have hc:cellB cl x=false:=by
      rw [cellB]
      rcases h with h | h
      · rw [beq_eq_false_iff_ne.2 h];rfl
      · rw [decide_eq_false (show ¬ 0≤gi cl x.2.1.toNat by omega),Bool.and_false]
     rw [if_pos h,hc]
     simp only [Bool.false_eq_true,if_false];exact early_stA l m
   · have hc:cellB cl x=true:=by
      simp only [not_or,ne_eq,Decidable.not_not] at h
      rw [cellB,h.1,decide_eq_true (show 0≤gi cl x.2.1.toNat by omega)];rfl
     rw [if_neg h,hc]
     simp only [if_true,List.map_cons,stA];rw [early_stA l]
theorem rest_cutS {M:Nat} {a:Asn} {n:Nat} {p q:List Int} (ha:asnB a=true) (hq:∀ i,i < p.length→gi q i=gi p i) (hq2:∀ i,p.length≤i→i < 9→gi q i < 0)
 (h:(a.1.all (fitsF q) && earlyE q 0 a.2)=false):restL M a n p=[]:=by
 rw [restL,List.filter_eq_nil_iff]
 intro cl hcl hp
 rw [mem_shapes] at hcl
 have hg:∀ z:Int,0≤z→z≤8→0≤gi q z.toNat→gi q z.toNat=gi cl z.toNat:=fun z h0 h8 hz=>by
  by_cases hlt:z.toNat < p.length
  · rw [gi_pre hcl.2.1 hlt,hq _ hlt]
  · have:=hq2 z.toNat (by omega) (by omega);omega
 rw [possC,Bool.and_eq_true,List.all_eq_true] at hp
 rw [Bool.and_eq_false_iff] at h
 rcases h with h | h
 · rw [List.all_eq_false] at h
   obtain ⟨f,hf,hff⟩:=h
   obtain ⟨f1,f2,f3,f4⟩:=factB_le ((asn_parts ha).1 f hf)
   have h1:=hp.1 f hf
   rw [okF,if_pos ⟨f2,f4⟩,factC] at h1
   rw [Bool.not_eq_true,fitsF] at hff
   simp only [Bool.not_eq_false',Bool.and_eq_true,decide_eq_true_eq,bne_iff_ne] at hff
   rw [hg _ f1 f2 hff.1,hg _ f3 f4 hff.2.1] at hff
   rw [beq_iff_eq] at h1
   exact hff.2.2 h1
 · rw [early_stA] at h
   have h1:=hp.2
   rw [starts_stA] at h1
   refine absurd ?_ (by rw [h];decide:¬ stA 0 ((a.2.filter (cellB q)).map fun x=>gi q x.2.1.toNat)=true)
   refine stA_sub ?_ (fun z hz=>hz) h1
   have e1:((a.2.filter (cellB q)).map fun x=>gi q x.2.1.toNat)=(a.2.filter (cellB q)).map fun x=>gi cl x.2.1.toNat:=by
    refine List.map_congr_left fun x hx=>?_
    rw [List.mem_filter,cellB,Bool.and_eq_true,decide_eq_true_eq] at hx
    obtain ⟨x1,x2,_,_⟩:=atomB_le' ((asn_parts ha).2 x hx.1)
    exact hg _ x1 x2 hx.2.2
   rw [e1]
   refine List.Sublist.map _ ?_
   have e2:a.2.filter (cellB q)=(a.2.filter (inA cl 8)).filter (cellB q):=by
    rw [List.filter_filter]
    refine List.filter_congr fun x hx=>?_
    cases hc:cellB q x with
    | false=>rfl
    | true =>
      obtain ⟨_,x2,_,x4⟩:=atomB_le' ((asn_parts ha).2 x hx)
      rw [cellB,Bool.and_eq_true] at hc
      rw [Bool.true_and,inA,decide_eq_true x2,decide_eq_true x4,fillC,hc.1];rfl
   rw [e2]
   exact List.filter_sublist
end Go.Proofs.YtkbbmjcfgcfejaaGreat
namespace Go.Proofs.YtkbbmjcfgcfejaaGreat
open Go.RowKit
def findU (left:List Atom) (m:Nat) (c:Int):Option Nat:=(List.range left.length).find? fun i=>((gd left i).2.1 == c) && !m.testBit i
theorem findU_some {left:List Atom} {m i:Nat} {c:Int} (h:findU left m c=some i):i < left.length∧(gd left i).2.1=c∧m.testBit i=false:=by
 have h1:=List.mem_of_find?_eq_some h
 have h2:=List.find?_some h
 simp only [Bool.and_eq_true,beq_iff_eq,Bool.not_eq_true'] at h2
 exact ⟨List.mem_range.1 h1,h2.1,h2.2⟩
theorem find_step {p:Nat→Bool} {n k:Nat} (hk:k < n) (h:∀ j,j < k→p j=false) (hp:p k=true):(List.range n).find? p=some k:=by
 rw [List.find?_range_eq_some]
 exact ⟨hp,List.mem_range.2 hk,fun j hj=>by rw [h j hj];rfl⟩
theorem find_end {p:Nat→Bool} {n:Nat} (h:∀ j,j < n→p j=false):(List.range n).find? p=none:=by
 rw [List.find?_eq_none]
 intro j hj
 rw [h j (List.mem_range.1 hj)];decide
def chainU (left:List Atom) (B:Int) (cl:Bool):Nat→Nat→Int→Option (Nat × List Int)
 | 0,_,_=>none
 | f+1,m,at_=>match findU left m at_ with
   | none=>none
   | some i=>if (gd left i).2.2=B then some (m ||| 2 ^ i,[(i:Int)]) else
     if (gd left i).1=2∧cl=false then none else (chainU left B cl f (m ||| 2 ^ i) (gd left i).2.2).map fun r=>(r.1,(i:Int) :: r.2)
def cellU (left:List Atom) (m:Nat) (x:Atom):Option (Nat × List Int) :=
 match findU left m x.2.1 with
 | none=>none
 | some i=>if gd left i=x then some (m ||| 2 ^ i,[(i:Int)]) else none
def goalU (left:List Atom) (m:Nat) (x:Atom):Option (Nat × List Int) :=
 if x.1=1 then cellU left m x else chainU left x.2.2 (clsdB left x.2.2) (left.length - cntM left.length m) m x.2.1
def goalsU (left:List Atom):List Atom→Nat→Option (Nat × List (List Int))
 | [],m=>some (m,[])
 | x :: r,m=>match goalU left m x with
   | none=>none
   | some p=>(goalsU left r p.1).map fun q=>(q.1,p.2 :: q.2)
def mtchF (left right:List Atom):Option (List (List Int)) :=
 match goalsU left right 0 with
 | none=>none
 | some p=>if ((List.range left.length).all fun k=>p.1.testBit k)=true then some p.2 else none
def matchC (a b:Asn) (cl:List Int):Option (List (List Int)):=if b.1.all (factC cl)=true then mtchF (filledL cl a.2) (filledL cl b.2) else none
def bothM (a b:Asn):Nat:=termM (termsM a) 0 ||| termsM b
def failC (a b:Asn) (cl:List Int):Bool:=(matchC a b cl).isNone
def failO (a b:Asn):Option (List Int):=(casesL (bothM a b) a).find? (failC a b)
def entB (a b:Asn):Bool:=asnB a && (asnB b && (failO a b).isNone)
theorem goals_app {left:List Atom}:∀ (r s:List Atom) (m:Nat),goalsU left (r ++ s) m=match goalsU left r m with
  | none=>none
  | some p=>(goalsU left s p.1).map fun q=>(q.1,p.2 ++ q.2)
 | [],s,m=>by
   simp only [List.nil_append,goalsU]
   cases goalsU left s m <;> rfl
 | x :: r,s,m=>by
   simp only [List.cons_append,goalsU]
   cases goalU left m x with
   | none=>rfl
   | some p =>
     simp only [goals_app r s p.1]
     cases goalsU left r p.1 with
     | none=>rfl
     | some q =>
       simp only [Option.map_some]
       cases goalsU left s q.1 <;> rfl
theorem goals_take {left right:List Atom} {k m:Nat} {us:List (List Int)} (hk:k < right.length) (h:goalsU left (right.take k) 0=some (m,us)) :
 goalsU left (right.take (k+1)) 0=(goalU left m (gd right k)).map fun p=>(p.1,us ++ [p.2]):=by
 rw [take_gd hk,goals_app,h]
 simp only [goalsU]
 cases goalU left m (gd right k) <;> rfl
theorem goals_stop {left right:List Atom} {k:Nat} (h:goalsU left (right.take k) 0=none):goalsU left right 0=none:=by
 have:=goals_app (left:=left) (right.take k) (right.drop k) 0
 rw [List.take_append_drop,h] at this
 exact this
theorem all_bits_cnt {n m:Nat}:((List.range n).all fun k=>m.testBit k)=(cntM n m == n):=(cntM_all n m).symm
end Go.Proofs.YtkbbmjcfgcfejaaGreat
namespace Go.Proofs.YtkbbmjcfgcfejaaGreat
open Go.RowKit
def Apart (l:List Atom):Prop:=(∀ y ∈ l,y.2.1 ≠ 0)∧l.Pairwise fun y z=>y.2.1 ≠ z.2.1
theorem cnt_leM (n m:Nat):cntM n m≤n:=by
 unfold cntM;exact Nat.le_trans (List.length_filter_le _ _) (by simp)
structure Shares (left right:List Atom) (us:List (List Int)):Prop where
 len:us.length=right.length
 ok:∀ k,k < right.length→allowB left (gd right k) (gd us k)=true
 nd:us.flatten.Nodup
 mem:∀ j:Int,j ∈ us.flatten ↔ 0≤j∧j < left.length
end Go.Proofs.YtkbbmjcfgcfejaaGreat
namespace Go.Proofs.YtkbbmjcfgcfejaaGreat
open Go.RowKit
end Go.Proofs.YtkbbmjcfgcfejaaGreat
namespace Go.Proofs.YtkbbmjcfgcfejaaGreat
open Go.RowKit
def factV (f:Int→Int) (x:Fact):Bool:=(f x.2.1 == f x.2.2) == x.1
def fillV (f:Int→Int) (l:List Atom):List Atom:=(l.filter fun x=>(x.1 == 1) || (f x.2.1 != f x.2.2)).map fun x=>(x.1,f x.2.1,f x.2.2)
structure PossV (f:Int→Int) (a:Asn):Prop where
 facts:∀ x ∈ a.1,factV f x=true
 apart:Apart (fillV f a.2)
structure MatchV (f:Int→Int) (a b:Asn):Prop where
 facts:∀ x ∈ b.1,factV f x=true
 shares:∃ us,Shares (fillV f a.2) (fillV f b.2) us
structure Ren (P:Int→Prop) (φ:Int→Int):Prop where
 inj:∀ u v,P u→P v→φ u=φ v→u=v
 zero:P 0
 at0:φ 0=0
section
variable {P:Int→Prop} {φ:Int→Int} {left right:List Atom}
end
section
variable {M:Nat} {f g:Int→Int}
end
theorem one_bit (m j:Nat):(termM m 0).testBit j=(m.testBit j || decide (j=0)):=by
 rw [termM_bit]
 congr 1
 show (isTermB 0 && decide ((0:Int)=(j:Int)))=_
 rw [show isTermB 0=true from rfl,Bool.true_and,decide_eq_decide];omega
theorem ent_valid {a b:Asn} (h:entB a b=true):asnB a=true∧asnB b=true:=by
 rw [entB,Bool.and_eq_true,Bool.and_eq_true] at h;exact ⟨h.1,h.2.1⟩
end Go.Proofs.YtkbbmjcfgcfejaaGreat
namespace Go.Proofs.YtkbbmjcfgcfejaaGreat
open Go.RowKit
theorem cntM_zero (n:Nat):cntM n 0=0:=by
 unfold cntM
 rw [List.length_eq_zero_iff,List.filter_eq_nil_iff]
 intro x _;simp
end Go.Proofs.YtkbbmjcfgcfejaaGreat
