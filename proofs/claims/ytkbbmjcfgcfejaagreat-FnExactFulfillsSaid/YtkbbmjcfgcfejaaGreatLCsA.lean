/- CsA: texts Cs1, Cs2, Cs3, Cs4, Cs5 in one. -/
import Derived.Test.YtkbbmjcfgcfejaaGreatLCaseC
set_option linter.unusedVariables false
set_option linter.unusedSimpArgs false
set_option maxRecDepth 100000
set_option maxHeartbeats 12800000
namespace Go.Proofs.YtkbbmjcfgcfejaaGreat
open Go.RowKit
def UM (M:Nat) (p:List Int):List Int :=
 if M.testBit p.length=true then ((List.range (p.length+1)).filter fun k=>k == p.length || gi p k == (k:Int)).map Int.ofNat else [-1]
def EZ (M:Nat):Nat→List Int→List (List Int)
 | 0,p=>[p]
 | n+1,p=>(UM M p).flatMap fun c=>EZ M n (p ++ [c])
def Bq (M:Nat) (a:Aj) (n:Nat) (p:List Int):List (List Int):=(EZ M n p).filter fun cl=>Bi cl 8 a
def BU (M:Nat) (a:Aj):List (List Int):=Bq M a 9 []
theorem QW {p q:List Int} {i:Nat} (h:i < p.length):gi (p ++ q) i=gi p i:=by
 rw [gi,gi,List.getD_eq_getElem?_getD,List.getD_eq_getElem?_getD,List.getElem?_append_left h]
theorem MO (p:List Int) (x:Int):gi (p ++ [x]) p.length=x:=by
 rw [gi,List.getD_eq_getElem?_getD,List.getElem?_append_right (Nat.le_refl _),Nat.sub_self];rfl
theorem I3 {p cl:List Int} (h:cl.take p.length=p) {i:Nat} (hi:i < p.length):gi cl i=gi p i:=by
 have h2:cl=p ++ cl.drop p.length:=by
  have:=List.take_append_drop p.length cl;rw [h] at this;exact this.symm
 rw [h2];exact QW hi
theorem QX {M:Nat} {p:List Int} {c:Int} (hb:M.testBit p.length=true):c ∈ UM M p ↔ 0≤c∧c≤(p.length:Int)∧(c=(p.length:Int)∨gi p c.toNat=c):=by
 rw [UM,if_pos hb,List.mem_map];constructor
 · rintro ⟨k,hk,rfl⟩
   rw [List.mem_filter,List.mem_range] at hk;obtain ⟨h1,h2⟩:=hk;simp only [Bool.or_eq_true,beq_iff_eq] at h2;refine ⟨Int.natCast_nonneg _,by show (k:Int)≤_;omega,?_⟩;rcases h2 with h2 | h2
   · left;show (k:Int)=_;rw [h2]
   · right;exact h2
 · rintro ⟨h0,h1,h2⟩
   obtain ⟨k,rfl⟩:=Int.eq_ofNat_of_zero_le h0;refine ⟨k,?_,rfl⟩;rw [List.mem_filter,List.mem_range];refine ⟨by omega,?_⟩;simp only [Bool.or_eq_true,beq_iff_eq];rcases h2 with h2 | h2
   · left;omega
   · right;simpa using h2
theorem DK {M:Nat}:∀ (n:Nat) (p cl:List Int),cl ∈ EZ M n p ↔ cl.length=p.length+n∧cl.take p.length=p∧∀ t,p.length≤t→t < p.length+n→Fi M cl t=true
 | 0,p,cl=>by
   rw [EZ,List.mem_singleton];constructor
   · rintro rfl
     exact ⟨rfl,List.take_length,fun t h1 h2=>by omega⟩
   · rintro ⟨h1,h2,_⟩
     rw [← h2,List.take_of_length_le (by omega)]
 | n+1,p,cl=>by
   rw [EZ,List.mem_flatMap];constructor
   · rintro ⟨c,hc,hcl⟩
     rw [DK n] at hcl;obtain ⟨h1,h2,h3⟩:=hcl;simp only [List.length_append,List.length_cons,List.length_nil] at h1 h2 h3;have hp:cl.take p.length=p:=by
      have:=congrArg (List.take p.length) h2;rw [List.take_take,Nat.min_eq_left (by omega)] at this;rw [this,List.take_left]
     refine ⟨by omega,hp,fun t h4 h5=>?_⟩;by_cases e:t=p.length
     · subst e
       have hg:gi cl p.length=c:=by
        rw [I3 (p:=p ++ [c]) (by simpa using h2) Sp,MO]
       rw [Fi];by_cases hb:M.testBit p.length=true
       · rw [if_pos hb,hg]
         obtain ⟨c0,c1,c2⟩:=(QX hb).1 hc;simp only [Bool.and_eq_true,decide_eq_true_eq,beq_iff_eq];refine ⟨c0,c1,?_⟩;rcases c2 with c2 | c2
         · rw [show c.toNat=p.length by omega,hg]
         · by_cases hlt:c.toNat < p.length
           · rw [I3 hp hlt];exact c2
           · rw [show c.toNat=p.length by omega,hg]
       · rw [if_neg hb,hg,beq_iff_eq]
         rw [UM,if_neg hb] at hc;exact List.mem_singleton.1 hc
     · exact h3 t Om Om
   · rintro ⟨h1,h2,h3⟩
     have hs:=h3 p.length (Nat.le_refl _) Om;(have hlt:p.length < cl.length:=by omega);have htk:cl.take (p.length+1)=p ++ [gi cl p.length]:=by
      rw [List.take_succ_eq_append_getElem hlt,h2,G2 hlt]
     refine ⟨gi cl p.length,?_,?_⟩
     · rw [Fi] at hs
       by_cases hb:M.testBit p.length=true
       · rw [if_pos hb] at hs
         simp only [Bool.and_eq_true,decide_eq_true_eq,beq_iff_eq] at hs;rw [QX hb];refine ⟨hs.1,hs.2.1,?_⟩;by_cases e:gi cl p.length=(p.length:Int)
         · exact .inl e
         · right
           rw [← I3 h2 (by omega)];exact hs.2.2
       · rw [if_neg hb,beq_iff_eq] at hs
         rw [UM,if_neg hb,hs];exact List.mem_singleton.2 rfl
     · rw [DK n]
       simp only [List.length_append,List.length_cons,List.length_nil];exact ⟨by omega,htk,fun t h4 h5=>h3 t Om Om⟩
theorem PE {M:Nat} {cl:List Int}:cl ∈ EZ M 9 [] ↔ C5 M cl=true:=by
 rw [DK,C5,Bool.and_eq_true,beq_iff_eq,List.all_eq_true];simp only [List.length_nil,Nat.zero_add,List.take_zero,Nat.zero_le,true_and,forall_const];constructor
 · rintro ⟨h1,h2⟩
   exact ⟨h1,fun t ht=>h2 t (List.mem_range.1 ht)⟩
 · rintro ⟨h1,h2⟩
   exact ⟨h1,fun t ht=>h2 t (List.mem_range.2 ht)⟩
theorem I4 {M:Nat} {a:Aj} {cl:List Int}:cl ∈ BU M a ↔ C5 M cl=true∧Bi cl 8 a=true:=by
 rw [BU,Bq,List.mem_filter,PE]
theorem I5 (M:Nat) (a:Aj) (n:Nat) (p:List Int):Bq M a (n+1) p=(UM M p).flatMap fun c=>Bq M a n (p ++ [c]):=by
 rw [Bq,EZ,List.filter_flatMap];rfl
theorem I6 (M:Nat) (a:Aj) (p:List Int):Bq M a 0 p=if Bi p 8 a=true then [p] else []:=by
 rw [Bq,EZ,List.filter_cons];cases Bi p 8 a <;> rfl
def Te (m:Nat):List Int→Bool
 | []=>true
 | c :: r=>if (c == 0 || AN m c)=true then false else Te (As m c) r
theorem RD {m:Nat} {t z:Int} (h:AN m z=true):AN (As m t) z=true:=by
 have hz:Al z=true:=by rw [AN,Bool.and_eq_true] at h;exact h.1
 rw [Fj hz,h];rfl
theorem Tf {m1 m2:Nat} (h:∀ z,AN m1 z=true→AN m2 z=true) (t:Int):∀ z,AN (As m1 t) z=true→AN (As m2 t) z=true:=fun z hz=>by
 have hb:Al z=true:=by rw [AN,Bool.and_eq_true] at hz;exact hz.1
 rw [Fj hb,Bool.or_eq_true] at hz;rw [Fj hb,Bool.or_eq_true];exact hz.imp (h z) id
theorem MP {l1 l2:List Int} (hs:l1.Sublist l2):∀ {m1 m2:Nat},(∀ z,AN m1 z=true→AN m2 z=true)→Te m2 l2=true→Te m1 l1=true:=by
 induction hs with
 | slnil=>intro _ _ _ _;rfl
 | cons y _ ih =>
   intro m1 m2 h h2;rw [Te] at h2;by_cases hc:(y == 0 || AN m2 y)=true
   · rw [if_pos hc] at h2;cases h2
   · rw [if_neg hc] at h2
     exact ih (fun z hz=>RD (h z hz)) h2
 | cons_cons y _ ih =>
   intro m1 m2 h h2;rw [Te] at h2 ⊢;by_cases hc:(y == 0 || AN m2 y)=true
   · rw [if_pos hc] at h2;cases h2
   · rw [if_neg hc] at h2
     rw [if_neg (fun h1=>hc (by rw [Bool.or_eq_true] at h1 ⊢;exact h1.imp id (h y)))];exact ih (Tf h y) h2
theorem B9 {cl:List Int} {last:Int}:∀ (l:List Am) (m:Nat),Bt cl last m l=Te m ((l.filter (F5 cl last)).map fun x=>gi cl x.2.1.toNat)
 | [],_=>rfl
 | x :: l,m=>by
   rw [Bt,List.filter_cons];cases F5 cl last x with
   | false=>simp only [Bool.false_eq_true,if_false];exact B9 l m
   | true=>simp only [if_true,List.map_cons,Te];rw [B9 l]
theorem AL {a:Aj} (h:Ah a=true):(∀ f ∈ a.1,AH f=true)∧(∀ x ∈ a.2,AQ x=true):=by
 simp only [Ah,Bv,Bool.and_eq_true,List.all_eq_true] at h;exact ⟨h.1.2,h.2.2⟩
theorem RE {cl:List Int} {t:Int} {a:Aj} (ht:t≤8) (ha:Ah a=true) (h:Bi cl 8 a=true):Bi cl t a=true:=by
 rw [Bi,Bool.and_eq_true,List.all_eq_true] at h;rw [Bi,Bool.and_eq_true,List.all_eq_true];obtain ⟨h1,h2⟩:=h;refine ⟨fun f hf=>?_,?_⟩
 · have:=h1 f hf
   obtain ⟨_,f2,_,f4⟩:=Ci ((AL ha).1 f hf);rw [GZ,if_pos ⟨f2,f4⟩] at this;rw [GZ];split
   · exact this
   · rfl
 · rw [B9] at h2 ⊢
   refine MP ?_ (fun z hz=>hz) h2;refine List.Sublist.map _ ?_;have:(a.2.filter (F5 cl t))=(a.2.filter (F5 cl 8)).filter (F5 cl t):=by
    rw [List.filter_filter];refine List.filter_congr fun x _=>?_;cases hx:F5 cl t x with
    | false=>rfl
    | true =>
      simp only [F5,Bool.and_eq_true,decide_eq_true_eq] at hx;rw [Bool.true_and,F5,decide_eq_true (show x.2.1≤8 by omega),decide_eq_true (show x.2.2≤8 by omega),hx.2.2];rfl
   rw [this];exact List.filter_sublist
theorem Ky {c1 c2:List Int} {t:Int} {a:Aj} (ha:Ah a=true) (h:∀ i:Nat,(i:Int)≤t→gi c1 i=gi c2 i):Bi c1 t a=Bi c2 t a:=by
 have hg:∀ z:Int,0≤z→z≤t→gi c1 z.toNat=gi c2 z.toNat:=fun z h0 hz=>h z.toNat Om;rw [Bi,Bi];congr 1
 · rw [Bool.eq_iff_iff,List.all_eq_true,List.all_eq_true]
   have key:∀ f ∈ a.1,GZ c1 t f=GZ c2 t f:=fun f hf=>by
    obtain ⟨f1,_,f3,_⟩:=Ci ((AL ha).1 f hf);rw [GZ,GZ];by_cases hc:f.2.1≤t∧f.2.2≤t
    · rw [if_pos hc,if_pos hc,B5,B5,hg _ f1 hc.1,hg _ f3 hc.2]
    · rw [if_neg hc,if_neg hc]
   exact ⟨fun h f hf=>by rw [← key f hf];exact h f hf,fun h f hf=>by rw [key f hf];exact h f hf⟩
 · rw [B9,B9]
   have key:∀ x ∈ a.2,F5 c1 t x=F5 c2 t x:=fun x hx=>by
    obtain ⟨x1,_,x3,_⟩:=BH ((AL ha).2 x hx);rw [F5,F5];by_cases h1:x.2.1≤t
    · by_cases h2:x.2.2≤t
      · rw [De,De,hg _ x1 h1,hg _ x3 h2]
      · rw [decide_eq_false h2,Bool.false_and,Bool.false_and]
    · rw [decide_eq_false h1,Bool.false_and,Bool.false_and]
   rw [List.filter_congr key];congr 1
   refine List.map_congr_left fun x hx=>?_;rw [List.mem_filter] at hx;have hx2:=hx.2;simp only [F5,Bool.and_eq_true,decide_eq_true_eq] at hx2;exact hg _ (BH ((AL ha).2 x hx.1)).1 hx2.1
theorem Tg {M:Nat} {a:Aj} {n:Nat} {p q:List Int} {t:Nat} (ha:Ah a=true) (hn:p.length+n=9) (ht:p.length=t+1) (hq:∀ i,i < p.length→gi q i=gi p i)
 (h:Bi q t a=false):Bq M a n p=[]:=by
 rw [Bq,List.filter_eq_nil_iff];intro cl hcl hp;rw [DK] at hcl;have h1:=RE (t:=t) Om ha hp;rw [Ky (c2:=q) ha fun i hi=>by rw [I3 hcl.2.1 Om,hq i (by omega)]] at h1;rw [h] at h1;cases h1
def Bh (cl:List Int) (m:Nat):List Am→Bool
 | []=>true
 | x :: r=>if x.1 ≠ 1∨gi cl x.2.1.toNat < 0 then Bh cl m r else if (gi cl x.2.1.toNat == 0 || AN m (gi cl x.2.1.toNat))=true then false else Bh cl (As m (gi cl x.2.1.toNat)) r
def CY (cl:List Int) (x:Am):Bool:=(x.1 == 1) && decide (0≤gi cl x.2.1.toNat)
theorem GK {cl:List Int}:∀ (l:List Am) (m:Nat),Bh cl m l=Te m ((l.filter (CY cl)).map fun x=>gi cl x.2.1.toNat)
 | [],_=>rfl
 | x :: l,m=>by
   rw [Bh,List.filter_cons];by_cases h:x.1 ≠ 1∨gi cl x.2.1.toNat < 0
   · have hc:CY cl x=false:=by
      rw [CY];rcases h with h | h
      · rw [beq_eq_false_iff_ne.2 h];rfl
      · rw [decide_eq_false (show ¬ 0≤gi cl x.2.1.toNat by omega),Bool.and_false]
     rw [if_pos h,hc];simp only [Bool.false_eq_true,if_false];exact GK l m
   · have hc:CY cl x=true:=by
      simp only [not_or,ne_eq,Decidable.not_not] at h;rw [CY,h.1,decide_eq_true (show 0≤gi cl x.2.1.toNat by omega)];rfl
     rw [if_neg h,hc];simp only [if_true,List.map_cons,Te];rw [GK l]
theorem RF {M:Nat} {a:Aj} {n:Nat} {p q:List Int} (ha:Ah a=true) (hq:∀ i,i < p.length→gi q i=gi p i) (hq2:∀ i,p.length≤i→i < 9→gi q i < 0)
 (h:(a.1.all (Bu q) && Bh q 0 a.2)=false):Bq M a n p=[]:=by
 rw [Bq,List.filter_eq_nil_iff];intro cl hcl hp;rw [DK] at hcl;have hg:∀ z:Int,0≤z→z≤8→0≤gi q z.toNat→gi q z.toNat=gi cl z.toNat:=fun z h0 h8 hz=>by
  by_cases hlt:z.toNat < p.length
  · rw [I3 hcl.2.1 hlt,hq _ hlt]
  · have:=hq2 z.toNat Om Om;omega
 rw [Bi,Bool.and_eq_true,List.all_eq_true] at hp;rw [Bool.and_eq_false_iff] at h;rcases h with h | h
 · rw [List.all_eq_false] at h
   obtain ⟨f,hf,hff⟩:=h;obtain ⟨f1,f2,f3,f4⟩:=Ci ((AL ha).1 f hf);have h1:=hp.1 f hf;rw [GZ,if_pos ⟨f2,f4⟩,B5] at h1;rw [Bool.not_eq_true,Bu] at hff;simp only [Bool.not_eq_false',Bool.and_eq_true,decide_eq_true_eq,bne_iff_ne] at hff;rw [hg _ f1 f2 hff.1,hg _ f3 f4 hff.2.1] at hff;rw [beq_iff_eq] at h1;exact hff.2.2 h1
 · rw [GK] at h
   have h1:=hp.2;rw [B9] at h1;refine absurd ?_ (by rw [h];decide:¬ Te 0 ((a.2.filter (CY q)).map fun x=>gi q x.2.1.toNat)=true);refine MP ?_ (fun z hz=>hz) h1;have e1:((a.2.filter (CY q)).map fun x=>gi q x.2.1.toNat)=(a.2.filter (CY q)).map fun x=>gi cl x.2.1.toNat:=by
    refine List.map_congr_left fun x hx=>?_;rw [List.mem_filter,CY,Bool.and_eq_true,decide_eq_true_eq] at hx;obtain ⟨x1,x2,_,_⟩:=BH ((AL ha).2 x hx.1);exact hg _ x1 x2 hx.2.2
   rw [e1];refine List.Sublist.map _ ?_;have e2:a.2.filter (CY q)=(a.2.filter (F5 cl 8)).filter (CY q):=by
    rw [List.filter_filter];refine List.filter_congr fun x hx=>?_;cases hc:CY q x with
    | false=>rfl
    | true =>
      obtain ⟨_,x2,_,x4⟩:=BH ((AL ha).2 x hx);rw [CY,Bool.and_eq_true] at hc;rw [Bool.true_and,F5,decide_eq_true x2,decide_eq_true x4,De,hc.1];rfl
   rw [e2];exact List.filter_sublist
def Gl (left:List Am) (m:Nat) (c:Int):Option Nat:=(List.range left.length).find? fun i=>((gd left i).2.1 == c) && !m.testBit i
theorem EE {left:List Am} {m i:Nat} {c:Int} (h:Gl left m c=some i):i < left.length∧(gd left i).2.1=c∧m.testBit i=false:=by
 have h1:=List.mem_of_find?_eq_some h;have h2:=List.find?_some h;simp only [Bool.and_eq_true,beq_iff_eq,Bool.not_eq_true'] at h2;exact ⟨List.mem_range.1 h1,h2.1,h2.2⟩
theorem LT {p:Nat→Bool} {n k:Nat} (hk:k < n) (h:∀ j,j < k→p j=false) (hp:p k=true):(List.range n).find? p=some k:=by
 rw [List.find?_range_eq_some];exact ⟨hp,List.mem_range.2 hk,fun j hj=>by rw [h j hj];rfl⟩
theorem NN {p:Nat→Bool} {n:Nat} (h:∀ j,j < n→p j=false):(List.range n).find? p=none:=by
 rw [List.find?_eq_none];intro j hj;rw [h j (List.mem_range.1 hj)];decide
def BO (left:List Am) (B:Int) (cl:Bool):Nat→Nat→Int→Option (Nat × List Int)
 | 0,_,_=>none
 | f+1,m,at_=>match Gl left m at_ with
   | none=>none
   | some i=>if (gd left i).2.2=B then some (m ||| 2 ^ i,[(i:Int)]) else
     if (gd left i).1=2∧cl=false then none else (BO left B cl f (m ||| 2 ^ i) (gd left i).2.2).map fun r=>(r.1,(i:Int) :: r.2)
def E0 (left:List Am) (m:Nat) (x:Am):Option (Nat × List Int) :=
 match Gl left m x.2.1 with
 | none=>none
 | some i=>if gd left i=x then some (m ||| 2 ^ i,[(i:Int)]) else none
def Kz (left:List Am) (m:Nat) (x:Am):Option (Nat × List Int) :=
 if x.1=1 then E0 left m x else BO left x.2.2 (EY left x.2.2) (left.length - Bf left.length m) m x.2.1
def Ca (left:List Am):List Am→Nat→Option (Nat × List (List Int))
 | [],m=>some (m,[])
 | x :: r,m=>match Kz left m x with
   | none=>none
   | some p=>(Ca left r p.1).map fun q=>(q.1,p.2 :: q.2)
def CJ (left right:List Am):Option (List (List Int)) :=
 match Ca left right 0 with
 | none=>none
 | some p=>if ((List.range left.length).all fun k=>p.1.testBit k)=true then some p.2 else none
def KA (a b:Aj) (cl:List Int):Option (List (List Int)):=if b.1.all (B5 cl)=true then CJ (Az cl a.2) (Az cl b.2) else none
def FZ (a b:Aj):Nat:=As (Ak a) 0 ||| Ak b
def EF (a b:Aj) (cl:List Int):Bool:=(KA a b cl).isNone
def Il (a b:Aj):Option (List Int):=(BU (FZ a b) a).find? (EF a b)
def Cp (a b:Aj):Bool:=Ah a && (Ah b && (Il a b).isNone)
def Cl (a:Aj):Bool:=Ah a && !(BU (As (Ak a) 0) a).isEmpty
theorem I7 {left:List Am}:∀ (r s:List Am) (m:Nat),Ca left (r ++ s) m=match Ca left r m with
  | none=>none
  | some p=>(Ca left s p.1).map fun q=>(q.1,p.2 ++ q.2)
 | [],s,m=>by
   simp only [List.nil_append,Ca];cases Ca left s m <;> rfl
 | x :: r,s,m=>by
   simp only [List.cons_append,Ca];cases Kz left m x with
   | none=>rfl
   | some p =>
     simp only [I7 r s p.1];cases Ca left r p.1 with
     | none=>rfl
     | some q =>
       simp only [Option.map_some];cases Ca left s q.1 <;> rfl
theorem KB {left right:List Am} {k m:Nat} {us:List (List Int)} (hk:k < right.length) (h:Ca left (right.take k) 0=some (m,us)) :
 Ca left (right.take (k+1)) 0=(Kz left m (gd right k)).map fun p=>(p.1,us ++ [p.2]):=by
 rw [AT hk,I7,h];simp only [Ca];cases Kz left m (gd right k) <;> rfl
theorem C6 {left right:List Am} {k:Nat} (h:Ca left (right.take k) 0=none):Ca left right 0=none:=by
 have:=I7 (left:=left) (right.take k) (right.drop k) 0;rw [List.take_append_drop,h] at this;exact this
theorem MQ {n m:Nat}:((List.range n).all fun k=>m.testBit k)=(Bf n m == n):=(Tb n m).symm
def NP (l:List Am):Prop:=(∀ y ∈ l,y.2.1 ≠ 0)∧l.Pairwise fun y z=>y.2.1 ≠ z.2.1
theorem GL (n m:Nat):Bf n m≤n:=by
 unfold Bf;exact Nat.le_trans (List.length_filter_le _ _) Sp
structure Shares (left right:List Am) (us:List (List Int)):Prop where
 len:us.length=right.length
 ok:∀ k,k < right.length→VW left (gd right k) (gd us k)=true
 nd:us.flatten.Nodup
 mem:∀ j:Int,j ∈ us.flatten ↔ 0≤j∧j < left.length
def Wt (l:List Am):Prop:=∀ y ∈ l,y.1=1∨y.1=2
def Fl (f:Int→Int) (x:Ap):Bool:=(f x.2.1 == f x.2.2) == x.1
def Dy (f:Int→Int) (l:List Am):List Am:=(l.filter fun x=>(x.1 == 1) || (f x.2.1 != f x.2.2)).map fun x=>(x.1,f x.2.1,f x.2.2)
def PF (cl:List Int) (t:Int):Int:=gi cl t.toNat
structure PossV (f:Int→Int) (a:Aj):Prop where
 facts:∀ x ∈ a.1,Fl f x=true
 apart:NP (Dy f a.2)
structure MatchV (f:Int→Int) (a b:Aj):Prop where
 facts:∀ x ∈ b.1,Fl f x=true
 shares:∃ us,Shares (Dy f a.2) (Dy f b.2) us
def Wu (φ:Int→Int) (x:Am):Am:=(x.1,φ x.2.1,φ x.2.2)
def Pat (M:Nat) (f g:Int→Int):Prop:=∀ t u,AN M t=true→AN M u=true→(f t=f u ↔ g t=g u)
theorem Pat.symm {M:Nat} {f g:Int→Int} (h:Pat M f g):Pat M g f:=fun t u ht hu=>(h t u ht hu).symm
structure Ren (P:Int→Prop) (φ:Int→Int):Prop where
 inj:∀ u v,P u→P v→φ u=φ v→u=v
 zero:P 0
 at0:φ 0=0
def WT (P:Int→Prop) (l:List Am):Prop:=∀ y ∈ l,P y.2.1∧P y.2.2
section
variable {P:Int→Prop} {φ:Int→Int} {left right:List Am}
theorem RG (h:Ren P φ) (hl:WT P left) (ha:NP left):NP (left.map (Wu φ)):=by
 refine ⟨fun y hy=>?_,?_⟩
 · obtain ⟨x,hx,rfl⟩:=List.mem_map.1 hy
   intro e;exact ha.1 x hx (h.inj _ _ (hl x hx).1 h.zero (by rw [h.at0];exact e))
 · rw [List.pairwise_map]
   refine List.Pairwise.imp_of_mem (fun {x y} hx hy hne e=>?_) ha.2;exact hne (h.inj _ _ (hl x hx).1 (hl y hy).1 e)
end
def Im (M:Nat) (l:List Am):Prop:=∀ x ∈ l,AN M x.2.1=true∧AN M x.2.2=true
def QY (M:Nat) (l:List Ap):Prop:=∀ x ∈ l,AN M x.2.1=true∧AN M x.2.2=true
def LU (M:Nat) (f g:Int→Int) (v:Int):Int:=match (List.range 9).find? (fun t=>M.testBit t && (f (t:Int) == v)) with | some t=>g (t:Int) | none=>0
section
variable {M:Nat} {f g:Int→Int}
theorem DX {t:Int}:AN M t=true ↔ 0≤t∧t≤8∧M.testBit t.toNat=true:=by
 rw [AN,Bool.and_eq_true,At];constructor
 · rintro ⟨⟨h1,h2⟩,h3⟩;exact ⟨h1,h2,h3⟩
 · rintro ⟨h1,h2,h3⟩;exact ⟨⟨h1,h2⟩,h3⟩
theorem KC (h:Pat M f g) {t:Int} (ht:AN M t=true):LU M f g (f t)=g t:=by
 obtain ⟨h0,h8,hb⟩:=DX.1 ht;rw [LU];cases hq:(List.range 9).find? (fun u=>M.testBit u && (f (u:Int) == f t)) with
 | none =>
   rw [List.find?_eq_none] at hq;have:=hq t.toNat (List.mem_range.2 Om);rw [hb,show ((t.toNat:Nat):Int)=t by omega] at this;simp at this
 | some u =>
   have h1:=List.mem_range.1 (List.mem_of_find?_eq_some hq);have h2:=List.find?_some hq;simp only [Bool.and_eq_true,beq_iff_eq] at h2;exact (h (u:Int) t (DX.2 ⟨by omega,by omega,by rw [Int.toNat_natCast];exact h2.1⟩) ht).1 h2.2
theorem UN (h:Pat M f g) (h0:AN M 0=true) (f0:f 0=0) (g0:g 0=0):Ren (fun v=>∃ t,AN M t=true∧f t=v) (LU M f g) where
 inj:=by
  rintro u v ⟨t,ht,rfl⟩ ⟨s,hs,rfl⟩ e;rw [KC h ht,KC h hs] at e;exact (h t s ht hs).2 e
 zero:=⟨0,h0,f0⟩
 at0:=by have:=KC h h0;rwa [f0,g0] at this
theorem Th {l:List Am} (hl:Im M l):WT (fun v=>∃ t,AN M t=true∧f t=v) (Dy f l):=fun y hy=>by
 obtain ⟨x,hx,rfl⟩:=List.mem_map.1 hy;have:=hl x (List.mem_filter.1 hx).1;exact ⟨⟨_,this.1,rfl⟩,⟨_,this.2,rfl⟩⟩
theorem Ti (h:Pat M f g) {l:List Am} (hl:Im M l):Dy g l=(Dy f l).map (Wu (LU M f g)):=by
 rw [Dy,Dy,List.map_map];have e:(l.filter fun x=>(x.1 == 1) || (g x.2.1 != g x.2.2))=l.filter fun x=>(x.1 == 1) || (f x.2.1 != f x.2.2):=by
  refine List.filter_congr fun x hx=>?_;congr 1
  have:=h _ _ (hl x hx).1 (hl x hx).2;rw [Bool.eq_iff_iff,bne_iff_ne,bne_iff_ne];exact (not_congr this).symm
 rw [e];refine List.map_congr_left fun x hx=>?_;have:=hl x (List.mem_filter.1 hx).1;show _=(x.1,LU M f g (f x.2.1),LU M f g (f x.2.2))
 rw [KC h this.1,KC h this.2]
theorem NQ (h:Pat M f g) {x:Ap} (hx:AN M x.2.1=true∧AN M x.2.2=true):Fl f x=Fl g x:=by
 rw [Fl,Fl];congr 1
 rw [Bool.eq_iff_iff,beq_iff_eq,beq_iff_eq];exact h _ _ hx.1 hx.2
theorem PossV.pat {a:Aj} (h:PossV f a) (hp:Pat M f g) (h0:AN M 0=true) (f0:f 0=0) (g0:g 0=0) (h1:QY M a.1) (h2:Im M a.2):PossV g a where
 facts x hx:=by rw [← NQ hp (h1 x hx)];exact h.facts x hx
 apart:=by rw [Ti hp h2];exact RG (UN hp h0 f0 g0) (Th h2) h.apart
end
def Gm (M:Nat) (f:Int→Int):List Int:=(List.range 9).map fun t=>if M.testBit t=true then (match (List.range 9).find? (fun k=>M.testBit k && (f (k:Int) == f (t:Int))) with | some k=>(k:Int) | none=>-1) else -1
theorem J2 {M:Nat} {f:Int→Int} {t:Nat} (ht:t < 9) (hb:M.testBit t=true):∃ k:Nat,gi (Gm M f) t=(k:Int)∧k≤t∧M.testBit k=true∧f (k:Int)=f (t:Int)∧∀ j,j < k→M.testBit j=true→¬ f (j:Int)=f (t:Int):=by
 have hg:gi (Gm M f) t=(match (List.range 9).find? (fun k=>M.testBit k && (f (k:Int) == f (t:Int))) with | some k=>(k:Int) | none=>-1):=by
  rw [G2 (by simp [Gm];exact ht)];simp only [Gm,List.getElem_map,List.getElem_range,if_pos hb]
 cases hq:(List.range 9).find? (fun k=>M.testBit k && (f (k:Int) == f (t:Int))) with
 | none =>
   rw [List.find?_eq_none] at hq;have:=hq t (List.mem_range.2 ht);rw [hb] at this;simp at this
 | some k =>
   rw [hq] at hg;rw [List.find?_range_eq_some] at hq;obtain ⟨h1,h2,h3⟩:=hq;simp only [Bool.and_eq_true,beq_iff_eq] at h1;refine ⟨k,hg,?_,h1.1,h1.2,fun j hj hjb e=>?_⟩
   · apply Nat.le_of_not_lt
     intro hlt;have:=h3 t hlt;rw [hb] at this;simp at this
   · have:=h3 j hj
     rw [hjb,e] at this;simp at this
theorem Tj {M:Nat} {f:Int→Int} {t:Nat} (ht:t < 9) (hb:M.testBit t=false):gi (Gm M f) t=-1:=by
 rw [G2 (by simp [Gm];exact ht)];simp [Gm,hb]
theorem PG (M:Nat) (f:Int→Int):C5 M (Gm M f)=true:=by
 rw [C5,Bool.and_eq_true,beq_iff_eq,List.all_eq_true];refine ⟨by simp [Gm],fun t ht=>?_⟩;have ht':=List.mem_range.1 ht;rw [Fi];cases hb:M.testBit t with
 | true =>
   obtain ⟨k,h1,h2,h3,h4,h5⟩:=J2 (f:=f) ht' hb;obtain ⟨k2,g1,g2,g3,g4,g5⟩:=J2 (f:=f) (t:=k) Om h3;rw [if_pos rfl,h1,Int.toNat_natCast,g1];simp only [Bool.and_eq_true,decide_eq_true_eq,beq_iff_eq];refine ⟨by omega,by omega,?_⟩;have:¬ k2 < k:=fun hlt=>h5 k2 hlt g3 (by rw [g4,h4]);omega
 | false =>
   rw [if_neg Dc,Tj ht' hb];rfl
theorem Tk (M:Nat) (f:Int→Int):Pat M (PF (Gm M f)) f:=fun t u ht hu=>by
 obtain ⟨t0,t8,tb⟩:=DX.1 ht;obtain ⟨u0,u8,ub⟩:=DX.1 hu;obtain ⟨k,h1,h2,h3,h4,h5⟩:=J2 (f:=f) (t:=t.toNat) Om tb;obtain ⟨k2,g1,g2,g3,g4,g5⟩:=J2 (f:=f) (t:=u.toNat) Om ub;rw [show ((t.toNat:Nat):Int)=t by omega] at h4 h5;rw [show ((u.toNat:Nat):Int)=u by omega] at g4 g5;rw [PF,PF,h1,g1];constructor
 · intro e
   (have:k=k2:=by omega);subst this;rw [← h4,← g4]
 · intro e
   have a1:¬ k2 < k:=fun hlt=>h5 k2 hlt g3 (by rw [g4,e]);have a2:¬ k < k2:=fun hlt=>g5 k hlt h3 (by rw [h4,e]);(have:k=k2:=by omega);rw [this]
theorem KD {M:Nat} {cl:List Int} (h:C5 M cl=true) (hb:M.testBit 0=true):PF cl 0=0:=by
 have:=Fk h (t:=0) Om hb;show gi cl 0=0
 omega
theorem NR {M:Nat} {a:Aj} {cl:List Int} (ha:Ah a=true) (hs:C5 M cl=true) (h2:Im M a.2):Bi cl 8 a=true ↔ PossV (PF cl) a:=by
 have hv:a.2.all AQ=true:=by simp only [Ah,Bool.and_eq_true] at ha;exact ha.2.2
 have hap:Bt cl 8 0 a.2=CG (Az cl a.2):=FL hv fun x hx=>by
  obtain ⟨x0,x8,xb⟩:=DX.1 (h2 x hx).1;have:=Fk hs (t:=x.2.1.toNat) Om xb;exact At.2 ⟨this.1,by omega⟩
 rw [Bi,Bool.and_eq_true,hap,Kx,List.all_eq_true];have key:∀ f ∈ a.1,GZ cl 8 f=Fl (PF cl) f:=fun f hf=>by
  obtain ⟨_,f2,_,f4⟩:=Ci ((AL ha).1 f hf);rw [GZ,if_pos ⟨f2,f4⟩];rfl
 constructor
 · rintro ⟨p1,p2⟩
   exact ⟨fun x hx=>by rw [← key x hx];exact p1 x hx,p2⟩
 · rintro ⟨p1,p2⟩
   exact ⟨fun x hx=>by rw [key x hx];exact p1 x hx,p2⟩
def PH (M:Nat) (a:Aj):Prop:=QY M a.1∧Im M a.2
theorem RH {M:Nat} {a:Aj} (ha:Ah a=true) (h:∀ j,(Ak a).testBit j=true→M.testBit j=true):PH M a:=by
 refine ⟨fun f hf=>?_,fun x hx=>?_⟩
 · obtain ⟨⟨p1,p2⟩,⟨q1,q2⟩⟩:=GJ ha hf
   rw [AN,AN,p1,q1,h _ p2,h _ q2];exact ⟨rfl,rfl⟩
 · obtain ⟨⟨p1,p2⟩,⟨q1,q2⟩⟩:=I1 ha hx
   rw [AN,AN,p1,q1,h _ p2,h _ q2];exact ⟨rfl,rfl⟩
theorem Dn (m j:Nat):(As m 0).testBit j=(m.testBit j || decide (j=0)):=by
 rw [AR];congr 1
 show (Al 0 && decide ((0:Int)=(j:Int)))=_
 rw [show Al 0=true from rfl,Bool.true_and,decide_eq_decide];omega
theorem Tl {M:Nat} (h:M.testBit 0=true):AN M 0=true:=by rw [DX];exact ⟨by decide,by decide,h⟩
theorem RI {M:Nat} {a:Aj} (ha:Ah a=true) (hc:PH M a) (hb:M.testBit 0=true) (Q:(Int→Int)→Prop) (hQ:∀ f g,f 0=0→g 0=0→Pat M f g→Q f→Q g) :
 (∀ cl ∈ BU M a,Q (PF cl)) ↔ ∀ f,f 0=0→PossV f a→Q f:=by
 constructor
 · intro h f f0 hp
   have hs:=PG M f;have c0:=KD hs hb;have hpat:=Tk M f;have:=h (Gm M f) (I4.2 ⟨hs,(NR ha hs hc.2).2 (hp.pat hpat.symm (Tl hb) f0 c0 hc.1 hc.2)⟩);exact hQ _ f c0 f0 hpat this
 · intro h cl hcl
   obtain ⟨hs,hp⟩:=I4.1 hcl;exact h _ (KD hs hb) ((NR ha hs hc.2).1 hp)
end Go.Proofs.YtkbbmjcfgcfejaaGreat
