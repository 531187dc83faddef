/- Walks: the first case of an assertion with more facts than a valid one has, and spec.Implies. (Printed by gen_skw.py.) -/
import Derived.Test.YtkbbmjcfgcfejaaGreatLImpA
set_option linter.unusedVariables false
set_option linter.unusedSimpArgs false
set_option maxRecDepth 100000
set_option maxHeartbeats 12800000
namespace Go.Proofs.YtkbbmjcfgcfejaaGreat
open Go.RowKit
def G1 (a:Aj):Bool:=a.1.all AH && (decide (a.2.length≤6) && a.2.all AQ)
theorem Iv {a:Aj} (h:G1 a=true):(a.1.all AH=true∧a.2.all AQ=true)∧a.2.length≤6:=by
 simp only [G1,Bool.and_eq_true,decide_eq_true_eq] at h;exact ⟨⟨h.1,h.2.2⟩,h.2.1⟩
theorem EO {a:Aj} (h:G1 a=true):(∀ f ∈ a.1,AH f=true)∧(∀ x ∈ a.2,AQ x=true):=by
 have:=Iv h;exact ⟨List.all_eq_true.1 this.1.1,List.all_eq_true.1 this.1.2⟩
theorem RS {a:Aj} {f:Ap} (ha:Ah a=true) (hf:AH f=true):G1 (B7 a f)=true:=by
 have h:=CK ha;simp only [G1,B7,Bool.and_eq_true,decide_eq_true_eq,List.all_append,List.all_cons,List.all_nil];exact ⟨⟨h.1.1,hf,trivial⟩,decide_eq_true h.2,h.1.2⟩
theorem P3 {a:Aj} (ha:G1 a=true) {f:Ap} (hf:f ∈ a.1):(Al f.2.1=true∧(Ak a).testBit f.2.1.toNat=true)∧(Al f.2.2=true∧(Ak a).testBit f.2.2.toNat=true):=by
 have h1:=(EO ha).1 f hf;simp only [AH,Bool.and_eq_true] at h1;refine ⟨⟨h1.1,?_⟩,⟨h1.2,?_⟩⟩
 · rw [Bn,Bool.or_eq_true];left;rw [List.any_eq_true];exact ⟨f,hf,by rw [DW h1.1];rfl⟩
 · rw [Bn,Bool.or_eq_true];left;rw [List.any_eq_true];exact ⟨f,hf,by rw [DW h1.2,Bool.or_true]⟩
theorem P4 {a:Aj} (ha:G1 a=true) {f:Am} (hf:f ∈ a.2):(Al f.2.1=true∧(Ak a).testBit f.2.1.toNat=true)∧(Al f.2.2=true∧(Ak a).testBit f.2.2.toNat=true):=by
 have h1:=(EO ha).2 f hf;simp only [AQ,Bool.and_eq_true] at h1;refine ⟨⟨h1.2.1,?_⟩,⟨h1.2.2,?_⟩⟩
 · rw [Bn,Bool.or_eq_true];right;rw [List.any_eq_true];exact ⟨f,hf,by rw [DW h1.2.1];rfl⟩
 · rw [Bn,Bool.or_eq_true];right;rw [List.any_eq_true];exact ⟨f,hf,by rw [DW h1.2.2,Bool.or_true]⟩
theorem RT {M:Nat} {a:Aj} {n:Nat} {p q:List Int} (ha:G1 a=true) (hq:∀ i,i < p.length→gi q i=gi p i) (hq2:∀ i,p.length≤i→i < 9→gi q i < 0)
 (h:(a.1.all (Bu q) && Bh q 0 a.2)=false):Bq M a n p=[]:=by
 rw [Bq,List.filter_eq_nil_iff];intro cl hcl hp;rw [DK] at hcl;have hg:∀ z:Int,0≤z→z≤8→0≤gi q z.toNat→gi q z.toNat=gi cl z.toNat:=fun z h0 h8 hz=>by
  by_cases hlt:z.toNat < p.length
  · rw [I3 hcl.2.1 hlt,hq _ hlt]
  · have:=hq2 z.toNat Om Om;omega
 rw [Bi,Bool.and_eq_true,List.all_eq_true] at hp;rw [Bool.and_eq_false_iff] at h;rcases h with h | h
 · rw [List.all_eq_false] at h
   obtain ⟨f,hf,hff⟩:=h;obtain ⟨f1,f2,f3,f4⟩:=Ci ((EO ha).1 f hf);have h1:=hp.1 f hf;rw [GZ,if_pos ⟨f2,f4⟩,B5] at h1;rw [Bool.not_eq_true,Bu] at hff;simp only [Bool.not_eq_false',Bool.and_eq_true,decide_eq_true_eq,bne_iff_ne] at hff;rw [hg _ f1 f2 hff.1,hg _ f3 f4 hff.2.1] at hff;rw [beq_iff_eq] at h1;exact hff.2.2 h1
 · rw [GK] at h
   have h1:=hp.2;rw [B9] at h1;refine absurd ?_ (by rw [h];decide:¬ Te 0 ((a.2.filter (CY q)).map fun x=>gi q x.2.1.toNat)=true);refine MP ?_ (fun z hz=>hz) h1;have e1:((a.2.filter (CY q)).map fun x=>gi q x.2.1.toNat)=(a.2.filter (CY q)).map fun x=>gi cl x.2.1.toNat:=by
    refine List.map_congr_left fun x hx=>?_;rw [List.mem_filter,CY,Bool.and_eq_true,decide_eq_true_eq] at hx;obtain ⟨x1,x2,_,_⟩:=BH ((EO ha).2 x hx.1);exact hg _ x1 x2 hx.2.2
   rw [e1];refine List.Sublist.map _ ?_;have e2:a.2.filter (CY q)=(a.2.filter (F5 cl 8)).filter (CY q):=by
    rw [List.filter_filter];refine List.filter_congr fun x hx=>?_;cases hc:CY q x with
    | false=>rfl
    | true =>
      obtain ⟨_,x2,_,x4⟩:=BH ((EO ha).2 x hx);rw [CY,Bool.and_eq_true] at hc;rw [Bool.true_and,F5,decide_eq_true x2,decide_eq_true x4,De,hc.1];rfl
   rw [e2];exact List.filter_sublist
section
variable {M:Nat} {p q:List Int} {t:Nat} {a:Aj}
theorem ClsP.cutW (h:ClsP M p q t) {n:Nat} (ha:G1 a=true) (hf:(a.1.all (Bu q) && Bh q 0 a.2)=false):Bq M a n p=[] :=
 RT ha (fun i hi=>h.ag i (by rw [← h.hp];exact hi)) (fun i h1 h2=>by rw [h.neg i (by rw [← h.hp];exact h1) h2];decide) hf
theorem RU (ha:G1 a=true) (hs:C5 M q=true) (hcov:∀ j,(Ak a).testBit j=true→M.testBit j=true):Bi q 8 a=(a.1.all (Bu q) && CG (Az q a.2)):=by
 have hcl:∀ t:Int,Al t=true→(Ak a).testBit t.toNat=true→0≤gi q t.toNat∧gi q t.toNat≤8:=fun t ht hb=>by
  have h8:=At.1 ht;have:=Fk hs (t:=t.toNat) Om (hcov _ hb);omega
 unfold Bi;congr 1
 · rw [Bool.eq_iff_iff,List.all_eq_true,List.all_eq_true]
   have key:∀ f ∈ a.1,GZ q 8 f=Bu q f:=fun f hf=>by
    obtain ⟨⟨p1,p2⟩,⟨q1,q2⟩⟩:=P3 ha hf;have e1:=At.1 p1;have e2:=At.1 q1;have c1:=hcl _ p1 p2;have c2:=hcl _ q1 q2;rw [GZ,if_pos ⟨e1.2,e2.2⟩,Bu,decide_eq_true c1.1,decide_eq_true c2.1,B5];cases gi q f.2.1.toNat == gi q f.2.2.toNat <;> cases f.1 <;> rfl
   exact ⟨fun h f hf=>by rw [← key f hf];exact h f hf,fun h f hf=>by rw [key f hf];exact h f hf⟩
 · rw [FL (Iv ha).1.2 fun x hx=>?_]
   obtain ⟨⟨p1,p2⟩,_⟩:=P4 ha hx;exact At.2 (hcl _ p1 p2)
theorem ClsP.finW (h:ClsP M p q 9) (ha:G1 a=true) (hcov:∀ j,(Ak a).testBit j=true→M.testBit j=true) (hf:a.1.all (Bu q)=true):Bq M a 0 p=if CG (Az q a.2)=true then [q] else []:=by
 have e:=KS h.hq h.hp (fun i hi=>h.ag i (by rw [← h.hp];exact hi));subst e;rw [I6,RU ha h.shape hcov,hf,Bool.true_and]
end
theorem Oe {M:Nat} {a:Aj} (ha:G1 a=true) (hcov:∀ j,(Ak a).testBit j=true→M.testBit j=true):Gx M a 0:=by
 intro S1 S2 v1 v2 cv Mf g fc t ti p q r w h1 h2 hbw hc hbit hti ht1 htn hP hr;obtain ⟨xa1,xc1,rfl⟩:=h1.form;obtain ⟨xa2,xc2,rfl⟩:=h2.form;obtain ⟨ca,cc,rfl⟩:=hc.form;have fa:=Iv ha;have FA:=Ad fa;have H8:=Ad hP.le8;have HP:=Ad hP;have HQ9:=Ad hP.hq;have hl2:a.2.length≤1048576:=by have:=fa.2;omega
 have c0:(w.alloc (.cells #[.slice xa1 a.1.length xc1,.slice xa2 a.2.length xc2] 26)).cell? ⟨w.heap.size,0,none⟩=some (.slice xa1 a.1.length xc1):=by simp [go_sem]
 have c1:(w.alloc (.cells #[.slice xa1 a.1.length xc1,.slice xa2 a.2.length xc2] 26)).cell? ⟨w.heap.size,1,none⟩=some (.slice xa2 a.2.length xc2):=by simp [go_sem]
 have hW:Below w.heap.size w (w.alloc (.cells #[.slice xa1 a.1.length xc1,.slice xa2 a.2.length xc2] 26)):=Bl;have HX:=Ad (An (An c0 c1) (An hW trivial));have hg:=hbw.lt;obtain ⟨f1,hf1⟩:∃ x,a.1.all (Bu q)=x:=⟨_,rfl⟩;obtain ⟨f2,hf2⟩:∃ x,Bh q 0 a.2=x:=⟨_,rfl⟩;have HF1:=Ad hf1;have HF2:=Ad hf2;have HR:=Ad hr;clear c0 c1 hW fa hf1 hf2 hr hP;obtain rfl:ti=(t:Int):=hti;have hcw:=Ad hc;have HBW:=Ad hbw;have HTN:=Ad htn;have HBIT:=Ad hbit;clear hc hbw htn hbit;obtain rfl:t=9:=by have:=HTN.o;omega
 have HNo:=Ad (show (f1 && f2)=false→r=none by
  intro hf;rw [← HR.o,HP.o.cutW ha (by rw [HF1.o,HF2.o];exact hf)];rfl)
 go_enter Tryz.func224,Tryz.ntmps224
 go_wp2_with fail
 generalize (w.alloc (.cells #[.slice xa1 a.1.length xc1,.slice xa2 a.2.length xc2] 26))=w0 at HX ⊢;have c0:=HX.o.1.1;have c1:=HX.o.1.2;have hW:=HX.o.2.1;refine (cb (CH _ _ a.1 q _ (h1.keep hW) (hcw.out.keep hW) FA.o.1.1 HQ9.o) HF1.o).mono ?_;rintro e w1 ⟨rfl,hb⟩;replace c0:=Ab hb c0;replace c1:=Ab hb c1;replace hW:=bt hW hb;clear hb;cases f1 with
 | false =>
   have HN:=Ad (HNo.o rfl);go_wp2;go_returns;exact ⟨_,by rw [HN.o];rfl,fun cl e=>(by rw [HN.o] at e;cases e),bt hW Bl⟩
 | true =>
   (go_wp2_with fail);refine (cb (Dh _ _ a.2 q _ (h2.keep hW) (hcw.out.keep hW) FA.o.1.2 HQ9.o H8.o) HF2.o).mono ?_;rintro e w2 ⟨rfl,hb⟩;replace c0:=Ab hb c0;replace c1:=Ab hb c1;replace hW:=bt hW hb;clear hb;cases f2 with
   | false =>
     have HN:=Ad (HNo.o rfl);go_wp2;go_returns;exact ⟨_,by rw [HN.o];rfl,fun cl e=>(by rw [HN.o] at e;cases e),bt hW Bl⟩
   | true =>
     obtain ⟨ap,hap⟩:∃ x,CG (Az q a.2)=x:=⟨_,rfl⟩;have hfin:=HP.o.finW ha hcov HF1.o;rw [hap] at hfin;have HAP:=Ad hap;have HFIN:=Ad hfin;clear hap hfin;(go_wp2_with fail);refine (DV _ _ q a.2 _ (hcw.out.keep hW) HQ9.o (h2.keep hW) FA.o.1.2 hl2).mono ?_;rintro e w3 ⟨vL,rfl,hL,hb⟩;have hLr:=hL.rl;obtain ⟨la,lc,rfl⟩:=hLr.form;replace c0:=Ab hb c0;replace c1:=Ab hb c1;replace hW:=bt hW hb;clear hb hL;(go_wp2_with fail);refine (cb (Gj _ (Az q a.2) _ hLr) HAP.o).mono ?_;rintro e w4 ⟨rfl,hb⟩;replace c0:=Ab hb c0;replace c1:=Ab hb c1;replace hW:=bt hW hb;clear hb hLr;cases ap with
     | false =>
       have HN:=Ad (show r=none by rw [← HR.o,HFIN.o];rfl);go_wp2;go_returns;exact ⟨_,by rw [HN.o];rfl,fun cl e=>(by rw [HN.o] at e;cases e),bt hW Bl⟩
     | true =>
       have HN:=Ad (show r=some q by rw [← HR.o,HFIN.o];rfl);go_wp2_with (at_builtin;go_must (refine Er rfl _ _ rfl rfl rfl (hcw.out.keep hW) (by rw [HQ9.o];decide) (by rw [HQ9.o];decide) ?_;intro g9 c9 w9 E4 hb9))
       go_returns;exact ⟨_,by rw [HN.o];rfl,fun cl e=>(by rw [HN.o] at e;injection e with e;subst e;exact BK E4 hW.size),bt hW hb9⟩
theorem Of {M:Nat} {a:Aj} (ha:G1 a=true) {n:Nat} (ih:Gx M a n):Gx M a (n+1):=by
 intro S1 S2 v1 v2 cv Mf g fc t ti p q r w h1 h2 hbw hc hbit hti ht1 htn hP hr;obtain ⟨xa1,xc1,rfl⟩:=h1.form;obtain ⟨xa2,xc2,rfl⟩:=h2.form;obtain ⟨ca,cc,rfl⟩:=hc.form;have fa:=Iv ha;have FA:=Ad fa;have H8:=Ad hP.le8;have HP:=Ad hP;have HQ9:=Ad hP.hq;have hl2:a.2.length≤1048576:=by have:=fa.2;omega
 have c0:(w.alloc (.cells #[.slice xa1 a.1.length xc1,.slice xa2 a.2.length xc2] 26)).cell? ⟨w.heap.size,0,none⟩=some (.slice xa1 a.1.length xc1):=by simp [go_sem]
 have c1:(w.alloc (.cells #[.slice xa1 a.1.length xc1,.slice xa2 a.2.length xc2] 26)).cell? ⟨w.heap.size,1,none⟩=some (.slice xa2 a.2.length xc2):=by simp [go_sem]
 have hW:Below w.heap.size w (w.alloc (.cells #[.slice xa1 a.1.length xc1,.slice xa2 a.2.length xc2] 26)):=Bl;have HX:=Ad (An (An c0 c1) (An hW trivial));have hg:=hbw.lt;obtain ⟨f1,hf1⟩:∃ x,a.1.all (Bu q)=x:=⟨_,rfl⟩;obtain ⟨f2,hf2⟩:∃ x,Bh q 0 a.2=x:=⟨_,rfl⟩;have HF1:=Ad hf1;have HF2:=Ad hf2;have HR:=Ad hr;clear c0 c1 hW fa hf1 hf2 hr hP;obtain rfl:ti=(t:Int):=hti;have hcw:=Ad hc;have HBW:=Ad hbw;have HTN:=Ad htn;have HBIT:=Ad hbit;clear hc hbw htn hbit;have ht8:(t:Int)≤8:=by have:=HTN.o;omega
 have ht9:t < 9:=by omega
 have htq:(t:Int) < 9:=by omega
 have HNo:=Ad (show (f1 && f2)=false→r=none by
  intro hf;rw [← HR.o,HP.o.cutW ha (by rw [HF1.o,HF2.o];exact hf)];rfl)
 go_enter Tryz.func224,Tryz.ntmps224
 go_wp2_with fail
 generalize (w.alloc (.cells #[.slice xa1 a.1.length xc1,.slice xa2 a.2.length xc2] 26))=w0 at HX ⊢;have c0:=HX.o.1.1;have c1:=HX.o.1.2;have hW:=HX.o.2.1;refine (cb (CH _ _ a.1 q _ (h1.keep hW) (hcw.out.keep hW) FA.o.1.1 HQ9.o) HF1.o).mono ?_;rintro e w1 ⟨rfl,hb⟩;replace c0:=Ab hb c0;replace c1:=Ab hb c1;replace hW:=bt hW hb;clear hb;cases f1 with
 | false =>
   have HN:=Ad (HNo.o rfl);go_wp2;go_returns;exact ⟨_,by rw [HN.o];rfl,fun cl e=>(by rw [HN.o] at e;cases e),bt hW Bl⟩
 | true =>
   (go_wp2_with fail);refine (cb (Dh _ _ a.2 q _ (h2.keep hW) (hcw.out.keep hW) FA.o.1.2 HQ9.o H8.o) HF2.o).mono ?_;rintro e w2 ⟨rfl,hb⟩;replace c0:=Ab hb c0;replace c1:=Ab hb c1;replace hW:=bt hW hb;clear hb;cases f2 with
   | false =>
     have HN:=Ad (HNo.o rfl);go_wp2;go_returns;exact ⟨_,by rw [HN.o];rfl,fun cl e=>(by rw [HN.o] at e;cases e),bt hW Bl⟩
   | true =>
     have hbw:=HBW.o.keep hW;have hfl:=hbw.cell t Om;have hMt:=HBIT.o t ht1;cases hbt:Mf.testBit t with
     | false =>
       rw [hbt] at hfl hMt;have HMT:=Ad hMt;have hre:=It (M:=M) (a:=a) (n:=n) (p:=p) (by rw [HP.o.hp];exact hMt);have hih:=ih _ _ _ Mf g fc (t+1) ((t:Int)+1) (p ++ [-1]) q r w2 (h1.keep hW) (h2.keep hW) hbw (hcw.out.keep hW) HBIT.o Om Om (by have:=HTN.o;omega) (HP.o.skip ht9 hMt) (by rw [← hre];exact HR.o);have HIH:=Ad hih;clear hbt hMt hre hih hbw;(go_wp2_with fail);refine HIH.o.mono ?_;rintro e w5 ⟨v5,rfl,ho5,hb5⟩;go_wp2;go_returns;exact ⟨_,rfl,fun cl e=>BK (ho5 cl e) hW.size,bt hW hb5⟩
     | true =>
       rw [hbt] at hfl hMt;have HMT:=Ad hMt;have HW2:=Ad (An (An c0 c1) (An hW trivial));clear hbt hMt hbw;go_wp2;go_loopg [10] (t+1) (fun gq i wr=>∃ k:Nat,k+gq=t+1∧i=.int .i64 k∧(Bo M a n p k).find? (fun _=>true)=none∧(wr.cell? ⟨w.heap.size,0,none⟩=some (.slice xa1 a.1.length xc1)∧wr.cell? ⟨w.heap.size,1,none⟩=some (.slice xa2 a.2.length xc2))∧Below w.heap.size w wr)
       case atStart=>exact ⟨0,by omega,rfl,rfl,HW2.o.1,HW2.o.2.1⟩
       case round =>
        clear c0 c1 hW hfl;obtain ⟨k,hk,rfl,hno,⟨c0,c1⟩,hW⟩:=hrel;have HK:=Ad hk;have HNONE:=Ad hno;clear hk hno;obtain ⟨gb,go_,gc,hfe,_,_,hcell⟩:=(hcw.out.keep hW).ne (by rw [HQ9.o];decide);simp only [Value.slice.injEq] at hfe;obtain ⟨rfl,hh,rfl⟩:=hfe;clear hh;by_cases hk8:k≤t
        · have hki:(k:Int)≤(t:Int):=by omega
          (have hk9:(k:Int) < (q.length:Int):=by rw [HQ9.o];omega);have hcl:=hcell k (by rw [HQ9.o];omega);have hzb:gb < wr.heap.size:=World.block_lt_of_cell? wr _ hcl;obtain ⟨E,hE⟩:=Ex (gi q k);rw [hE] at hcl;clear hcell;by_cases hne:k < t∧¬ E=(k:Int)
          · have hlt:(k:Int) < (t:Int):=by omega
            (have heb:(E != (k:Int))=true:=by simp [hne.2]);have HN:=Ad (show (Bo M a n p (k+1)).find? (fun _=>true)=none by
             rw [Fn (by
              rw [Bool.or_eq_false_iff,beq_eq_false_iff_ne,beq_eq_false_iff_ne,HP.o.hp];exact ⟨by omega,by rw [← HP.o.ag k hne.1,hE];exact hne.2⟩)]
             exact HNONE.o)
            clear hE hne;go_wp2;go_roundg (gk - 1)
            case rel=>exact ⟨k+1,by have:=HK.o;omega,by go_num,HN.o,⟨c0,c1⟩,hW⟩
            case measure=>have:=HK.o;omega
          have hyes:(k < t∧gi q k=(k:Int))∨k=t:=by
           by_cases e:k=t
           · exact .inr e
           · exact .inl ⟨by omega,by rw [hE];exact Decidable.byContradiction fun h=>hne ⟨by omega,h⟩⟩
          have hst:=EM (M:=M) (a:=a) (n:=n) (p:=p) (k:=k) (by
           rw [Bool.or_eq_true,beq_iff_eq,beq_iff_eq,HP.o.hp];rcases hyes with ⟨h1,h2⟩ | h
           · exact .inr (by rw [← HP.o.ag k h1];exact h2)
           · exact .inl h)
          have HST:=Ad hst;have HPN:=Ad (HP.o.next ht9 HMT.o hyes);obtain ⟨rk,hrk⟩:∃ x,(Bq M a n (p ++ [(k:Int)])).find? (fun _=>true)=x:=⟨_,rfl⟩;have HRK:=Ad hrk;have hcase:(E=(k:Int)∧(k:Int) < (t:Int))∨¬ (k:Int) < (t:Int):=by
           rcases hyes with ⟨h1,h2⟩ | h
           · exact .inl ⟨by rw [← hE];exact h2,by omega⟩
           · right;omega
          clear hst hyes hne hE hrk;have HRN:=Ad (show rk=none→(Bo M a n p (k+1)).find? (fun _=>true)=none by
           intro e;subst e;rw [HST.o];exact E7 HNONE.o HRK.o)
          have HRS:=Ad (show ∀ cl,rk=some cl→r=some cl by
           intro cl e;subst e;rw [← HR.o];have hto:=GN (M:=M) (a:=a) (n:=n) (p:=p) (k:=k+1) (by rw [HP.o.hp];exact HMT.o) (by rw [HP.o.hp];omega);rw [HST.o] at hto;exact KV hto HNONE.o HRK.o)
          have hzw:w.heap.size < wr.heap.size:=World.block_lt_of_cell? wr _ c0;rcases hcase with ⟨rfl,hlt⟩ | hlt
          all_goals
           go_wp2_with (at_builtin;go_must (refine Er rfl _ _ rfl rfl rfl (hcw.out.keep hW) (by rw [HQ9.o];decide) (by rw [HQ9.o];decide) ?_;intro g9 c9 w9 E4 hb9;have HO9:=Ad E4;obtain ⟨hcold,hfz⟩:=Kf E4 t (by rw [HQ9.o];omega);have hq9:(t:Int) < (q.length:Int):=(by rw [HQ9.o];omega);have hg9:wr.heap.size≤g9:=(AD E4 rfl).1;replace c0:=AC (r:=⟨g9,t,none⟩) (u:=.int .i64 (k:Int)) (Ab hb9 c0) (show ¬ w.heap.size=g9 by omega);replace c1:=AC (r:=⟨g9,t,none⟩) (u:=.int .i64 (k:Int)) (Ab hb9 c1) (show ¬ w.heap.size=g9 by omega);have hW9:=Ad (bt hW (hb9.setCell (show wr.heap.size≤(⟨g9,t,none⟩:Addr).block from hg9) (.int .i64 (k:Int))));clear E4 hb9))
           refine (ih _ _ _ Mf g fc (t+1) ((t:Int)+1) (p ++ [(k:Int)]) (q.set t (k:Int)) rk _ (h1.keep hW9.out) (h2.keep hW9.out) (HBW.o.keep hW9.out) (CV (MD HO9.o t (k:Int))).1 HBIT.o Om Om (by have:=HTN.o;omega) HPN.o HRK.o).mono ?_;rintro e w5 ⟨v5,rfl,ho5,hb5⟩;replace c0:=Ab hb5 c0;replace c1:=Ab hb5 c1;replace hW:=bt hW9.out hb5;cases rk with
           | none =>
             have HN:=Ad (HRN.o rfl);clear hb5 ho5;go_wp2;go_roundg (gk - 1)
             case rel=>exact ⟨k+1,by have:=HK.o;omega,by go_num,HN.o,⟨c0,c1⟩,hW⟩
             case measure=>have:=HK.o;omega
           | some cl =>
             have HN:=Ad (HRS.o cl rfl);go_wp2;go_returns;exact ⟨_,by rw [HN.o];rfl,fun cl' e=>(by rw [HN.o] at e;injection e with e;subst e;exact BK (ho5 _ rfl) hW9.out.size),hW⟩
        · obtain rfl:k=t+1:=by have:=HK.o;omega
          (have hki:¬ ((t+1:Nat):Int)≤(t:Int):=by omega);have hall:=EN (M:=M) (a:=a) (n:=n) (p:=p) (by rw [HP.o.hp];exact HMT.o);rw [HP.o.hp] at hall;have HN:=Ad (show r=none by rw [← HR.o,← hall];exact HNONE.o);clear hall hcell;go_wp2;go_returns;exact ⟨_,by rw [HN.o];rfl,fun cl e=>(by rw [HN.o] at e;cases e),bt hW Bl⟩
theorem KX {M:Nat} {a:Aj} (ha:G1 a=true) (hcov:∀ j,(Ak a).testBit j=true→M.testBit j=true):∀ n,Gx M a n
 | 0=>Oe ha hcov
 | n+1=>Of ha (KX ha hcov n)
theorem P5 {M:Nat} {a:Aj} {f:Ap} (hf:AH f=true):BU M (B7 a (nF f))=(BU M a).filter fun cl=>!B5 cl f:=by
 rw [BU,BU,Bq,Bq,List.filter_filter];refine List.filter_congr fun cl _=>?_;obtain ⟨f1,f2,f3,f4⟩:=Ci hf;have e:GZ cl 8 (nF f)=!B5 cl f:=by
  rw [GZ,if_pos (show (nF f).2.1≤8∧(nF f).2.2≤8 from ⟨f2,f4⟩),B5,B5];show ((gi cl f.2.1.toNat == gi cl f.2.2.toNat) == !f.1)=!((gi cl f.2.1.toNat == gi cl f.2.2.toNat) == f.1)
  cases (gi cl f.2.1.toNat == gi cl f.2.2.toNat) <;> cases f.1 <;> rfl
 rw [Bi,Bi];show ((a.1 ++ [nF f]).all _ && Bt cl 8 0 a.2)=_
 rw [List.all_append,List.all_cons,List.all_nil,Bool.and_true,e];cases a.1.all (GZ cl 8) <;> cases B5 cl f <;> cases Bt cl 8 0 a.2 <;> rfl
theorem Ly {a:Aj} {f:Ap} (ha:Ah a=true) (hf:AH f=true):D4 a f=!(C8 (Eb a f) (B7 a (nF f))).isSome:=by
 rw [D4,ha,hf,Bool.true_and,Bool.true_and,C8,P5 hf];generalize BU (Eb a f) a=l;induction l with
 | nil=>rfl
 | cons x l ih =>
   rw [List.all_cons,List.filter_cons];cases B5 x f
   · rfl
   · exact ih
theorem Tz (a:Aj) {f:Ap} {i2 i3:Nat} (h2:f.2.1=(i2:Int)) (h3:f.2.2=(i3:Int)) (u2:i2≤8) (u3:i3≤8) {j:Nat} (hj:1≤j):(Eb a f).testBit j=((Ak a ||| 2 ^ i2) ||| 2 ^ i3).testBit j:=by
 have k2:Al f.2.1=true:=At.2 Om;have k3:Al f.2.2=true:=At.2 Om;rw [Eb,Nat.testBit_or,MT hj];simp only [Nat.testBit_or,AR,k2,k3,h2,h3,Nat.zero_testBit,Bk,Bool.true_and,Bool.false_or];rw [Bool.or_assoc,Nat.testBit_two_pow,Nat.testBit_two_pow];rw [h2] at k2;rw [h3] at k3;rw [k2,k3,Bool.true_and,Bool.true_and];congr 1
 congr 1
 · exact decide_eq_decide.2 Om
 · exact decide_eq_decide.2 Om
theorem RV {a:Aj} (h:Ah a=true):a.1.length≤12∧a.2.length≤6:=by
 simp only [Ah,Bv,Bool.and_eq_true,decide_eq_true_eq] at h;exact ⟨h.1.1,h.2.1⟩
theorem TA {a:Aj} {f:Ap} {j:Nat} (h:(Ak (B7 a (nF f))).testBit j=true):(Eb a f).testBit j=true:=by
 rw [Bn] at h;rw [Eb,Nat.testBit_or,Dn,AR,AR,Nat.zero_testBit,Bn,← CP,← CP];simp only [B7,List.any_append,List.any_cons,List.any_nil,Bool.or_false] at h;have h':((a.1.any fun f=>CP f.2.1 j || CP f.2.2 j) || (CP f.2.1 j || CP f.2.2 j) || a.2.any fun f=>CP f.2.1 j || CP f.2.2 j)=true:=h;rw [Bool.or_eq_true,Bool.or_eq_true] at h';rcases h' with (h' | h') | h'
 · rw [h'];rfl
 · rw [Bool.false_or,h',Bool.or_true]
 · rw [h',Bool.or_true];rfl
theorem TB (a:Aj) (f:Ap):(Eb a f).testBit 0=true:=by rw [Eb,Nat.testBit_or,Dn];simp
theorem MV {S1 S2:Nat→Prop} (v1 v2 cv:Value) (M Mf g tcap B2:Nat) (a:Aj) (r:Option (List Int)) (w:World) (h1:RL w S1 v1 a.1) (h2:RL w S2 v2 a.2) (ht:BW w g 9 Mf) (hc:w.ownsRow B2 3 1 cv 9 (ints (Dz 8))) (ha:G1 a=true)
 (hcov:∀ j,(Ak a).testBit j=true→M.testBit j=true) (h0:M.testBit 0=true) (hbit:∀ j,1≤j→M.testBit j=Mf.testBit j) (hr:C8 M a=r) :
 Calls Tryz.prog 224 #[.agg #[v1,v2],.slice (some ⟨g,0,none⟩) 9 tcap,cv,.int .i64 1] w fun e w'=>∃ v',e=.returned (.tuple #[v',.bool r.isSome])∧(∀ cl,r=some cl→w'.ownsRow w.heap.size 3 1 v' cl.length (ints cl))∧Below w.heap.size w w':=by
 refine KX ha hcov 8 v1 v2 cv Mf g tcap 1 1 [0] (Dz 8) r w h1 h2 ht (CV hc).1 hbit rfl Om Om (KW h0) ?_;rw [← hr,C8,Hk h0];cases Bq M a 8 [0] <;> rfl
theorem MW {S1 S2:Nat→Prop} (v1 v2:Value) (a:Aj) (f:Ap) (w:World) (h1:RL w S1 v1 a.1) (h2:RL w S2 v2 a.2) :
 Calls Tryz.prog 316 #[.agg #[v1,v2],.agg #[.bool f.1,.int .i64 f.2.1,.int .i64 f.2.2]] w fun e w'=>e=.returned (.bool (D4 a f))∧Below w.heap.size w w':=by
 obtain ⟨fb,fx,fy⟩:=f;dsimp only
 obtain ⟨xa1,xc1,rfl⟩:=h1.form;obtain ⟨xa2,xc2,rfl⟩:=h2.form;obtain ⟨w0,hw0⟩:=Ey ((w.alloc (.cells #[.slice xa1 a.1.length xc1,.slice xa2 a.2.length xc2] 26)).alloc (.cells #[.bool fb,.int .i64 fx,.int .i64 fy] 61));have hA:w0.heap[w.heap.size]?=some (.cells #[.slice xa1 a.1.length xc1,.slice xa2 a.2.length xc2] 26 (0,0)):=by rw [hw0];exact Ac (heap_alloc_new w _) (Aa _ _)
 have hF:w0.heap[w.heap.size+1]?=some (.cells #[.bool fb,.int .i64 fx,.int .i64 fy] 61 (0,0)):=by
  rw [hw0];have:=heap_alloc_new (w.alloc (.cells #[.slice xa1 a.1.length xc1,.slice xa2 a.2.length xc2] 26)) (.cells #[.bool fb,.int .i64 fx,.int .i64 fy] 61);rw [World.size_alloc] at this;exact this
 have hb0:Below w.heap.size w w0:=by rw [hw0];exact ba (Aa _ _) _
 have HW0:=Ad hw0;have H0:=Ad (An (An hA hF) (An hb0 (An ((h1.more (S':=fun k=>k < w.heap.size) fun k hk _=>hk).keep hb0) ((h2.more (S':=fun k=>k < w.heap.size) fun k hk _=>hk).keep hb0))));obtain ⟨a0,a1,al⟩:=B3 hA;have f0:=cr 0 hF;have f1:=cr 1 hF;have f2:=cr 2 hF;have fl:=Ae hF;clear hA hF hb0 hw0 h1 h2;cases ha:Ah a with
 | false =>
   have HV:=Ad ha;have HR:=Ad (show D4 a (fb,fx,fy)=false by rw [D4,ha];rfl);clear ha;go_enter Tryz.func316,Tryz.ntmps316
   (go_upto_region 1 with fail);rw [← HW0.o];(go_wp2_with fail);refine (cb (Ar _ _ a _ H0.o.2.2.1 H0.o.2.2.2) HV.o).mono ?_;rintro e w1 ⟨rfl,hb⟩;go_wp2;go_returns;exact ⟨by rw [HR.o];rfl,bt H0.o.2.1 hb⟩
 | true =>
   cases hf:AH (fb,fx,fy) with
   | false =>
     have HV:=Ad (An ha hf);have HR:=Ad (show D4 a (fb,fx,fy)=false by rw [D4,ha,hf];rfl);clear ha hf;go_enter Tryz.func316,Tryz.ntmps316
     (go_upto_region 1 with fail);rw [← HW0.o];(go_wp2_with fail);refine (cb (Ar _ _ a _ H0.o.2.2.1 H0.o.2.2.2) HV.o.1).mono ?_;rintro e w1 ⟨rfl,hb⟩;have hW:=bt H0.o.2.1 hb;replace f0:=Ab hb f0;replace f1:=Ab hb f1;replace f2:=Ab hb f2;clear hb;(go_wp2_with fail);refine (cb (Ch (fb,fx,fy) _) HV.o.2).mono ?_;rintro e w2 ⟨rfl,hb2⟩;go_wp2;go_returns;exact ⟨by rw [HR.o];rfl,bt hW hb2⟩
   | true =>
     obtain ⟨g1,g2,g3,g4⟩:=Ci hf;obtain ⟨i2,rfl⟩:=Int.eq_ofNat_of_zero_le g1;obtain ⟨i3,rfl⟩:=Int.eq_ofNat_of_zero_le g3;simp only at g2 g4;(have u2:i2≤8:=by omega);(have u3:i3≤8:=by omega);obtain ⟨r,hr⟩:=Ex (C8 (Eb a (fb,(i2:Int),(i3:Int))) (B7 a (nF (fb,(i2:Int),(i3:Int)))));have HV:=Ad (An ha hf);have HR:=Ad (show D4 a (fb,(i2:Int),(i3:Int))=!r.isSome by rw [Ly ha hf,hr]);have HF:=Ad (show C8 (Eb a (fb,(i2:Int),(i3:Int))) (a.1 ++ [nF (fb,(i2:Int),(i3:Int))],a.2)=r from hr);have HFA:=Ad (CK ha);have HB:=Ad (fun (j:Nat) (hj:1≤j)=>Tz a (f:=(fb,(i2:Int),(i3:Int))) rfl rfl u2 u3 hj);have HU:=Ad (show G1 (a.1 ++ [nF (fb,(i2:Int),(i3:Int))],a.2)=true from RS (f:=nF (fb,(i2:Int),(i3:Int))) ha (Wx hf));have HCV:=Ad (show ∀ j,(Ak (a.1 ++ [nF (fb,(i2:Int),(i3:Int))],a.2)).testBit j=true→(Eb a (fb,(i2:Int),(i3:Int))).testBit j=true from fun j h=>TA h);clear ha hf hr g1 g2 g3 g4;go_enter Tryz.func316,Tryz.ntmps316
     (go_upto_region 1 with fail);rw [← HW0.o];(go_wp2_with fail);refine (cb (Ar _ _ a _ H0.o.2.2.1 H0.o.2.2.2) HV.o.1).mono ?_;rintro e w1 ⟨rfl,hb⟩;have hW:=bt H0.o.2.1 hb;have HQ:=Ad (An (H0.o.2.2.1.keep hb) (H0.o.2.2.2.keep hb));replace a0:=Ab hb a0;replace a1:=Ab hb a1;replace f0:=Ab hb f0;replace f1:=Ab hb f1;replace f2:=Ab hb f2;clear hb;(go_wp2_with fail);refine (cb (Ch (fb,(i2:Int),(i3:Int)) _) HV.o.2).mono ?_;rintro e w2 ⟨rfl,hb⟩;have HQ2:=Ad (An (HQ.o.1.keep hb) (HQ.o.2.keep hb));replace a0:=Ab hb a0;replace a1:=Ab hb a1;replace f0:=Ab hb f0;replace f1:=Ab hb f1;replace f2:=Ab hb f2;replace hW:=bt hW hb;clear hb;clear HQ;have al2:w.heap.size < w2.heap.size:=World.block_lt_of_cell? w2 _ a0;have fl2:w.heap.size+1 < w2.heap.size:=World.block_lt_of_cell? w2 _ f0;(go_wp2_with fail);refine (BQ _ _ a _ HQ2.o.1 HQ2.o.2 HFA.o.1.1 HFA.o.1.2).mono ?_;rintro e w3 ⟨vT,rfl,hT,hb⟩;obtain ⟨g,cap,rfl⟩:=B8 hT;have hBW:BW w3 g 9 (Ak a):=Jd hT;have hg:w2.heap.size≤g:=(AD hT rfl).1;have HQ3:=Ad (An (HQ2.o.1.keep hb) (HQ2.o.2.keep hb));replace a0:=Ab hb a0;replace a1:=Ab hb a1;replace f0:=Ab hb f0;replace f1:=Ab hb f1;replace f2:=Ab hb f2;replace hW:=bt hW hb;clear hb;clear HQ2 hT;have hgA:¬ g=w.heap.size∧¬ g=w.heap.size+1:=⟨by omega,by omega⟩;have t2:=hBW.cell i2 Om;have t3:=hBW.cell i3 Om;have z2:=hBW.fz i2 Om;have z3:=hBW.fz i3 Om;have gl:=hBW.lt;have hBW2:=(hBW.set (i:=i2) Om).set (i:=i3) Om;have t3':=(hBW.set (i:=i2) Om).cell i3 Om;(have k2:(i2:Int) < 9:=by omega);(have k3:(i3:Int) < 9:=by omega);have al3:w.heap.size < w3.heap.size:=World.block_lt_of_cell? w3 _ a0;have fl3:w.heap.size+1 < w3.heap.size:=World.block_lt_of_cell? w3 _ f0;obtain ⟨W,hW6⟩:=Ey ((w3.setCell ⟨g,i2,none⟩ (.bool true)).setCell ⟨g,i3,none⟩ (.bool true));(have hsF:Fr (fun k=>k=g) w3 W:=by rw [hW6];exact (Aw w3 ⟨g,i2,none⟩ (.bool true)).trans (Aw _ ⟨g,i3,none⟩ (.bool true)));rw [← hW6] at hBW2;have hb6:Below w.heap.size w W:=hW.trans (hsF.below hW.size fun k hk e=>by have e2:k=g:=e;omega);have HW6:=Ad hW6;have far:∀ k,k < w3.heap.size→(fun k=>k < w.heap.size) k→¬ (fun k=>k=g) k:=fun k _ h e=>by
      have h2:k < w.heap.size:=h;have e2:k=g:=e;omega
     have HBW:=Ad (An hBW2 (An (An (HQ3.o.1.kept hsF far) (HQ3.o.2.kept hsF far)) (An hb6 hgA)));have d0:=hsF.cell (by show ¬ w.heap.size=g;omega) a0;have d1:=hsF.cell (by show ¬ w.heap.size=g;omega) a1;have d2:=hsF.cell (by show ¬ w.heap.size+1=g;omega) f0;have d3:=hsF.cell (by show ¬ w.heap.size+1=g;omega) f1;have d4:=hsF.cell (by show ¬ w.heap.size+1=g;omega) f2;have dl:w.heap.size < W.heap.size:=World.block_lt_of_cell? W _ d0;have dm:w.heap.size+1 < W.heap.size:=World.block_lt_of_cell? W _ d2;clear far hBW hBW2 hsF hb6 hW6 hW HQ3;(go_upto_region 6 with fail);rw [← HW6.o];clear a0 a1 f0 f1 f2 t2 t3 t3' z2 z3 gl al fl al2 fl2 al3 fl3;obtain ⟨W2,hW2⟩:=Ey (W.alloc (.cells #[.bool (!fb),.int .i64 i2,.int .i64 i3] 61));(have hbN:Below W.heap.size W W2:=by rw [hW2];exact Aa _ _);(have hN:W2.heap[W.heap.size]?=some (.cells #[.bool (!fb),.int .i64 i2,.int .i64 i3] 61 (0,0)):=by rw [hW2];exact heap_alloc_new _ _);have n0:=cr 0 hN;have n1:=cr 1 hN;have n2:=cr 2 hN;have nl:=Ae hN;have b0:=Ab hbN d0;have b1:=Ab hbN d1;have bl:w.heap.size < W2.heap.size:=World.block_lt_of_cell? W2 _ b0;have HW2:=Ad hW2;have H2:=Ad (An (HBW.o.1.keep hbN) (An (An (HBW.o.2.1.1.keep hbN) (HBW.o.2.1.2.keep hbN)) (bt HBW.o.2.2.1 hbN)));clear hN hbN hW2 HBW HW6;have HLN:=Ad (show a.1.length≤12∧a.2.length≤6 from RV HV.o.1);(go_upto_region 7 with fail);rw [← HW2.o];clear d0 d1 d2 d3 d4 dl dm HW2;obtain ⟨N,hN⟩:=Ex (W.heap.size);rw [hN] at n0 n1 n2 nl ⊢;clear hN;go_region_held3 (fun w'=>(w'.cell? ⟨w.heap.size,0,none⟩=some (.slice xa1 a.1.length xc1)∧w'.cell? ⟨w.heap.size,1,none⟩=some (.slice xa2 a.2.length xc2))∧(w'.cell? ⟨N,0,none⟩=some (.bool (!fb))∧w'.cell? ⟨N,1,none⟩=some (.int .i64 i2))∧w'.cell? ⟨N,2,none⟩=some (.int .i64 i3))
      (exact ⟨⟨(Ck b0),(Ck b1)⟩,⟨(Ck n0),(Ck n1)⟩,(Ck n2)⟩)
      (first
        | (go_at_call 224;go_must ((refine (MV _ _ _ (Eb a (fb,(i2:Int),(i3:Int))) ((Ak a ||| 2 ^ i2) ||| 2 ^ i3) _ _ _ (a.1 ++ [nF (fb,(i2:Int),(i3:Int))],a.2) r _ (o6.rl.keep Bl) (H2.o.2.1.2.keep Bl) (H2.o.1.keep Bl) (Ag hO Bl) HU.o HCV.o (TB _ _) HB.o HF.o).mono ?_);rintro e w9 ⟨v9,rfl,_,hb9'⟩;have hb9:Below W2.heap.size W2 w9:=bt Bl hb9'))
        | (go_at_call 223;(with_reducible refine (Hj _).mono ?_);rintro e w8 ⟨vO,rfl,hO,hbO'⟩;have hb8:Below W2.heap.size W2 w8:=bt Bl hbO';replace o6:=o6.keep (bt Bl hbO'))
        | ((fail_if_success have _o:=o5);refine DH (l:=([]:List Ap)) (m:=a.1) (by rfl) (.tmp 36) (.tmp 38) _ (by rfl) A0 (by rfl) (FE.nil _ _ _) (by rfl) (H2.o.2.1.1.keep Bl) (by have:=HLN.o.1;simp;omega) (Nat.le_refl _) ?_;intro v5 w5 o5' hf5';have o5:=o5'.mono (B':=W2.heap.size) (Below.size (w:=W2) (B:=W2.heap.size) Bl);clear o5';rw [List.nil_append] at o5;have hb5':=AG hf5' (Nat.le_refl _);have hb5:Below W2.heap.size W2 w5:=bt Bl hb5';have hz5:=hb5.size;(first | (have hL:=RL.keep (RL.keep (Bm _ _ _ _ _) (Ai _)) hb5') | (have hL:=RL.keep (RL.keep (RL.keep (Bm _ _ _ _ _) (Aa _ _)) (Ai _)) hb5') | (have hL:=RL.keep (Bm _ _ _ _ _) hb5') | (have hL:=RL.keep (RL.keep (Bm _ _ _ _ _) (Aa _ _)) hb5') | skip);(try simp only [World.size_alloc,World.size_drew] at hL);clear hf5' hb5';obtain ⟨p5,q5,c5,rfl⟩:=o5.forms)
        | (have _o:=o5;refine DH (l:=a.1) (m:=[nF (fb,(i2:Int),(i3:Int))]) (by rfl) (.tmp 39) (.tmp 41) _ (by rfl) A0 (by rfl) (o5.keep Bl) (by rfl) (by first | exact hL | exact Bm _ _ _ _ _) (by have:=HLN.o.1;simp;omega) (Below.size (w:=W2) (B:=W2.heap.size) Bl) ?_;intro v6 w6 o6 hf6';have hb6':=AG hf6' (Below.size (w:=W2) (B:=W2.heap.size) Bl);have hb6:Below W2.heap.size W2 w6:=Below.trans Bl hb6';clear hf6' hb6';obtain ⟨p6,q6,c6,rfl⟩:=o6.forms)
        | fail)
     all_goals
      go_wp2;go_returns;exact ⟨by rw [HR.o];cases r <;> rfl,bt H2.o.2.2 hb9⟩
end Go.Proofs.YtkbbmjcfgcfejaaGreat
