/- Walk: the strongest assertions after a program, verification (program: StrongestPosts, VerifyProgram). -/
import Derived.Test.YtkbbmjcfgcfejaaGreatLTms
import Derived.Test.YtkbbmjcfgcfejaaGreatLValJ
set_option linter.unusedVariables false
set_option linter.unusedSimpArgs false
set_option maxRecDepth 100000
set_option maxHeartbeats 12800000
namespace Go.Proofs.YtkbbmjcfgcfejaaGreat
open Go.RowKit
theorem T0 {m:Nat} (pre:Aj) {d:Nat} (l:List (Cm d)) (hm:m < 65536):JI m pre l < 65536:=by
 have h1:Ds (Ak pre) < 65536:=IB (Bw _);have h2:Ds (CO d 0 l) < 65536:=IB (FQ _ _ _ Dc);exact Nat.or_lt_two_pow (n:=16) hm (Nat.or_lt_two_pow (n:=16) h1 h2)
theorem Li {w w5:World} (hb:Below (w.alloc (.cells #[.int .u16 0,.bool false] 150)).heap.size (w.alloc (.cells #[.int .u16 0,.bool false] 150)) w5):w5.heap[w.heap.size]?=some (.cells #[.int .u16 0,.bool false] 150 (0,0)):=Ac (heap_alloc_new w _) hb
theorem JO {w w5:World} (hb:Below (w.alloc (.cells #[.int .u16 0,.bool false] 150)).drew.heap.size (w.alloc (.cells #[.int .u16 0,.bool false] 150)).drew w5):w5.heap[w.heap.size]?=some (.cells #[.int .u16 0,.bool false] 150 (0,0)):=Ac (Ac (heap_alloc_new w _) (Ai _)) hb
theorem JP {w w5:World} (hb:Below (w.drew.alloc (.cells #[.int .u16 0,.bool false] 150)).heap.size (w.drew.alloc (.cells #[.int .u16 0,.bool false] 150)) w5):w5.heap[w.heap.size]?=some (.cells #[.int .u16 0,.bool false] 150 (0,0)):=Ac (heap_alloc_new w.drew _) hb
theorem Qs {w w6:World} {K:Nat} (hb:Below w.heap.size w w6):∃ t,Value.pointer (some ⟨w6.heap.size,0,none⟩)=.pointer (some ⟨t,0,none⟩)∧(w6.alloc (.cells #[.int .u16 (K:Int),.bool true] 150)).heap[t]?=some (.cells #[.int .u16 (K:Int),.bool true] 150 (0,0))∧Below w.heap.size w (w6.alloc (.cells #[.int .u16 (K:Int),.bool true] 150)) :=
 ⟨_,rfl,heap_alloc_new _ _,ba hb _⟩
theorem T5 {w w6:World} {K t:Nat} {x y:Value} (hT:w6.heap[t]?=some (.cells #[x,y] 150 (0,0))) (hb:Below w.heap.size w w6) (h0:w.heap.size≤t):∃ t',Value.pointer (some ⟨t,0,none⟩)=.pointer (some ⟨t',0,none⟩)∧((w6.setCell ⟨t,0,none⟩ (.int .u16 (K:Int))).setCell ⟨t,1,none⟩ (.bool true)).heap[t']?=some (.cells #[.int .u16 (K:Int),.bool true] 150 (0,0))∧Below w.heap.size w ((w6.setCell ⟨t,0,none⟩ (.int .u16 (K:Int))).setCell ⟨t,1,none⟩ (.bool true)) :=
 ⟨t,rfl,BX (BL hT _) _,(hb.setCell (p:=⟨t,0,none⟩) h0 _).setCell (p:=⟨t,1,none⟩) h0 _⟩
theorem Qt (d:Nat) {S1 S2 S:Nat→Prop} (v1 v2 v kv:Value) (pre:Aj) (l:List (Cm d)) (keep:List Int) (w:World) (h1:RL w S1 v1 pre.1) (h2:RL w S2 v2 pre.2) (h:RL w S v l) (hk:RInts w kv keep) :
 Calls Tryz.prog 124 #[.agg #[v1,v2],v,kv] w (VR (CU pre l (Ay keep)) w):=by
 obtain ⟨p1,c1,rfl⟩:=h1.form;obtain ⟨p2,c2,rfl⟩:=h2.form;obtain ⟨va,vc,rfl⟩:=h.form;obtain ⟨ka,kc,rfl,_⟩:=hk.cells;obtain ⟨T,hT⟩:=Ex (CU pre l (Ay keep));rw [hT];obtain ⟨M,hM⟩:=Ex (Ay keep);have hMl:M < 65536:=by rw [← hM];exact KG _
 rw [hM,CU] at hT;obtain ⟨w0,hw0⟩:=Ey (w.alloc (.cells #[.slice p1 pre.1.length c1,.slice p2 pre.2.length c2] 26));have hb0:Below w.heap.size w w0:=by rw [hw0];exact Aa _ _
 have hA:w0.heap[w.heap.size]?=some (.cells #[.slice p1 pre.1.length c1,.slice p2 pre.2.length c2] 26 (0,0)):=by rw [hw0];exact heap_alloc_new _ _
 have H0:=Ad (An (An (h1.keep hb0) (h2.keep hb0)) (An (An (h.keep hb0) (hk.keep hb0)) (An hA hb0)));have HW:=Ad hw0;have HM:=Ad (An hM hMl);have HT:=Ad hT;obtain ⟨b0,b1,bl⟩:=B3 hA;clear h1 h2 h hk hT hM hMl hA hb0 hw0;go_enter Tryz.func124,Tryz.ntmps124
 go_upto_region 1 with fail
 rw [← HW.o];go_wp2_with fail
 refine (Aq _ _ pre _ H0.o.1.1 H0.o.1.2).mono ?_;rintro e w2 ⟨rfl,hb2⟩;have H2:=Ad (An (An (H0.o.1.1.keep hb2) (H0.o.1.2.keep hb2)) (An (An (H0.o.2.1.1.keep hb2) (H0.o.2.1.2.keep hb2)) (An (Ac H0.o.2.2.1 hb2) (bt H0.o.2.2.2 hb2))));clear hb2 b0 b1 bl;cases hv:Ah pre with
 | false =>
   have HE:=Ad (show T=(5,[]) by rw [← HT.o,hv,Bool.false_and,if_neg (by decide)]);clear hv;go_wp2;go_ret2;exact ⟨_,by rw [HE.o];rfl,by rw [HE.o];exact RL.nil _ _,H2.o.2.2.2⟩
 | true =>
   have HV:=Ad hv;clear hv;(go_wp2_with fail);refine (Lh d _ l _ H2.o.2.1.1).mono ?_;rintro e w3 ⟨rfl,hb3⟩;have H3:=Ad (An (An (H2.o.1.1.keep hb3) (H2.o.1.2.keep hb3)) (An (An (H2.o.2.1.1.keep hb3) (H2.o.2.1.2.keep hb3)) (An (Ac H2.o.2.2.1 hb3) (bt H2.o.2.2.2 hb3))));clear hb3;cases hp:BY l with
   | false =>
     have HE:=Ad (show T=(5,[]) by rw [← HT.o,hp,Bool.and_false,if_neg (by decide)]);clear hp;go_wp2;go_ret2;exact ⟨_,by rw [HE.o];rfl,by rw [HE.o];exact RL.nil _ _,H3.o.2.2.2⟩
   | true =>
     obtain ⟨K,hK⟩:=Ex (JI M pre l);(have hKl:K < 65536:=by rw [← hK];exact T0 _ _ HM.o.2);(have hE:BE K d l [pre]=T:=by rw [← HT.o,HV.o,hp,if_pos Dc,hK]);(have hs4:AZ d l 4=true:=by rw [BY,Bool.and_eq_true] at hp;exact hp.1);obtain ⟨P,hP⟩:=Ex (Ak pre);obtain ⟨P2,hP2⟩:=Ex (Ds P);obtain ⟨L2,hL2⟩:=Ex (Ds (CO d 0 l));(have hPl:P < 65536:=by rw [← hP];exact Bw _);(have hP2l:P2 < 65536:=by rw [← hP2];exact IB hPl);(have hL2l:L2 < 65536:=by rw [← hL2];exact IB (FQ _ _ _ Dc));(have hKK:(M ||| P2) ||| L2=K:=by rw [← hK,JI,hP,hP2,hL2,Nat.or_assoc]);have ho1:bits .or .u16 (M:Int) (P2:Int)=((M ||| P2:Nat):Int):=u16_or_nat M P2 HM.o.2 hP2l;(have ho2:bits .or .u16 ((M ||| P2:Nat):Int) (L2:Int)=(K:Int):=by rw [← hKK];exact u16_or_nat _ L2 (Nat.or_lt_two_pow (n:=16) HM.o.2 hP2l) hL2l);have HK:=Ad (An hKl (An hE hs4));have HPP:=Ad (An hP (An hPl (An hP2 hL2)));obtain ⟨b0,b1,bl⟩:=B3 H3.o.2.2.1;clear hp hK hKl hE hs4 hP hP2 hL2 hPl hP2l hL2l hKK;(go_upto_region 3 with fail);go_cut [8] (fun s8 wc=>∃ t,s8=.pointer (some ⟨t,0,none⟩)∧wc.heap[t]?=some (.cells #[.int .u16 (K:Int),.bool true] 150 (0,0))∧Below w3.heap.size w3 wc)
     case first =>
      go_region_held3 (fun w'=>w'.cell? ⟨w.heap.size,0,none⟩=some (.slice p1 pre.1.length c1)∧w'.cell? ⟨w.heap.size,1,none⟩=some (.slice p2 pre.2.length c2))
       (exact ⟨(Ck b0),(Ck b1)⟩)
       (first
         | (go_at_call 67;go_must (refine (Gn _ keep _ (H3.o.2.1.2.keep Bl)).mono ?_;rw [HM.o.1];rintro e w4 ⟨rfl,rfl⟩))
         | (go_at_call 66;go_must (refine (B6 _ _ pre _ (H3.o.1.1.keep Bl) (H3.o.1.2.keep Bl)).mono ?_;rw [HPP.o.1];rintro e w5 ⟨rfl,hb5'⟩;have hb5:Below w3.heap.size w3 w5:=bt Bl hb5';have hz5:=hb5.size;(first | (have hT:=Li hb5') | (have hT:=JO hb5') | (have hT:=JP hb5') | skip);(try simp only [World.size_alloc,World.size_drew] at hT);clear hb5'))
         | (go_at_call 104;go_must (refine (JH _ HPP.o.2.1 HPP.o.2.2.1).mono ?_;rintro e w7 ⟨rfl,rfl⟩))
         | (go_at_call 105;go_must (refine (Nf d _ l _ (H3.o.2.1.1.keep Bl)).mono ?_;rw [HPP.o.2.2.2];rintro e w6 ⟨rfl,hb6'⟩;have hb6:Below w3.heap.size w3 w6:=bt Bl hb6';have hb56:Below w5.heap.size w5 w6:=bt Bl hb6';have hz6:=hb56.size;(first | (replace hT:=Ac hT hb56;have _h:=hT) | (have hT:=Li hb6') | (have hT:=JO hb6') | (have hT:=JP hb6') | skip);(try simp only [World.size_alloc,World.size_drew] at hT);(first | (have V9:=B4 hT;obtain ⟨ht0,ht1,htz,htl⟩:=V9) | skip);clear hb6'))
         | fail)
      all_goals
       have HB6:=Ad hb6;clear hb5 hb6 hb56;go_wp2;go_meet
       case rel =>
        first
          | exact Qs HB6.o
          | exact T5 hT HB6.o Om
          | fail
     case rest =>
      rename World=>wd
      obtain ⟨t,rfl,hE,hbd⟩:=hcut;have H4:=Ad (An (An (H3.o.1.1.keep hbd) (H3.o.1.2.keep hbd)) (An (H3.o.2.1.1.keep hbd) (bt H3.o.2.2.2 hbd)));obtain ⟨e0,e1,el⟩:=B3 hE;have hA:=Ac H3.o.2.2.1 hbd;clear b0 b1 bl ho1 ho2;obtain ⟨b0,b1,bl⟩:=B3 hA;clear hE hbd hA;(go_wp2_with fail);refine (Sg HK.o.1 d _ _ _ _ _ _ pre l 4 _ H4.o.1.1 H4.o.1.2 H4.o.2.1 HV.o HK.o.2.2).mono ?_;rw [HK.o.2.1];rintro e w5 ⟨r,rfl,hr,hb5⟩;obtain ⟨ra,rc,rfl⟩:=hr.form;have hs4:=H4.o.2.2.size;have H5:=Ad (An (hr.more (S':=fun j=>w.heap.size≤j) fun j _ h=>Nat.le_trans hs4 h) (bt H4.o.2.2 hb5));clear hr hb5 e0 e1 el b0 b1 bl;go_wp2;go_ret2;exact ⟨_,rfl,H5.o.1,H5.o.2⟩
theorem OV (d:Nat) {S1 S2 S3 S4 S:Nat→Prop} (v1 v2 v u1 u2:Value) (pre post:Aj) (l:List (Cm d)) (w:World) (h1:RL w S1 v1 pre.1) (h2:RL w S2 v2 pre.2) (h:RL w S v l) (k1:RL w S3 u1 post.1) (k2:RL w S4 u2 post.2) :
 Calls Tryz.prog 89 #[.agg #[v1,v2],v,.agg #[u1,u2]] w fun e w'=>e=.returned (.int .i64 (K2 pre l post))∧Below w.heap.size w w':=by
 obtain ⟨p1,c1,rfl⟩:=h1.form;obtain ⟨p2,c2,rfl⟩:=h2.form;obtain ⟨va,vc,rfl⟩:=h.form;obtain ⟨q1,g1,rfl⟩:=k1.form;obtain ⟨q2,g2,rfl⟩:=k2.form;obtain ⟨V,hV⟩:=Ex (K2 pre l post);rw [hV];obtain ⟨T,hT⟩:=Ex (CU pre l (Ak post));rw [K2,hT] at hV;have hkt:CU pre l (Ay (Dv (Ak post)))=T:=by rw [Hs,hT]
 obtain ⟨w0,hw0⟩:=Ey ((w.alloc (.cells #[.slice p1 pre.1.length c1,.slice p2 pre.2.length c2] 26)).alloc (.cells #[.slice q1 post.1.length g1,.slice q2 post.2.length g2] 26));have hb0:Below w.heap.size w w0:=by rw [hw0];exact ba (Aa _ _) _
 have hA:w0.heap[w.heap.size]?=some (.cells #[.slice p1 pre.1.length c1,.slice p2 pre.2.length c2] 26 (0,0)):=by rw [hw0];exact Ac (heap_alloc_new w _) (Aa _ _)
 have hB:w0.heap[w.heap.size+1]?=some (.cells #[.slice q1 post.1.length g1,.slice q2 post.2.length g2] 26 (0,0)):=by
  rw [hw0];have:=heap_alloc_new (w.alloc (.cells #[.slice p1 pre.1.length c1,.slice p2 pre.2.length c2] 26)) (.cells #[.slice q1 post.1.length g1,.slice q2 post.2.length g2] 26);rw [World.size_alloc] at this;exact this
 have H0:=Ad (An (An (h1.keep hb0) (h2.keep hb0)) (An (An (h.keep hb0) (An (k1.keep hb0) (k2.keep hb0))) (An (An hA hB) hb0)));have HW:=Ad hw0;have HT:=Ad (An hkt hV);obtain ⟨b0,b1,bl⟩:=B3 hB;clear h1 h2 h k1 k2 hT hV hkt hA hB hb0 hw0;go_enter Tryz.func89,Tryz.ntmps89
 go_upto_region 1 with fail
 rw [← HW.o];go_wp2_with fail
 refine (Aq _ _ post _ H0.o.2.1.2.1 H0.o.2.1.2.2).mono ?_;rintro e w2 ⟨rfl,hb2⟩;have H2:=Ad (An (An (H0.o.1.1.keep hb2) (H0.o.1.2.keep hb2)) (An (An (H0.o.2.1.1.keep hb2) (An (H0.o.2.1.2.1.keep hb2) (H0.o.2.1.2.2.keep hb2))) (An (An (Ac H0.o.2.2.1.1 hb2) (Ac H0.o.2.2.1.2 hb2)) (bt H0.o.2.2.2 hb2))));clear hb2 b0 b1 bl;cases hv:Ah post with
 | false =>
   have HE:=Ad (show V=5 by rw [← HT.o.2,hv,if_neg (by decide)]);clear hv;go_wp2;go_ret;exact ⟨by rw [HE.o];rfl,H2.o.2.2.2⟩
 | true =>
   have HV:=Ad (An hv (show V=if T.1=0 then (if (T.2.all fun p=>Cp p post)=true then 0 else 2) else T.1 by rw [← HT.o.2,hv,if_pos rfl]));clear hv;obtain ⟨a0,a1,al⟩:=B3 H2.o.2.2.1.1;obtain ⟨b0,b1,bl⟩:=B3 H2.o.2.2.1.2;(go_upto_region 3 with fail);go_cut [7,8] (fun s7 s8 wc=>s8=.int .i64 T.1∧RL wc (fun _=>True) s7 T.2∧Below w2.heap.size w2 wc)
   case first =>
    go_region_held3 (fun w'=>(w'.cell? ⟨w.heap.size,0,none⟩=some (.slice p1 pre.1.length c1)∧w'.cell? ⟨w.heap.size,1,none⟩=some (.slice p2 pre.2.length c2))∧(w'.cell? ⟨w.heap.size+1,0,none⟩=some (.slice q1 post.1.length g1)∧w'.cell? ⟨w.heap.size+1,1,none⟩=some (.slice q2 post.2.length g2)))
     (exact ⟨⟨(Ck a0),(Ck a1)⟩,(Ck b0),(Ck b1)⟩)
     (first
       | (go_at_call 37;go_must (refine (LC _ _ post _ (H2.o.2.1.2.1.keep Bl) (H2.o.2.1.2.2.keep Bl) HV.o.1).mono ?_;rintro e w5 ⟨x,rfl,ho,hb5'⟩;have hb5:Below w2.heap.size w2 w5:=bt Bl hb5';have hi:=CV ho;obtain ⟨xa,xc,rfl,_⟩:=A8 ho;have hz5:=hb5.size;clear hb5' ho))
       | (go_at_call 124;go_must (refine (Qt d _ _ _ _ pre l (Dv (Ak post)) _ (H2.o.1.1.keep Bl) (H2.o.1.2.keep Bl) (H2.o.2.1.1.keep Bl) (hi.1.keep Bl)).mono ?_;rw [HT.o.1];rintro e w6 ⟨r,rfl,hr',hb6'⟩;have hb6:Below w2.heap.size w2 w6:=bt Bl hb6';have hr:=hr'.any;obtain ⟨ra,rc,rfl⟩:=hr.form;clear hb6' hr'))
       | fail)
    all_goals
     have HQ:=Ad (An hr hb6);clear hr hb6 hb5 hi;go_wp2;go_meet
     case rel=>exact ⟨rfl,HQ.o.1,HQ.o.2⟩
   case rest =>
    rename World=>wd
    obtain ⟨rfl,hr,hbd⟩:=hcut;obtain ⟨ra,rc,rfl⟩:=hr.form;have H4:=Ad (An (An (H2.o.2.1.2.1.keep hbd) (H2.o.2.1.2.2.keep hbd)) (An hr (bt H2.o.2.2.2 hbd)));have hB:=Ac H2.o.2.2.1.2 hbd;clear a0 a1 al b0 b1 bl;obtain ⟨b0,b1,bl⟩:=B3 hB;clear hB hbd hr;by_cases h0:T.1=0
    · have y0:(T.1 == 0)=true:=beq_iff_eq.2 h0
      obtain ⟨A,hA⟩:∃ A,(T.2.all fun p=>Cp p post)=A:=⟨_,rfl⟩;have HE:=Ad (An hA (show V=if A=true then 0 else 2 by rw [HV.o.2,if_pos h0,hA]));clear h0 hA;(go_wp2_with fail);refine (G9 _ _ _ T.2 post _ H4.o.2.1 H4.o.1.1 H4.o.1.2).mono ?_;rw [HE.o.1];rintro e w5 ⟨rfl,hb5⟩;have HB:=Ad (bt H4.o.2.2 hb5);clear hb5 b0 b1 bl;cases A with
      | false =>
        have HF:=Ad (show V=2 by rw [HE.o.2,if_neg (by decide)]);go_wp2;go_ret;exact ⟨by rw [HF.o];rfl,HB.o⟩
      | true =>
        have HF:=Ad (show V=0 by rw [HE.o.2,if_pos rfl]);go_wp2;go_ret;exact ⟨by rw [HF.o];rfl,HB.o⟩
    · have y0:(T.1 == 0)=false:=beq_eq_false_iff_ne.2 h0
      have HE:=Ad (show V=T.1 by rw [HV.o.2,if_neg h0]);clear h0;go_wp2;go_ret;exact ⟨by rw [HE.o];rfl,H4.o.2.2⟩
theorem Si {m:Nat} {k a:Int} (h:∀ j,9≤j→m.testBit j=false):∀ j,9≤j→(Jj m k a).testBit j=false:=fun j hj=>by
 rw [Jj];split
 · rw [AR,h j hj,Bool.false_or]
   cases ht:Al a with
   | false=>rfl
   | true =>
     have:=At.1 ht;simp;omega
 · exact h j hj
theorem Lj {α:Type} {F:Nat→α→Nat} (hF:∀ m c,(∀ j,9≤j→m.testBit j=false)→∀ j,9≤j→(F m c).testBit j=false):∀ (l:List α) (m:Nat),(∀ j,9≤j→m.testBit j=false)→∀ j,9≤j→(l.foldl F m).testBit j=false
 | [],_,h=>h
 | c :: l,m,h=>Lj hF l (F m c) (hF m c h)
theorem Jr:∀ (d:Nat) (l:List (Cm d)) (m:Nat),(∀ j,9≤j→m.testBit j=false)→∀ j,9≤j→(CQ d m l).testBit j=false
 | 0,_,_,h=>h
 | d+1,l,m,h=>Lj (fun m c h=>Jr d _ _ (Jr d _ _ (Si h))) l m h
theorem OW {a b:Nat} (hb:b < 65536) (ha:∀ j,9≤j→a.testBit j=false):((a &&& (65535 - b)) == 0)=FP a b:=by
 rw [Bool.eq_iff_iff,beq_iff_eq,FP,List.all_eq_true];constructor
 · intro h i hi
   (have h2:(a &&& (65535 - b)).testBit i=false:=by rw [h,Nat.zero_testBit]);rw [List.mem_range] at hi;rw [Nat.testBit_and,M6 hb,decide_eq_true (by omega:i < 16),Bool.true_and] at h2;cases h3:a.testBit i with
   | false=>rfl
   | true =>
     rw [h3,Bool.true_and] at h2;cases h4:b.testBit i with
     | true=>rfl
     | false=>rw [h4] at h2;cases h2
 · intro h
   refine Nat.eq_of_testBit_eq fun i=>?_;rw [Nat.zero_testBit,Nat.testBit_and,M6 hb];rcases Nat.lt_or_ge i 9 with h9 | h9
   · have:=h i (List.mem_range.2 h9)
     cases h3:a.testBit i with
     | false=>rfl
     | true =>
       rw [h3] at this;(have h4:b.testBit i=true:=by simpa using this);rw [h4];simp
   · rw [ha i h9,Bool.false_and]
theorem LD (d:Nat) {S1 S:Nat→Prop} (v p1 p2 q1 q2 ch:Value) (k:Q1) (l:List (Cm d)) (w:World) (h:RL w S v l) (hk:RCon w S1 p1 p2 q1 q2 ch k) :
 Calls Tryz.prog 22 #[v,.agg #[p1,p2,q1,q2,ch]] w fun e w'=>e=.returned (.bool (P9 l k))∧Below w.heap.size w w':=by
 obtain ⟨va,vc,rfl⟩:=h.form;obtain ⟨n1,c1,rfl⟩:=hk.pre1.form;obtain ⟨n2,c2,rfl⟩:=hk.pre2.form;obtain ⟨n3,c3,rfl⟩:=hk.post1.form;obtain ⟨n4,c4,rfl⟩:=hk.post2.form;obtain ⟨n5,c5,rfl⟩:=hk.chg.form;obtain ⟨F,hF⟩:=Ex (P9 l k);rw [hF];rw [P9] at hF;obtain ⟨V,hV⟩:=Ex (K2 k.1 l k.2.1);rw [hV] at hF;obtain ⟨w0,hw0⟩:=Ey (w.alloc (.cells #[.slice n1 k.1.1.length c1,.slice n2 k.1.2.length c2,.slice n3 k.2.1.1.length c3,.slice n4 k.2.1.2.length c4,.slice n5 k.2.2.length c5] 29));have hb0:Below w.heap.size w w0:=by rw [hw0];exact Aa _ _
 have hB:BoxK w0 w.heap.size (.slice n1 k.1.1.length c1) (.slice n2 k.1.2.length c2) (.slice n3 k.2.1.1.length c3) (.slice n4 k.2.1.2.length c4) (.slice n5 k.2.2.length c5):=by rw [hw0];exact Iq _ _ _ _ _ _
 have H0:=Ad (An (An (h.keep hb0) (hk.keep hb0)) (An hB hb0));have HW:=Ad hw0;have HF:=Ad (An hF hV);obtain ⟨b0,b1,b2,b3,b4⟩:=hB.cells;have bl:=hB.lt;clear h hk hF hV hB hb0 hw0;go_enter Tryz.func22,Tryz.ntmps22
 go_upto_region 1 with fail
 rw [← HW.o];go_wp2_with fail
 refine (Lu _ _ _ _ _ k _ H0.o.1.2).mono ?_;rintro e w2 ⟨rfl,hb2⟩;have H2:=Ad (An (An (H0.o.1.1.keep hb2) (H0.o.1.2.keep hb2)) (An (H0.o.2.1.keep hb2) (bt H0.o.2.2 hb2)));clear hb2 b0 b1 b2 b3 b4 bl;obtain ⟨b0,b1,b2,b3,b4⟩:=H2.o.2.1.cells;have bl:=H2.o.2.1.lt;cases hv:PM k with
 | false =>
   have HE:=Ad (show F=false by rw [← HF.o.1,hv,Bool.false_and]);clear hv;go_wp2;go_ret;exact ⟨by rw [HE.o];rfl,H2.o.2.2⟩
 | true =>
   have HV:=Ad (show F=(decide (V=0) && FP (CQ d 0 l) (Ay k.2.2)) by rw [← HF.o.1,hv,Bool.true_and]);clear hv;(go_wp2_with fail);refine (OV d _ _ _ _ _ k.1 k.2.1 l _ H2.o.1.2.pre1 H2.o.1.2.pre2 H2.o.1.1 H2.o.1.2.post1 H2.o.1.2.post2).mono ?_;rw [HF.o.2];rintro e w3 ⟨rfl,hb3⟩;have H3:=Ad (An (An (H2.o.1.1.keep hb3) (H2.o.1.2.keep hb3)) (An (H2.o.2.1.keep hb3) (bt H2.o.2.2 hb3)));clear hb3 b0 b1 b2 b3 b4 bl;obtain ⟨b0,b1,b2,b3,b4⟩:=H3.o.2.1.cells;have bl:=H3.o.2.1.lt;by_cases h0:V=0
   · have y0:(V == 0)=true:=beq_iff_eq.2 h0
     obtain ⟨C,hC⟩:=Ex (CQ d 0 l);obtain ⟨M,hM⟩:=Ex (Ay k.2.2);(have hCl:C < 65536:=by rw [← hC];exact GU _ _ _ Dc);(have hMl:M < 65536:=by rw [← hM];exact KG _);(have hE:F=((C &&& (65535 - M)) == 0):=by rw [HV.o,h0,hC,hM,OW hMl (by rw [← hC];exact Jr _ _ _ fun j _=>Nat.zero_testBit j)];rfl);have hand:=u16_andNot_nat C M hCl hMl;obtain ⟨z,hz⟩:=Ex (C &&& (65535 - M));rw [hz] at hand hE;(have hzz:((z:Int) == 0)=F:=by rw [hE,Bool.eq_iff_iff];simp);have HX:=Ad (An hC hM);clear hE hz h0 hC hM hCl hMl;have HRI:=Ad (An H3.o.1.2.chg H3.o.1.1);(go_upto_region 3 with fail);go_region_held3 (fun w'=>w'.cell? ⟨w.heap.size,4,none⟩=some (.slice n5 k.2.2.length c5))
      (exact (Ck b4))
      (first
        | (go_at_call 90;go_must (refine (IL d _ l _ (HRI.o.2.keep Bl)).mono ?_;rw [HX.o.1];rintro e w5 ⟨rfl,hb5'⟩;have hb5:Below w3.heap.size w3 w5:=bt Bl hb5';clear hb5'))
        | (go_at_call 67;go_must (refine (Gn _ k.2.2 _ (HRI.o.1.keep Bl).ints).mono ?_;rw [HX.o.2];rintro e w6 ⟨rfl,rfl⟩))
        | fail)
     all_goals
      have HQ:=Ad (bt H3.o.2.2 hb5);clear hb5;go_wp2;go_ret;exact ⟨rfl,HQ.o⟩
   · have y0:(V == 0)=false:=beq_eq_false_iff_ne.2 h0
     have HE:=Ad (show F=false by rw [HV.o,decide_eq_false h0,Bool.false_and]);clear h0;go_wp2;go_ret;exact ⟨by rw [HE.o];rfl,H3.o.2.2⟩
def IO (m:Nat) (t:Int):Nat:=if 4 < t then As m t else m
def EV {d:Nat} (c:Cm (d+1)):List Int:=[c.a,c.b,c.test.2.1,c.test.2.2] ++ Dv (Ak c.inv)
def IP:(d:Nat)→Nat→List (Cm d)→Nat
 | 0,m,_=>m
 | d+1,m,l=>l.foldl (fun m c=>IP d (IP d ((EV c).foldl IO m) (Cm.body c)) (Cm.els c)) m
theorem Sj {d m k:Nat} {l:List (Cm (d+1))} (h:k < l.length):IP (d+1) m (l.take (k+1))=IP d (IP d ((EV (gd l k)).foldl IO (IP (d+1) m (l.take k))) (gd l k).body) (gd l k).els:=by
 show (l.take (k+1)).foldl _ m=_
 rw [AT h,List.foldl_append];rfl
theorem T6 {j:Nat}:∀ (l:List Int) (m:Nat),(l.foldl IO m).testBit j=(m.testBit j || (decide (5≤j) && (l.foldl As 0).testBit j))
 | l,m=>by
   rw [Et,Nat.zero_testBit,Bool.false_or];induction l generalizing m with
   | nil=>simp
   | cons x l ih =>
     rw [List.foldl_cons,ih,List.any_cons,IO];split
     · rename_i h
       rw [AR];cases m.testBit j <;> cases ht:Al x <;> cases hx:decide (x=(j:Int)) <;> cases (l.any fun t=>Al t && decide (t=(j:Int))) <;> simp <;> (try (rw [decide_eq_true_eq] at hx;omega))
     · rename_i h
       cases m.testBit j <;> cases ht:Al x <;> cases hx:decide (x=(j:Int)) <;> cases (l.any fun t=>Al t && decide (t=(j:Int))) <;> simp <;> (try (rw [decide_eq_true_eq] at hx;omega))
theorem FT {d:Nat} (m:Nat) (c:Cm (d+1)) (j:Nat):(C9 m c).testBit j=(m.testBit j || ((EV c).foldl As 0).testBit j):=by
 have hk:=Hs c.inv;rw [Ay] at hk;have h2:((EV c).foldl As 0).testBit j=((([c.a,c.b,c.test.2.1,c.test.2.2]:List Int).any fun t=>Al t && decide (t=(j:Int))) || (Ak c.inv).testBit j):=by
  rw [Et,Nat.zero_testBit,Bool.false_or,EV,List.any_append];congr 1
  rw [← hk,Et,Nat.zero_testBit,Bool.false_or,hk]
 rw [h2,C9,Nat.testBit_or,AR,AR,AR,AR];simp only [List.any_cons,List.any_nil,Bool.or_false,Bool.or_assoc]
theorem FU:∀ (d:Nat) (l:List (Cm d)) (m j:Nat),(CO d m l).testBit j=(m.testBit j || (CO d 0 l).testBit j)
 | 0,l,m,j=>by rw [CO,CO,Nat.zero_testBit,Bool.or_false]
 | d+1,l,m,j=>by
   show (l.foldl _ m).testBit j=(m.testBit j || (l.foldl _ 0).testBit j)
   induction l generalizing m with
   | nil=>simp
   | cons c l ih =>
     rw [List.foldl_cons,List.foldl_cons,ih,ih (CO d (CO d (C9 0 c) c.body) c.els),FU d c.els,FU d c.body,FU d c.els (CO d (C9 0 c) c.body),FU d c.body (C9 0 c),FT m c,FT 0 c,Nat.zero_testBit,Bool.false_or];simp only [Bool.or_assoc]
theorem Ni:∀ (d:Nat) (l:List (Cm d)) (m j:Nat),(IP d m l).testBit j=(m.testBit j || (decide (5≤j) && (CO d 0 l).testBit j))
 | 0,l,m,j=>by rw [IP,CO,Nat.zero_testBit,Bool.and_false,Bool.or_false]
 | d+1,l,m,j=>by
   show (l.foldl _ m).testBit j=(m.testBit j || (decide (5≤j) && (l.foldl _ 0).testBit j))
   induction l generalizing m with
   | nil=>simp
   | cons c l ih =>
     have hL:(l.foldl (fun m c=>CO d (CO d (C9 m c) (Cm.body c)) (Cm.els c)) (CO d (CO d (C9 0 c) c.body) c.els)).testBit j=((CO d (CO d (C9 0 c) c.body) c.els).testBit j || (l.foldl (fun m c=>CO d (CO d (C9 m c) (Cm.body c)) (Cm.els c)) 0).testBit j):=FU (d+1) l _ j;rw [List.foldl_cons,List.foldl_cons,ih,hL,Ni d,Ni d,T6,FU d c.els (CO d (C9 0 c) c.body),FU d c.body (C9 0 c),FT 0 c,Nat.zero_testBit,Bool.false_or];cases decide (5≤j) <;> simp [Bool.or_assoc]
theorem Mw {a:Aj} (h:C3 a=true):Ah a=true:=by
 obtain ⟨l1,l2⟩:=a;have h2:decide (l1.length=0)=true∧decide (l2.length=0)=true:=by
  have h3:(decide (l1.length=0) && decide (l2.length=0))=true:=h;rwa [Bool.and_eq_true] at h3
 rw [decide_eq_true_eq,decide_eq_true_eq] at h2;obtain rfl:=List.eq_nil_of_length_eq_zero h2.1;obtain rfl:=List.eq_nil_of_length_eq_zero h2.2;rfl
theorem Lk {d:Nat} {c:Cm (d+1)} (h:AI c=true):((0≤c.a∧c.a≤8)∧(0≤c.b∧c.b≤8))∧((0≤c.test.2.1∧c.test.2.1≤8)∧(0≤c.test.2.2∧c.test.2.2≤8))∧Ah c.inv=true:=by
 rw [AI] at h;split at h
 · simp only [Bool.and_eq_true,decide_eq_true_eq] at h
   exact ⟨⟨by omega,by omega⟩,Cw.1 h.2.2.1,Mw h.2.2.2⟩
 · split at h
   · simp only [Bool.and_eq_true,decide_eq_true_eq] at h
     exact ⟨⟨by omega,by omega⟩,Cw.1 h.2.2.1,h.2.2.2.1⟩
   · have hf:=ER h
     rw [Bs,Bool.and_eq_true,Bool.and_eq_true] at h;have hn:=h.1;rw [Ib] at hn;simp only [Bool.and_eq_true,decide_eq_true_eq] at hn;simp only [ID,Bool.and_eq_true,Bool.or_eq_true,decide_eq_true_eq,IY,At] at hf;exact ⟨⟨by omega,by omega⟩,⟨by omega,by omega⟩,Mw h.2.1⟩
theorem Ve {d:Nat} {c:Cm (d+1)} (h:AI c=true):∀ t ∈ EV c,0≤t∧t≤8:=by
 have hh:=Lk h;intro t ht;rcases List.mem_append.1 ht with ht | ht
 · simp only [List.mem_cons,List.not_mem_nil,or_false] at ht
   rcases ht with rfl | rfl | rfl | rfl
   · exact hh.1.1
   · exact hh.1.2
   · exact hh.2.1.1
   · exact hh.2.1.2
 · obtain ⟨n,hn,rfl⟩:=List.mem_map.1 ht
   rw [List.mem_filter,List.mem_range'] at hn;obtain ⟨⟨i,hi,rfl⟩,_⟩:=hn;constructor
   · exact Int.natCast_nonneg _
   · show ((0+1 * i:Nat):Int)≤8
     omega
theorem T7 {d:Nat} (c:Cm (d+1)):(EV c).length≤13:=by
 rw [EV,List.length_append];have:=Hu (fun n=>(Ak c.inv).testBit n) 0 9;show 4+(Dv (Ak c.inv)).length≤13
 rw [Dv];omega
end Go.Proofs.YtkbbmjcfgcfejaaGreat
