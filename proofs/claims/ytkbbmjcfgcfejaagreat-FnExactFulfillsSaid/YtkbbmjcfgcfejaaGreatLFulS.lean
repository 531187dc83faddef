/- Walks: the strongest assertions after a program, verification (reference: StrongestPosts, VerifyProgram). -/
import Derived.Test.YtkbbmjcfgcfejaaGreatLRunW
set_option linter.unusedVariables false
set_option linter.unusedSimpArgs false
set_option maxRecDepth 100000
set_option maxHeartbeats 12800000
namespace Go.Proofs.YtkbbmjcfgcfejaaGreat
open Go.RowKit
theorem Ul {W w5:World} {S:Nat→Prop} {n:Nat} {x1 x2:Value} {a:Aj} (hn:W.heap.size=n) (hb:Below (W.alloc (.cells #[x1,x2] 26)).heap.size (W.alloc (.cells #[x1,x2] 26)) w5) (h1:RL W S x1 a.1) (h2:RL W S x2 a.2) (hS:S W.heap.size):RL w5 S (.slice (some ⟨n,0,none⟩) 1 1) [a]:=hn ▸ (Cr h1 h2 hS).keep hb
theorem Um (m:Nat):(Dv m).length≤9:=by rw [Dv];exact Hu _ _ _
theorem QF (d:Nat) {S1 S2 S:Nat→Prop} (v1 v2 v kv:Value) (pre:Aj) (l:List (Cm d)) (keep:List Int) (w:World) (h1:RL w S1 v1 pre.1) (h2:RL w S2 v2 pre.2) (h:RL w S v l) (hk:RInts w kv keep) (hsz:C4 d l≤1000000000000000000) :
 Calls Tryz.prog 159 #[.agg #[v1,v2],v,kv] w fun e w'=>∃ x,e=.returned (.tuple #[x,.int .i64 (CU pre l (Ay keep)).1])∧RL w' (fun _=>True) x (CU pre l (Ay keep)).2∧Below w.heap.size w w':=by
 obtain ⟨p1,c1,rfl⟩:=h1.form;obtain ⟨p2,c2,rfl⟩:=h2.form;obtain ⟨va,vc,rfl⟩:=h.form;obtain ⟨ka,kc,rfl,_⟩:=hk.cells;obtain ⟨T,hT⟩:=Ex (CU pre l (Ay keep));rw [hT];rw [CU] at hT;obtain ⟨w0,hw0⟩:=Ey (w.alloc (.cells #[.slice p1 pre.1.length c1,.slice p2 pre.2.length c2] 26));have hb0:Below w.heap.size w w0:=by rw [hw0];exact Aa _ _
 have hA:w0.heap[w.heap.size]?=some (.cells #[.slice p1 pre.1.length c1,.slice p2 pre.2.length c2] 26 (0,0)):=by rw [hw0];exact heap_alloc_new _ _
 have H0:=Ad (An (An (h1.keep hb0) (h2.keep hb0)) (An (An (h.keep hb0) (hk.keep hb0)) (An hA hb0)));have HW:=Ad hw0;have HT:=Ad hT;obtain ⟨b0,b1,bl⟩:=B3 hA;clear h1 h2 h hk hT hA hb0 hw0;go_enter Tryz.func159,Tryz.ntmps159
 go_upto_region 1 with fail
 rw [← HW.o];go_wp2_with fail
 refine (Ar _ _ pre _ H0.o.1.1 H0.o.1.2).mono ?_;rintro e w2 ⟨rfl,hb2⟩;have H2:=Ad (An (An (H0.o.1.1.keep hb2) (H0.o.1.2.keep hb2)) (An (An (H0.o.2.1.1.keep hb2) (H0.o.2.1.2.keep hb2)) (An (Ac H0.o.2.2.1 hb2) (bt H0.o.2.2.2 hb2))));clear hb2 b0 b1 bl;cases hv:Ah pre with
 | false =>
   have HE:=Ad (show T=(5,[]) by rw [← HT.o,hv,Bool.false_and,if_neg (by decide)]);clear hv;go_wp2;go_ret2;exact ⟨_,by rw [HE.o];rfl,by rw [HE.o];exact DS _ _ _,ba H2.o.2.2.2 _⟩
 | true =>
   have HV:=Ad hv;clear hv;(go_wp2_with fail);refine (Gf d _ l _ H2.o.2.1.1 hsz).mono ?_;rintro e w3 ⟨rfl,hb3⟩;have H3:=Ad (An (An (H2.o.1.1.keep hb3) (H2.o.1.2.keep hb3)) (An (An (H2.o.2.1.1.keep hb3) (H2.o.2.1.2.keep hb3)) (An (Ac H2.o.2.2.1 hb3) (bt H2.o.2.2.2 hb3))));clear hb3;cases hp:BY l with
   | false =>
     have HE:=Ad (show T=(5,[]) by rw [← HT.o,hp,Bool.and_false,if_neg (by decide)]);clear hp;go_wp2;go_ret2;exact ⟨_,by rw [HE.o];rfl,by rw [HE.o];exact DS _ _ _,ba H3.o.2.2.2 _⟩
   | true =>
     (have hs4:AZ d l 4=true:=by rw [BY,Bool.and_eq_true] at hp;exact hp.1);(have hE:BE (Ay (Dv (JR keep pre l))) d l [pre]=T:=by rw [QB,← HT.o,HV.o,hp,if_pos (by decide)]);obtain ⟨KL,hKL⟩:=Ex (Dv (JR keep pre l));rw [hKL] at hE;(have hkl:KL.length≤9:=by rw [← hKL];exact Um _);have HK:=Ad (An hs4 (An hE (An hKL hkl)));have HGV:=Ad (AX (n:=24) HV.o Dc);obtain ⟨b0,b1,bl⟩:=B3 H3.o.2.2.1;clear hp hs4 hE hKL hkl;(go_upto_region 3 with fail);go_region_held3 (fun w'=>w'.cell? ⟨w.heap.size,0,none⟩=some (.slice p1 pre.1.length c1)∧w'.cell? ⟨w.heap.size,1,none⟩=some (.slice p2 pre.2.length c2))
      (exact ⟨(Ck b0),(Ck b1)⟩)
      (first
        | (go_at_call 141;go_must (refine (Px _ _ pre _ (H3.o.1.1.keep Bl) (H3.o.1.2.keep Bl) (Co HV.o)).mono ?_;rintro e w5 ⟨x1,x2,rfl,o1',o2',hb5'⟩;have o1:=o1'.any;have o2:=o2'.any;obtain ⟨d1,m1,e1,rfl⟩:=o1.forms;obtain ⟨d2,m2,e2,rfl⟩:=o2.forms;have hb5:Below w3.heap.size w3 w5:=bt Bl hb5';have hz5:=hb5.size;clear hb5' o1' o2'))
        | (go_at_call 95;go_must (refine (O0 d _ _ _ _ pre l keep _ (H3.o.1.1.keep Bl) (H3.o.1.2.keep Bl) (H3.o.2.1.1.keep Bl) (H3.o.2.1.2.keep Bl) HV.o HK.o.1).mono ?_;rw [HK.o.2.2.1];rintro e w6 ⟨u,rfl,hu,hb6'⟩;obtain ⟨ua,uc,rfl,_⟩:=hu.cells;have hb6:Below w3.heap.size w3 w6:=bt Bl hb6';have hb56:Below w5.heap.size w5 w6:=bt Bl hb6';have hz6:=hb56.size;(first | (have hl:=Ul (S:=fun _=>True) (a:=pre) rfl hb6' o1 o2 trivial) | skip);clear hb6'))
        | (go_at_call 172;go_must (first | refine (O4 (keep:=KL) (by have:=HK.o.2.2.2;omega) d _ _ _ _ _ [pre] l 4 _ hl (H3.o.2.1.1.keep Bl) (hu.keep Bl) HGV.o HK.o.1).mono ?_ | refine (O4 (keep:=KL) (by have:=HK.o.2.2.2;omega) d (fun _=>True) _ _ _ _ [pre] l 4 _ (Ul (S:=fun _=>True) rfl (Below.refl _ _) (o1.keep Bl) (o2.keep Bl) trivial) (H3.o.2.1.1.keep Bl) (hu.keep Bl) HGV.o HK.o.1).mono ?_);rw [HK.o.2.1];rintro e w7 ⟨r,rfl,hr',hb7'⟩;have hr:=hr'.any;obtain ⟨ra,rc,rfl⟩:=hr.form;have hb7:Below w3.heap.size w3 w7:=bt Bl hb7';clear hr' hb7')
        | fail)
     all_goals
      have HQ:=Ad (An hr (bt H3.o.2.2.2 hb7));clear hr hb7;go_wp2;go_ret2;exact ⟨_,rfl,HQ.o.1,HQ.o.2⟩
theorem JS (d:Nat) {S1 S2 S3 S4 S:Nat→Prop} (v1 v2 v u1 u2:Value) (pre post:Aj) (l:List (Cm d)) (w:World) (h1:RL w S1 v1 pre.1) (h2:RL w S2 v2 pre.2) (h:RL w S v l) (k1:RL w S3 u1 post.1) (k2:RL w S4 u2 post.2) (hsz:C4 d l≤1000000000000000000) :
 Calls Tryz.prog 85 #[.agg #[v1,v2],v,.agg #[u1,u2]] w fun e w'=>e=.returned (.int .i64 (K2 pre l post))∧Below w.heap.size w w':=by
 obtain ⟨p1,c1,rfl⟩:=h1.form;obtain ⟨p2,c2,rfl⟩:=h2.form;obtain ⟨va,vc,rfl⟩:=h.form;obtain ⟨q1,g1,rfl⟩:=k1.form;obtain ⟨q2,g2,rfl⟩:=k2.form;obtain ⟨V,hV⟩:=Ex (K2 pre l post);rw [hV];obtain ⟨T,hT⟩:=Ex (CU pre l (Ak post));rw [K2,hT] at hV;have hkt:CU pre l (Ay (Dv (Ak post)))=T:=by rw [Hs,hT]
 obtain ⟨w0,hw0⟩:=Ey ((w.alloc (.cells #[.slice p1 pre.1.length c1,.slice p2 pre.2.length c2] 26)).alloc (.cells #[.slice q1 post.1.length g1,.slice q2 post.2.length g2] 26));have hb0:Below w.heap.size w w0:=by rw [hw0];exact ba (Aa _ _) _
 have hA:w0.heap[w.heap.size]?=some (.cells #[.slice p1 pre.1.length c1,.slice p2 pre.2.length c2] 26 (0,0)):=by rw [hw0];exact Ac (heap_alloc_new w _) (Aa _ _)
 have hB:w0.heap[w.heap.size+1]?=some (.cells #[.slice q1 post.1.length g1,.slice q2 post.2.length g2] 26 (0,0)):=by
  rw [hw0];have:=heap_alloc_new (w.alloc (.cells #[.slice p1 pre.1.length c1,.slice p2 pre.2.length c2] 26)) (.cells #[.slice q1 post.1.length g1,.slice q2 post.2.length g2] 26);rw [World.size_alloc] at this;exact this
 have H0:=Ad (An (An (h1.keep hb0) (h2.keep hb0)) (An (An (h.keep hb0) (An (k1.keep hb0) (k2.keep hb0))) (An (An hA hB) hb0)));have HW:=Ad hw0;have HT:=Ad (An hkt hV);obtain ⟨b0,b1,bl⟩:=B3 hB;clear h1 h2 h k1 k2 hT hV hkt hA hB hb0 hw0;go_enter Tryz.func85,Tryz.ntmps85
 go_upto_region 1 with fail
 rw [← HW.o];go_wp2_with fail
 refine (Ar _ _ post _ H0.o.2.1.2.1 H0.o.2.1.2.2).mono ?_;rintro e w2 ⟨rfl,hb2⟩;have H2:=Ad (An (An (H0.o.1.1.keep hb2) (H0.o.1.2.keep hb2)) (An (An (H0.o.2.1.1.keep hb2) (An (H0.o.2.1.2.1.keep hb2) (H0.o.2.1.2.2.keep hb2))) (An (An (Ac H0.o.2.2.1.1 hb2) (Ac H0.o.2.2.1.2 hb2)) (bt H0.o.2.2.2 hb2))));clear hb2 b0 b1 bl;cases hv:Ah post with
 | false =>
   have HE:=Ad (show V=5 by rw [← HT.o.2,hv,if_neg (by decide)]);clear hv;go_wp2;go_ret;exact ⟨by rw [HE.o];rfl,H2.o.2.2.2⟩
 | true =>
   have HV:=Ad (An (K7 hv) (show V=if T.1=0 then (if (T.2.all fun p=>Cp p post)=true then 0 else 2) else T.1 by rw [← HT.o.2,hv,if_pos rfl]));clear hv;obtain ⟨a0,a1,al⟩:=B3 H2.o.2.2.1.1;obtain ⟨b0,b1,bl⟩:=B3 H2.o.2.2.1.2;obtain ⟨TM,hTM⟩:=Ex (Ak post);have HTM:=Ad (An hTM (show CU pre l (Ay (Dv TM))=T by rw [← hTM];exact HT.o.1));clear hTM;(go_upto_region 3 with fail);go_cut [7,8] (fun s7 s8 wc=>s8=.int .i64 T.1∧RL wc (fun _=>True) s7 T.2∧Below w2.heap.size w2 wc)
   case first =>
    go_region_held3 (fun w'=>(w'.cell? ⟨w.heap.size,0,none⟩=some (.slice p1 pre.1.length c1)∧w'.cell? ⟨w.heap.size,1,none⟩=some (.slice p2 pre.2.length c2))∧(w'.cell? ⟨w.heap.size+1,0,none⟩=some (.slice q1 post.1.length g1)∧w'.cell? ⟨w.heap.size+1,1,none⟩=some (.slice q2 post.2.length g2)))
     (exact ⟨⟨(Ck a0),(Ck a1)⟩,(Ck b0),(Ck b1)⟩)
     (first
       | (go_at_call 75;go_must (refine (BQ _ _ post _ (H2.o.2.1.2.1.keep Bl) (H2.o.2.1.2.2.keep Bl) (List.all_eq_true.2 HV.o.1.1.2) (List.all_eq_true.2 HV.o.1.2.2)).mono ?_;rw [HTM.o.1];rintro e w4 ⟨x,rfl,ho,hb4'⟩;have hb4:Below w2.heap.size w2 w4:=bt Bl hb4';obtain ⟨xa,xc,rfl,_⟩:=A8 ho;clear hb4'))
       | (go_at_call 160;go_must (refine (Fw TM _ _ _ (Ag ho Bl)).mono ?_;rintro e w5 ⟨x,rfl,ho5,hb5'⟩;have hb5:Below w2.heap.size w2 w5:=bt hb4 (bt Bl hb5');have hi:=(CV ho5).1;obtain ⟨ya,yc,rfl,_⟩:=A8 ho5;clear hb5' ho5))
       | (go_at_call 159;go_must (refine (QF d _ _ _ _ pre l (Dv TM) _ (H2.o.1.1.keep Bl) (H2.o.1.2.keep Bl) (H2.o.2.1.1.keep Bl) (hi.keep Bl) hsz).mono ?_;rw [HTM.o.2];rintro e w6 ⟨r,rfl,hr,hb6'⟩;have hb6:Below w2.heap.size w2 w6:=bt Bl hb6';obtain ⟨ra,rc,rfl⟩:=hr.form;clear hb6'))
       | fail)
    all_goals
     have HQ:=Ad (An hr hb6);clear hr hb6 hb5 hb4 hi ho;go_wp2;go_meet
     case rel=>exact ⟨rfl,HQ.o.1,HQ.o.2⟩
   case rest =>
    rename World=>wd
    obtain ⟨rfl,hr,hbd⟩:=hcut;obtain ⟨ra,rc,rfl⟩:=hr.form;have hrl:=hr.len;have H4:=Ad (An (An (H2.o.2.1.2.1.keep hbd) (H2.o.2.1.2.2.keep hbd)) (An hr (An (Ac H2.o.2.2.1.2 hbd) (bt H2.o.2.2.2 hbd))));have HRL:=Ad hrl;clear a0 a1 al b0 b1 bl hbd hr hrl;(go_upto_region 5 with fail);by_cases h0:T.1=0
    · have y0:(T.1 == 0)=true:=beq_iff_eq.2 h0
      obtain ⟨K,hK⟩:∃ K,(T.2.all fun p=>Cp p post)=K:=⟨_,rfl⟩;have HE:=Ad (An hK (An (show V=if K=true then 0 else 2 by rw [HV.o.2,if_pos h0,hK]) h0));clear h0 hK;go_loopg [9] T.2.length (fun q i wr=>∃ j:Nat,j+q=T.2.length∧i=.int .i64 j∧((T.2.take j).all fun p=>Cp p post)=true∧Below wd.heap.size wd wr)
      case atStart=>exact ⟨0,by omega,rfl,rfl,Below.refl _ _⟩
      case round =>
       obtain ⟨j,hj,rfl,ht,hW⟩:=hrel;have HJ:=Ad (An hj (An ht hW));have hzs:=hW.size;clear hj ht;by_cases hj8:j < T.2.length
       · have i1:(j:Int) < (T.2.length:Int):=by omega
         obtain ⟨qa,qc,hqe,_,_,hqf⟩:=(H4.o.2.1.keep hW).asnAt;simp only [Value.slice.injEq,true_and] at hqe;obtain ⟨rfl,rfl⟩:=hqe;obtain ⟨bb,oo,u1,u2,rfl,_,hzb,hp1,hp2,r1,r2⟩:=hqf j hj8;obtain ⟨g1',l1,rfl⟩:=r1.form;obtain ⟨g2',l2,rfl⟩:=r2.form;have hBb:=Ac H4.o.2.2.1 hW;obtain ⟨b0,b1,bl⟩:=B3 hBb;obtain ⟨b,hb⟩:=Ex (Cp (gd T.2 j) post);have HQ:=Ad (An (An r1 r2) (An hb hj8));have HI:=Ad (An (H4.o.1.1.keep hW) (H4.o.1.2.keep hW));clear r1 r2 hb hqf hBb hW;(go_upto_region 7 with fail);refine Af Kr Kr ?_;repeat (go_big_quiet_step ((go_at_call 97;exact Eu (cb (FM _ _ _ _ (gd T.2 j) post _ (HQ.o.1.1.keep (AV _ _)) (HQ.o.1.2.keep (AV _ _)) (HI.o.1.keep (AV _ _)) (HI.o.2.keep (AV _ _))) HQ.o.2.1))))
         refine wpQuiet_nil ?_;intro w6 hb6;have HB6:=Ad (bt HJ.o.2.2 hb6);clear hb6 hp1 hp2 b0 b1 bl;cases b with
         | false =>
           have HF:=Ad (show V=2 by rw [HE.o.2.1,← HE.o.1,IJ HQ.o.2.2 HQ.o.2.1,if_neg (by decide)]);go_wp2;go_ret;exact ⟨by rw [HF.o];rfl,bt H4.o.2.2.2 HB6.o⟩
         | true =>
           have HS:=Ad (IK HQ.o.2.2 HJ.o.2.1 HQ.o.2.1);go_wp2;go_roundg (gk - 1)
           case rel=>exact ⟨j+1,Jo HJ.o.1 HQ.o.2.2,(by first | exact Mq HQ.o.2.2 HRL.o (Nat.le_refl _) | go_num),HS.o,HB6.o⟩
           case measure=>exact Jp HJ.o.1 HQ.o.2.2
       · have hjn:j=T.2.length:=by have:=HJ.o.1;omega
         subst hjn;(have i1:¬ (T.2.length:Int) < (T.2.length:Int):=by omega);have HF:=Ad (show V=T.1 by rw [HE.o.2.1,← HE.o.1,← List.take_length (l:=T.2),HJ.o.2.1,if_pos rfl,HE.o.2.2]);clear hW;go_wp2;go_ret;exact ⟨by rw [HF.o];rfl,bt H4.o.2.2.2 HJ.o.2.2⟩
    · have y0:(T.1 == 0)=false:=beq_eq_false_iff_ne.2 h0
      have HF:=Ad (show V=T.1 by rw [HV.o.2,if_neg h0]);clear h0;go_loopg [9] 1 (fun q i wr=>i=.int .i64 0∧wr=wd)
      case atStart=>exact ⟨rfl,rfl⟩
      case round =>
       obtain ⟨rfl,rfl⟩:=hrel;by_cases hl0:0 < T.2.length
       · have i1:(0:Int) < (T.2.length:Int):=by omega
         go_wp2;go_ret;exact ⟨by rw [HF.o];rfl,H4.o.2.2.2⟩
       · have i1:¬ (0:Int) < (T.2.length:Int):=by omega
         go_wp2;go_ret;exact ⟨by rw [HF.o];rfl,H4.o.2.2.2⟩
theorem LG (va vb:Value) (la lb:List Int) (w:World) (h1:RInts w va la) (h2:RInts w vb lb) (hl:∀ t ∈ la,0≤t∧t≤8) :
 Calls Tryz.prog 86 #[va,vb] w fun e w'=>e=.returned (.bool (la.all fun t=>(Ay lb).testBit t.toNat))∧Below w.heap.size w w':=by
 obtain ⟨qa,qc,rfl,hqc⟩:=h1.cells;obtain ⟨ya,yc,rfl,_⟩:=h2.cells;obtain ⟨A,hA⟩:∃ A,(la.all fun t=>(Ay lb).testBit t.toNat)=A:=⟨_,rfl⟩;have hlen:=h1.len;have F:=Ad hqc;have H:=Ad (An (An h1 h2) (An hl (An hA hlen)));rw [hA];clear h1 h2 hl hA hqc hlen;go_enter Tryz.func86,Tryz.ntmps86
 go_wp2;go_loopg [5] la.length (fun q i wr=>∃ k:Nat,k+q=la.length∧i=.int .i64 (k:Int)∧((la.take k).all fun t=>(Ay lb).testBit t.toNat)=true∧Below w.heap.size w wr)
 case atStart=>exact ⟨0,by omega,rfl,rfl,Below.refl _ _⟩
 case round =>
  obtain ⟨k,hk,rfl,hT,hW⟩:=hrel;have HK:=Ad (An (An hk hT) hW);have hsw:=hW.size;clear hk hT;by_cases hk8:k < la.length
  · have i1:(k:Int) < (la.length:Int):=by omega
    obtain ⟨b1,o1,rfl,hz1,p1⟩:=F.o k hk8;(have hgi:gi la k=gd la k:=by first | rfl | (simp [gi,gd];done));rw [hgi] at p1;(have hzr:b1 < wr.heap.size:=by omega);have hv:=H.o.2.1 _ (Be hk8);obtain ⟨n,hn⟩:=Int.eq_ofNat_of_zero_le hv.1;rw [hn] at p1 hv;(have n8:n≤8:=by omega);(have n9:(n:Int) < 9:=by omega);replace p1:=Ab hW p1;obtain ⟨y,hy⟩:=Ex ((Ay lb).testBit n);have HX:=Ad hy;have HN:=Ad (An hn hk8);clear hv hy hn hW hgi;(go_upto_region 4 with fail);refine wp_region_noPanic ?_;refine wp_region_held_drew (S:=(fun w'=>w'.cell? ⟨b1,o1+k,none⟩=some (.int .i64 (n:Int)))) Kr ?_ (fun hHeld=>?_)
    · try dsimp only
      exact Ab (Ai wr) p1
    refine wpAnyH_take (i:=0) (oi:=_) (v:=?_) rfl Kr Kr Kr (fun _ _ _ h=>h) (Or.inl ⟨by rfl,?_⟩) (by assumption) ?_;rotate_left
    · (intro w hSw;(try dsimp only at hSw);first | (go_simp;done) | (go_simp;with_reducible rfl))
    refine wpAnyH_take (i:=2) (oi:=_) (v:=?_) rfl Kr Kr Kr (fun _ _ _ h=>h) (Or.inl ⟨by rfl,?_⟩) (by assumption) ?_;rotate_left
    · (intro w hSw;(try dsimp only at hSw);first | (go_simp;done) | (go_simp;with_reducible rfl))
    refine wpAnyH_take (i:=3) (oi:=_) (v:=?_) rfl Kr Kr Kr (fun _ _ _ h=>h) (Or.inl ⟨by rfl,?_⟩) (by assumption) ?_;rotate_left
    · (intro w hSw;(try dsimp only at hSw);first | (go_simp;done) | (go_simp;with_reducible rfl))
    refine wpAnyH_take (i:=4) (oi:=_) (v:=?_) rfl Kr Kr Kr (fun _ _ _ h=>h) (Or.inl ⟨by rfl,?_⟩) (by assumption) ?_;rotate_left
    · (intro w hSw;(try dsimp only at hSw);first | (go_simp;done) | (go_simp;with_reducible rfl))
    refine wpAnyH_take (i:=5) (oi:=_) (v:=?_) rfl Kr Kr Kr (fun _ _ _ h=>h) (Or.inl ⟨by rfl,?_⟩) (by assumption) ?_;rotate_left
    · (intro w hSw;(try dsimp only at hSw);first | (go_simp;done) | (go_simp;with_reducible rfl))
    refine wpAnyH_ready (rs:=[1]) Kr Sp ?_;refine AllReadyH.cons (o:=_) rfl (fun K hK=>?_) AllReadyH.nil;go_simp
    go_at_call 74;(with_reducible refine (E1 _ lb _ (H.o.1.2.keep (bt HK.o.2 (Ai wr)))).mono ?_);rintro e w6 ⟨u,rfl,ho,hb6⟩;have hb7:=bt (Ai wr) hb6;replace p1:=Ab hb7 p1;obtain ⟨ga,gc,rfl,hg⟩:=A8 ho;obtain ⟨g1,rfl⟩:=hg 0 Dc;clear hg;have hl1:=(AD ho (k:=g1) rfl).2;have y1:=ho.cellAt n Om;rw [AP (Ay lb) n Om,HX.o] at y1;have HB:=Ad hb7;clear hb6 hb7 ho
    (go_wp2_with fail);refine hK.out _ _ ?_ (fun hHeld=>?_)
    · try dsimp only
      exact p1
    clear hK K;refine wpAnyH_take (i:=6) (oi:=_) (v:=?_) rfl Kr Kr Kr (fun _ _ _ h=>h) (Or.inl ⟨by rfl,?_⟩) (by assumption) ?_;rotate_left
    · (intro w hSw;(try dsimp only at hSw);first | (go_simp;done) | (go_simp;with_reducible rfl))
    refine wpAnyH_ready (rs:=[7]) Kr Sp ?_;refine AllReadyH.cons (o:=_) rfl (fun K hK=>?_) AllReadyH.nil;go_simp
    refine hK.out _ _ ?_ (fun hHeld=>?_)
    · try dsimp only
      exact p1
    clear hK K;refine wpAnyH_take (i:=8) (oi:=_) (v:=?_) rfl Kr Kr Kr (fun _ _ _ h=>h) (Or.inl ⟨by rfl,?_⟩) (by assumption) ?_;rotate_left
    · (intro w hSw;(try dsimp only at hSw);first | (go_simp;done) | (go_simp;with_reducible rfl))
    refine wpAnyH_done Kr ?_ _;refine NoPanic.normal ?_;have HR:=Ad (bt HK.o.2 HB.o);cases y with
    | false =>
      have HA:=Ad (show A=false by rw [← H.o.2.2.1];exact IJ (p:=fun t=>(Ay lb).testBit t.toNat) HN.o.2 (by show (Ay lb).testBit (gd la k).toNat=false;rw [HN.o.1];exact HX.o));go_wp2;go_returns;rw [HA.o];exact ⟨rfl,HR.o⟩
    | true =>
      have HS:=Ad (IK (p:=fun t=>(Ay lb).testBit t.toNat) HN.o.2 HK.o.1.2 (by show (Ay lb).testBit (gd la k).toNat=true;rw [HN.o.1];exact HX.o));go_wp2;go_roundg (gk - 1)
      case rel=>exact ⟨k+1,Jo HK.o.1.1 HN.o.2,Mq HN.o.2 H.o.2.2.2 (Nat.le_refl _),HS.o,HR.o⟩
      case measure=>exact Jp HK.o.1.1 HN.o.2
  · obtain rfl:k=la.length:=by have:=HK.o.1.1;omega
    have HA:=Ad (show A=true by rw [← H.o.2.2.1,← HK.o.1.2,List.take_length]);go_wp2;go_returns;rw [HA.o];exact ⟨rfl,HK.o.2⟩
theorem ci {P:Program} {f:FuncId} {args:Array Value} {w:World} {T b:Int} {R:World→Prop} (h:Calls P f args w fun e w'=>e=.returned (.int .i64 T)∧R w') (e:T=b) :
 Calls P f args w fun e w'=>e=.returned (.int .i64 b)∧R w':=by subst e;exact h
theorem QG (c K:Nat):((Dv c).all fun t=>K.testBit t.toNat)=FP c K:=by
 rw [Bool.eq_iff_iff,FP,List.all_eq_true,List.all_eq_true];constructor
 · intro h i hi
   rw [List.mem_range] at hi;cases hc:c.testBit i with
   | false=>rfl
   | true =>
     have:=h (i:Int) (List.mem_map.2 ⟨i,List.mem_filter.2 ⟨by rw [List.mem_range'];exact ⟨i,hi,by omega⟩,hc⟩,rfl⟩);rw [Int.toNat_natCast] at this;rw [this];rfl
 · intro h t ht
   obtain ⟨n,hn,rfl⟩:=List.mem_map.1 ht;rw [List.mem_filter,List.mem_range'] at hn;obtain ⟨⟨i,hi,rfl⟩,hc⟩:=hn;have h2:=h (0+1 * i) (List.mem_range.2 Om);rw [hc] at h2;show K.testBit ((0+1 * i:Nat):Int).toNat=true
   rw [Int.toNat_natCast];simpa using h2
theorem Wj {d:Nat} {pre post:Aj} {l:List (Cm d)} (h:K2 pre l post=0):BY l=true:=by
 rw [K2] at h;split at h
 · split at h
   · rename_i h1
     rw [CU] at h1;split at h1
     · rename_i h2
       rw [Bool.and_eq_true] at h2;exact h2.2
     · exact absurd h1 Dc
   · rename_i h1;exact absurd h h1
 · exact absurd h Dc
theorem Vj (m:Nat):∀ t ∈ Dv m,0≤t∧t≤8:=fun t ht=>by
 obtain ⟨n,hn,rfl⟩:=List.mem_map.1 ht;rw [List.mem_filter,List.mem_range'] at hn;obtain ⟨⟨i,hi,rfl⟩,_⟩:=hn;exact ⟨Int.natCast_nonneg _,by show ((0+1 * i:Nat):Int)≤8;omega⟩
theorem LH (d:Nat) {S1 S:Nat→Prop} (v p1 p2 q1 q2 ch:Value) (k:Q1) (l:List (Cm d)) (w:World) (h:RL w S v l) (hk:RCon w S1 p1 p2 q1 q2 ch k) (hsz:C4 d l≤1000000000000000000) :
 Calls Tryz.prog 19 #[v,.agg #[p1,p2,q1,q2,ch]] w fun e w'=>e=.returned (.bool (P9 l k))∧Below w.heap.size w w':=by
 obtain ⟨va,vc,rfl⟩:=h.form;obtain ⟨n1,c1,rfl⟩:=hk.pre1.form;obtain ⟨n2,c2,rfl⟩:=hk.pre2.form;obtain ⟨n3,c3,rfl⟩:=hk.post1.form;obtain ⟨n4,c4,rfl⟩:=hk.post2.form;obtain ⟨n5,c5,rfl⟩:=hk.chg.form;obtain ⟨F,hF⟩:=Ex (P9 l k);rw [hF];rw [P9] at hF;obtain ⟨V,hV⟩:=Ex (K2 k.1 l k.2.1);have hok:V=0→BY l=true:=fun h=>Wj (hV.trans h);rw [hV] at hF;obtain ⟨w0,hw0⟩:=Ey (w.alloc (.cells #[.slice n1 k.1.1.length c1,.slice n2 k.1.2.length c2,.slice n3 k.2.1.1.length c3,.slice n4 k.2.1.2.length c4,.slice n5 k.2.2.length c5] 29));have hb0:Below w.heap.size w w0:=by rw [hw0];exact Aa _ _
 have hB:BoxK w0 w.heap.size (.slice n1 k.1.1.length c1) (.slice n2 k.1.2.length c2) (.slice n3 k.2.1.1.length c3) (.slice n4 k.2.1.2.length c4) (.slice n5 k.2.2.length c5):=by rw [hw0];exact Iq _ _ _ _ _ _
 have H0:=Ad (An (An (h.keep hb0) (hk.keep hb0)) (An hB hb0));have HW:=Ad hw0;have HF:=Ad (An hF (An hV hok));obtain ⟨b0,b1,b2,b3,b4⟩:=hB.cells;have bl:=hB.lt;clear h hk hF hV hok hB hb0 hw0;go_enter Tryz.func19,Tryz.ntmps19
 go_upto_region 1 with fail
 rw [← HW.o];cases hv:PM k with
 | false =>
   have HE:=Ad (An hv (show F=false by rw [← HF.o.1,hv,Bool.false_and]));clear hv;refine Af Kr Kr ?_;repeat (go_big_quiet_step ((go_at_call 72;exact Eu (cb (E9 _ _ _ _ _ k _ (H0.o.1.2.keep (AV _ _))) HE.o.1))))
   refine wpQuiet_nil ?_;intro w5 hb5;have HB:=Ad (bt H0.o.2.2 hb5);clear hb5;go_wp2;go_ret;exact ⟨by rw [HE.o.2];rfl,HB.o⟩
 | true =>
   by_cases h0:V=0
   · subst h0
     (have hcl:Qj l=Dv (CQ d 0 l):=by rw [Qj,if_pos (HF.o.2.2 rfl)];rfl);have HE:=Ad (An hv (An hcl (show F=FP (CQ d 0 l) (Ay k.2.2) by rw [← HF.o.1,hv];rfl)));clear hv hcl;go_region_held3 (fun w'=>(w'.cell? ⟨w.heap.size,0,none⟩=some (.slice n1 k.1.1.length c1)∧w'.cell? ⟨w.heap.size,1,none⟩=some (.slice n2 k.1.2.length c2))∧(w'.cell? ⟨w.heap.size,2,none⟩=some (.slice n3 k.2.1.1.length c3)∧w'.cell? ⟨w.heap.size,3,none⟩=some (.slice n4 k.2.1.2.length c4)∧w'.cell? ⟨w.heap.size,4,none⟩=some (.slice n5 k.2.2.length c5)))
      (exact ⟨⟨(Ck b0),(Ck b1)⟩,(Ck b2),(Ck b3),(Ck b4)⟩)
      (first
        | (go_at_call 72;go_must (refine (cb (E9 _ _ _ _ _ k _ (H0.o.1.2.keep Bl)) HE.o.1).mono ?_;rintro e w2 ⟨rfl,hb2'⟩;have hb2:Below w0.heap.size w0 w2:=bt Bl hb2';clear hb2'))
        | (go_at_call 85;go_must (refine (JS d _ _ _ _ _ k.1 k.2.1 l _ (H0.o.1.2.pre1.keep Bl) (H0.o.1.2.pre2.keep Bl) (H0.o.1.1.keep Bl) (H0.o.1.2.post1.keep Bl) (H0.o.1.2.post2.keep Bl) hsz).mono ?_;rw [HF.o.2.1];rintro e w3 ⟨rfl,hb3'⟩;have hb3:Below w0.heap.size w0 w3:=bt Bl hb3';clear hb3'))
        | (go_at_call 87;go_must (refine (Nd d _ l _ (H0.o.1.1.keep Bl) hsz).mono ?_;rw [HE.o.2.1];rintro e w4 ⟨u,rfl,hu',hb4'⟩;have hu:=hu'.ints;obtain ⟨ua,uc,rfl,_⟩:=hu.cells;have hb4:Below w0.heap.size w0 w4:=bt Bl hb4';clear hb4' hu'))
        | (go_at_call 86;go_must (refine (LG _ _ (Dv (CQ d 0 l)) k.2.2 _ (hu.keep Bl) (H0.o.1.2.chg.keep Bl).ints (Vj _)).mono ?_;rw [QG,← HE.o.2.2];rintro e w5 ⟨rfl,hb5'⟩;have hb5:Below w0.heap.size w0 w5:=bt Bl hb5';clear hb5'))
        | fail)
     all_goals
      have HB:=Ad (bt H0.o.2.2 hb5);clear hb2 hb3 hb4 hb5 hu;go_wp2;go_ret;exact ⟨rfl,HB.o⟩
   · have y0:(V == 0)=false:=beq_eq_false_iff_ne.2 h0
     have HE:=Ad (An hv (show F=false by rw [← HF.o.1,hv,decide_eq_false h0];rfl));clear hv h0;refine Af Kr Kr ?_;repeat (go_big_quiet_step (first
      | (go_at_call 72;exact Eu (cb (E9 _ _ _ _ _ k _ (H0.o.1.2.keep (AV _ _))) HE.o.1))
      | (go_at_call 85;exact Eu (ci (JS d _ _ _ _ _ k.1 k.2.1 l _ (H0.o.1.2.pre1.keep (AV _ _)) (H0.o.1.2.pre2.keep (AV _ _)) (H0.o.1.1.keep (AV _ _)) (H0.o.1.2.post1.keep (AV _ _)) (H0.o.1.2.post2.keep (AV _ _)) hsz) HF.o.2.1))))
     refine wpQuiet_nil ?_;intro w5 hb5;have HB:=Ad (bt H0.o.2.2 hb5);clear hb5;go_wp2;go_ret;exact ⟨by rw [HE.o.2];rfl,HB.o⟩
end Go.Proofs.YtkbbmjcfgcfejaaGreat
