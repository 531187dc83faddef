/- Walk: symbolic execution of a command without blocks (program: symBasic). (Printed by gen_symm.py.) -/
import Derived.Test.YtkbbmjcfgcfejaaGreatLGxs
set_option linter.unusedVariables false
set_option linter.unusedSimpArgs false
set_option maxRecDepth 100000
set_option maxHeartbeats 12800000
namespace Go.Proofs.YtkbbmjcfgcfejaaGreat
open Go.RowKit
theorem OH {w w3:World} {b C:Aj} {O:Option (List Aj)} {x1 x2:Value} {o:Obj} (hO:O=some [b]) (hC:C=b) (h:RL w3 (fun k=>w.heap.size≤k) x1 C.1∧RL w3 (fun k=>w.heap.size≤k) x2 C.2) (hb:Below w.heap.size w w3) :
 V9 O w (.returned (.tuple #[.slice (some ⟨w3.heap.size+1,0,none⟩) 1 1,.bool true])) ((w3.alloc o).alloc (.cells #[x1,x2] 26)):=by
 subst hO;subst hC;have hl:=GX.lit (w:=w3.alloc o) (B:=w.heap.size) (R:=fun k=>w.heap.size≤k) (a:=C) (h.1.keep (Aa _ o)) (h.2.keep (Aa _ o)) (by have:=hb.size;simp;omega) (fun k _ h=>h);rw [World.size_alloc] at hl;exact ⟨_,[C],rfl,fun l h=>Option.some.inj h,hl,ba (ba hb _) _⟩
theorem WF {j g n:Nat} (h:j+g=n) (h2:j < n):j+1+(g - 1)=n:=by omega
theorem WG {j g n:Nat} (h:j+g=n) (h2:j < n):g - 1 < g:=by omega
theorem Wz {j n:Nat} (h:j < n) (hn:n≤128):Value.int .i64 (wrap64 ((j:Int)+1))=.int .i64 ((j+1:Nat):Int) :=
 congrArg _ ((IntWalk.wrap64_in _ ⟨by omega,by omega⟩).trans Om)
theorem Lz {S1 S2:Nat→Prop} (v1 v2:Value) (k ca cb tx ty:Int) (tb:Bool) (ga1 ga2 ga3 ga4:Option Addr) (gn1 gn2 gn3 gn4 gc1 gc2 gc3 gc4:Nat) (a:Aj) (m:Nat) (w:World) (h1:RL w S1 v1 a.1) (h2:RL w S2 v2 a.2) (hm:m < 65536) (ha:Ah a=true) :
 Calls Tryz.prog 266 #[.agg #[v1,v2],.agg #[.int .i64 k,.int .i64 ca,.int .i64 cb,.bool tb,.int .i64 tx,.int .i64 ty,.slice ga1 gn1 gc1,.slice ga2 gn2 gc2,.slice ga3 gn3 gc3,.slice ga4 gn4 gc4],.int .u16 m] w (V9 (BV k ca cb m a) w):=by
 have hsz:=Co ha;obtain ⟨xa1,xc1,rfl⟩:=h1.form;obtain ⟨xa2,xc2,rfl⟩:=h2.form;obtain ⟨O,hO⟩:=Ex (BV k ca cb m a);rw [hO];obtain ⟨w0,hw0⟩:=Ey ((w.alloc (.cells #[.slice xa1 a.1.length xc1,.slice xa2 a.2.length xc2] 26)).alloc (.cells #[.int .i64 k,.int .i64 ca,.int .i64 cb,.bool tb,.int .i64 tx,.int .i64 ty,.slice ga1 gn1 gc1,.slice ga2 gn2 gc2,.slice ga3 gn3 gc3,.slice ga4 gn4 gc4] 63));have hA:w0.heap[w.heap.size]?=some (.cells #[.slice xa1 a.1.length xc1,.slice xa2 a.2.length xc2] 26 (0,0)):=by rw [hw0];exact Ac (heap_alloc_new w _) (Aa _ _)
 have hCm:w0.heap[w.heap.size+1]?=some (.cells #[.int .i64 k,.int .i64 ca,.int .i64 cb,.bool tb,.int .i64 tx,.int .i64 ty,.slice ga1 gn1 gc1,.slice ga2 gn2 gc2,.slice ga3 gn3 gc3,.slice ga4 gn4 gc4] 63 (0,0)):=by
  rw [hw0];have:=heap_alloc_new (w.alloc (.cells #[.slice xa1 a.1.length xc1,.slice xa2 a.2.length xc2] 26)) (.cells #[.int .i64 k,.int .i64 ca,.int .i64 cb,.bool tb,.int .i64 tx,.int .i64 ty,.slice ga1 gn1 gc1,.slice ga2 gn2 gc2,.slice ga3 gn3 gc3,.slice ga4 gn4 gc4] 63);rw [World.size_alloc] at this;exact this
 have hb0:Below w.heap.size w w0:=by rw [hw0];exact ba (Aa _ _) _
 have HW0:=Ad hw0;obtain ⟨M1,hM1⟩:=Ex (As m ca);obtain ⟨M,hM⟩:=Ex (As M1 cb);have hMk:D6 m ca cb=M:=by rw [D6,hM1,hM]
 have HM:=Ad (An hM1 (An hM (An hMk (An (show M1 < 65536 by rw [← hM1];exact AJ hm) (show M < 65536 by rw [← hMk];exact U5 ca cb hm)))));have H0:=Ad (An (An hA hCm) (An (h1.keep hb0) (An (h2.keep hb0) hb0)));have HO:=Ad hO;have HA:=Ad (An ha hsz);obtain ⟨c0,c1,cl⟩:=B3 hA;obtain ⟨k0,k1,k2,k3,k4,k5,k6,k7,k8,k9⟩:=Dk hCm;have kl:=Ae hCm;clear hA hCm hb0 hw0 hM1 hM hMk h1 h2 hO ha hsz;go_enter Tryz.func266,Tryz.ntmps266
 go_upto_region 1 with fail
 rw [← HW0.o];refine Af Kr Kr ?_;have t1:∀ x:Ext w0,Calls Tryz.prog 147 #[.int .u16 (m:Int),.int .i64 ca] (ext w0 x) fun e w'=>e=.returned (.int .u16 (M1:Int))∧ext w0 x=w':=fun x=>A6 _ hm HM.o.1;have t2:∀ x:Ext w0,Calls Tryz.prog 147 #[.int .u16 (M1:Int),.int .i64 cb] (ext w0 x) fun e w'=>e=.returned (.int .u16 (M:Int))∧ext w0 x=w':=fun x=>A6 _ HM.o.2.2.2.1 HM.o.2.1;have T1:=Ad t1;have T2:=Ad t2;clear t1 t2;repeat (go_big_quiet_step ((go_at_call 147;first | with_reducible exact BA (T1.out _) | with_reducible exact BA (T2.out _))))
 refine wpQuiet_nil ?_;intro w1 hb1;have H1:=Ad (An (An (Ac H0.o.1.1 hb1) (Ac H0.o.1.2 hb1)) (An (H0.o.2.1.keep hb1) (An (H0.o.2.2.1.keep hb1) (bt H0.o.2.2.2 hb1))));clear T1 T2 H0 k0 k1 k2 k3 k4 k5 k6 k7 k8 k9 c0 c1 cl kl hb1;obtain ⟨c0,c1,cl⟩:=B3 H1.o.1.1;have hCm:=H1.o.1.2;obtain ⟨k0,k1,k2,k3,k4,k5,k6,k7,k8,k9⟩:=Dk hCm;have kl:=Ae hCm;clear hCm;by_cases hk1:k=1
 · have b1:(k == 1)=true:=by simp [hk1]
   by_cases hcc:ca=cb
   · have b2:(ca == cb)=true:=by simp [hcc]
     have HOO:=Ad (show O=some [a] by rw [← HO.o,BV,if_pos hk1,if_pos hcc]);clear hk1 hcc;(go_wp2_with fail);refine (BG _ _ a _ H1.o.2.1 H1.o.2.2.1 HA.o.2.1 HA.o.2.2).mono ?_;rintro e w3 ⟨u1,u2,rfl,ho,hb3⟩;obtain ⟨o1,o2⟩:=OA.fe ho;obtain ⟨d1,m1,e1,rfl⟩:=o1.forms;obtain ⟨d2,m2,e2,rfl⟩:=o2.forms;have hbb:=bt H1.o.2.2.2 hb3;have HG:=Ad (An (An (o1.rl.more (S':=fun k=>w.heap.size≤k) fun k _ h=>Nat.le_trans H1.o.2.2.2.size h) (o2.rl.more (S':=fun k=>w.heap.size≤k) fun k _ h=>Nat.le_trans H1.o.2.2.2.size h)) hbb);clear ho o1 o2 hb3 hbb;go_wp2;go_returns;rw [HOO.o];exact ⟨_,[a],rfl,fun l h=>Option.some.inj h,GX.lit HG.o.1.1 HG.o.1.2 HG.o.2.size (fun k _ h=>h),ba HG.o.2 _⟩
   · have b2:(ca == cb)=false:=by simp [hcc]
     have HOO:=Ad (show O=(CC a ca cb M).map fun b=>[b] by rw [← HO.o,BV,if_pos hk1,if_neg hcc,HM.o.2.2.1]);clear hk1 hcc;obtain ⟨P,hP⟩:=Ex (CC a ca cb M);have HP:=Ad hP;clear hP;(go_wp2_with fail);refine (IF _ _ a ca cb M _ H1.o.2.1 H1.o.2.2.1 HM.o.2.2.2.2 HA.o.1).mono ?_;rw [HP.o];rintro e w3 ⟨u1,u2,C,rfl,hC,⟨o1,o2⟩,hb3⟩;obtain ⟨d1,m1,e1,rfl⟩:=o1.forms;obtain ⟨d2,m2,e2,rfl⟩:=o2.forms;have HG:=Ad (An (An (o1.more (S':=fun k=>w.heap.size≤k) fun k _ h=>Nat.le_trans H1.o.2.2.2.size h) (o2.more (S':=fun k=>w.heap.size≤k) fun k _ h=>Nat.le_trans H1.o.2.2.2.size h)) (An (bt H1.o.2.2.2 hb3) hC));clear o1 o2 hb3 hC;cases P with
     | none =>
       have HN:=Ad (show O=none by rw [HOO.o,HP.o];rfl);go_wp2;go_returns;rw [HN.o];exact GR (ba HG.o.2.1 _)
     | some b =>
       have HN:=Ad (show O=some [b] by rw [HOO.o,HP.o];rfl);go_wp2;go_returns;exact OH HN.o (HG.o.2.2 b rfl) HG.o.1 HG.o.2.1
 · have b1:(k == 1)=false:=by simp [hk1]
   by_cases hk4:k=4
   · have b4:(k == 4)=true:=by simp [hk4]
     have HOO:=Ad (show O=(M7 a ca M).map fun b=>[b] by rw [← HO.o,BV,if_neg hk1,if_pos hk4,HM.o.2.2.1]);clear hk1 hk4;obtain ⟨P,hP⟩:=Ex (M7 a ca M);have HP:=Ad hP;clear hP;(go_wp2_with fail);refine (Jn _ _ a ca M _ H1.o.2.1 H1.o.2.2.1 HM.o.2.2.2.2 HA.o.1).mono ?_;rw [HP.o];rintro e w3 ⟨u1,u2,C,rfl,hC,⟨o1,o2⟩,hb3⟩;obtain ⟨d1,m1,e1,rfl⟩:=o1.forms;obtain ⟨d2,m2,e2,rfl⟩:=o2.forms;have HG:=Ad (An (An (o1.more (S':=fun k=>w.heap.size≤k) fun k _ h=>Nat.le_trans H1.o.2.2.2.size h) (o2.more (S':=fun k=>w.heap.size≤k) fun k _ h=>Nat.le_trans H1.o.2.2.2.size h)) (An (bt H1.o.2.2.2 hb3) hC));clear o1 o2 hb3 hC;cases P with
     | none =>
       have HN:=Ad (show O=none by rw [HOO.o,HP.o];rfl);go_wp2;go_returns;rw [HN.o];exact GR (ba HG.o.2.1 _)
     | some b =>
       have HN:=Ad (show O=some [b] by rw [HOO.o,HP.o];rfl);go_wp2;go_returns;exact OH HN.o (HG.o.2.2 b rfl) HG.o.1 HG.o.2.1
   · have b4:(k == 4)=false:=by simp [hk4]
     obtain ⟨T,hT⟩:=Ex ((if k=2 then cb else ca));have hMT:As M T=M:=by
      rw [← HM.o.2.2.1,← hT];split
      · exact U4 _ _ _
      · exact U3 _ _ _
     have HOO:=Ad (show O=(Ec M T a).bind (CT (DN k ca cb M)) by rw [← HO.o,BV,if_neg hk1,if_neg hk4,HM.o.2.2.1,hT];rfl);have HT:=Ad (An hT hMT);clear hk1 hk4 hT hMT;(go_upto_region 15 with fail);go_upto_if 71 with fail
     go_cut [12] (fun s12 wc=>s12=.int .i64 T∧wc=w1)
     case first =>
      by_cases hk2:k=2
      · have b2:(k == 2)=true:=by simp [hk2]
        have HT2:=Ad (show T=cb by rw [← HT.o.1,if_pos hk2]);clear hk2;go_wp2;go_meet
        case rel=>exact ⟨by rw [HT2.o],rfl⟩
      · have b2:(k == 2)=false:=by simp [hk2]
        have HT2:=Ad (show T=ca by rw [← HT.o.1,if_neg hk2]);clear hk2;go_wp2;go_meet
        case rel=>exact ⟨by rw [HT2.o],rfl⟩
     case rest =>
      obtain ⟨rfl,rfl⟩:=hcut;obtain ⟨P,hP⟩:=Ex (Ec M T a);have HP:=Ad hP;clear hP;(go_wp2_with fail);refine (Ow HM.o.2.2.2.2 HT.o.2 _ _ a _ H1.o.2.1 H1.o.2.2.1 HA.o.1).mono ?_;rw [HP.o];rintro e wE ⟨v,rfl,hv,hbE⟩;have hbEE:=bt H1.o.2.2.2 hbE;have hCE:=Ac H1.o.1.2 hbE;cases P with
      | none =>
        have HN:=Ad (show O=none by rw [HOO.o,HP.o];rfl);obtain ⟨va,vn,vc,rfl⟩:=hv.forms;have HB:=Ad hbEE;clear hv hbE hbEE hCE;go_wp2;go_returns;rw [HN.o];exact GR HB.o
      | some X =>
        have HN:=Ad (show O=CT (DN k ca cb M) X by rw [HOO.o,HP.o];rfl);have HGD:=Ad (IG HP.o);have hlen:=Ka HP.o;have HR:=Ad (An hv (An hbEE hCE));obtain ⟨qa,qc,hqe,_,_,hqf⟩:=hv.asnAt;have hqe2:v=.slice qa X.length qc:=hqe;subst hqe2;have F1:=Ad hqf;have HLN:=Ad hlen;clear hqe hqf hv hlen hbE hbEE hCE k0 k1 k2 k3 k4 k5 k6 k7 k8 k9 c0 c1 cl kl HP;go_wp2;go_loopg [85,15] X.length (fun q i v wr=>∃ (j:Nat) (R:List Aj),j+q=X.length∧i=.int .i64 j∧CT (DN k ca cb M) (X.take j)=some R∧GX wr wE.heap.size (fun k=>wE.heap.size≤k) v R∧Below wE.heap.size wE wr)
        case atStart=>exact ⟨0,[],by omega,rfl,rfl,GX.nil _ _ _ _,Below.refl _ _⟩
        case round =>
         obtain ⟨j,R,hj,rfl,hR,hG,hW⟩:=hrel;obtain ⟨ra,rc,rfl⟩:=hG.form;have hlR:R.length≤128:=by
          have e1:=K6 hR;have e2:=HLN.o;rw [e1,List.length_take];omega
         have HJ:=Ad (An hj (An hR hlR));have HGX:=Ad (An hG hW);have hCr:=Ac HR.o.2.2 hW;obtain ⟨k0,k1,k2,k3,k4,k5,k6,k7,k8,k9⟩:=Dk hCr;have kl:=Ae hCr;have hsw:=hW.size;clear hj hR hG hCr hlR;by_cases hj8:j < X.length
         · obtain ⟨b1',o1',u1,u2,rfl,_,hbl1,hp1,hp2,r1,r2⟩:=F1.o j hj8
           obtain ⟨ua1,uc1,rfl⟩:=r1.form;obtain ⟨ua2,uc2,rfl⟩:=r2.form;replace hp1:=Ab hW hp1;replace hp2:=Ab hW hp2;(have i1:(j:Int) < (X.length:Int):=by omega);(have hzb:b1' < wr.heap.size:=by omega);have hgood:=HGD.o _ (Be hj8);obtain ⟨Q,hQ⟩:=Ex (DN k ca cb M (gd X j));have HQ:=Ad (An hQ (An hgood hj8));clear hQ hgood hW;(go_wp2_with fail);refine (Nb _ _ k ca cb tx ty tb ga1 ga2 ga3 ga4 gn1 gn2 gn3 gn4 gc1 gc2 gc3 gc4 (gd X j) M _ ((r1.keep HGX.o.2).keep (Aa _ _)) ((r2.keep HGX.o.2).keep (Aa _ _)) HM.o.2.2.2.2 HQ.o.2.1.1 HQ.o.2.1.2).mono ?_;rw [HQ.o.1];rintro e w5 ⟨x1,x2,C,rfl,hC,⟨q1,q2⟩,hb5⟩;replace hb5:Below wr.heap.size wr w5:=bt Bl hb5;obtain ⟨d1,m1,e1,rfl⟩:=q1.forms;obtain ⟨d2,m2,e2,rfl⟩:=q2.forms;have HX:=Ad (An (An (q1.more (S':=fun k=>wr.heap.size≤k) fun k _ h=>by have h2:=h;simp only [World.size_alloc] at h2;show wr.heap.size≤k;omega) (q2.more (S':=fun k=>wr.heap.size≤k) fun k _ h=>by have h2:=h;simp only [World.size_alloc] at h2;show wr.heap.size≤k;omega)) (An (HGX.o.1.keep hb5) (An (bt HGX.o.2 hb5) hC)));have hz5:=hb5.size;have HIN:=Ad (HGX.o.1.inside);clear q1 q2 hb5 hC hp1 hp2 r1 r2 k0 k1 k2 k3 k4 k5 k6 k7 k8 k9 kl;cases Q with
           | none =>
             have HNN:=Ad (show O=none by rw [HN.o];exact K5 HQ.o.2.2 HJ.o.2.1 HQ.o.1);go_wp2;go_returns;rw [HNN.o];exact GR (HR.o.2.1.trans ((ba HX.o.2.2.1 _).mono HR.o.2.1.size))
           | some y =>
             have hlR:=HJ.o.2.2;have HLR:=Ad hlR;have HST:=Ad (show CT (DN k ca cb M) (X.take (j+1))=some (R ++ [C]) by rw [GQ HQ.o.2.2,HJ.o.2.1,HQ.o.1,HX.o.2.2.2 y rfl];rfl);have HLT:=Ad (show RL ((w5.alloc (.cells #[.slice d1 m1 e1,.slice d2 m2 e2] 26)).alloc (.cells #[.slice d1 m1 e1,.slice d2 m2 e2] 26)) (fun k=>wr.heap.size≤k) (.slice (some ⟨w5.heap.size+1,0,none⟩) 1 1) [C] by
              have h:=Cr (w:=w5.alloc (.cells #[.slice d1 m1 e1,.slice d2 m2 e2] 26)) (S:=fun k=>wr.heap.size≤k) (a:=C) (HX.o.1.1.keep (Aa _ _)) (HX.o.1.2.keep (Aa _ _)) (by simp;omega);rw [World.size_alloc] at h;exact h)
             clear hlR;go_wp2_with (at_builtin;go_must (refine D8 (l:=R) (m:=[C]) rfl (.tmp 98) (.tmp 100) _ rfl (B:=wE.heap.size) (R:=fun k=>wE.heap.size≤k) Cy rfl (HX.o.2.1.keep (ba (Aa _ _) _)) rfl HLT.o (fun k _ h=>⟨Nat.le_trans hsw h,fun hne e=>by rcases HIN.o with h4 | h4;exact hne h4;have h5:=(h4 k e).2;have h6:wr.heap.size≤k:=h;omega⟩) (by have:=HLR.o;simp;omega) (by simp;omega) ?_;intro v8 w8 g8 f8;obtain ⟨a8,n8,c8,rfl⟩:=g8.forms))
             have hb8:=(HX.o.2.1.keep (ba (Aa w5 (.cells #[.slice d1 m1 e1,.slice d2 m2 e2] 26)) (.cells #[.slice d1 m1 e1,.slice d2 m2 e2] 26))).below (ba (ba HX.o.2.2.1 _) _) (Nat.le_refl _) (by simp;omega) f8;have H8:=Ad (An g8 hb8);clear g8 hb8 f8;have hxl:=HLN.o;go_roundg (gk - 1)
             case rel=>exact ⟨j+1,R ++ [C],WF HJ.o.1 HQ.o.2.2,Wz HQ.o.2.2 HLN.o,HST.o,H8.o.1,H8.o.2⟩
             case measure=>exact WG HJ.o.1 HQ.o.2.2
         · obtain rfl:j=X.length:=by have:=HJ.o.1;omega
           have HE:=Ad (show O=some R by rw [HN.o,← HJ.o.2.1,List.take_length]);clear k0 k1 k2 k3 k4 k5 k6 k7 k8 k9 kl hW;go_wp2;go_returns;rw [HE.o];exact ⟨_,R,rfl,fun l h=>Option.some.inj h,HGX.o.1.mono HR.o.2.1.size (fun k _ h=>Nat.le_trans HR.o.2.1.size h),HR.o.2.1.trans (HGX.o.2.mono HR.o.2.1.size)⟩
theorem IJ {α:Type} [Inhabited α] {L:List α} {p:α→Bool} {j:Nat} (h:j < L.length) (hp:p (gd L j)=false):L.all p=false:=by
 rw [List.all_eq_false];exact ⟨_,Be h,by rw [hp];simp⟩
theorem IK {α:Type} [Inhabited α] {L:List α} {p:α→Bool} {j:Nat} (h:j < L.length) (h1:(L.take j).all p=true) (hp:p (gd L j)=true):(L.take (j+1)).all p=true:=by
 rw [List.take_succ_eq_append_getElem h,List.all_append,h1,List.all_cons,← BT h,hp];rfl
theorem Mq {j n c:Nat} (h:j < n) (hn:n≤c) (hc:c≤maxLen):Value.int .i64 (wrap64 ((j:Int)+1))=.int .i64 ((j+1:Nat):Int) :=
 congrArg _ ((IntWalk.wrap64_in _ ⟨by omega,by unfold maxLen at hc;omega⟩).trans Om)
theorem G9 {S S3 S4:Nat→Prop} (v u1 u2:Value) (L:List Aj) (b:Aj) (w:World) (h:RL w S v L) (k1:RL w S3 u1 b.1) (k2:RL w S4 u2 b.2) :
 Calls Tryz.prog 162 #[v,.agg #[u1,u2]] w fun e w'=>e=.returned (.bool (L.all fun p=>Cp p b))∧Below w.heap.size w w':=by
 obtain ⟨ya1,yc1,rfl⟩:=k1.form;obtain ⟨ya2,yc2,rfl⟩:=k2.form;obtain ⟨qa,qc,rfl,hq1,hq2,hqf⟩:=h.asnAt;obtain ⟨A,hA⟩:∃ A,(L.all fun p=>Cp p b)=A:=⟨_,rfl⟩;obtain ⟨w0,hw0⟩:=Ey (w.alloc (.cells #[.slice ya1 b.1.length yc1,.slice ya2 b.2.length yc2] 26));have hB:w0.heap[w.heap.size]?=some (.cells #[.slice ya1 b.1.length yc1,.slice ya2 b.2.length yc2] 26 (0,0)):=by rw [hw0];exact heap_alloc_new w _
 have hb0:Below w.heap.size w w0:=by rw [hw0];exact Aa _ _
 have HW:=Ad hw0;have H0:=Ad (An hB (An hb0 (An (k1.keep hb0) (k2.keep hb0))));have HL:=Ad (An hq1 (An hq2 hqf));have HA:=Ad hA;rw [hA];have hsz:=hb0.size;clear hB hb0 hw0 h k1 k2 hq1 hq2 hqf hA;go_enter Tryz.func162,Tryz.ntmps162
 go_upto_region 1 with fail
 rw [← HW.o];go_wp2;go_loopg [9] L.length (fun q i wr=>∃ j:Nat,j+q=L.length∧i=.int .i64 j∧((L.take j).all fun p=>Cp p b)=true∧Below w0.heap.size w0 wr)
 case atStart=>exact ⟨0,by omega,rfl,rfl,Below.refl _ _⟩
 case round =>
  obtain ⟨j,hj,rfl,hT,hW⟩:=hrel;have HJ:=Ad (An hj (An hT hW));have c0:=Bd (Ac H0.o.1 hW);have c1:=AY (Ac H0.o.1 hW);have cl:=Ae (Ac H0.o.1 hW);have hsw:=hW.size;clear hj hT;by_cases hjl:j < L.length
  · obtain ⟨b1',o1',u1,u2,rfl,_,hbl1,hp1,hp2,r1,r2⟩:=HL.o.2.2 j hjl
    obtain ⟨ua1,uc1,rfl⟩:=r1.form;obtain ⟨ua2,uc2,rfl⟩:=r2.form;replace hp1:=Ab (bt H0.o.2.1 hW) hp1;replace hp2:=Ab (bt H0.o.2.1 hW) hp2;(have i1:(j:Int) < (L.length:Int):=by omega);(have hzb:b1' < wr.heap.size:=by omega);have HR:=Ad (An (r1.keep (bt H0.o.2.1 hW)) (An (r2.keep (bt H0.o.2.1 hW)) (An (H0.o.2.2.1.keep hW) (H0.o.2.2.2.keep hW))));have HJL:=Ad hjl;clear r1 r2;(go_wp2_with fail);refine (Iu _ _ _ _ (gd L j) b _ (HR.o.1.keep Bl) (HR.o.2.1.keep Bl) (HR.o.2.2.1.keep Bl) (HR.o.2.2.2.keep Bl)).mono ?_;rintro e w5 ⟨rfl,hb5⟩;have hb6:Below w0.heap.size w0 w5:=hW.trans ((bt Bl hb5:Below wr.heap.size wr w5).mono hsw);have HB:=Ad hb6;clear hb5 hb6 hp1 hp2 c0 c1 cl hW;cases he:Cp (gd L j) b with
    | false =>
      have HF:=Ad (show A=false by rw [← HA.o];exact IJ (p:=fun p=>Cp p b) HJL.o he);clear he;go_wp2;go_returns;rw [HF.o];exact ⟨rfl,H0.o.2.1.trans (HB.o.mono hsz)⟩
    | true =>
      have HF:=Ad (show ((L.take (j+1)).all fun p=>Cp p b)=true from IK (p:=fun p=>Cp p b) HJL.o HJ.o.2.1 he);clear he;go_wp2;go_roundg (gk - 1)
      case rel=>exact ⟨j+1,WF HJ.o.1 HJL.o,Mq HJL.o HL.o.1 HL.o.2.1,HF.o,HB.o⟩
      case measure=>exact WG HJ.o.1 HJL.o
  · obtain rfl:j=L.length:=by have:=HJ.o.1;omega
    have HE:=Ad (show A=true by rw [← HA.o,← HJ.o.2.1,List.take_length]);clear c0 c1 cl hW;go_wp2;go_returns;rw [HE.o];exact ⟨rfl,H0.o.2.1.trans (HJ.o.2.2.mono hsz)⟩
theorem Rj {m:Nat} {k a:Int} (h:m < 65536):Jj m k a < 65536:=by
 rw [Jj];split
 · exact AJ h
 · exact h
theorem La {α:Type} {F:Nat→α→Nat} (h:∀ m c,m < 65536→F m c < 65536):∀ {l:List α} {m:Nat},m < 65536→l.foldl F m < 65536
 | [],_,k=>k
 | c :: l,m,k=>La h (l:=l) (h m c k)
theorem GU:∀ (d:Nat) (l:List (Cm d)) (m:Nat),m < 65536→CQ d m l < 65536
 | 0,_,_,h=>h
 | d+1,l,m,h=>by
   rw [CQ];exact La (fun m c k=>GU d _ _ (GU d _ _ (Rj k))) h
theorem Mr {d m k:Nat} {l:List (Cm (d+1))} (h:k < l.length):CQ (d+1) m (l.take (k+1))=CQ d (CQ d (Jj (CQ (d+1) m (l.take k)) (gd l k).kind (gd l k).a) (gd l k).body) (gd l k).els:=by
 show (l.take (k+1)).foldl _ m=_
 rw [AT h,List.foldl_append];rfl
theorem DR {S:Nat→Prop} {w w1 w2:World} (hf:Fr S w1 w2) (hb:Below w.heap.size w w1):Fr S w w2:=((Below.fr hb).mono fun _ _ h=>h.elim).trans hf
theorem E8:∀ (d:Nat) {S:Nat→Prop} (g cap:Nat) (v:Value) (l:List (Cm d)) (m B:Nat) (D:Int) (w:World) (_h:RL w S v l) (_ho:w.ownsRow B 4 1 (.slice (some ⟨g,0,none⟩) 9 cap) 9 (Av m)) (_hs:∀ k,S k→¬ k=g) (_hsh:AZ d l D=true),
 Calls Tryz.prog 161 #[.slice (some ⟨g,0,none⟩) 9 cap,v] w fun e w'=>e=.returned (.slice (some ⟨g,0,none⟩) 9 cap)∧w'.ownsRow B 4 1 (.slice (some ⟨g,0,none⟩) 9 cap) 9 (Av (CQ d m l))∧Fr (fun k=>k=g) w w':=by
 intro d;induction d with
 | zero =>
   intro S g cap v l m B D w h ho hs hsh;obtain rfl:=h.cm0;obtain ⟨a,c,rfl⟩:=h.form;have HO:=Ad ho;clear h ho hs hsh;go_enter Tryz.func161,Tryz.ntmps161
   go_wp2;go_loopg [0,5] 1 (fun q f i wr=>f=.slice (some ⟨g,0,none⟩) 9 cap∧i=.int .i64 0∧wr=w)
   case atStart=>exact ⟨rfl,rfl,rfl⟩
   case round =>
    obtain ⟨rfl,rfl,rfl⟩:=hrel;go_wp2;go_ret;exact ⟨rfl,HO.o,Fr.refl _ _⟩
 | succ d ih =>
   intro S g cap v l m B D w h ho hs hsh;obtain ⟨a,vcap,rfl,_,_,hc⟩:=h.cmAt;have hlm:=h.len;unfold maxLen at hlm;have F:=Ad hc;have IH:=Ad (fun (S:Nat→Prop) (v:Value) (l:List (Cm d)) (m:Nat) (w:World) (h:RL w S v l) (ho:w.ownsRow B 4 1 (.slice (some ⟨g,0,none⟩) 9 cap) 9 (Av m)) (hs:∀ k,S k→¬ k=g) (hsh:AZ d l (D - 1)=true)=>ih (S:=S) g cap v l m B (D - 1) w h ho hs hsh);have HSH:=Ad (An hs (DI hsh));have HO:=Ad ho;have hgw:=(AD ho (k:=g) rfl).2;clear h hc ih hs hsh ho;go_enter Tryz.func161,Tryz.ntmps161
   go_wp2;go_loopg [0,5] l.length (fun q f i wr=>∃ k:Nat,k+q=l.length∧f=.slice (some ⟨g,0,none⟩) 9 cap∧i=.int .i64 (k:Int)∧wr.ownsRow B 4 1 (.slice (some ⟨g,0,none⟩) 9 cap) 9 (Av (CQ (d+1) m (l.take k)))∧Fr (fun k=>k=g) w wr)
   case atStart=>exact ⟨0,by omega,rfl,rfl,HO.o,Fr.refl _ _⟩
   case round =>
    obtain ⟨k,hk,rfl,rfl,hown,hfr⟩:=hrel;have HK:=Ad hk;have hzs:=hfr.size;clear hk;by_cases hk8:k < l.length
    · obtain ⟨b,o,f1,f2,x,y,rfl,hSb,hbl,hcc,_,g3,g4⟩:=F.o k hk8
      obtain ⟨xa,xn,rfl⟩:=g3.form;obtain ⟨ya,yn,rfl⟩:=g4.form;obtain ⟨c,hck⟩:=Ex (gd l k);have hst:=Mr (m:=m) hk8;obtain ⟨hhead,hsb,hse⟩:=HSH.o.2 c (hck ▸ Be hk8);rw [hck] at hcc g3 g4 hst;have hbg:¬ b=g:=HSH.o.1 b hSb;have hkept:∀ {i:Nat} {u:Value},(Cq c.kind c.a c.b c.test f1 f2 (.slice xa c.body.length xn) (.slice ya c.els.length yn))[i]?=some u→wr.cell? ⟨b,o+k * 10+i,none⟩=some u:=fun hi=>hfr.cell (by simpa using hbg) (hcc _ _ hi);obtain ⟨M0,hM0⟩:=Ex (CQ (d+1) m (l.take k));rw [hM0] at hst hown;obtain ⟨M1,hM1⟩:=Ex (Jj M0 c.kind c.a);rw [hM1] at hst;have p0:wr.cell? ⟨b,o+k * 10,none⟩=some (.int .i64 c.kind):=hkept (i:=0) rfl;have p1:wr.cell? ⟨b,o+k * 10+1,none⟩=some (.int .i64 c.a):=hkept (i:=1) rfl;have p8:=hkept (i:=8) rfl;have p9:=hkept (i:=9) rfl;(have i1:(k:Int) < (l.length:Int):=by omega);(have hzb:b < wr.heap.size:=by omega);have far:∀ j,j < w.heap.size→S j→¬ (fun j=>j=g) j:=fun j _ hj e=>HSH.o.1 j hj e;have HG:=Ad (An (An (g3.kept hfr far) (g4.kept hfr far)) (An (An hsb hse) (An hst hhead)));have HFR:=Ad hfr;have HM1:=Ad hM1;have HW:=Ad hown;clear hst hhead hsb hse hkept g3 g4 hcc hck hM0 hM1 hfr far hown;go_upto_block 2 with fail
      go_cut [] (fun wx=>wx.ownsRow B 4 1 (.slice (some ⟨g,0,none⟩) 9 cap) 9 (Av M1)∧Fr (fun k=>k=g) wr wx)
      case first =>
       by_cases hch:c.kind=1∨c.kind=2∨c.kind=4
       · have hb:=ER (Eh HG.o.2.2.2 Om Om)
         have ha:1≤c.a∧c.a≤4:=by
          simp only [ID,Bool.and_eq_true,Bool.or_eq_true,decide_eq_true_eq,IY,At] at hb;omega
         obtain ⟨A,hA⟩:=Int.eq_ofNat_of_zero_le (show 0≤c.a by omega);rw [hA] at p1;(have hA9:(A:Int) < 9:=by omega);(have hm:M1=M0 ||| 2 ^ A:=by rw [← HM1.o,Jj,if_pos hch,hA,Df (by omega)]);obtain ⟨s1,g1⟩:=HW.o.stored A (.bool true);rw [Da M0 A Om,← hm] at s1;have z1:=HW.o.frozenAt A;have y1:wr.cell? ⟨g,A,none⟩=some (.bool (M0.testBit A)):=by
          have:=HW.o.cellAt A Om;rw [AP M0 A (by omega)] at this;simpa using this
         have HS:=Ad (An s1 ((AF g1).mono (S':=fun k=>k=g) fun k _ e=>Option.some.inj e));clear s1 g1 hm hb ha hA;rcases hch with h | h | h
         · have y1:(c.kind == 1)=true:=by rw [h];rfl
           clear h;go_wp2;go_meet
           case rel=>exact HS.o
         · have y1:(c.kind == 1)=false:=by rw [h];rfl
           (have y2:(c.kind == 2)=true:=by rw [h];rfl);clear h;go_wp2;go_meet
           case rel=>exact HS.o
         · have y1:(c.kind == 1)=false:=by rw [h];rfl
           (have y2:(c.kind == 2)=false:=by rw [h];rfl);(have y4:(c.kind == 4)=true:=by rw [h];rfl);clear h;go_wp2;go_meet
           case rel=>exact HS.o
       · have y1:(c.kind == 1)=false:=by rw [beq_eq_false_iff_ne];exact fun e=>hch (.inl e)
         (have y2:(c.kind == 2)=false:=by rw [beq_eq_false_iff_ne];exact fun e=>hch (.inr (.inl e)));(have y4:(c.kind == 4)=false:=by rw [beq_eq_false_iff_ne];exact fun e=>hch (.inr (.inr e)));have HS:=Ad (show M1=M0 by rw [← HM1.o,Jj,if_neg hch]);clear hch;go_wp2;go_meet
         case rel=>exact ⟨by rw [HS.o];exact HW.o,Fr.refl _ _⟩
      case rest =>
       obtain ⟨ho,hf⟩:=hcut;have hzc:=hf.size;have hbg2:¬ (fun k=>k=g) b:=hbg;replace p8:=hf.cell (p:=⟨b,o+k * 10+8,none⟩) hbg2 p8;replace p9:=hf.cell (p:=⟨b,o+k * 10+9,none⟩) hbg2 p9;(have hzb:b < wc.heap.size:=by omega);have far:∀ j,j < wr.heap.size→S j→¬ (fun j=>j=g) j:=fun j _ hj e=>HSH.o.1 j hj e;have HQ:=Ad (An (An (HG.o.1.1.kept hf far) (HG.o.1.2.kept hf far)) (An ho (HFR.o.trans hf)));clear ho hf p0 p1 far;(go_upto_region 9 with fail);go_region_held3 (fun w'=>w'.cell? ⟨b,o+k * 10+8,none⟩=some (.slice xa c.body.length xn)∧w'.cell? ⟨b,o+k * 10+9,none⟩=some (.slice ya c.els.length yn))
        (first | exact ⟨hf6.cell (p:=⟨b,o+k * 10+8,none⟩) hbg2 p8,hf6.cell (p:=⟨b,o+k * 10+9,none⟩) hbg2 p9⟩ | exact ⟨p8,p9⟩ | exact ⟨hf5.cell (p:=⟨b,o+k * 10+8,none⟩) hbg2 p8,hf5.cell (p:=⟨b,o+k * 10+9,none⟩) hbg2 p9⟩ | exact ⟨(Ck p8),(Ck p9)⟩)
        (first
          | (have _h:=hf5;go_at_call 161;go_must (refine (IH.o S _ c.els _ _ ((HQ.o.1.2.kept hf5 (fun j _ hj e=>HSH.o.1 j hj e)).keep Bl) (Ag ho5 Bl) HSH.o.1 HG.o.2.1.2).mono ?_;rintro e w6 ⟨rfl,ho6,hf6'⟩;have hf6:Fr (fun k=>k=g) wc w6:=hf5.trans (DR hf6' Bl)))
          | (go_at_call 161;go_must (refine (IH.o S _ c.body _ _ (HQ.o.1.1.keep Bl) (Ag HQ.o.2.1 Bl) HSH.o.1 HG.o.2.1.1).mono ?_;rintro e w5 ⟨rfl,ho5,hf5'⟩;have hf5:Fr (fun k=>k=g) wc w5:=DR hf5' Bl)))
       have HN:=Ad (An ho6 (HQ.o.2.2.trans hf6));clear ho6 hf6 hf6' ho5 hf5 hf5' p8 p9;go_wp2;go_roundg (gk - 1)
       case rel=>exact ⟨k+1,by have:=HK.o;omega,rfl,by go_num,by rw [HG.o.2.2.1];exact HN.o.1,HN.o.2⟩
       case measure=>have:=HK.o;omega
    · obtain rfl:k=l.length:=by have:=HK.o;omega
      rw [List.take_length] at hown;go_wp2;go_ret;exact ⟨rfl,hown,hfr⟩
def Qj {d:Nat} (l:List (Cm d)):List Int:=if BY l=true then MA (fun n=>(CQ d 0 l).testBit n) 0 9 else []
theorem Nc {w:World} {B e n:Nat} {v:Value} {l:List Int} (h:w.ownsRow B e 1 v n (ints l)):RL w (fun k=>B≤k) v l:=(CV h).1.rl.more fun k _ hk=>(AD h hk).1
theorem Nd (d:Nat) {S:Nat→Prop} (v:Value) (l:List (Cm d)) (w:World) (h:RL w S v l) (hs:C4 d l≤1000000000000000000) :
 Calls Tryz.prog 87 #[v] w fun e w'=>∃ u,e=.returned u∧RL w' (fun k=>w.heap.size≤k) u (Qj l)∧Below w.heap.size w w':=by
 obtain ⟨a,cap,rfl⟩:=h.form;have hmk:=Ta;obtain ⟨V,hV⟩:=Ex (BY l);have HV:=Ad hV;have H:=Ad (h.more (S':=fun k=>k < w.heap.size) fun k hk _=>hk);clear hV h;go_enter Tryz.func87,Tryz.ntmps87
 go_wp2_with fail
 refine (cb (Gf d _ l _ H.o hs) HV.o).mono ?_;rintro e w1 ⟨rfl,hb1⟩;have H1:=Ad (An (H.o.keep hb1) hb1);have hz:=hb1.size;have HZ:=Ad hz;clear hb1 hz;cases V with
 | false =>
   have HR:=Ad (show Qj l=[] by rw [Qj,HV.o,if_neg (by decide)]);have HO:=Ad (Nc (Rz w1 w.heap.size 3 HZ.o));go_wp2;go_returns;exact ⟨_,rfl,by rw [HR.o];exact HO.o,ba H1.o.2 _⟩
 | true =>
   have HR:=Ad (show Qj l=MA (fun n=>(CQ d 0 l).testBit n) 0 9 by rw [Qj,HV.o,if_pos rfl]);have hsh:=(Pw HV.o).1;have hb2:=Aa w1 (.cells #[.bool false,.bool false,.bool false,.bool false,.bool false,.bool false,.bool false,.bool false,.bool false] 4);have HC:=Ad (E8 d w1.heap.size 9 _ l 0 w1.heap.size 4 _ (H1.o.1.keep hb2) (LS w1 w1.heap.size (Nat.le_refl _)) (fun k hk e=>by have h1:k < w.heap.size:=hk;have:=HZ.o;omega) hsh);have HB2:=Ad (bt H1.o.2 hb2);clear hsh hb2;(go_wp2_with fail);refine HC.o.mono ?_;rintro e w2 ⟨rfl,ho2,hf2⟩;have HF2:=Ad (HB2.o.trans (hf2.below (by simp;have:=HZ.o;omega) fun k hk e=>by have e2:k=w1.heap.size:=e;have:=HZ.o;omega));(go_wp2_with fail);refine (Fw _ _ _ _ ho2).mono ?_;rintro e w3 ⟨u,rfl,ho3,hb3⟩;have HU:=Ad (An (Nc ho3) (An hb3 HF2.o.size));obtain ⟨ua,uc,rfl,_⟩:=A8 ho3;clear ho2 hf2 ho3 hb3;go_wp2;go_returns;exact ⟨_,rfl,by rw [HR.o];exact HU.o.1.more fun k _ hk=>Nat.le_trans HU.o.2.2 hk,bt HF2.o HU.o.2.1⟩
end Go.Proofs.YtkbbmjcfgcfejaaGreat
