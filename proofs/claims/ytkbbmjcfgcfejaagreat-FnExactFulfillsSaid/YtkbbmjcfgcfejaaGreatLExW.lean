/- Walk: a command with a test (program: executor.branches). (Printed by gen_way.py.) -/
import Derived.Test.YtkbbmjcfgcfejaaGreatLExM
set_option linter.unusedVariables false
set_option linter.unusedSimpArgs false
set_option maxRecDepth 100000
set_option maxHeartbeats 12800000
namespace Go.Proofs.YtkbbmjcfgcfejaaGreat
open Go.RowKit
theorem JN {w w1 w2:World} {B:Nat} (h:Below B w w1) (k:Below w1.heap.size w1 w2) (hB:B≤w1.heap.size:=by omega):Below B w w2:=h.trans (k.mono hB)
theorem IM {x:BF} {f:List Aj→BF} {z:Int} (h:x.1=z) (hz:¬ z=0):Cu x f=(z,[]):=by rw [Cu,h,if_neg hz]
theorem GW {x:BF} {L:List Aj} {z:Int} (h:x.1=z) (hz:¬ z=0):Cu (0,L) (fun l=>Cu x fun r=>(0,l ++ r))=(z,[]):=by
 rw [Cu,if_pos rfl,Cu,h,if_neg hz]
theorem OQ {x:BF} {L:List Aj} (h:x.1=0):Cu (0,L) (fun l=>Cu x fun r=>(0,l ++ r))=(0,L ++ x.2):=by
 rw [Cu,if_pos rfl,Cu,if_pos h]
structure BrS (w:World) (b m:Nat) (v1 v2 x y:Value) (row:Array Value) (a:Aj) {d:Nat} (body els:List (Cm d)):Prop where
 a1:RL w (fun _=>True) v1 a.1
 a2:RL w (fun _=>True) v2 a.2
 bd:RL w (fun _=>True) x body
 el:RL w (fun _=>True) y els
 bx:ExB w b m v1 v2 row
theorem BrS.keep {w w':World} {b m:Nat} {v1 v2 x y:Value} {row:Array Value} {a:Aj} {d:Nat} {body els:List (Cm d)} (h:BrS w b m v1 v2 x y row a body els) (hb:Below w.heap.size w w'):BrS w' b m v1 v2 x y row a body els :=
 ⟨h.a1.keep hb,h.a2.keep hb,h.bd.keep hb,h.el.keep hb,h.bx.keep hb⟩
theorem Se {m d:Nat} (IH:OK m d) {S1 S2 S3 S4:Nat→Prop} (v1 v2 f1 f2 x y:Value) (a:Aj) (c:Cm (d+1)) (D:Int) (w:World) (h1:RL w S1 v1 a.1) (h2:RL w S2 v2 a.2) (hf1:∃ a n k,f1=.slice a n k) (hf2:∃ a n k,f2=.slice a n k) (hx:RL w S3 x c.body) (hy:RL w S4 y c.els) (ha:Ah a=true) (hs1:AZ d c.body D=true) (hs2:AZ d c.els D=true) :
 Calls Tryz.prog 264 #[.agg #[.int .u16 (m:Int),.bool true],.agg #[v1,v2],.agg #[.int .i64 c.kind,.int .i64 c.a,.int .i64 c.b,.bool c.test.1,.int .i64 c.test.2.1,.int .i64 c.test.2.2,f1,f2,x,y]] w (VR (TE (fun s=>BE m d c.body [s]) (fun s=>BE m d c.els [s]) c.test a) w):=by
 have hsz:=Co ha;obtain ⟨p1,q1,rfl⟩:=h1.form;obtain ⟨p2,q2,rfl⟩:=h2.form;obtain ⟨a3,n3,c3,rfl⟩:=hf1;obtain ⟨a4,n4,c4,rfl⟩:=hf2;obtain ⟨a5,c5,rfl⟩:=hx.form;obtain ⟨a6,c6,rfl⟩:=hy.form;obtain ⟨X,hX⟩:∃ X,TE (fun s=>BE m d c.body [s]) (fun s=>BE m d c.els [s]) c.test a=X:=⟨_,rfl⟩;rw [hX];obtain ⟨N,hN⟩:=Ex (nF c.test);obtain ⟨A1,hA1⟩:∃ A,B7 a c.test=A:=⟨_,rfl⟩;obtain ⟨A2,hA2⟩:∃ A,B7 a N=A:=⟨_,rfl⟩;obtain ⟨Y1,hY1⟩:∃ Y,Fo (fun s=>BE m d c.body [s]) A1=Y:=⟨_,rfl⟩;obtain ⟨Y2,hY2⟩:∃ Y,Fo (fun s=>BE m d c.els [s]) A2=Y:=⟨_,rfl⟩;have hg1:GoodV 24 Y1.2:=by rw [← hY1];exact Fq fun h=>CZ d _ D _ hs1 (AX h Dc)
 have hg2:GoodV 24 Y2.2:=by rw [← hY2];exact Fq fun h=>CZ d _ D _ hs2 (AX h Dc)
 have hX2:X=Cu Y1 fun x=>Cu Y2 fun y=>(0,x ++ y):=by rw [← hX,TE,hN,hA1,hA2,hY1,hY2]
 have hN1:(N.1 == c.test.1)=false:=by rw [← hN,nF];cases c.test.1 <;> rfl
 have hcell:=Kc w m (.slice p1 a.1.length q1) (.slice p2 a.2.length q2) #[.int .i64 c.kind,.int .i64 c.a,.int .i64 c.b,.bool c.test.1,.int .i64 c.test.2.1,.int .i64 c.test.2.2,.slice a3 n3 c3,.slice a4 n4 c4,.slice a5 c.body.length c5,.slice a6 c.els.length c6];have hb0:=GV w m (.slice p1 a.1.length q1) (.slice p2 a.2.length q2) #[.int .i64 c.kind,.int .i64 c.a,.int .i64 c.b,.bool c.test.1,.int .i64 c.test.2.1,.int .i64 c.test.2.2,.slice a3 n3 c3,.slice a4 n4 c4,.slice a5 c.body.length c5,.slice a6 c.els.length c6];obtain ⟨wz,hwz⟩:∃ w0,w0=((w.alloc (.cells #[.int .u16 (m:Int),.bool true] 150)).alloc (.cells #[.slice p1 a.1.length q1,.slice p2 a.2.length q2] 26)).alloc (.cells #[.int .i64 c.kind,.int .i64 c.a,.int .i64 c.b,.bool c.test.1,.int .i64 c.test.2.1,.int .i64 c.test.2.2,.slice a3 n3 c3,.slice a4 n4 c4,.slice a5 c.body.length c5,.slice a6 c.els.length c6] 63):=⟨_,rfl⟩;rw [← hwz] at hcell hb0;have hBS:BrS wz w.heap.size m (.slice p1 a.1.length q1) (.slice p2 a.2.length q2) (.slice a5 c.body.length c5) (.slice a6 c.els.length c6) #[.int .i64 c.kind,.int .i64 c.a,.int .i64 c.b,.bool c.test.1,.int .i64 c.test.2.1,.int .i64 c.test.2.2,.slice a3 n3 c3,.slice a4 n4 c4,.slice a5 c.body.length c5,.slice a6 c.els.length c6] a c.body c.els :=
  ⟨(h1.keep hb0).more fun _ _ _=>trivial,(h2.keep hb0).more fun _ _ _=>trivial,(hx.keep hb0).more fun _ _ _=>trivial,(hy.keep hb0).more fun _ _ _=>trivial,hcell⟩
 have HW0:=Ad hwz;have HZ:=Ad (An hBS hb0);have HP:=Ad (An (An ha hX) (An hs1 hs2));have HN:=Ad (An hN hN1);have HSZ:=Ad hsz;have HG1:=Ad (An hA1 hg1);have HG2:=Ad (An hA2 hg2);have HY1:=Ad hY1;have HY2:=Ad hY2;have HX:=Ad hX2;have HIH:=Ad IH;obtain ⟨k0,k1,k2,k3,k4,k5,k6,k7,k8,k9⟩:=Dk hcell.2;have kl:=Ae hcell.2;clear hcell hb0 hwz hBS h1 h2 hx hy hsz hN hN1 hA1 hA2 hY1 hY2 hg1 hg2 hX hX2 hs1 hs2 ha IH;go_enter Tryz.func264,Tryz.ntmps264
 go_upto_region 2 with fail
 rw [← HW0.o];go_cut [20,21] (fun s20 s21 wc=>s20=.agg #[.bool c.test.1,.int .i64 c.test.2.1,.int .i64 c.test.2.2,.bool N.1,.int .i64 N.2.1,.int .i64 N.2.2]∧s21=.int .i64 0∧Below wz.heap.size wz wc)
 case first =>
  go_region_held3 (fun w'=>w'.cell? ⟨w.heap.size+2,3,none⟩=some (.bool c.test.1)∧w'.cell? ⟨w.heap.size+2,4,none⟩=some (.int .i64 c.test.2.1)∧w'.cell? ⟨w.heap.size+2,5,none⟩=some (.int .i64 c.test.2.2))
   (exact ⟨(Ck k3),(Ck k4),(Ck k5)⟩)
   (first | (go_at_call 284;go_must (refine (JE c.test _).mono ?_;rw [HN.o.1];rintro e w5 ⟨rfl,hb5'⟩;have hb5:Below wz.heap.size wz w5:=bt Bl hb5';clear hb5')) | fail)
  all_goals
   have HB5:=Ad hb5;go_wp2;go_meet
   case rel=>exact ⟨rfl,rfl,HB5.o⟩
 case rest =>
  obtain ⟨rfl,rfl,hbc⟩:=hcut;rename World=>w0
  have H0:=Ad (An (HZ.o.1.keep hbc) (bt HZ.o.2 hbc));clear hbc k0 k1 k2 k3 k4 k5 k6 k7 k8 k9 kl;have hw0:=H0.o.2.size;go_wp2;go_loopg [8,21] 2 (fun q x i wr=>∃ (k:Nat) (L:List Aj),k+q=2∧i=.int .i64 k∧GX wr w0.heap.size (fun j=>w0.heap.size≤j) x L∧((k=0∧L=[])∨(k=1∧Y1=(0,L))∨(k=2∧X=(0,L)))∧L.length≤24 * k∧Below w0.heap.size w0 wr)
  case atStart=>exact ⟨0,[],by omega,rfl,GX.nil _ _ _ _,.inl ⟨rfl,rfl⟩,by simp,Below.refl _ _⟩
  case round =>
   obtain ⟨k,L,hk,rfl,hG,hcs,hL,hb⟩:=hrel;obtain ⟨xa,xc,rfl⟩:=hG.form;have HK:=Ad (An hk (An hL hb));have HGX:=Ad (An hG hL);have HB:=Ad (H0.o.1.keep hb);(have hkz:k=0∨k=1∨k=2:=by omega);have hzr:=hb.size;clear hk hG hL hb;rcases hkz with rfl | rfl | rfl
   · -- the first way
     (have hL0:L=[]:=by rcases hcs with ⟨_,h⟩ | ⟨h,_⟩ | ⟨h,_⟩;exact h;exact absurd h Dc;exact absurd h Dc);subst hL0;(have hixr:∀ w:World,(Instr.index 300 (.agg #[.bool c.test.1,.int .i64 c.test.2.1,.int .i64 c.test.2.2,.bool N.1,.int .i64 N.2.1,.int .i64 N.2.2]) (.int .i64 0)).run Tryz.prog w=.ok (.agg #[.bool c.test.1,.int .i64 c.test.2.1,.int .i64 c.test.2.2]) w:=fun _=>by kernel_rfl);obtain ⟨wf,hwf⟩:=Ey (wr.alloc (.cells #[.bool c.test.1,.int .i64 c.test.2.1,.int .i64 c.test.2.2] 61));(have hbf:Below wr.heap.size wr wf:=by rw [hwf];exact Aa _ _);(have hfx:wf.heap[wr.heap.size]?=some (.cells #[.bool c.test.1,.int .i64 c.test.2.1,.int .i64 c.test.2.2] 61 (0,0)):=by rw [hwf];exact heap_alloc_new _ _);have HWF:=Ad hwf;have HF:=Ad (An (HB.o.keep hbf) (An hfx hbf));obtain ⟨b0,b1,bl⟩:=B3 HF.o.1.bx.1.2;have t0:=Lp hfx;have t1:=JZ hfx;have t2:=J0 hfx;have tl:=Ae hfx;clear hwf hbf hfx;rw [show ((0:Nat):Int)=0 from rfl];(go_upto_region 5 with fail);rw [← HWF.o];(go_wp2_with fail);refine (Ek _ _ a c.test _ HF.o.1.a1 HF.o.1.a2 HSZ.o).mono ?_;rw [HG1.o.1];rintro e w1 ⟨u1,u2,rfl,oa,hb1⟩;obtain ⟨r1,r2⟩:=OA.fe oa;obtain ⟨y1,j1,z1,rfl⟩:=r1.forms;obtain ⟨y2,j2,z2,rfl⟩:=r2.forms;obtain ⟨W,hW⟩:=Ey (w1.alloc (.cells #[.slice y1 j1 z1,.slice y2 j2 z2] 26));(have hbW:Below w1.heap.size w1 W:=by rw [hW];exact Aa _ _);(have hst:W.heap[w1.heap.size]?=some (.cells #[.slice y1 j1 z1,.slice y2 j2 z2] 26 (0,0)):=by rw [hW];exact heap_alloc_new _ _);have HW:=Ad hW;have H1:=Ad (An ((HF.o.1.keep hb1).keep hbW) (An (An (r1.rl.any.keep hbW) (r2.rl.any.keep hbW)) (An (An (Ac (Ac HF.o.2.1 hb1) hbW) hst) (bt (bt HF.o.2.2 hb1) hbW))));obtain ⟨s0,s1,sl⟩:=B3 hst;clear oa r1 r2 hb1 hbW hst hW b0 b1 bl t0 t1 t2 tl hixr;(go_upto_region 6 with fail);rw [← HW.o];(go_wp2_with fail);refine (Aq _ _ A1 _ H1.o.2.1.1 H1.o.2.1.2).mono ?_;rintro e w2 ⟨rfl,hb2⟩;have H2:=Ad (An (H1.o.1.keep hb2) (An (An (H1.o.2.1.1.keep hb2) (H1.o.2.1.2.keep hb2)) (An (An (Ac H1.o.2.2.1.1 hb2) (Ac H1.o.2.2.1.2 hb2)) (bt H1.o.2.2.2 hb2))));clear hb2 s0 s1 sl;obtain ⟨s0,s1,sl⟩:=B3 H2.o.2.2.1.2;cases hv:Ah A1 with
     | false =>
       have HYY:=Ad (show Y1=(1,[]) by rw [← HY1.o,Fo,hv,if_neg (by decide)]);have HE:=Ad (show X=(1,[]) by rw [HX.o];exact IM (congrArg Prod.fst HYY.o) Dc);clear hv;go_wp2;go_ret2;exact ⟨_,by rw [HE.o];rfl,by rw [HE.o];exact RL.nil _ _,JN H0.o.2 (JN HK.o.2.2 H2.o.2.2.2)⟩
     | true =>
       have HV:=Ad hv;clear hv;(go_wp2_with fail);refine (C1 _ _ A1 _ H2.o.2.1.1 H2.o.2.1.2).mono ?_;rintro e w3 ⟨rfl,hb3⟩;have H3:=Ad (An (H2.o.1.keep hb3) (An (An (H2.o.2.1.1.keep hb3) (H2.o.2.1.2.keep hb3)) (An (An (Ac H2.o.2.2.1.1 hb3) (Ac H2.o.2.2.1.2 hb3)) (bt H2.o.2.2.2 hb3))));clear hb3 s0 s1 sl;cases hc:Cl A1 with
       | false =>
         have HYY:=Ad (show Y1=(0,[]) by rw [← HY1.o,Fo,HV.o,if_pos rfl,hc,if_neg (by decide)]);have HE:=Ad (HYY.o);clear hc;go_wp2;go_roundg (gk - 1)
         case rel=>exact ⟨1,_,by have:=HK.o.1;omega,rfl,HGX.o.1.keep H3.o.2.2.2,.inr (.inl ⟨rfl,HE.o⟩),Nat.le_trans HGX.o.2 Dc,JN HK.o.2.2 H3.o.2.2.2⟩
         case measure=>have:=HK.o.1;omega
       | true =>
         have HYY:=Ad (show BE m d c.body [A1]=Y1 by rw [← HY1.o,Fo,HV.o,if_pos rfl,hc,if_pos rfl]);clear hc;(have q1:(c.test.1 == c.test.1)=true:=by simp);(have q2:(c.test.2.1 == c.test.2.1)=true:=by simp);(have q3:(c.test.2.2 == c.test.2.2)=true:=by simp);obtain ⟨s0,s1,sl⟩:=B3 H3.o.2.2.1.2;have t0:=Lp H3.o.2.2.1.1;have t1:=JZ H3.o.2.2.1.1;have t2:=J0 H3.o.2.2.1.1;have tl:=Ae H3.o.2.2.1.1;obtain ⟨e0,e1,el⟩:=B3 H3.o.1.bx.1.1;obtain ⟨k0,k1,k2,k3,k4,k5,k6,k7,k8,k9⟩:=Dk H3.o.1.bx.2;have kl:=Ae H3.o.1.bx.2;(go_wp2_with fail);refine (HIH.o _ _ _ _ _ _ A1 c.body D _ H3.o.2.1.1 H3.o.2.1.2 H3.o.1.bd HV.o HP.o.2.1).mono ?_;rw [HYY.o];rintro e w4 ⟨r,rfl,hr,hb4⟩;obtain ⟨ra,rc,rfl⟩:=hr.form;have H4:=Ad (An hr (An (H3.o.1.keep hb4) (An (HGX.o.1.keep (bt H3.o.2.2.2 hb4)) (bt H3.o.2.2.2 hb4))));have hz3:=H3.o.2.2.2.size;have hz4:=hb4.size;have HIN:=Ad HGX.o.1.inside;clear hr hb4 s0 s1 sl t0 t1 t2 tl e0 e1 el k0 k1 k2 k3 k4 k5 k6 k7 k8 k9 kl q1 q2 q3;by_cases hc0:Y1.1=0
         · have y0:(Y1.1 == 0)=true:=beq_iff_eq.2 hc0
           have HC0:=Ad hc0;clear hc0;have hzz:=HK.o.2.2.size;go_wp2_with (at_builtin;go_must (refine D8 (m:=Y1.2) (B:=w0.heap.size) (R:=fun j=>w0.heap.size≤j) rfl (.tmp 51) (.tmp 52) _ rfl Cy rfl H4.o.2.2.1 rfl H4.o.1 (fun j _ h=>⟨by have h6:w3.heap.size≤j:=h;omega,fun hne e=>by rcases HIN.o with h4 | h4;exact hne h4;have h5:=(h4 j e).2;have h6:w3.heap.size≤j:=h;omega⟩) (by have h1:=HGX.o.2;have h2:=HG1.o.2.2;(try simp only [List.length_nil] at h1 ⊢);omega) Om ?_;intro v8 w8 g8 f8;obtain ⟨a8,n8,c8,rfl⟩:=g8.forms))
           have hb8:=H4.o.2.2.1.below (JN HK.o.2.2 H4.o.2.2.2) (Nat.le_refl _) Om f8;have H8:=Ad (An g8 hb8);have HE:=Ad (show Y1=(0,[] ++ Y1.2) by rw [List.nil_append];exact II HC0.o);clear g8 hb8 f8 y0 hzz;go_wp2;go_roundg (gk - 1)
           case rel=>exact ⟨1,_,by have:=HK.o.1;omega,rfl,H8.o.1,.inr (.inl ⟨rfl,HE.o⟩),by have h1:=HGX.o.2;have h2:=HG1.o.2.2;simp only [List.length_append] at h1 ⊢;omega,H8.o.2⟩
           case measure=>have:=HK.o.1;omega
         · have y0:(Y1.1 == 0)=false:=beq_eq_false_iff_ne.2 hc0
           have HE:=Ad (show X=(Y1.1,[]) by rw [HX.o];exact IM rfl hc0);clear hc0;go_wp2;go_ret2;exact ⟨_,by rw [HE.o];rfl,by rw [HE.o];exact RL.nil _ _,JN H0.o.2 (JN HK.o.2.2 H4.o.2.2.2)⟩
   · -- the second way
     (have hL1:Y1=(0,L):=by rcases hcs with ⟨h,_⟩ | ⟨_,h⟩ | ⟨h,_⟩;exact absurd h Dc;exact h;exact absurd h Dc);have HL1:=Ad hL1;clear hL1;(have hixr:∀ w:World,(Instr.index 300 (.agg #[.bool c.test.1,.int .i64 c.test.2.1,.int .i64 c.test.2.2,.bool N.1,.int .i64 N.2.1,.int .i64 N.2.2]) (.int .i64 1)).run Tryz.prog w=.ok (.agg #[.bool N.1,.int .i64 N.2.1,.int .i64 N.2.2]) w:=fun _=>by kernel_rfl);obtain ⟨wf,hwf⟩:=Ey (wr.alloc (.cells #[.bool N.1,.int .i64 N.2.1,.int .i64 N.2.2] 61));(have hbf:Below wr.heap.size wr wf:=by rw [hwf];exact Aa _ _);(have hfx:wf.heap[wr.heap.size]?=some (.cells #[.bool N.1,.int .i64 N.2.1,.int .i64 N.2.2] 61 (0,0)):=by rw [hwf];exact heap_alloc_new _ _);have HWF:=Ad hwf;have HF:=Ad (An (HB.o.keep hbf) (An hfx hbf));obtain ⟨b0,b1,bl⟩:=B3 HF.o.1.bx.1.2;have t0:=Lp hfx;have t1:=JZ hfx;have t2:=J0 hfx;have tl:=Ae hfx;clear hwf hbf hfx;rw [show ((1:Nat):Int)=1 from rfl];(go_upto_region 5 with fail);rw [← HWF.o];(go_wp2_with fail);refine (Ek _ _ a N _ HF.o.1.a1 HF.o.1.a2 HSZ.o).mono ?_;rw [HG2.o.1];rintro e w1 ⟨u1,u2,rfl,oa,hb1⟩;obtain ⟨r1,r2⟩:=OA.fe oa;obtain ⟨y1,j1,z1,rfl⟩:=r1.forms;obtain ⟨y2,j2,z2,rfl⟩:=r2.forms;obtain ⟨W,hW⟩:=Ey (w1.alloc (.cells #[.slice y1 j1 z1,.slice y2 j2 z2] 26));(have hbW:Below w1.heap.size w1 W:=by rw [hW];exact Aa _ _);(have hst:W.heap[w1.heap.size]?=some (.cells #[.slice y1 j1 z1,.slice y2 j2 z2] 26 (0,0)):=by rw [hW];exact heap_alloc_new _ _);have HW:=Ad hW;have H1:=Ad (An ((HF.o.1.keep hb1).keep hbW) (An (An (r1.rl.any.keep hbW) (r2.rl.any.keep hbW)) (An (An (Ac (Ac HF.o.2.1 hb1) hbW) hst) (bt (bt HF.o.2.2 hb1) hbW))));obtain ⟨s0,s1,sl⟩:=B3 hst;clear oa r1 r2 hb1 hbW hst hW b0 b1 bl t0 t1 t2 tl hixr;(go_upto_region 6 with fail);rw [← HW.o];(go_wp2_with fail);refine (Aq _ _ A2 _ H1.o.2.1.1 H1.o.2.1.2).mono ?_;rintro e w2 ⟨rfl,hb2⟩;have H2:=Ad (An (H1.o.1.keep hb2) (An (An (H1.o.2.1.1.keep hb2) (H1.o.2.1.2.keep hb2)) (An (An (Ac H1.o.2.2.1.1 hb2) (Ac H1.o.2.2.1.2 hb2)) (bt H1.o.2.2.2 hb2))));clear hb2 s0 s1 sl;obtain ⟨s0,s1,sl⟩:=B3 H2.o.2.2.1.2;cases hv:Ah A2 with
     | false =>
       have HYY:=Ad (show Y2=(1,[]) by rw [← HY2.o,Fo,hv,if_neg (by decide)]);have HE:=Ad (show X=(1,[]) by rw [HX.o,HL1.o];exact GW (congrArg Prod.fst HYY.o) Dc);clear hv;go_wp2;go_ret2;exact ⟨_,by rw [HE.o];rfl,by rw [HE.o];exact RL.nil _ _,JN H0.o.2 (JN HK.o.2.2 H2.o.2.2.2)⟩
     | true =>
       have HV:=Ad hv;clear hv;(go_wp2_with fail);refine (C1 _ _ A2 _ H2.o.2.1.1 H2.o.2.1.2).mono ?_;rintro e w3 ⟨rfl,hb3⟩;have H3:=Ad (An (H2.o.1.keep hb3) (An (An (H2.o.2.1.1.keep hb3) (H2.o.2.1.2.keep hb3)) (An (An (Ac H2.o.2.2.1.1 hb3) (Ac H2.o.2.2.1.2 hb3)) (bt H2.o.2.2.2 hb3))));clear hb3 s0 s1 sl;cases hc:Cl A2 with
       | false =>
         have HYY:=Ad (show Y2=(0,[]) by rw [← HY2.o,Fo,HV.o,if_pos rfl,hc,if_neg (by decide)]);have HE:=Ad (show X=(0,L) by rw [HX.o,HL1.o,HYY.o];exact congrArg (Prod.mk 0) (List.append_nil L));clear hc;go_wp2;go_roundg (gk - 1)
         case rel=>exact ⟨2,_,by have:=HK.o.1;omega,rfl,HGX.o.1.keep H3.o.2.2.2,.inr (.inr ⟨rfl,HE.o⟩),Nat.le_trans HGX.o.2 Dc,JN HK.o.2.2 H3.o.2.2.2⟩
         case measure=>have:=HK.o.1;omega
       | true =>
         have HYY:=Ad (show BE m d c.els [A2]=Y2 by rw [← HY2.o,Fo,HV.o,if_pos rfl,hc,if_pos rfl]);clear hc;have q1:(N.1 == c.test.1)=false:=HN.o.2;obtain ⟨s0,s1,sl⟩:=B3 H3.o.2.2.1.2;have t0:=Lp H3.o.2.2.1.1;have t1:=JZ H3.o.2.2.1.1;have t2:=J0 H3.o.2.2.1.1;have tl:=Ae H3.o.2.2.1.1;obtain ⟨e0,e1,el⟩:=B3 H3.o.1.bx.1.1;obtain ⟨k0,k1,k2,k3,k4,k5,k6,k7,k8,k9⟩:=Dk H3.o.1.bx.2;have kl:=Ae H3.o.1.bx.2;(go_wp2_with fail);refine (HIH.o _ _ _ _ _ _ A2 c.els D _ H3.o.2.1.1 H3.o.2.1.2 H3.o.1.el HV.o HP.o.2.2).mono ?_;rw [HYY.o];rintro e w4 ⟨r,rfl,hr,hb4⟩;obtain ⟨ra,rc,rfl⟩:=hr.form;have H4:=Ad (An hr (An (H3.o.1.keep hb4) (An (HGX.o.1.keep (bt H3.o.2.2.2 hb4)) (bt H3.o.2.2.2 hb4))));have hz3:=H3.o.2.2.2.size;have hz4:=hb4.size;have HIN:=Ad HGX.o.1.inside;clear hr hb4 s0 s1 sl t0 t1 t2 tl e0 e1 el k0 k1 k2 k3 k4 k5 k6 k7 k8 k9 kl q1;by_cases hc0:Y2.1=0
         · have y0:(Y2.1 == 0)=true:=beq_iff_eq.2 hc0
           have HC0:=Ad hc0;clear hc0;have hzz:=HK.o.2.2.size;go_wp2_with (at_builtin;go_must (refine D8 (m:=Y2.2) (B:=w0.heap.size) (R:=fun j=>w0.heap.size≤j) rfl (.tmp 51) (.tmp 52) _ rfl Cy rfl H4.o.2.2.1 rfl H4.o.1 (fun j _ h=>⟨by have h6:w3.heap.size≤j:=h;omega,fun hne e=>by rcases HIN.o with h4 | h4;exact hne h4;have h5:=(h4 j e).2;have h6:w3.heap.size≤j:=h;omega⟩) (by have h1:=HGX.o.2;have h2:=HG2.o.2.2;(try simp only [List.length_nil] at h1 ⊢);omega) Om ?_;intro v8 w8 g8 f8;obtain ⟨a8,n8,c8,rfl⟩:=g8.forms))
           have hb8:=H4.o.2.2.1.below (JN HK.o.2.2 H4.o.2.2.2) (Nat.le_refl _) Om f8;have H8:=Ad (An g8 hb8);have HE:=Ad (show X=(0,L ++ Y2.2) by rw [HX.o,HL1.o];exact OQ HC0.o);clear g8 hb8 f8 y0 hzz;go_wp2;go_roundg (gk - 1)
           case rel=>exact ⟨2,_,by have:=HK.o.1;omega,rfl,H8.o.1,.inr (.inr ⟨rfl,HE.o⟩),by have h1:=HGX.o.2;have h2:=HG2.o.2.2;simp only [List.length_append] at h1 ⊢;omega,H8.o.2⟩
           case measure=>have:=HK.o.1;omega
         · have y0:(Y2.1 == 0)=false:=beq_eq_false_iff_ne.2 hc0
           have HE:=Ad (show X=(Y2.1,[]) by rw [HX.o,HL1.o];exact GW rfl hc0);clear hc0;go_wp2;go_ret2;exact ⟨_,by rw [HE.o];rfl,by rw [HE.o];exact RL.nil _ _,JN H0.o.2 (JN HK.o.2.2 H4.o.2.2.2)⟩
   · have HE:=Ad (show X=(0,L) by rcases hcs with ⟨h,_⟩ | ⟨h,_⟩ | ⟨_,h⟩;exact absurd h Dc;exact absurd h Dc;exact h)
     clear hcs;rw [show ((2:Nat):Int)=2 from rfl];go_wp2;go_ret2;exact ⟨_,by rw [HE.o];rfl,by rw [HE.o];exact HGX.o.1.rl.more fun j _ h=>by rcases h with h | h <;> (have h2:w0.heap.size≤j:=h;show w.heap.size≤j;omega),JN H0.o.2 HK.o.2.2⟩
end Go.Proofs.YtkbbmjcfgcfejaaGreat
