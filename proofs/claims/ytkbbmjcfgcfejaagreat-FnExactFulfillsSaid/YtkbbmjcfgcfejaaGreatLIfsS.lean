/- Walk: a command with a test (reference: l11If). (Printed by gen_ifs.py.) -/
import Derived.Test.YtkbbmjcfgcfejaaGreatLLopS
set_option linter.unusedVariables false
set_option linter.unusedSimpArgs false
set_option maxRecDepth 100000
set_option maxHeartbeats 12800000
namespace Go.Proofs.YtkbbmjcfgcfejaaGreat
open Go.RowKit
section
variable {W w5:World} {x:Bool} {a b:Int} {T:TypeId} {o:Obj}
theorem Ke {w:World} {n:Nat} (h:w.heap[n]?=some (.cells #[.bool x,.int .i64 a,.int .i64 b] T (0,0))):RL w (fun k=>k=n) (.slice (some ⟨n,0,none⟩) 1 1) [((x,a,b):Ap)]:=by
 refine .inr ⟨n,0,1,rfl,Nat.le_refl _,by unfold maxLen;omega,fun _=>⟨rfl,Ae h⟩,fun i hi=>⟨[.bool x,.int .i64 a,.int .i64 b],?_,fun j u hj=>?_⟩⟩
 · have:i=0:=by simpa using hi
   subst this;exact ⟨[.bool x],[.int .i64 a,.int .i64 b],rfl,rfl,⟨[.int .i64 a],[.int .i64 b],rfl,rfl,rfl⟩⟩
 · have:i=0:=by simpa using hi
   subst this;match j,hj with
   | 0,hj=>simp at hj;subst hj;exact cell_of_row w n 0 _ _ _ h
   | 1,hj=>simp at hj;subst hj;exact cell_of_row w n 1 _ _ _ h
   | 2,hj=>simp at hj;subst hj;exact cell_of_row w n 2 _ _ _ h
theorem Ui {n:Nat} (hn:W.heap.size=n) (hb:Below (W.alloc (.cells #[.bool x,.int .i64 a,.int .i64 b] T)).heap.size (W.alloc (.cells #[.bool x,.int .i64 a,.int .i64 b] T)) w5):RL w5 (fun k=>k=n) (.slice (some ⟨n,0,none⟩) 1 1) [((x,a,b):Ap)]:=hn ▸ Ke (Ac (heap_alloc_new W _) hb)
theorem Uj {n:Nat} (hn:W.heap.size=n) (hb:Below ((W.alloc (.cells #[.bool x,.int .i64 a,.int .i64 b] T)).alloc o).heap.size ((W.alloc (.cells #[.bool x,.int .i64 a,.int .i64 b] T)).alloc o) w5):RL w5 (fun k=>k=n) (.slice (some ⟨n,0,none⟩) 1 1) [((x,a,b):Ap)]:=hn ▸ Ke (Ac (Ac (heap_alloc_new W _) (Aa _ _)) hb)
theorem Rr {n:Nat} (hn:W.heap.size=n) (hb:Below (W.alloc (.cells #[.bool x,.int .i64 a,.int .i64 b] T)).drew.heap.size (W.alloc (.cells #[.bool x,.int .i64 a,.int .i64 b] T)).drew w5):RL w5 (fun k=>k=n) (.slice (some ⟨n,0,none⟩) 1 1) [((x,a,b):Ap)]:=hn ▸ Ke (Ac (Ac (heap_alloc_new W _) (Ai _)) hb)
theorem Rs {n:Nat} (hn:W.heap.size=n) (hb:Below ((W.alloc (.cells #[.bool x,.int .i64 a,.int .i64 b] T)).alloc o).drew.heap.size ((W.alloc (.cells #[.bool x,.int .i64 a,.int .i64 b] T)).alloc o).drew w5):RL w5 (fun k=>k=n) (.slice (some ⟨n,0,none⟩) 1 1) [((x,a,b):Ap)]:=hn ▸ Ke (Ac (Ac (Ac (heap_alloc_new W _) (Aa _ _)) (Ai _)) hb)
theorem DS {α:Type} [Dat α] (w:World) (S:Nat→Prop) (a:Option Addr):RL w S (.slice a 0 0) ([]:List α):=.inl ⟨a,0,rfl,rfl,by unfold maxLen;omega,fun _=>rfl⟩
end
structure IfS (w:World) (b tb:Nat) (v1 v2 x y kv:Value) (row:Array Value) (a:Aj) (t N:Ap) {d:Nat} (body els:List (Cm d)) (keep:List Int):Prop where
 a1:RL w (fun _=>True) v1 a.1
 a2:RL w (fun _=>True) v2 a.2
 bd:RL w (fun _=>True) x body
 el:RL w (fun _=>True) y els
 ks:RInts w kv keep
 ab:w.heap[b]?=some (.cells #[v1,v2] 26 (0,0))
 cb:w.heap[b+1]?=some (.cells row 63 (0,0))
 ts:w.heap[tb]?=some (.cells #[.bool t.1,.int .i64 t.2.1,.int .i64 t.2.2,.bool N.1,.int .i64 N.2.1,.int .i64 N.2.2] 61 (0,0))
theorem IfS.keep {w w':World} {b tb:Nat} {v1 v2 x y kv:Value} {row:Array Value} {a:Aj} {t N:Ap} {d:Nat} {body els:List (Cm d)} {keep:List Int} (h:IfS w b tb v1 v2 x y kv row a t N body els keep) (hb:Below w.heap.size w w'):IfS w' b tb v1 v2 x y kv row a t N body els keep :=
 ⟨h.a1.keep hb,h.a2.keep hb,h.bd.keep hb,h.el.keep hb,h.ks.keep hb,Ac h.ab hb,Ac h.cb hb,Ac h.ts hb⟩
theorem Uk {keep:List Int} {d:Nat} (IH:Uh keep d) {S1 S2 S3 S4:Nat→Prop} (v1 v2 f1 f2 x y kv:Value) (a:Aj) (c:Cm (d+1)) (D:Int) (w:World) (h1:RL w S1 v1 a.1) (h2:RL w S2 v2 a.2) (hf1:∃ a n k,f1=.slice a n k) (hf2:∃ a n k,f2=.slice a n k) (hx:RL w S3 x c.body) (hy:RL w S4 y c.els) (hk:RInts w kv keep) (ha:Ah a=true) (hs1:AZ d c.body D=true) (hs2:AZ d c.els D=true) :
 Calls Tryz.prog 261 #[.agg #[v1,v2],.agg #[.int .i64 c.kind,.int .i64 c.a,.int .i64 c.b,.bool c.test.1,.int .i64 c.test.2.1,.int .i64 c.test.2.2,f1,f2,x,y],kv] w (VR (TE (fun s=>BE (Ay keep) d c.body [s]) (fun s=>BE (Ay keep) d c.els [s]) c.test a) w):=by
 have hsz:=Co ha;obtain ⟨p1,q1,rfl⟩:=h1.form;obtain ⟨p2,q2,rfl⟩:=h2.form;obtain ⟨a3,n3,c3,rfl⟩:=hf1;obtain ⟨a4,n4,c4,rfl⟩:=hf2;obtain ⟨a5,c5,rfl⟩:=hx.form;obtain ⟨a6,c6,rfl⟩:=hy.form;obtain ⟨ka,kc,rfl,_⟩:=hk.cells;obtain ⟨X,hX⟩:∃ X,TE (fun s=>BE (Ay keep) d c.body [s]) (fun s=>BE (Ay keep) d c.els [s]) c.test a=X:=⟨_,rfl⟩;rw [hX];obtain ⟨N,hN⟩:=Ex (nF c.test);obtain ⟨A1,hA1⟩:∃ A,B7 a c.test=A:=⟨_,rfl⟩;obtain ⟨A2,hA2⟩:∃ A,B7 a N=A:=⟨_,rfl⟩;obtain ⟨Y1,hY1⟩:∃ Y,Fo (fun s=>BE (Ay keep) d c.body [s]) A1=Y:=⟨_,rfl⟩;obtain ⟨Y2,hY2⟩:∃ Y,Fo (fun s=>BE (Ay keep) d c.els [s]) A2=Y:=⟨_,rfl⟩;have hg1:GoodV 24 Y1.2:=by rw [← hY1];exact Fq fun h=>CZ d _ D _ hs1 (AX h Dc)
 have hg2:GoodV 24 Y2.2:=by rw [← hY2];exact Fq fun h=>CZ d _ D _ hs2 (AX h Dc)
 have hX2:X=Cu Y1 fun x=>Cu Y2 fun y=>(0,x ++ y):=by rw [← hX,TE,hN,hA1,hA2,hY1,hY2]
 have hN2:N=(!c.test.1,c.test.2.1,c.test.2.2):=by rw [← hN];rfl
 -- the first blocks
 obtain ⟨wa,hwa⟩:=Ey (((w.alloc (.cells #[.slice p1 a.1.length q1,.slice p2 a.2.length q2] 26)).alloc (.cells #[.int .i64 c.kind,.int .i64 c.a,.int .i64 c.b,.bool c.test.1,.int .i64 c.test.2.1,.int .i64 c.test.2.2,.slice a3 n3 c3,.slice a4 n4 c4,.slice a5 c.body.length c5,.slice a6 c.els.length c6] 63)).alloc (.cells #[] 26));have hba:Below w.heap.size w wa:=by rw [hwa];exact ba (ba (Aa _ _) _) _
 have hA:wa.heap[w.heap.size]?=some (.cells #[.slice p1 a.1.length q1,.slice p2 a.2.length q2] 26 (0,0)):=by rw [hwa];exact Ac (Ac (heap_alloc_new w _) (Aa _ _)) (Aa _ _)
 have hC:wa.heap[w.heap.size+1]?=some (.cells #[.int .i64 c.kind,.int .i64 c.a,.int .i64 c.b,.bool c.test.1,.int .i64 c.test.2.1,.int .i64 c.test.2.2,.slice a3 n3 c3,.slice a4 n4 c4,.slice a5 c.body.length c5,.slice a6 c.els.length c6] 63 (0,0)):=by
  rw [hwa];have:=heap_alloc_new (w.alloc (.cells #[.slice p1 a.1.length q1,.slice p2 a.2.length q2] 26)) (.cells #[.int .i64 c.kind,.int .i64 c.a,.int .i64 c.b,.bool c.test.1,.int .i64 c.test.2.1,.int .i64 c.test.2.2,.slice a3 n3 c3,.slice a4 n4 c4,.slice a5 c.body.length c5,.slice a6 c.els.length c6] 63);rw [World.size_alloc] at this;exact Ac this (Aa _ _)
 obtain ⟨wn,hwn⟩:=Ey (wa.alloc (.cells #[.bool N.1,.int .i64 N.2.1,.int .i64 N.2.2] 61));have hbn:Below wa.heap.size wa wn:=by rw [hwn];exact Aa _ _
 have hnn:wn.heap[wa.heap.size]?=some (.cells #[.bool N.1,.int .i64 N.2.1,.int .i64 N.2.2] 61 (0,0)):=by rw [hwn];exact heap_alloc_new _ _
 obtain ⟨w0,hw0⟩:=Ey (wn.alloc (.cells #[.bool c.test.1,.int .i64 c.test.2.1,.int .i64 c.test.2.2,.bool N.1,.int .i64 N.2.1,.int .i64 N.2.2] 61));have hbz:Below wn.heap.size wn w0:=by rw [hw0];exact Aa _ _
 have hts:w0.heap[wn.heap.size]?=some (.cells #[.bool c.test.1,.int .i64 c.test.2.1,.int .i64 c.test.2.2,.bool N.1,.int .i64 N.2.1,.int .i64 N.2.2] 61 (0,0)):=by rw [hw0];exact heap_alloc_new _ _
 have hbb:=bt hba (bt hbn hbz);have H0:=Ad (An (show IfS w0 w.heap.size wn.heap.size (.slice p1 a.1.length q1) (.slice p2 a.2.length q2) (.slice a5 c.body.length c5) (.slice a6 c.els.length c6) (.slice ka keep.length kc) #[.int .i64 c.kind,.int .i64 c.a,.int .i64 c.b,.bool c.test.1,.int .i64 c.test.2.1,.int .i64 c.test.2.2,.slice a3 n3 c3,.slice a4 n4 c4,.slice a5 c.body.length c5,.slice a6 c.els.length c6] a c.test N c.body c.els keep from ⟨(h1.keep hbb).any,(h2.keep hbb).any,(hx.keep hbb).any,(hy.keep hbb).any,hk.keep hbb,Ac hA (bt hbn hbz),Ac hC (bt hbn hbz),hts⟩) hbb);have HWA:=Ad hwa;have HWN:=Ad (show wn=wa.alloc (.cells #[.bool (!c.test.1),.int .i64 c.test.2.1,.int .i64 c.test.2.2] 61) by rw [hwn,hN2]);have HW0:=Ad hw0;have HP:=Ad (An (An ha hX) (An hs1 hs2));have HSZ:=Ad hsz;have HG1:=Ad (An hA1 hg1);have HG2:=Ad (An hA2 hg2);have HY1:=Ad hY1;have HY2:=Ad hY2;have HX:=Ad hX2;have HIH:=Ad IH;have HC1:=Ad (Ac hC hbn);obtain ⟨k0,k1,k2,k3,k4,k5,k6,k7,k8,k9⟩:=Dk hC;have kl:=Ae hC;have HNN:=Ad hnn;clear hbb hba hbn hbz hA hnn hts hwa hwn hw0 h1 h2 hx hy hk hsz hN hN2 hA1 hA2 hY1 hY2 hg1 hg2 hX hX2 hs1 hs2 ha IH hC;go_enter Tryz.func261,Tryz.ntmps261
 go_upto_region 2 with fail
 rw [← HWA.o];go_upto_region 3 with fail
 rw [← HWN.o];clear k0 k1 k2 k3 k4 k5 k6 k7 k8 k9 kl;obtain ⟨k0,k1,k2,k3,k4,k5,k6,k7,k8,k9⟩:=Dk HC1.o;have kl:=Ae HC1.o;have n0:=Lp HNN.o;have n1:=JZ HNN.o;have n2:=J0 HNN.o;have nl:=Ae HNN.o;go_upto_region 4 with fail
 rw [← HW0.o];clear k0 k1 k2 k3 k4 k5 k6 k7 k8 k9 kl n0 n1 n2 nl;obtain ⟨tb,htb⟩:=Ex (wn.heap.size);have H0:=Ad (show IfS w0 w.heap.size tb (.slice p1 a.1.length q1) (.slice p2 a.2.length q2) (.slice a5 c.body.length c5) (.slice a6 c.els.length c6) (.slice ka keep.length kc) #[.int .i64 c.kind,.int .i64 c.a,.int .i64 c.b,.bool c.test.1,.int .i64 c.test.2.1,.int .i64 c.test.2.2,.slice a3 n3 c3,.slice a4 n4 c4,.slice a5 c.body.length c5,.slice a6 c.els.length c6] a c.test N c.body c.els keep∧Below w.heap.size w w0 by rw [← htb];exact H0.o);rw [htb];clear htb;have hw0:=H0.o.2.size;go_upto_region 5 with fail
 go_loopg [8,11] 2 (fun q x i wr=>∃ (k:Nat) (L:List Aj),k+q=2∧i=.int .i64 k∧GX wr w0.heap.size (fun j=>w0.heap.size≤j) x L∧((k=0∧L=[])∨(k=1∧Y1=(0,L))∨(k=2∧X=(0,L)))∧L.length≤24 * k∧Below w0.heap.size w0 wr)
 case atStart=>exact ⟨0,[],by omega,rfl,GX.nil _ _ _ _,.inl ⟨rfl,rfl⟩,by simp,Below.refl _ _⟩
 case round =>
  obtain ⟨k,L,hk,rfl,hG,hcs,hL,hb⟩:=hrel;obtain ⟨xa,xc,rfl⟩:=hG.form;have HK:=Ad (An hk (An hL hb));have HGX:=Ad (An hG hL);have HB:=Ad (H0.o.1.keep hb);have hkz:k=0∨k=1∨k=2:=by omega
  have hzr:=hb.size;clear hk hG hL hb;rcases hkz with rfl | rfl | rfl
  · -- the first way
    (have hL0:L=[]:=by rcases hcs with ⟨_,h⟩ | ⟨h,_⟩ | ⟨h,_⟩;exact h;exact absurd h Dc;exact absurd h Dc);subst hL0;clear hcs;rw [show ((0:Nat):Int)=0 from rfl];obtain ⟨b0,b1,bl⟩:=B3 HB.o.ab;have g0:=cr 0 HB.o.ts;have g1:=cr 1 HB.o.ts;have g2:=cr 2 HB.o.ts;have gl:=Ae HB.o.ts;(go_upto_region 7 with fail);go_cut [12] (fun s12 wc=>∃ (t:Nat) (x1 x2:Value),s12=.pointer (some ⟨t,0,none⟩)∧AB wr wc t x1 x2 A1)
    case first =>
     go_region_held3 (fun w'=>(w'.cell? ⟨w.heap.size,0,none⟩=some (.slice p1 a.1.length q1)∧w'.cell? ⟨w.heap.size,1,none⟩=some (.slice p2 a.2.length q2))∧(w'.cell? ⟨tb,0,none⟩=some (.bool c.test.1)∧w'.cell? ⟨tb,1,none⟩=some (.int .i64 c.test.2.1)∧w'.cell? ⟨tb,2,none⟩=some (.int .i64 c.test.2.2)))
      (exact ⟨⟨(Ck b0),(Ck b1)⟩,(Ck g0),(Ck g1),(Ck g2)⟩)
      (first
        | (go_at_call 76;go_must (refine (DU (S4:=fun _=>True) _ _ _ _ a (([((c.test.1,c.test.2.1,c.test.2.2):Ap)],([]:List Am)):Aj) _ (HB.o.a1.keep Bl) (HB.o.a2.keep Bl) (by first | exact Ui Sp (Below.refl _ _) | exact Uj Sp (Below.refl _ _) | exact Rr Sp (Below.refl _ _) | exact Rs Sp (Below.refl _ _)) (RL.nil _ _) HSZ.o.1 HSZ.o.2 Sp Sp).mono ?_;rintro e w5 ⟨x1,x2,rfl,o1',o2',hb5'⟩;rw [List.append_nil] at o2';have o1:=o1'.mono (B':=wr.heap.size) (Below.size (w:=wr) (B:=wr.heap.size) Bl);have o2:=o2'.mono (B':=wr.heap.size) (Below.size (w:=wr) (B:=wr.heap.size) Bl);obtain ⟨d1,m1,e1,rfl⟩:=o1.forms;obtain ⟨d2,m2,e2,rfl⟩:=o2.forms;have hb5:Below wr.heap.size wr w5:=bt Bl hb5';have hz5:=hb5.size;(first | (have hT:=A5 hb5') | (have hT:=A7 hb5') | (have hT:=Cs hb5') | (have hT:=Cd hb5') | skip);(try simp only [World.size_alloc,World.size_drew] at hT);(first | (have V9:=B4 hT;obtain ⟨ht0,ht1,htz,htl⟩:=V9) | skip);clear hb5' o1' o2'))
        | fail)
     all_goals
      have HQ:=Ad (An (An (show FE w5 wr.heap.size (.slice d1 m1 e1) A1.1 by rw [← HG1.o.1];exact o1) (show FE w5 wr.heap.size (.slice d2 m2 e2) A1.2 by rw [← HG1.o.1];exact o2)) hb5);clear o1 o2 hb5;go_wp2;go_meet
      case rel =>
       first
         | exact ⟨_,_,_,rfl,AB.new HQ.o.2 HQ.o.1.1 HQ.o.1.2⟩
         | exact ⟨_,_,_,rfl,AB.setN hT HQ.o.1.1 HQ.o.1.2 HQ.o.2 Om⟩
         | fail
    case rest =>
     rename World=>W
     obtain ⟨tB,x1,x2,rfl,hAB⟩:=hcut;obtain ⟨d1,m1,e1,rfl⟩:=hAB.f.forms;obtain ⟨d2,m2,e2,rfl⟩:=hAB.a.forms;have H1:=Ad (An hAB (HB.o.keep hAB.bl));clear hAB b0 b1 bl g0 g1 g2 gl;obtain ⟨⟨t0,t1⟩,_,tl⟩:=H1.o.1.cells;(go_wp2_with fail);refine (Ar _ _ A1 _ H1.o.1.f.rl H1.o.1.a.rl).mono ?_;rintro e w2 ⟨rfl,hb2⟩;have H2:=Ad (An (H1.o.1.keep hb2) (H1.o.2.keep hb2));clear hb2 t0 t1 tl;obtain ⟨⟨t0,t1⟩,_,tl⟩:=H2.o.1.cells;cases hv:Ah A1 with
     | false =>
       have HYY:=Ad (show Y1=(1,[]) by rw [← HY1.o,Fo,hv,if_neg (by decide)]);have HE:=Ad (show X=(1,[]) by rw [HX.o];exact IM (congrArg Prod.fst HYY.o) Dc);clear hv;go_wp2;go_ret2;exact ⟨_,by rw [HE.o];rfl,by rw [HE.o];exact DS _ _ _,ba (JN H0.o.2 (JN HK.o.2.2 H2.o.1.bl)) _⟩
     | true =>
       have HV:=Ad hv;clear hv;(go_wp2_with fail);refine (C2 _ _ A1 _ H2.o.1.f.rl H2.o.1.a.rl).mono ?_;rintro e w3 ⟨rfl,hb3⟩;have H3:=Ad (An (H2.o.1.keep hb3) (H2.o.2.keep hb3));clear hb3 t0 t1 tl;cases hc:Cl A1 with
       | false =>
         have HYY:=Ad (show Y1=(0,[]) by rw [← HY1.o,Fo,HV.o,if_pos rfl,hc,if_neg (by decide)]);have HE:=Ad (HYY.o);clear hc;go_wp2;go_roundg (gk - 1)
         case rel=>exact ⟨1,_,by have:=HK.o.1;omega,rfl,HGX.o.1.keep H3.o.1.bl,.inr (.inl ⟨rfl,HE.o⟩),Nat.le_trans HGX.o.2 Dc,JN HK.o.2.2 H3.o.1.bl⟩
         case measure=>have:=HK.o.1;omega
       | true =>
         have HYY:=Ad (show BE (Ay keep) d c.body [A1]=Y1 by rw [← HY1.o,Fo,HV.o,if_pos rfl,hc,if_pos rfl]);clear hc;have HLT2:=Ad (Cr (w:=w3) (S:=fun k=>wr.heap.size≤k) (a:=A1) H3.o.1.f.rl H3.o.1.a.rl H3.o.1.bl.size);have HGV:=Ad (AX (n:=24) HV.o Dc);obtain ⟨⟨t0,t1⟩,_,tl⟩:=H3.o.1.cells;obtain ⟨k0,k1,k2,k3,k4,k5,k6,k7,k8,k9⟩:=Dk H3.o.2.cb;have kl:=Ae H3.o.2.cb;(go_wp2_with fail);refine (HIH.o _ _ _ _ _ [A1] c.body D _ HLT2.o (H3.o.2.bd.keep (Aa _ _)) (H3.o.2.ks.keep (Aa _ _)) HGV.o HP.o.2.1).mono ?_;rw [HYY.o];rintro e w4 ⟨r,rfl,hr',hb4'⟩;have hb4:Below w3.heap.size w3 w4:=bt (Aa _ _) hb4';have hz3:=H3.o.1.bl.size;(have hr:=hr'.more (S':=fun k=>wr.heap.size≤k) fun k _ h=>by rcases h with h | h;exact h;have h2:=h;simp only [World.size_alloc] at h2;show wr.heap.size≤k;omega);obtain ⟨ra,rc,rfl⟩:=hr.form;have H4:=Ad (An hr (An (H3.o.2.keep hb4) (An (HGX.o.1.keep (bt H3.o.1.bl hb4)) (bt H3.o.1.bl hb4))));have hz4:=hb4.size;have HIN:=Ad HGX.o.1.inside;clear hr hr' hb4 hb4' t0 t1 tl k0 k1 k2 k3 k4 k5 k6 k7 k8 k9 kl;by_cases hc0:Y1.1=0
         · have y0:(Y1.1 == 0)=true:=beq_iff_eq.2 hc0
           have HC0:=Ad hc0;clear hc0;have hzz:=HK.o.2.2.size;go_wp2_with (at_builtin;go_must (refine D8 (m:=Y1.2) (B:=w0.heap.size) (R:=fun j=>w0.heap.size≤j) rfl (.tmp 69) (.tmp 70) _ rfl Cy rfl H4.o.2.2.1 rfl H4.o.1 (fun j _ h=>⟨by have h6:wr.heap.size≤j:=h;show w0.heap.size≤j;omega,fun hne e=>by rcases HIN.o with h4 | h4;exact hne h4;have h5:=(h4 j e).2;have h6:wr.heap.size≤j:=h;omega⟩) (by have h1:=HGX.o.2;have h2:=HG1.o.2.2;(try simp only [List.length_nil] at h1 ⊢);omega) Om ?_;intro v8 w8 g8 f8;obtain ⟨a8,n8,c8,rfl⟩:=g8.forms))
           have hb8:=H4.o.2.2.1.below (JN HK.o.2.2 H4.o.2.2.2) (Nat.le_refl _) Om f8;have H8:=Ad (An g8 hb8);have HE:=Ad (show Y1=(0,[] ++ Y1.2) by rw [List.nil_append];exact II HC0.o);clear g8 hb8 f8 y0 hzz;go_wp2;go_roundg (gk - 1)
           case rel=>exact ⟨1,_,by have:=HK.o.1;omega,rfl,H8.o.1,.inr (.inl ⟨rfl,HE.o⟩),by have h1:=HGX.o.2;have h2:=HG1.o.2.2;simp only [List.length_append] at h1 ⊢;omega,H8.o.2⟩
           case measure=>have:=HK.o.1;omega
         · have y0:(Y1.1 == 0)=false:=beq_eq_false_iff_ne.2 hc0
           have HE:=Ad (show X=(Y1.1,[]) by rw [HX.o];exact IM rfl hc0);clear hc0;go_wp2;go_ret2;exact ⟨_,by rw [HE.o];rfl,by rw [HE.o];exact DS _ _ _,ba (JN H0.o.2 (JN HK.o.2.2 H4.o.2.2.2)) _⟩
  · -- the second way
    (have hL1:Y1=(0,L):=by rcases hcs with ⟨h,_⟩ | ⟨_,h⟩ | ⟨h,_⟩;exact absurd h Dc;exact h;exact absurd h Dc);have HL1:=Ad hL1;clear hL1;clear hcs;rw [show ((1:Nat):Int)=1 from rfl];obtain ⟨b0,b1,bl⟩:=B3 HB.o.ab;have g0:=cr 3 HB.o.ts;have g1:=cr 4 HB.o.ts;have g2:=cr 5 HB.o.ts;have gl:=Ae HB.o.ts;(go_upto_region 7 with fail);go_cut [12] (fun s12 wc=>∃ (t:Nat) (x1 x2:Value),s12=.pointer (some ⟨t,0,none⟩)∧AB wr wc t x1 x2 A2)
    case first =>
     go_region_held3 (fun w'=>(w'.cell? ⟨w.heap.size,0,none⟩=some (.slice p1 a.1.length q1)∧w'.cell? ⟨w.heap.size,1,none⟩=some (.slice p2 a.2.length q2))∧(w'.cell? ⟨tb,3,none⟩=some (.bool N.1)∧w'.cell? ⟨tb,4,none⟩=some (.int .i64 N.2.1)∧w'.cell? ⟨tb,5,none⟩=some (.int .i64 N.2.2)))
      (exact ⟨⟨(Ck b0),(Ck b1)⟩,(Ck g0),(Ck g1),(Ck g2)⟩)
      (first
        | (go_at_call 76;go_must (refine (DU (S4:=fun _=>True) _ _ _ _ a (([((N.1,N.2.1,N.2.2):Ap)],([]:List Am)):Aj) _ (HB.o.a1.keep Bl) (HB.o.a2.keep Bl) (by first | exact Ui Sp (Below.refl _ _) | exact Uj Sp (Below.refl _ _) | exact Rr Sp (Below.refl _ _) | exact Rs Sp (Below.refl _ _)) (RL.nil _ _) HSZ.o.1 HSZ.o.2 Sp Sp).mono ?_;rintro e w5 ⟨x1,x2,rfl,o1',o2',hb5'⟩;rw [List.append_nil] at o2';have o1:=o1'.mono (B':=wr.heap.size) (Below.size (w:=wr) (B:=wr.heap.size) Bl);have o2:=o2'.mono (B':=wr.heap.size) (Below.size (w:=wr) (B:=wr.heap.size) Bl);obtain ⟨d1,m1,e1,rfl⟩:=o1.forms;obtain ⟨d2,m2,e2,rfl⟩:=o2.forms;have hb5:Below wr.heap.size wr w5:=bt Bl hb5';have hz5:=hb5.size;(first | (have hT:=A5 hb5') | (have hT:=A7 hb5') | (have hT:=Cs hb5') | (have hT:=Cd hb5') | skip);(try simp only [World.size_alloc,World.size_drew] at hT);(first | (have V9:=B4 hT;obtain ⟨ht0,ht1,htz,htl⟩:=V9) | skip);clear hb5' o1' o2'))
        | fail)
     all_goals
      have HQ:=Ad (An (An (show FE w5 wr.heap.size (.slice d1 m1 e1) A2.1 by rw [← HG2.o.1];exact o1) (show FE w5 wr.heap.size (.slice d2 m2 e2) A2.2 by rw [← HG2.o.1];exact o2)) hb5);clear o1 o2 hb5;go_wp2;go_meet
      case rel =>
       first
         | exact ⟨_,_,_,rfl,AB.new HQ.o.2 HQ.o.1.1 HQ.o.1.2⟩
         | exact ⟨_,_,_,rfl,AB.setN hT HQ.o.1.1 HQ.o.1.2 HQ.o.2 Om⟩
         | fail
    case rest =>
     rename World=>W
     obtain ⟨tB,x1,x2,rfl,hAB⟩:=hcut;obtain ⟨d1,m1,e1,rfl⟩:=hAB.f.forms;obtain ⟨d2,m2,e2,rfl⟩:=hAB.a.forms;have H1:=Ad (An hAB (HB.o.keep hAB.bl));clear hAB b0 b1 bl g0 g1 g2 gl;obtain ⟨⟨t0,t1⟩,_,tl⟩:=H1.o.1.cells;(go_wp2_with fail);refine (Ar _ _ A2 _ H1.o.1.f.rl H1.o.1.a.rl).mono ?_;rintro e w2 ⟨rfl,hb2⟩;have H2:=Ad (An (H1.o.1.keep hb2) (H1.o.2.keep hb2));clear hb2 t0 t1 tl;obtain ⟨⟨t0,t1⟩,_,tl⟩:=H2.o.1.cells;cases hv:Ah A2 with
     | false =>
       have HYY:=Ad (show Y2=(1,[]) by rw [← HY2.o,Fo,hv,if_neg (by decide)]);have HE:=Ad (show X=(1,[]) by rw [HX.o,HL1.o];exact GW (congrArg Prod.fst HYY.o) Dc);clear hv;go_wp2;go_ret2;exact ⟨_,by rw [HE.o];rfl,by rw [HE.o];exact DS _ _ _,ba (JN H0.o.2 (JN HK.o.2.2 H2.o.1.bl)) _⟩
     | true =>
       have HV:=Ad hv;clear hv;(go_wp2_with fail);refine (C2 _ _ A2 _ H2.o.1.f.rl H2.o.1.a.rl).mono ?_;rintro e w3 ⟨rfl,hb3⟩;have H3:=Ad (An (H2.o.1.keep hb3) (H2.o.2.keep hb3));clear hb3 t0 t1 tl;cases hc:Cl A2 with
       | false =>
         have HYY:=Ad (show Y2=(0,[]) by rw [← HY2.o,Fo,HV.o,if_pos rfl,hc,if_neg (by decide)]);have HE:=Ad (show X=(0,L) by rw [HX.o,HL1.o,HYY.o];exact congrArg (Prod.mk 0) (List.append_nil L));clear hc;go_wp2;go_roundg (gk - 1)
         case rel=>exact ⟨2,_,by have:=HK.o.1;omega,rfl,HGX.o.1.keep H3.o.1.bl,.inr (.inr ⟨rfl,HE.o⟩),Nat.le_trans HGX.o.2 Dc,JN HK.o.2.2 H3.o.1.bl⟩
         case measure=>have:=HK.o.1;omega
       | true =>
         have HYY:=Ad (show BE (Ay keep) d c.els [A2]=Y2 by rw [← HY2.o,Fo,HV.o,if_pos rfl,hc,if_pos rfl]);clear hc;have HLT2:=Ad (Cr (w:=w3) (S:=fun k=>wr.heap.size≤k) (a:=A2) H3.o.1.f.rl H3.o.1.a.rl H3.o.1.bl.size);have HGV:=Ad (AX (n:=24) HV.o Dc);obtain ⟨⟨t0,t1⟩,_,tl⟩:=H3.o.1.cells;obtain ⟨k0,k1,k2,k3,k4,k5,k6,k7,k8,k9⟩:=Dk H3.o.2.cb;have kl:=Ae H3.o.2.cb;(go_wp2_with fail);refine (HIH.o _ _ _ _ _ [A2] c.els D _ HLT2.o (H3.o.2.el.keep (Aa _ _)) (H3.o.2.ks.keep (Aa _ _)) HGV.o HP.o.2.2).mono ?_;rw [HYY.o];rintro e w4 ⟨r,rfl,hr',hb4'⟩;have hb4:Below w3.heap.size w3 w4:=bt (Aa _ _) hb4';have hz3:=H3.o.1.bl.size;(have hr:=hr'.more (S':=fun k=>wr.heap.size≤k) fun k _ h=>by rcases h with h | h;exact h;have h2:=h;simp only [World.size_alloc] at h2;show wr.heap.size≤k;omega);obtain ⟨ra,rc,rfl⟩:=hr.form;have H4:=Ad (An hr (An (H3.o.2.keep hb4) (An (HGX.o.1.keep (bt H3.o.1.bl hb4)) (bt H3.o.1.bl hb4))));have hz4:=hb4.size;have HIN:=Ad HGX.o.1.inside;clear hr hr' hb4 hb4' t0 t1 tl k0 k1 k2 k3 k4 k5 k6 k7 k8 k9 kl;by_cases hc0:Y2.1=0
         · have y0:(Y2.1 == 0)=true:=beq_iff_eq.2 hc0
           have HC0:=Ad hc0;clear hc0;have hzz:=HK.o.2.2.size;go_wp2_with (at_builtin;go_must (refine D8 (m:=Y2.2) (B:=w0.heap.size) (R:=fun j=>w0.heap.size≤j) rfl (.tmp 69) (.tmp 70) _ rfl Cy rfl H4.o.2.2.1 rfl H4.o.1 (fun j _ h=>⟨by have h6:wr.heap.size≤j:=h;show w0.heap.size≤j;omega,fun hne e=>by rcases HIN.o with h4 | h4;exact hne h4;have h5:=(h4 j e).2;have h6:wr.heap.size≤j:=h;omega⟩) (by have h1:=HGX.o.2;have h2:=HG2.o.2.2;(try simp only [List.length_nil] at h1 ⊢);omega) Om ?_;intro v8 w8 g8 f8;obtain ⟨a8,n8,c8,rfl⟩:=g8.forms))
           have hb8:=H4.o.2.2.1.below (JN HK.o.2.2 H4.o.2.2.2) (Nat.le_refl _) Om f8;have H8:=Ad (An g8 hb8);have HE:=Ad (show X=(0,L ++ Y2.2) by rw [HX.o,HL1.o];exact OQ HC0.o);clear g8 hb8 f8 y0 hzz;go_wp2;go_roundg (gk - 1)
           case rel=>exact ⟨2,_,by have:=HK.o.1;omega,rfl,H8.o.1,.inr (.inr ⟨rfl,HE.o⟩),by have h1:=HGX.o.2;have h2:=HG2.o.2.2;simp only [List.length_append] at h1 ⊢;omega,H8.o.2⟩
           case measure=>have:=HK.o.1;omega
         · have y0:(Y2.1 == 0)=false:=beq_eq_false_iff_ne.2 hc0
           have HE:=Ad (show X=(Y2.1,[]) by rw [HX.o,HL1.o];exact GW rfl hc0);clear hc0;go_wp2;go_ret2;exact ⟨_,by rw [HE.o];rfl,by rw [HE.o];exact DS _ _ _,ba (JN H0.o.2 (JN HK.o.2.2 H4.o.2.2.2)) _⟩
  · have HE:=Ad (show X=(0,L) by rcases hcs with ⟨h,_⟩ | ⟨h,_⟩ | ⟨_,h⟩;exact absurd h Dc;exact absurd h Dc;exact h)
    clear hcs;rw [show ((2:Nat):Int)=2 from rfl];go_wp2;go_ret2;exact ⟨_,by rw [HE.o];rfl,by rw [HE.o];exact HGX.o.1.rl.more fun j _ h=>by rcases h with h | h <;> (have h2:w0.heap.size≤j:=h;show w.heap.size≤j;omega),JN H0.o.2 HK.o.2.2⟩
end Go.Proofs.YtkbbmjcfgcfejaaGreat
