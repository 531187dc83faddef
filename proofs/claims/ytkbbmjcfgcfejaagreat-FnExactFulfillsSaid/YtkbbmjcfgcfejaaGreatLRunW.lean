/- Walks: commands and lists of commands (reference: l11Cmd, l11Run). -/
import Derived.Test.YtkbbmjcfgcfejaaGreatLIfsS
set_option linter.unusedVariables false
set_option linter.unusedSimpArgs false
set_option maxRecDepth 100000
set_option maxHeartbeats 12800000
namespace Go.Proofs.YtkbbmjcfgcfejaaGreat
open Go.RowKit
theorem Sr {keep:List Int} {d:Nat} (hkn:keep.length≤1048576) (IH:Uh keep d) {S1 S2 S3 S4 S5 S6:Nat→Prop} (v1 v2 f1 f2 x y kv:Value) (a:Aj) (c:Cm (d+1)) (D:Int) (w:World) (h1:RL w S1 v1 a.1) (h2:RL w S2 v2 a.2) (hf1:RL w S3 f1 c.inv.1) (hf2:RL w S4 f2 c.inv.2) (hx:RL w S5 x c.body) (hy:RL w S6 y c.els) (hk:RInts w kv keep) (ha:Ah a=true) (hh:AI c=true) (hs1:AZ d c.body D=true) (hs2:AZ d c.els D=true) :
 Calls Tryz.prog 225 #[.agg #[v1,v2],.agg #[.int .i64 c.kind,.int .i64 c.a,.int .i64 c.b,.bool c.test.1,.int .i64 c.test.2.1,.int .i64 c.test.2.2,f1,f2,x,y],kv] w (VR (EQ (Ay keep) c a) w):=by
 obtain ⟨p1,q1,rfl⟩:=h1.form;obtain ⟨p2,q2,rfl⟩:=h2.form;obtain ⟨a3,c3,rfl⟩:=hf1.form;obtain ⟨a4,c4,rfl⟩:=hf2.form;obtain ⟨a5,c5,rfl⟩:=hx.form;obtain ⟨a6,c6,rfl⟩:=hy.form;obtain ⟨ka,kc,rfl,_⟩:=hk.cells;obtain ⟨X,hX⟩:=Ex (EQ (Ay keep) c a);rw [hX];obtain ⟨w0,hw0⟩:=Ey ((w.alloc (.cells #[.slice p1 a.1.length q1,.slice p2 a.2.length q2] 26)).alloc (.cells #[.int .i64 c.kind,.int .i64 c.a,.int .i64 c.b,.bool c.test.1,.int .i64 c.test.2.1,.int .i64 c.test.2.2,.slice a3 c.inv.1.length c3,.slice a4 c.inv.2.length c4,.slice a5 c.body.length c5,.slice a6 c.els.length c6] 63));have hb0:Below w.heap.size w w0:=by rw [hw0];exact ba (Aa _ _) _
 have hA:w0.heap[w.heap.size]?=some (.cells #[.slice p1 a.1.length q1,.slice p2 a.2.length q2] 26 (0,0)):=by rw [hw0];exact Ac (heap_alloc_new w _) (Aa _ _)
 have hC:w0.heap[w.heap.size+1]?=some (.cells #[.int .i64 c.kind,.int .i64 c.a,.int .i64 c.b,.bool c.test.1,.int .i64 c.test.2.1,.int .i64 c.test.2.2,.slice a3 c.inv.1.length c3,.slice a4 c.inv.2.length c4,.slice a5 c.body.length c5,.slice a6 c.els.length c6] 63 (0,0)):=by
  rw [hw0];have:=heap_alloc_new (w.alloc (.cells #[.slice p1 a.1.length q1,.slice p2 a.2.length q2] 26)) (.cells #[.int .i64 c.kind,.int .i64 c.a,.int .i64 c.b,.bool c.test.1,.int .i64 c.test.2.1,.int .i64 c.test.2.2,.slice a3 c.inv.1.length c3,.slice a4 c.inv.2.length c4,.slice a5 c.body.length c5,.slice a6 c.els.length c6] 63);rw [World.size_alloc] at this;exact this
 have HW0:=Ad hw0;have H0:=Ad (An (hk.keep hb0) hb0);have HA:=Ad (An (h1.keep hb0) (h2.keep hb0));have HI:=Ad (An (hf1.keep hb0) (hf2.keep hb0));have HB:=Ad (An (hx.keep hb0) (hy.keep hb0));have HP:=Ad (An (An ha hh) (An hX (An hs1 hs2)));have HIH:=Ad IH;have HKN:=Ad hkn;obtain ⟨b0,b1,bl⟩:=B3 hA;obtain ⟨k0,k1,k2,k3,k4,k5,k6,k7,k8,k9⟩:=Dk hC;have kl:=Ae hC;have hz0:=hb0.size;clear hA hC hb0 hw0 h1 h2 hf1 hf2 hx hy hk hX hs1 hs2 ha hh IH hkn;go_enter Tryz.func225,Tryz.ntmps225
 go_upto_region 1 with fail
 rw [← HW0.o];by_cases z6:c.kind=6
 · have y6:(c.kind == 6)=true:=beq_iff_eq.2 z6
   have HE:=Ad (show TE (fun s=>BE (Ay keep) d c.body [s]) (fun s=>BE (Ay keep) d c.els [s]) c.test a=X by rw [← HP.o.2.1,EQ,if_pos z6]);clear z6;(go_wp2_with fail);refine (Uk HIH.o _ _ _ _ _ _ _ a c D _ HA.o.1 HA.o.2 ⟨_,_,_,rfl⟩ ⟨_,_,_,rfl⟩ HB.o.1 HB.o.2 H0.o.1 HP.o.1.1 HP.o.2.2.1 HP.o.2.2.2).mono ?_;rw [HE.o];rintro e w2 ⟨r,rfl,hr,hb2⟩;obtain ⟨ra,rc,rfl⟩:=hr.form;have HR:=Ad (An hr hb2);clear hr hb2;go_wp2;go_ret2;exact ⟨_,rfl,HR.o.1.more fun j _ h=>Nat.le_trans hz0 h,bt H0.o.2 HR.o.2⟩
 · have y6:(c.kind == 6)=false:=beq_eq_false_iff_ne.2 z6
   by_cases z7:c.kind=7
   · have y7:(c.kind == 7)=true:=beq_iff_eq.2 z7
     obtain ⟨Y,hY⟩:∃ Y,Ee (fun s=>BE (Ay keep) d c.body [s]) (CQ d 0 c.body) c.inv c.test a=Y:=⟨_,rfl⟩;(have hE:X=if Y.1=0 then (0,[BD (Ay keep) Y.2]) else (Y.1,[]):=by rw [← HP.o.2.1,EQ,if_neg z6,if_pos z7,Mc,hY]);(have hYv:Y.1=0→Ah Y.2=true:=fun h=>by rw [← hY] at h ⊢;exact Hq h);have HY:=Ad (An hY (An hE hYv));have hi:=Le HP.o.1.2 z7;have HIV:=Ad hi;clear hY hE hYv z6 z7 hi;(go_wp2_with fail);refine (QE HIH.o _ _ _ _ _ _ _ a c D _ HA.o.1 HA.o.2 HI.o.1 HI.o.2 HB.o.1 ⟨_,_,_,rfl⟩ H0.o.1 HP.o.1.1 HIV.o HP.o.2.2.1).mono ?_;rw [HY.o.1];rintro e w2 ⟨x1,x2,rfl,⟨r1,r2⟩,hb2⟩;obtain ⟨y1,j1,z1,rfl⟩:=r1.forms;obtain ⟨y2,j2,z2,rfl⟩:=r2.forms;obtain ⟨W,hW⟩:=Ey (w2.alloc (.cells #[.slice y1 j1 z1,.slice y2 j2 z2] 26));(have hbW:Below w2.heap.size w2 W:=by rw [hW];exact Aa _ _);(have hst:W.heap[w2.heap.size]?=some (.cells #[.slice y1 j1 z1,.slice y2 j2 z2] 26 (0,0)):=by rw [hW];exact heap_alloc_new _ _);have HW:=Ad hW;have H1:=Ad (An (An (r1.keep hbW) (r2.keep hbW)) (An ((H0.o.1.keep hb2).keep hbW) (bt (bt H0.o.2 hb2) hbW)));obtain ⟨s0,s1,sl⟩:=B3 hst;clear r1 r2 hb2 hbW hst hW b0 b1 bl k0 k1 k2 k3 k4 k5 k6 k7 k8 k9 kl;by_cases hc0:Y.1=0
     · have y0:(Y.1 == 0)=true:=beq_iff_eq.2 hc0
       have HE:=Ad (An (show X=(0,[BD (Ay keep) Y.2]) by rw [HY.o.2.1,if_pos hc0]) (An (HY.o.2.2 hc0) hc0));clear hc0;(go_upto_region 6 with fail);rw [← HW.o];(go_wp2_with fail);refine (Ma _ _ _ Y.2 keep _ H1.o.1.1 H1.o.1.2 H1.o.2.1 HE.o.2.1).mono ?_;rintro e w3 ⟨x1,x2,rfl,⟨g1,g2⟩,hb3⟩;obtain ⟨d1,i1,l1,rfl⟩:=g1.forms;obtain ⟨d2,i2,l2,rfl⟩:=g2.forms;have hb4:=Aa w3 (.cells #[.slice d1 i1 l1,.slice d2 i2 l2] 26);have hz3:=(bt (bt H1.o.2.2 hb3) hb4).size;have HL:=Ad (Cr (w:=w3.alloc (.cells #[.slice d1 i1 l1,.slice d2 i2 l2] 26)) (S:=fun j=>w.heap.size≤j) (a:=BD (Ay keep) Y.2) ((g1.rl.keep hb4).more fun j _ h=>Nat.le_trans H1.o.2.2.size h) ((g2.rl.keep hb4).more fun j _ h=>Nat.le_trans H1.o.2.2.size h) hz3);have HBB:=Ad (bt (bt H1.o.2.2 hb3) hb4);clear g1 g2 hb3 hb4 s0 s1 sl y0;go_wp2;go_ret2;exact ⟨_,by rw [HE.o.1,HE.o.2.2];rfl,by rw [HE.o.1];have h:=HL.o;simp only [World.size_alloc] at h;exact h,ba HBB.o _⟩
     · have y0:(Y.1 == 0)=false:=beq_eq_false_iff_ne.2 hc0
       have HE:=Ad (show X=(Y.1,[]) by rw [HY.o.2.1,if_neg hc0]);clear hc0;(go_upto_region 6 with fail);rw [← HW.o];go_wp2;go_ret2;exact ⟨_,by rw [HE.o];rfl,by rw [HE.o];exact DS _ _ _,ba H1.o.2.2 _⟩
   · have y7:(c.kind == 7)=false:=beq_eq_false_iff_ne.2 z7
     obtain ⟨O,hO⟩:=Ex (BV c.kind c.a c.b (Ay keep) a);(have hE:X=Rb (Ay keep) (Wy O):=by rw [← HP.o.2.1,EQ,if_neg z6,if_neg z7,hO]);have hcall:=QC _ _ _ _ _ _ _ a c keep _ HA.o.1 HA.o.2 HI.o.1 HI.o.2 HB.o.1 HB.o.2 H0.o.1 HKN.o HP.o.1.1 HP.o.1.2 z6 z7;rw [hO] at hcall;have HCALL:=Ad hcall;have HO:=Ad hE;clear hO hE z6 z7 hcall;(go_wp2_with fail);refine HCALL.o.mono ?_;rintro e w2 ⟨v,rfl,hr,hb2⟩;obtain ⟨va,vn,vc,rfl⟩:=hr.forms;have H1:=Ad (An hr (bt H0.o.2 hb2));clear hr hb2 b0 b1 bl k0 k1 k2 k3 k4 k5 k6 k7 k8 k9 kl;cases O with
     | none =>
       have HE:=Ad (show X=(1,[]) by rw [HO.o];rfl);go_wp2;go_ret2;exact ⟨_,by rw [HE.o];rfl,by rw [HE.o];exact DS _ _ _,ba H1.o.2 _⟩
     | some L =>
       have HE:=Ad (show X=(0,L.map (BD (Ay keep))) by rw [HO.o];rfl);go_wp2;go_ret2;exact ⟨_,by rw [HE.o];rfl,by rw [HE.o];exact H1.o.1.more fun j _ h=>Nat.le_trans hz0 h,H1.o.2⟩
structure LrS (w:World) (S1:Nat→Prop) (vn f1 f2 x y kv:Value) (now:List Aj) (inv:Aj) {d:Nat} (body els:List (Cm d)) (keep:List Int):Prop where
 nw:RL w S1 vn now
 f1:RL w (fun _=>True) f1 inv.1
 f2:RL w (fun _=>True) f2 inv.2
 bd:RL w (fun _=>True) x body
 el:RL w (fun _=>True) y els
 ks:RInts w kv keep
theorem LrS.keep {w w':World} {S1:Nat→Prop} {vn f1 f2 x y kv:Value} {now:List Aj} {inv:Aj} {d:Nat} {body els:List (Cm d)} {keep:List Int} (h:LrS w S1 vn f1 f2 x y kv now inv body els keep) (hb:Below w.heap.size w w'):LrS w' S1 vn f1 f2 x y kv now inv body els keep :=
 ⟨h.nw.keep hb,h.f1.keep hb,h.f2.keep hb,h.bd.keep hb,h.el.keep hb,h.ks.keep hb⟩
theorem O4 {keep:List Int} (hkn:keep.length≤1048576):∀ d:Nat,Uh keep d:=by
 intro d;induction d with
 | zero =>
   intro S1 S pv v kv pres l D w h1 h hk hg hs;obtain rfl:=h.cm0;obtain ⟨pa,pc,rfl⟩:=h1.form;obtain ⟨va,vc,rfl⟩:=h.form;have H:=Ad h1;clear h1 h hk hg hs;go_enter Tryz.func172,Tryz.ntmps172
   go_wp2;go_loopg [8,0] 1 (fun q i x wr=>i=.int .i64 0∧x=.slice pa pres.length pc∧wr=w)
   case atStart=>exact ⟨rfl,rfl,rfl⟩
   case round =>
    obtain ⟨rfl,rfl,rfl⟩:=hrel;go_wp2;go_ret2;exact ⟨_,rfl,H.o.more fun _ _ h=>.inl h,Below.refl _ _⟩
 | succ d ih =>
   intro S1 S pv v kv pres l D w h1 h hk hg hs;obtain ⟨pa,pc,rfl⟩:=h1.form;obtain ⟨ka,kc,rfl,_⟩:=hk.cells;obtain ⟨va,vc,rfl,hvl,_,hc⟩:=(h.more (S':=fun j=>j < w.heap.size) fun j h1 _=>h1).cmAt;have hlm:=h.len;unfold maxLen at hlm;obtain ⟨m,hm⟩:=Ex (Ay keep);obtain ⟨T,hT⟩:=Ex (BE m (d+1) l pres);rw [hm,hT];rw [Jk] at hT;have HP:=Ad (An hT (An (DI hs) hm));have H0:=Ad (An (An (h1.more (S':=fun k=>S1 k∨w.heap.size≤k) fun _ _ h=>.inl h) hk) hg);have FF:=Ad hc;have HIH:=Ad ih;clear h1 h hk hg hT hs hc ih hm;go_enter Tryz.func172,Tryz.ntmps172
   go_wp2;go_loopg [8,0] l.length (fun q i x wr=>∃ (k:Nat) (now:List Aj),k+q=l.length∧i=.int .i64 (k:Int)∧IC (EQ m) (l.drop k) now=T∧GoodV 24 now∧RL wr (fun r=>S1 r∨w.heap.size≤r) x now∧Below w.heap.size w wr)
   case atStart=>exact ⟨0,pres,by omega,rfl,HP.o.1,H0.o.2,H0.o.1.1,Below.refl _ _⟩
   case round =>
    obtain ⟨k,now,hk,rfl,hTT,hgd,hnow,hb⟩:=hrel;obtain ⟨na,nc,rfl⟩:=hnow.form;have HK:=Ad (An (An hk hTT) (An hgd hb));have HNW:=Ad hnow;have hs:=hb.size;clear hk hTT hgd hnow;by_cases hk8:k < l.length
    · obtain ⟨b,o,f1,f2,x,y,rfl,hsb,hbl,hcc,⟨g1,g2⟩,g3,g4⟩:=FF.out k hk8
      obtain ⟨fa1,fn1,rfl⟩:=g1.form;obtain ⟨fa2,fn2,rfl⟩:=g2.form;obtain ⟨xa,xn,rfl⟩:=g3.form;obtain ⟨ya,yn,rfl⟩:=g4.form;obtain ⟨c,hck⟩:=Ex (gd l k);have hcm:=HP.o.2.1 c (by rw [← hck];exact Be hk8);rw [hck] at hcc g1 g2 g3 g4;(have i1:(k:Int) < (l.length:Int):=by omega);obtain ⟨Y,hY⟩:=Ex (Dt (EQ m c) [] now);obtain ⟨W,hW⟩:=Ey (wr.alloc (.cells #[] 26));(have hbW:Below wr.heap.size wr W:=by rw [hW];exact Aa _ _);have hbw:=bt hb hbW;have hcc':∀ j u,(Cq c.kind c.a c.b c.test (.slice fa1 c.inv.1.length fn1) (.slice fa2 c.inv.2.length fn2) (.slice xa c.body.length xn) (.slice ya c.els.length yn))[j]?=some u→W.cell? ⟨b,o+k * 10+j,none⟩=some u:=fun j u hj=>Ab hbw (hcc j u hj);have HCC:=Ad hcc';have HW:=Ad hW;have HS:=Ad (An (show LrS W (fun r=>S1 r∨w.heap.size≤r) (.slice na now.length nc) (.slice fa1 c.inv.1.length fn1) (.slice fa2 c.inv.2.length fn2) (.slice xa c.body.length xn) (.slice ya c.els.length yn) (.slice ka keep.length kc) now c.inv c.body c.els keep from ⟨HNW.o.keep hbW,(g1.keep hbw).any,(g2.keep hbw).any,(g3.keep hbw).any,(g4.keep hbw).any,H0.o.1.2.keep hbw⟩) hbw);obtain ⟨gO,hgO⟩:∃ g,g=gk:=⟨_,rfl⟩;have HGO:=Ad hgO;have HCM:=Ad (An hcm (An hY (An hck hk8)));have hsW:=hbw.size;have hblw:b < w.heap.size:=hbl;clear hgO hcc hcc' hck g1 g2 g3 g4 hbW hbw hb hcm hY hW hsb;(go_upto_region 6 with fail);rw [← HW.o];go_loopg [10,9] now.length (fun q i x wi=>∃ (j:Nat) (acc:List Aj),j+q=now.length∧i=.int .i64 (j:Int)∧Dt (EQ m c) acc (now.drop j)=Y∧GoodV 24 acc∧GX wi W.heap.size (fun r=>W.heap.size≤r) x acc∧Below W.heap.size W wi)
      case atStart=>exact ⟨0,[],by omega,rfl,HCM.o.2.1,Cx _,GX.nil _ _ _ _,Below.refl _ _⟩
      case round =>
       obtain ⟨j,acc,hj,rfl,hYY,hga,hG,hbi⟩:=hrel;obtain ⟨xa',xc',rfl⟩:=hG.form;have HJ:=Ad (An (An hj hYY) (An hga hG));have HB:=Ad (An (HS.o.1.keep hbi) hbi);have hsi:=hbi.size;clear hj hYY hga hG;by_cases hj8:j < now.length
       · have i2:(j:Int) < (now.length:Int):=by omega
         obtain ⟨qa,qc,hqe,_,_,hqf⟩:=HB.o.1.nw.asnAt;simp only [Value.slice.injEq,true_and] at hqe;obtain ⟨rfl,rfl⟩:=hqe;obtain ⟨b',o',u1,u2,rfl,_,hzb',hp1,hp2,r1,r2⟩:=hqf j hj8;obtain ⟨y1,z1,rfl⟩:=r1.form;obtain ⟨y2,z2,rfl⟩:=r2.form;have hav:=HK.o.2.1.1 _ (Be hj8);(have hzb:b < wr.heap.size:=by omega);have c0:wr.cell? ⟨b,o+k * 10,none⟩=some (.int .i64 c.kind):=Ab hbi (HCC.o 0 _ rfl);have c1:=Ab hbi (HCC.o 1 _ rfl);have c2:=Ab hbi (HCC.o 2 _ rfl);have c3:=Ab hbi (HCC.o 3 _ rfl);have c4:=Ab hbi (HCC.o 4 _ rfl);have c5:=Ab hbi (HCC.o 5 _ rfl);have c6:=Ab hbi (HCC.o 6 _ rfl);have c7:=Ab hbi (HCC.o 7 _ rfl);have c8:=Ab hbi (HCC.o 8 _ rfl);have c9:=Ab hbi (HCC.o 9 _ rfl);obtain ⟨R,hR⟩:=Ex (EQ m c (gd now j));(have hRg:GoodV 128 R.2:=by rw [← hR];exact K9 hav HCM.o.1.1 (fun s h=>CZ d _ _ [s] HCM.o.1.2.1 (AX h Dc)) (fun s h=>CZ d _ _ [s] HCM.o.1.2.2 (AX h Dc)));have HR:=Ad (An hR (An hRg (An hav hj8)));have HRR:=Ad (An r1 r2);clear r1 r2 hR hRg hav hqf hbi;(go_upto_region 8 with fail);go_cut [11,12] (fun s11 s12 wc=>s12=.int .i64 R.1∧RL wc (fun r=>wr.heap.size≤r) s11 R.2∧Below wr.heap.size wr wc)
         case first =>
          go_region_held3 (fun w'=>(w'.cell? ⟨b',o'+j * 2,none⟩=some (.slice y1 (gd now j).1.length z1)∧w'.cell? ⟨b',o'+j * 2+1,none⟩=some (.slice y2 (gd now j).2.length z2))∧((w'.cell? ⟨b,o+k * 10,none⟩=some (.int .i64 c.kind)∧w'.cell? ⟨b,o+k * 10+1,none⟩=some (.int .i64 c.a)∧w'.cell? ⟨b,o+k * 10+2,none⟩=some (.int .i64 c.b)∧w'.cell? ⟨b,o+k * 10+3,none⟩=some (.bool c.test.1)∧w'.cell? ⟨b,o+k * 10+4,none⟩=some (.int .i64 c.test.2.1))∧(w'.cell? ⟨b,o+k * 10+5,none⟩=some (.int .i64 c.test.2.2)∧w'.cell? ⟨b,o+k * 10+6,none⟩=some (.slice fa1 c.inv.1.length fn1)∧w'.cell? ⟨b,o+k * 10+7,none⟩=some (.slice fa2 c.inv.2.length fn2)∧w'.cell? ⟨b,o+k * 10+8,none⟩=some (.slice xa c.body.length xn)∧w'.cell? ⟨b,o+k * 10+9,none⟩=some (.slice ya c.els.length yn))))
           (exact ⟨⟨(Ck hp1),(Ck hp2)⟩,⟨(Ck c0),(Ck c1),(Ck c2),(Ck c3),(Ck c4)⟩,⟨(Ck c5),(Ck c6),(Ck c7),(Ck c8),(Ck c9)⟩⟩)
           (first
             | (go_at_call 225;go_must (refine (Sr hkn (HIH.o) _ _ _ _ _ _ _ (gd now j) c (D - 1) _ (HRR.o.1.keep Bl) (HRR.o.2.keep Bl) (HB.o.1.f1.keep Bl) (HB.o.1.f2.keep Bl) (HB.o.1.bd.keep Bl) (HB.o.1.el.keep Bl) (HB.o.1.ks.keep Bl) HR.o.2.2.1 HCM.o.1.1 HCM.o.1.2.1 HCM.o.1.2.2).mono ?_;rw [HP.o.2.2,HR.o.1];rintro e w6 ⟨r,rfl,hr',hb6'⟩;have hb6:Below wr.heap.size wr w6:=bt Bl hb6';have hr:=hr'.more (S':=fun k=>wr.heap.size≤k) (fun k _ h=>by have h2:=h;simp only [World.size_drew] at h2;exact h2);obtain ⟨ra,rc,rfl⟩:=hr.form;clear hb6' hr'))
             | fail)
          all_goals
           have HQ:=Ad (An hr hb6);clear hr hb6;go_wp2;go_meet
           case rel=>exact ⟨rfl,HQ.o.1,HQ.o.2⟩
         case rest =>
          rename World=>wd
          obtain ⟨rfl,hr,hbd⟩:=hcut;obtain ⟨ra,rc,rfl⟩:=hr.form;have H5:=Ad (An hr (An (HJ.o.2.2.keep hbd) hbd));have HIN:=Ad HJ.o.2.2.inside;have hs5:=hbd.size;(have hA24:(acc.length:Int)≤24:=by have:=HJ.o.2.1.2;omega);(have hR128:(R.2.length:Int)≤128:=by have:=HR.o.2.1.2;omega);clear hr hbd hp1 hp2 c0 c1 c2 c3 c4 c5 c6 c7 c8 c9;by_cases hc0:R.1=0
          · have y0:(R.1 == 0)=true:=beq_iff_eq.2 hc0
            have HC0:=Ad (show EQ m c (gd now j)=(0,R.2) by rw [HR.o.1];exact II hc0);clear hc0;by_cases h24:acc.length+R.2.length≤24
            · have HE:=Ad (An (Mn HJ.o.1.2 HR.o.2.2.2 HC0.o h24) (show GoodV 24 (acc ++ R.2) from ⟨(GS HJ.o.2.1 HR.o.2.1).1,by rw [List.length_append];exact h24⟩))
              (have i3:¬ (24:Int) < (acc.length:Int)+(R.2.length:Int):=by omega);(have hpos1:(0:Int)≤(acc.length:Int):=by omega);(have hpos2:(0:Int)≤(R.2.length:Int):=by omega);clear h24;go_wp2_with (at_builtin;go_must (refine D8 (m:=R.2) (B:=W.heap.size) (R:=fun r=>W.heap.size≤r) rfl (.tmp 50) (.tmp 51) _ rfl Cy rfl H5.o.2.1 rfl H5.o.1 (fun j _ h=>⟨by have h6:wr.heap.size≤j:=h;show W.heap.size≤j;omega,fun hne e=>by rcases HIN.o with h4 | h4;exact hne h4;have h5:=(h4 j e).2;have h6:wr.heap.size≤j:=h;omega⟩) (by have h1:=HJ.o.2.1.2;have h2:=HR.o.2.1.2;omega) Om ?_;intro v8 w8 g8 f8;obtain ⟨a8,n8,c8,rfl⟩:=g8.forms))
              have hb8:=H5.o.2.1.below (HB.o.2.trans (H5.o.2.2.mono Om)) (Nat.le_refl _) Om f8;have H8:=Ad (An g8 hb8);clear g8 hb8 f8 y0;go_wp2;go_roundg (gk - 1)
              case rel=>exact ⟨j+1,_,by have:=HJ.o.1.1;omega,(by first | exact Mq HR.o.2.2.2 HK.o.2.1.2 Dc | go_num),HE.o.1,HE.o.2,H8.o.1,H8.o.2⟩
              case measure=>have:=HJ.o.1.1;omega
            · have HE:=Ad (Kb HK.o.1.2 HCM.o.2.2.2 (by rw [HCM.o.2.2.1,HCM.o.2.1];exact Mo HJ.o.1.2 HR.o.2.2.2 HC0.o h24) Dc)
              (have i3:(24:Int) < (acc.length:Int)+(R.2.length:Int):=by omega);(have hpos1:(0:Int)≤(acc.length:Int):=by omega);(have hpos2:(0:Int)≤(R.2.length:Int):=by omega);clear h24;go_wp2;go_ret2;exact ⟨_,by rw [HE.o];rfl,by rw [HE.o];exact DS _ _ _,ba (HS.o.2.trans ((HB.o.2.trans (H5.o.2.2.mono Om)).mono Om)) _⟩
          · have y0:(R.1 == 0)=false:=beq_eq_false_iff_ne.2 hc0
            have HE:=Ad (show T=(R.1,[]) from Kb HK.o.1.2 HCM.o.2.2.2 (by rw [HCM.o.2.2.1,HCM.o.2.1,OE HJ.o.1.2 HR.o.2.2.2 (by rw [HR.o.1];exact hc0),HR.o.1]) hc0);clear hc0;go_wp2;go_ret2;exact ⟨_,by rw [HE.o];rfl,by rw [HE.o];exact DS _ _ _,ba (HS.o.2.trans ((HB.o.2.trans (H5.o.2.2.mono Om)).mono Om)) _⟩
       · have hjn:j=now.length:=by have:=HJ.o.1.1;omega
         (have i2:¬ (j:Int) < (now.length:Int):=by omega);have HE:=Ad (OF HK.o.1.2 HCM.o.2.2.2 (by rw [HCM.o.2.2.1,HCM.o.2.1];exact Mp HJ.o.1.2 hj8));clear hjn hj8 hbi;go_wp2;go_roundg (gO - 1)
         case rel=>exact ⟨k+1,acc,by have:=HK.o.1.1;have:=HGO.o;omega,(by first | exact Mq HCM.o.2.2.2 (Nat.le_refl _) hlm | go_num),HE.o,HJ.o.2.1,HJ.o.2.2.rl.more fun r _ h=>by rcases h with h | h <;> exact .inr (Nat.le_trans hsW h),HS.o.2.trans (HB.o.2.mono Om)⟩
         case measure=>have:=HK.o.1.1;have:=HGO.o;omega
    · obtain rfl:k=l.length:=by have:=HK.o.1.1;omega
      have HE:=Ad (OG HK.o.1.2 Om);(have i1:¬ (l.length:Int) < (l.length:Int):=by omega);go_wp2;go_ret2;exact ⟨_,by rw [HE.o];rfl,by rw [HE.o];exact HNW.o,HK.o.2.2⟩
end Go.Proofs.YtkbbmjcfgcfejaaGreat
