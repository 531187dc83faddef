/- Walk: a command (program: executor.command). -/
import Derived.Test.YtkbbmjcfgcfejaaGreatLExL
import Derived.Test.YtkbbmjcfgcfejaaGreatLExW
set_option linter.unusedVariables false
set_option linter.unusedSimpArgs false
set_option maxRecDepth 100000
set_option maxHeartbeats 12800000
namespace Go.Proofs.YtkbbmjcfgcfejaaGreat
open Go.RowKit
def Jq (m:Nat) (L:List Aj) (k:Nat):List Aj:=(L.take k).map (BD m) ++ L.drop k
theorem U8 {m:Nat} {L:List Aj} {k:Nat} (hk:k≤L.length):(Jq m L k).length=L.length:=by
 rw [Jq,List.length_append,List.length_map,List.length_take,List.length_drop];omega
theorem TZ (m:Nat) (L:List Aj):Jq m L 0=L:=by rw [Jq,List.take_zero];rfl
theorem U9 (m:Nat) (L:List Aj):Jq m L L.length=L.map (BD m):=by rw [Jq,List.take_length,List.drop_length,List.append_nil]
theorem We {m:Nat} {L:List Aj} {k:Nat} (hk:k < L.length):gd (Jq m L k) k=gd L k:=by
 have hl:((L.take k).map (BD m)).length=k:=by rw [List.length_map,List.length_take];omega
 rw [Jq,DQ hk,Fx Om,hl,Nat.sub_self];rfl
theorem Va {m:Nat} {L:List Aj} {k:Nat} (hk:k < L.length):(Jq m L k).set k (BD m (gd L k))=Jq m L (k+1):=by
 have hl:((L.take k).map (BD m)).length=k:=by rw [List.length_map,List.length_take];omega
 rw [Jq,Jq,AT hk,List.map_append,List.append_assoc,DQ hk,List.set_append_right _ _ Om,hl,Nat.sub_self];rfl
theorem Le {d:Nat} {c:Cm (d+1)} (h:AI c=true) (h7:c.kind=7):Ah c.inv=true:=by
 rw [AI,if_neg Om,if_pos h7] at h;simp only [Bool.and_eq_true] at h;exact h.2.2.2.1
theorem Sf {m d:Nat} (hm:m < 65536) (IH:OK m d) {S1 S2 S3 S4 S5 S6:Nat→Prop} (v1 v2 f1 f2 x y:Value) (a:Aj) (c:Cm (d+1)) (D:Int) (w:World) (h1:RL w S1 v1 a.1) (h2:RL w S2 v2 a.2) (hf1:RL w S3 f1 c.inv.1) (hf2:RL w S4 f2 c.inv.2) (hx:RL w S5 x c.body) (hy:RL w S6 y c.els) (ha:Ah a=true) (hh:AI c=true) (hs1:AZ d c.body D=true) (hs2:AZ d c.els D=true) :
 Calls Tryz.prog 229 #[.agg #[.int .u16 (m:Int),.bool true],.agg #[v1,v2],.agg #[.int .i64 c.kind,.int .i64 c.a,.int .i64 c.b,.bool c.test.1,.int .i64 c.test.2.1,.int .i64 c.test.2.2,f1,f2,x,y]] w (VR (EQ m c a) w):=by
 obtain ⟨p1,q1,rfl⟩:=h1.form;obtain ⟨p2,q2,rfl⟩:=h2.form;obtain ⟨a3,c3,rfl⟩:=hf1.form;obtain ⟨a4,c4,rfl⟩:=hf2.form;obtain ⟨a5,c5,rfl⟩:=hx.form;obtain ⟨a6,c6,rfl⟩:=hy.form;obtain ⟨X,hX⟩:=Ex (EQ m c a);rw [hX];have hcell:=Kc w m (.slice p1 a.1.length q1) (.slice p2 a.2.length q2) #[.int .i64 c.kind,.int .i64 c.a,.int .i64 c.b,.bool c.test.1,.int .i64 c.test.2.1,.int .i64 c.test.2.2,.slice a3 c.inv.1.length c3,.slice a4 c.inv.2.length c4,.slice a5 c.body.length c5,.slice a6 c.els.length c6];have hb0:=GV w m (.slice p1 a.1.length q1) (.slice p2 a.2.length q2) #[.int .i64 c.kind,.int .i64 c.a,.int .i64 c.b,.bool c.test.1,.int .i64 c.test.2.1,.int .i64 c.test.2.2,.slice a3 c.inv.1.length c3,.slice a4 c.inv.2.length c4,.slice a5 c.body.length c5,.slice a6 c.els.length c6];obtain ⟨w0,hw0⟩:=Ey (((w.alloc (.cells #[.int .u16 (m:Int),.bool true] 150)).alloc (.cells #[.slice p1 a.1.length q1,.slice p2 a.2.length q2] 26)).alloc (.cells #[.int .i64 c.kind,.int .i64 c.a,.int .i64 c.b,.bool c.test.1,.int .i64 c.test.2.1,.int .i64 c.test.2.2,.slice a3 c.inv.1.length c3,.slice a4 c.inv.2.length c4,.slice a5 c.body.length c5,.slice a6 c.els.length c6] 63));rw [← hw0] at hcell hb0;have HW0:=Ad hw0;have H0:=Ad (An hcell hb0);have HA:=Ad (An (h1.keep hb0) (h2.keep hb0));have HI:=Ad (An (hf1.keep hb0) (hf2.keep hb0));have HB:=Ad (An (hx.keep hb0) (hy.keep hb0));have HP:=Ad (An (An ha hh) (An hX (An hs1 hs2)));have HIH:=Ad IH;obtain ⟨e0,e1,el⟩:=B3 hcell.1.1;obtain ⟨b0,b1,bl⟩:=B3 hcell.1.2;obtain ⟨k0,k1,k2,k3,k4,k5,k6,k7,k8,k9⟩:=Dk hcell.2;have kl:=Ae hcell.2;have hz0:=hb0.size;have hz03:w.heap.size+2 < w0.heap.size:=Ae hcell.2;clear hcell hb0 hw0 h1 h2 hf1 hf2 hx hy hX hs1 hs2 ha hh IH;go_enter Tryz.func229,Tryz.ntmps229
 go_upto_region 1 with fail
 rw [← HW0.o];by_cases z6:c.kind=6
 · have Z6:=Ad z6
   have y6:(c.kind == 6)=true:=beq_iff_eq.2 z6;have HE:=Ad (show TE (fun s=>BE m d c.body [s]) (fun s=>BE m d c.els [s]) c.test a=X by rw [← HP.o.2.1,EQ,if_pos z6]);clear z6;(go_wp2_with fail);refine (Se HIH.o _ _ _ _ _ _ a c D _ HA.o.1 HA.o.2 ⟨_,_,_,rfl⟩ ⟨_,_,_,rfl⟩ HB.o.1 HB.o.2 HP.o.1.1 HP.o.2.2.1 HP.o.2.2.2).mono ?_;rw [HE.o];rintro e w2 ⟨r,rfl,hr,hb2⟩;obtain ⟨ra,rc,rfl⟩:=hr.form;have HR:=Ad (An hr hb2);clear hr hb2;go_wp2;go_ret2;exact ⟨_,rfl,HR.o.1.more fun j _ h=>Nat.le_trans hz0 h,bt H0.o.2 HR.o.2⟩
 · have y6:(c.kind == 6)=false:=beq_eq_false_iff_ne.2 z6
   by_cases z7:c.kind=7
   · have y7:(c.kind == 7)=true:=beq_iff_eq.2 z7
     obtain ⟨Y,hY⟩:∃ Y,Ee (fun s=>BE m d c.body [s]) (CQ d 0 c.body) c.inv c.test a=Y:=⟨_,rfl⟩;(have hE:X=if Y.1=0 then (0,[BD m Y.2]) else (Y.1,[]):=by rw [← HP.o.2.1,EQ,if_neg z6,if_pos z7,Mc,hY]);(have hYv:Y.1=0→Ah Y.2=true:=fun h=>by rw [← hY] at h ⊢;exact Hq h);have HY:=Ad (An hY (An hE hYv));have hi:=Le HP.o.1.2 z7;have HIV:=Ad hi;clear hY hE hYv z6 z7 hi;(go_wp2_with fail);refine (Sd HIH.o _ _ _ _ _ _ a c D _ HA.o.1 HA.o.2 HI.o.1 HI.o.2 HB.o.1 ⟨_,_,_,rfl⟩ HP.o.1.1 HIV.o HP.o.2.2.1).mono ?_;rw [HY.o.1];rintro e w2 ⟨x1,x2,rfl,⟨r1,r2⟩,hb2⟩;obtain ⟨y1,j1,z1,rfl⟩:=r1.forms;obtain ⟨y2,j2,z2,rfl⟩:=r2.forms;obtain ⟨W,hW⟩:=Ey (w2.alloc (.cells #[.slice y1 j1 z1,.slice y2 j2 z2] 26));(have hbW:Below w2.heap.size w2 W:=by rw [hW];exact Aa _ _);(have hst:W.heap[w2.heap.size]?=some (.cells #[.slice y1 j1 z1,.slice y2 j2 z2] 26 (0,0)):=by rw [hW];exact heap_alloc_new _ _);have HW:=Ad hW;have H1:=Ad (An (An (r1.keep hbW) (r2.keep hbW)) (An ((H0.o.1.keep hb2).keep hbW) (bt (bt H0.o.2 hb2) hbW)));obtain ⟨s0,s1,sl⟩:=B3 hst;clear r1 r2 hb2 hbW hst hW e0 e1 el b0 b1 bl k0 k1 k2 k3 k4 k5 k6 k7 k8 k9 kl;obtain ⟨e0,e1,el⟩:=B3 H1.o.2.1.1.1;by_cases hc0:Y.1=0
     · have y0:(Y.1 == 0)=true:=beq_iff_eq.2 hc0
       have HE:=Ad (An (show X=(0,[BD m Y.2]) by rw [HY.o.2.1,if_pos hc0]) (HY.o.2.2 hc0));clear hc0;(go_upto_region 8 with fail);rw [← HW.o];(go_wp2_with fail);refine (Mb _ _ Y.2 m _ H1.o.1.1 H1.o.1.2 hm HE.o.2).mono ?_;rintro e w3 ⟨x1,x2,rfl,⟨⟨g1,g2⟩,_⟩,hb3⟩;obtain ⟨d1,i1,l1,rfl⟩:=g1.forms;obtain ⟨d2,i2,l2,rfl⟩:=g2.forms;have hz3:=(bt H1.o.2.2 hb3).size;have HL:=Ad (Cr (S:=fun j=>w.heap.size≤j) (a:=BD m Y.2) (g1.rl.more fun j _ h=>Nat.le_trans H1.o.2.2.size h) (g2.rl.more fun j _ h=>Nat.le_trans H1.o.2.2.size h) hz3);have HBB:=Ad (bt H1.o.2.2 hb3);clear g1 g2 hb3 s0 s1 sl e0 e1 el y0;go_wp2;go_ret2;exact ⟨_,by rw [HE.o.1];rfl,by rw [HE.o.1];exact HL.o,ba HBB.o _⟩
     · have y0:(Y.1 == 0)=false:=beq_eq_false_iff_ne.2 hc0
       have HE:=Ad (show X=(Y.1,[]) by rw [HY.o.2.1,if_neg hc0]);clear hc0;(go_upto_region 8 with fail);rw [← HW.o];go_wp2;go_ret2;exact ⟨_,by rw [HE.o];rfl,by rw [HE.o];exact RL.nil _ _,H1.o.2.2⟩
   · have y7:(c.kind == 7)=false:=beq_eq_false_iff_ne.2 z7
     obtain ⟨O,hO⟩:=Ex (BV c.kind c.a c.b m a);(have hE:X=Rb m (Wy O):=by rw [← HP.o.2.1,EQ,if_neg z6,if_neg z7,hO]);have hG:∀ L,O=some L→GoodV 128 L:=fun L h=>Hp HP.o.1.1 (JM HP.o.1.2 z6 z7) (hO.trans h);have HO:=Ad (An hO (An hE hG));clear hO hE hG z6 z7;(go_wp2_with fail);refine (Lz _ _ c.kind c.a c.b c.test.2.1 c.test.2.2 c.test.1 _ _ _ _ _ _ _ _ _ _ _ _ a m _ HA.o.1 HA.o.2 hm HP.o.1.1).mono ?_;rw [HO.o.1];rintro e w2 ⟨v,L,rfl,hL,hG,hb2⟩;obtain ⟨va,vc,rfl⟩:=hG.form;have H1:=Ad (An hG (An (H0.o.1.keep hb2) (bt H0.o.2 hb2)));have hz2:=hb2.size;clear hb2 hG e0 e1 el b0 b1 bl k0 k1 k2 k3 k4 k5 k6 k7 k8 k9 kl;cases O with
     | none =>
       have HE:=Ad (show X=(1,[]) by rw [HO.o.2.1];rfl);clear hL;go_wp2;go_ret2;exact ⟨_,by rw [HE.o];rfl,by rw [HE.o];exact RL.nil _ _,H1.o.2.2⟩
     | some l =>
       have hl:=hL l rfl;subst hl;have HE:=Ad (An (show X=(0,L.map (BD m)) by rw [HO.o.2.1];rfl) (HO.o.2.2 L rfl));clear hL;go_wp2;go_loopg [56] L.length (fun q i wr=>∃ k:Nat,k+q=L.length∧i=.int .i64 k∧GX wr w0.heap.size (fun j=>w0.heap.size≤j) (.slice va L.length vc) (Jq m L k)∧Below w2.heap.size w2 (w2)∧ExB wr w.heap.size m (.slice p1 a.1.length q1) (.slice p2 a.2.length q2) #[.int .i64 c.kind,.int .i64 c.a,.int .i64 c.b,.bool c.test.1,.int .i64 c.test.2.1,.int .i64 c.test.2.2,.slice a3 c.inv.1.length c3,.slice a4 c.inv.2.length c4,.slice a5 c.body.length c5,.slice a6 c.els.length c6]∧Below w.heap.size w wr)
       case atStart=>exact ⟨0,by omega,rfl,by rw [TZ];exact H1.o.1,Below.refl _ _,H1.o.2.1,H1.o.2.2⟩
       case round =>
        obtain ⟨k,hk,rfl,hG,_,hX,hb⟩:=hrel;have HK:=Ad (An hk (An hX hb));have HG:=Ad hG;clear hk hX hb;by_cases hk8:k < L.length
        · have i1:(k:Int) < (L.length:Int):=by omega
          have hml:=U8 (m:=m) (Nat.le_of_lt hk8);obtain ⟨g,gc,hge,⟨hg1,hg2⟩,hgc,hgf⟩:=hG.at (by rw [hml];omega);rw [hml] at hge;simp only [Value.slice.injEq,true_and] at hge;obtain ⟨rfl,rfl⟩:=hge;obtain ⟨u1,u2,hu1,hu2,r1,r2⟩:=hgc k (by rw [hml];exact hk8);rw [We hk8] at r1 r2;obtain ⟨y1,z1,rfl⟩:=r1.form;obtain ⟨y2,z2,rfl⟩:=r2.form;have hal:=HE.o.2.1 _ (Be hk8);have HV:=Ad (An hal (An hml hk8));obtain ⟨W,hW⟩:=Ey (wr.alloc (.cells #[.slice y1 (gd L k).1.length z1,.slice y2 (gd L k).2.length z2] 26));(have hbW:Below wr.heap.size wr W:=by rw [hW];exact Aa _ _);(have hst:W.heap[wr.heap.size]?=some (.cells #[.slice y1 (gd L k).1.length z1,.slice y2 (gd L k).2.length z2] 26 (0,0)):=by rw [hW];exact heap_alloc_new _ _);have HW:=Ad hW;have H3:=Ad (An (An (r1.keep hbW) (r2.keep hbW)) (An (HG.o.keep hbW) (An (HK.o.2.1.keep hbW) (bt HK.o.2.2 hbW))));obtain ⟨s0,s1,sl⟩:=B3 hst;obtain ⟨e0,e1,el⟩:=B3 H3.o.2.2.1.1.1;have hzW:=hbW.size;have hzr:=HK.o.2.2.size;clear r1 r2 hbW hst hW hG hgc hgf hal hml;(go_upto_region 17 with fail);rw [← HW.o];clear hu1 hu2;(go_wp2_with fail);refine (Mb _ _ (gd L k) m _ H3.o.1.1 H3.o.1.2 hm HV.o.1).mono ?_;rintro e w5 ⟨x1,x2,rfl,⟨⟨g1,g2⟩,_⟩,hb5⟩;obtain ⟨d1,i1',l1,rfl⟩:=g1.forms;obtain ⟨d2,i2',l2,rfl⟩:=g2.forms;have hG5:=H3.o.2.1.keep hb5;obtain ⟨g',gc',hge,_,hgc,hgf⟩:=hG5.at (by rw [HV.o.2.1];omega);rw [HV.o.2.1] at hge;simp only [Value.slice.injEq,Option.some.injEq,Addr.mk.injEq,and_true,true_and] at hge;obtain ⟨rfl,rfl⟩:=hge;obtain ⟨u3,u4,hu3,hu4,_,_⟩:=hgc k (by rw [HV.o.2.1];exact hk8);have hset:=hG5.set2 HV.o.2.1.symm (by rw [HV.o.2.1];exact hk8) (x:=BD m (gd L k)) (g1.rl.more fun j _ h=>by have h2:W.heap.size≤j:=h;exact ⟨by show w0.heap.size≤j;omega,by omega⟩) (g2.rl.more fun j _ h=>by have h2:W.heap.size≤j:=h;exact ⟨by show w0.heap.size≤j;omega,by omega⟩);rw [Va hk8] at hset;have hs6:=Wb w5 g k (.slice d1 i1' l1) (.slice d2 i2' l2);have hb6:=(bt H3.o.2.2.2 hb5).trans (hs6.below (B:=w.heap.size) Om fun j hj e=>by omega);have HS:=Ad (An hset (An ((H3.o.2.2.1.keep hb5).kept hs6 fun j h1 h2 e=>by omega) hb6));have hfz0:=hgf (k * 2);have hfz1:=hgf (k * 2+1);clear hset hs6 hb6 hG5 g1 g2 hb5 hgc hgf s0 s1 sl e0 e1 el;go_wp2;go_roundg (gk - 1)
          case rel=>exact ⟨k+1,by have:=HK.o.1;omega,Wz HV.o.2.2 HE.o.2.2,HS.o.1,Below.refl _ _,HS.o.2.1,HS.o.2.2⟩
          case measure=>have:=HK.o.1;omega
        · have hkn:k=L.length:=by have:=HK.o.1;omega
          subst hkn;(have i1:¬ (L.length:Int) < (L.length:Int):=by omega);go_wp2;go_ret2;exact ⟨_,by rw [HE.o.1];rfl,by rw [HE.o.1,← U9];exact HG.o.rl.more fun j _ h=>by rcases h with h | h <;> (have h2:w0.heap.size≤j:=h;show w.heap.size≤j;omega),HK.o.2.2⟩
structure LsS (w:World) (be bc m:Nat) (vn f1 f2 x y:Value) (row:Array Value) (now:List Aj) (inv:Aj) {d:Nat} (body els:List (Cm d)):Prop where
 ex:w.heap[be]?=some (.cells #[.int .u16 (m:Int),.bool true] 150 (0,0))
 cm:w.heap[bc]?=some (.cells row 63 (0,0))
 nw:RL w (fun _=>True) vn now
 f1:RL w (fun _=>True) f1 inv.1
 f2:RL w (fun _=>True) f2 inv.2
 bd:RL w (fun _=>True) x body
 el:RL w (fun _=>True) y els
theorem LsS.keep {w w':World} {be bc m:Nat} {vn f1 f2 x y:Value} {row:Array Value} {now:List Aj} {inv:Aj} {d:Nat} {body els:List (Cm d)} (h:LsS w be bc m vn f1 f2 x y row now inv body els) (hb:Below w.heap.size w w'):LsS w' be bc m vn f1 f2 x y row now inv body els :=
 ⟨Ac h.ex hb,Ac h.cm hb,h.nw.keep hb,h.f1.keep hb,h.f2.keep hb,h.bd.keep hb,h.el.keep hb⟩
theorem Rl {n:Nat} {L:List Aj} (h:GoodV n L):Ws L:=fun a ha=>Co (h.1 a ha)
theorem Sg {m:Nat} (hm:m < 65536):∀ d:Nat,OK m d:=by
 intro d;induction d with
 | zero =>
   intro S1 S2 S v1 v2 v a l D w h1 h2 h ha hs;obtain rfl:=h.cm0;obtain ⟨p1,q1,rfl⟩:=h1.form;obtain ⟨p2,q2,rfl⟩:=h2.form;obtain ⟨va,vc,rfl⟩:=h.form;obtain ⟨wz,hwz⟩:=Ey ((w.alloc (.cells #[.int .u16 (m:Int),.bool true] 150)).alloc (.cells #[.slice p1 a.1.length q1,.slice p2 a.2.length q2] 26));(have hbz:Below w.heap.size w wz:=by rw [hwz];exact ba (Aa _ _) _);have hA:wz.heap[w.heap.size+1]?=some (.cells #[.slice p1 a.1.length q1,.slice p2 a.2.length q2] 26 (0,0)):=by
    rw [hwz];have:=heap_alloc_new (w.alloc (.cells #[.int .u16 (m:Int),.bool true] 150)) (.cells #[.slice p1 a.1.length q1,.slice p2 a.2.length q2] 26);rw [World.size_alloc] at this;exact this
   have hz:=hbz.size;have HL:=Ad (Cr (S:=fun _=>True) (a:=a) ((h1.keep hbz).any) ((h2.keep hbz).any) trivial);have HB:=Ad (ba hbz (.cells #[.slice p1 a.1.length q1,.slice p2 a.2.length q2] 26));have HWZ:=Ad hwz;have HG:=Ad (AX (n:=24) ha Dc);obtain ⟨b0,b1,bl⟩:=B3 hA;clear h1 h2 h hbz hA hwz ha;go_enter Tryz.func184,Tryz.ntmps184
   (go_upto_region 1 with fail);rw [← HWZ.o];go_wp2;clear b0 b1 bl;go_loopg [8,20] 1 (fun q x i wr=>x=.slice (some ⟨wz.heap.size,0,none⟩) 1 1∧i=.int .i64 0∧wr=wz.alloc (.cells #[.slice p1 a.1.length q1,.slice p2 a.2.length q2] 26))
   case atStart=>exact ⟨rfl,rfl,rfl⟩
   case round =>
    obtain ⟨rfl,rfl,rfl⟩:=hrel;(go_wp2_with fail);refine (EC _ [a] _ HL.o (Rl HG.o) (Nat.le_trans HG.o.2 Dc)).mono ?_;rintro e w5 ⟨x,rfl,ho,hb5⟩;have HO:=Ad (An ho.read (bt HB.o hb5));have hz5:=HB.o.size;obtain ⟨xa,xc,rfl⟩:=ho.form;clear ho hb5;go_wp2;go_ret2;exact ⟨_,rfl,HO.o.1.more fun j _ h=>Nat.le_trans hz5 h,HO.o.2⟩
 | succ d ih =>
   intro S1 S2 S v1 v2 v a l D w h1 h2 h ha hs;obtain ⟨p1,q1,rfl⟩:=h1.form;obtain ⟨p2,q2,rfl⟩:=h2.form;obtain ⟨va,vc,rfl,hvl,_,hc⟩:=(h.more (S':=fun j=>j < w.heap.size) fun j h1 _=>h1).cmAt;have hlm:=h.len;unfold maxLen at hlm;obtain ⟨T,hT⟩:=Ex (BE m (d+1) l [a]);rw [hT];rw [Jk] at hT;obtain ⟨wz,hwz⟩:=Ey ((w.alloc (.cells #[.int .u16 (m:Int),.bool true] 150)).alloc (.cells #[.slice p1 a.1.length q1,.slice p2 a.2.length q2] 26));(have hbz:Below w.heap.size w wz:=by rw [hwz];exact ba (Aa _ _) _);have hA:wz.heap[w.heap.size+1]?=some (.cells #[.slice p1 a.1.length q1,.slice p2 a.2.length q2] 26 (0,0)):=by
    rw [hwz];have:=heap_alloc_new (w.alloc (.cells #[.int .u16 (m:Int),.bool true] 150)) (.cells #[.slice p1 a.1.length q1,.slice p2 a.2.length q2] 26);rw [World.size_alloc] at this;exact this
   (have hE:wz.heap[w.heap.size]?=some (.cells #[.int .u16 (m:Int),.bool true] 150 (0,0)):=by rw [hwz];exact Ac (heap_alloc_new w _) (Aa _ _));have hz:=hbz.size;have HL:=Ad (Cr (S:=fun _=>True) (a:=a) ((h1.keep hbz).any) ((h2.keep hbz).any) trivial);have HB:=Ad (An (ba hbz (.cells #[.slice p1 a.1.length q1,.slice p2 a.2.length q2] 26)) (Ac hE (Aa wz (.cells #[.slice p1 a.1.length q1,.slice p2 a.2.length q2] 26))));have HWZ:=Ad hwz;have HP:=Ad (An (An ha hT) (DI hs));have FF:=Ad hc;have HIH:=Ad ih;obtain ⟨b0,b1,bl⟩:=B3 hA;clear h1 h2 h hbz hA hE hwz ha hT hs hc ih;go_enter Tryz.func184,Tryz.ntmps184
   (go_upto_region 1 with fail);rw [← HWZ.o];go_wp2;clear b0 b1 bl;go_loopg [8,20] l.length (fun q x i wr=>∃ (k:Nat) (now:List Aj),k+q=l.length∧i=.int .i64 (k:Int)∧IC (EQ m) (l.drop k) now=T∧GoodV 24 now∧RL wr (fun _=>True) x now∧wr.heap[w.heap.size]?=some (.cells #[.int .u16 (m:Int),.bool true] 150 (0,0))∧Below w.heap.size w wr)
   case atStart=>exact ⟨0,[a],by omega,rfl,HP.o.1.2,AX HP.o.1.1 Dc,HL.o,HB.o.2,HB.o.1⟩
   case round =>
    clear HL HB HWZ hz;obtain ⟨k,now,hk,rfl,hTT,hgd,hnow,hE,hb⟩:=hrel;obtain ⟨na,nc,rfl⟩:=hnow.form;have HK:=Ad (An (An hk hTT) (An hgd (An hE hb)));have HNW:=Ad hnow;have hs:=hb.size;clear hk hTT hgd hnow hE;by_cases hk8:k < l.length
    · obtain ⟨b,o,f1,f2,x,y,rfl,hsb,hbl,hcc,⟨g1,g2⟩,g3,g4⟩:=FF.out k hk8
      obtain ⟨fa1,fn1,rfl⟩:=g1.form;obtain ⟨fa2,fn2,rfl⟩:=g2.form;obtain ⟨xa,xn,rfl⟩:=g3.form;obtain ⟨ya,yn,rfl⟩:=g4.form;obtain ⟨c,hck⟩:=Ex (gd l k);have hcm:=HP.o.2 c (by rw [← hck];exact Be hk8);rw [hck] at hcc g1 g2 g3 g4;have hcc':∀ j u,(Cq c.kind c.a c.b c.test (.slice fa1 c.inv.1.length fn1) (.slice fa2 c.inv.2.length fn2) (.slice xa c.body.length xn) (.slice ya c.els.length yn))[j]?=some u→wr.cell? ⟨b,o+k * 10+j,none⟩=some u:=fun j u hj=>Ab (hb.mono Om) (hcc j u hj);have c0:wr.cell? ⟨b,o+k * 10,none⟩=some (.int .i64 c.kind):=hcc' 0 _ rfl;have c1:=hcc' 1 _ rfl;have c2:=hcc' 2 _ rfl;have c3:=hcc' 3 _ rfl;have c4:=hcc' 4 _ rfl;have c5:=hcc' 5 _ rfl;have c6:=hcc' 6 _ rfl;have c7:=hcc' 7 _ rfl;have c8:=hcc' 8 _ rfl;have c9:=hcc' 9 _ rfl;(have i1:(k:Int) < (l.length:Int):=by omega);(have hzb:b < wr.heap.size:=by omega);obtain ⟨Y,hY⟩:=Ex (Dt (EQ m c) [] now);have hbw:Below w.heap.size w wr:=hb;obtain ⟨W,hW⟩:=Ey (wr.alloc (.cells #[.int .i64 c.kind,.int .i64 c.a,.int .i64 c.b,.bool c.test.1,.int .i64 c.test.2.1,.int .i64 c.test.2.2,.slice fa1 c.inv.1.length fn1,.slice fa2 c.inv.2.length fn2,.slice xa c.body.length xn,.slice ya c.els.length yn] 63));(have hbW:Below wr.heap.size wr W:=by rw [hW];exact Aa _ _);(have hcb:W.heap[wr.heap.size]?=some (.cells #[.int .i64 c.kind,.int .i64 c.a,.int .i64 c.b,.bool c.test.1,.int .i64 c.test.2.1,.int .i64 c.test.2.2,.slice fa1 c.inv.1.length fn1,.slice fa2 c.inv.2.length fn2,.slice xa c.body.length xn,.slice ya c.els.length yn] 63 (0,0)):=by rw [hW];exact heap_alloc_new _ _);have hLS:LsS W w.heap.size wr.heap.size m (.slice na now.length nc) (.slice fa1 c.inv.1.length fn1) (.slice fa2 c.inv.2.length fn2) (.slice xa c.body.length xn) (.slice ya c.els.length yn) #[.int .i64 c.kind,.int .i64 c.a,.int .i64 c.b,.bool c.test.1,.int .i64 c.test.2.1,.int .i64 c.test.2.2,.slice fa1 c.inv.1.length fn1,.slice fa2 c.inv.2.length fn2,.slice xa c.body.length xn,.slice ya c.els.length yn] now c.inv c.body c.els :=
       ⟨Ac HK.o.2.2.1 hbW,hcb,HNW.o.keep hbW,((g1.keep hbw).keep hbW).any,((g2.keep hbw).keep hbW).any,((g3.keep hbw).keep hbW).any,((g4.keep hbw).keep hbW).any⟩
      have HW:=Ad hW;have HS:=Ad (An hLS (An hbW (bt hbw hbW)));obtain ⟨gO,hgO⟩:∃ g,g=gk:=⟨_,rfl⟩;have HGO:=Ad hgO;have HCM:=Ad (An hcm (An hY (An hck hk8)));have hsW:=(bt hbw hbW).size;clear hgO hcc hcc' hck g1 g2 g3 g4 hbW hcb hcm hbw hb hLS hY hW hsb;(go_upto_region 5 with fail);rw [← HW.o];clear c0 c1 c2 c3 c4 c5 c6 c7 c8 c9;go_wp2;go_loopg [11,26] now.length (fun q x i wi=>∃ (j:Nat) (acc:List Aj),j+q=now.length∧i=.int .i64 (j:Int)∧Dt (EQ m c) acc (now.drop j)=Y∧GoodV 24 acc∧GX wi W.heap.size (fun r=>W.heap.size≤r) x acc∧Below W.heap.size W wi)
      case atStart=>exact ⟨0,[],by omega,rfl,HCM.o.2.1,Cx _,GX.nil _ _ _ _,Below.refl _ _⟩
      case round =>
       obtain ⟨j,acc,hj,rfl,hYY,hga,hG,hbi⟩:=hrel;obtain ⟨xa',xc',rfl⟩:=hG.form;have HJ:=Ad (An (An hj hYY) (An hga hG));have HB:=Ad (An (HS.o.1.keep hbi) hbi);have hsi:=hbi.size;clear hj hYY hga hG hbi;by_cases hj8:j < now.length
       · have i2:(j:Int) < (now.length:Int):=by omega
         obtain ⟨qa,qc,hqe,_,_,hqf⟩:=HB.o.1.nw.asnAt;simp only [Value.slice.injEq,true_and] at hqe;obtain ⟨rfl,rfl⟩:=hqe;obtain ⟨b',o',u1,u2,rfl,_,hzb',hp1,hp2,r1,r2⟩:=hqf j hj8;obtain ⟨y1,z1,rfl⟩:=r1.form;obtain ⟨y2,z2,rfl⟩:=r2.form;have hav:=HK.o.2.1.1 _ (Be hj8);obtain ⟨W2,hW2⟩:=Ey (wr.alloc (.cells #[.slice y1 (gd now j).1.length z1,.slice y2 (gd now j).2.length z2] 26));(have hb2:Below wr.heap.size wr W2:=by rw [hW2];exact Aa _ _);(have hst:W2.heap[wr.heap.size]?=some (.cells #[.slice y1 (gd now j).1.length z1,.slice y2 (gd now j).2.length z2] 26 (0,0)):=by rw [hW2];exact heap_alloc_new _ _);have HW2:=Ad hW2;have H2:=Ad (An (An (r1.keep hb2) (r2.keep hb2)) (An (HB.o.1.keep hb2) (An (HJ.o.2.2.keep hb2) hb2)));obtain ⟨R,hR⟩:=Ex (EQ m c (gd now j));(have hRg:GoodV 128 R.2:=by rw [← hR];exact K9 hav HCM.o.1.1 (fun s h=>CZ d _ _ [s] HCM.o.1.2.1 (AX h Dc)) (fun s h=>CZ d _ _ [s] HCM.o.1.2.2 (AX h Dc)));have HR:=Ad (An hR (An hRg (An hav hj8)));obtain ⟨s0,s1,sl⟩:=B3 hst;obtain ⟨e0,e1,el⟩:=B3 H2.o.2.1.ex;obtain ⟨k0,k1,k2,k3,k4,k5,k6,k7,k8,k9⟩:=Dk H2.o.2.1.cm;have kl:=Ae H2.o.2.1.cm;have hs2:=hb2.size;clear r1 r2 hb2 hst hW2 hR hRg hav hqf;(go_upto_region 9 with fail);rw [← HW2.o];clear hp1 hp2;(go_wp2_with fail);refine (Sf hm HIH.o _ _ _ _ _ _ (gd now j) c (D - 1) _ H2.o.1.1 H2.o.1.2 H2.o.2.1.f1 H2.o.2.1.f2 H2.o.2.1.bd H2.o.2.1.el HR.o.2.2.1 HCM.o.1.1 HCM.o.1.2.1 HCM.o.1.2.2).mono ?_;rw [HR.o.1];rintro e w5 ⟨r,rfl,hr,hb5⟩;obtain ⟨ra,rc,rfl⟩:=hr.form;have H5:=Ad (An hr (An (H2.o.2.2.1.keep hb5) (bt H2.o.2.2.2 hb5)));have HIN:=Ad HJ.o.2.2.inside;have hs5:=hb5.size;clear hr hb5 s0 s1 sl e0 e1 el k0 k1 k2 k3 k4 k5 k6 k7 k8 k9 kl;by_cases hc0:R.1=0
         · have y0:(R.1 == 0)=true:=beq_iff_eq.2 hc0
           have HC0:=Ad (show EQ m c (gd now j)=(0,R.2) by rw [HR.o.1];exact II hc0);clear hc0;go_upto_region 13 with (at_builtin;go_must (refine D8 (m:=R.2) (B:=W.heap.size) (R:=fun r=>W.heap.size≤r) rfl (.tmp 40) (.tmp 41) _ rfl Cy rfl H5.o.2.1 rfl H5.o.1 (fun j _ h=>⟨by have h6:W2.heap.size≤j:=h;show W.heap.size≤j;omega,fun hne e=>by rcases HIN.o with h4 | h4;exact hne h4;have h5:=(h4 j e).2;have h6:W2.heap.size≤j:=h;omega⟩) (by have h1:=HJ.o.2.1.2;have h2:=HR.o.2.1.2;omega) Om ?_;intro v8 w8 g8 f8;obtain ⟨a8,c8,rfl⟩:=g8.form))
           have hb8:=H5.o.2.1.below (HB.o.2.trans (H5.o.2.2.mono Om)) (Nat.le_refl _) Om f8;obtain ⟨n8,hn8⟩:∃ n,acc.length+R.2.length=n:=⟨_,rfl⟩;rw [hn8];have H8:=Ad (An (show GX w8 W.heap.size (fun r=>W.heap.size≤r) (.slice a8 n8 c8) (acc ++ R.2) by rw [← hn8,← List.length_append];exact g8) (An hb8 hn8));clear g8 hb8 f8 hn8 y0;by_cases h24:acc.length+R.2.length≤24
           · have HE:=Ad (An (Mn HJ.o.1.2 HR.o.2.2.2 HC0.o h24) (show GoodV 24 (acc ++ R.2) from ⟨(GS HJ.o.2.1 HR.o.2.1).1,by rw [List.length_append];exact h24⟩))
             (have i3:¬ (24:Int) < (n8:Int):=by have:=H8.o.2.2;omega);clear h24;go_wp2;go_roundg (gk - 1)
             case rel=>exact ⟨j+1,_,by have:=HJ.o.1.1;omega,(by first | exact Mq HR.o.2.2.2 HK.o.2.1.2 Dc | go_num),HE.o.1,HE.o.2,H8.o.1,H8.o.2.1⟩
             case measure=>have:=HJ.o.1.1;omega
           · have HE:=Ad (Kb HK.o.1.2 HCM.o.2.2.2 (by rw [HCM.o.2.2.1,HCM.o.2.1];exact Mo HJ.o.1.2 HR.o.2.2.2 HC0.o h24) Dc)
             (have i3:(24:Int) < (n8:Int):=by have:=H8.o.2.2;omega);clear h24;go_wp2;go_ret2;exact ⟨_,by rw [HE.o];rfl,by rw [HE.o];exact RL.nil _ _,HS.o.2.2.trans (H8.o.2.1.mono Om)⟩
         · have y0:(R.1 == 0)=false:=beq_eq_false_iff_ne.2 hc0
           have HE:=Ad (show T=(R.1,[]) from Kb HK.o.1.2 HCM.o.2.2.2 (by rw [HCM.o.2.2.1,HCM.o.2.1,OE HJ.o.1.2 HR.o.2.2.2 (by rw [HR.o.1];exact hc0),HR.o.1]) hc0);clear hc0;go_wp2;go_ret2;exact ⟨_,by rw [HE.o];rfl,by rw [HE.o];exact RL.nil _ _,HS.o.2.2.trans ((HB.o.2.trans (H5.o.2.2.mono Om)).mono Om)⟩
       · have hjn:j=now.length:=by have:=HJ.o.1.1;omega
         (have i2:¬ (j:Int) < (now.length:Int):=by omega);have HE:=Ad (OF HK.o.1.2 HCM.o.2.2.2 (by rw [HCM.o.2.2.1,HCM.o.2.1];exact Mp HJ.o.1.2 hj8));clear hjn hj8;go_wp2;go_roundg (gO - 1)
         case rel=>exact ⟨k+1,acc,by have:=HK.o.1.1;have:=HGO.o;omega,(by first | exact Mq HCM.o.2.2.2 (Nat.le_refl _) hlm | go_num),HE.o,HJ.o.2.1,HJ.o.2.2.rl.any,HB.o.1.ex,HS.o.2.2.trans (HB.o.2.mono Om)⟩
         case measure=>have:=HK.o.1.1;have:=HGO.o;omega
    · obtain rfl:k=l.length:=by have:=HK.o.1.1;omega
      have HE:=Ad (OG HK.o.1.2 Om);(have i1:¬ (l.length:Int) < (l.length:Int):=by omega);(go_wp2_with fail);refine (EC _ now _ HNW.o (Rl HK.o.2.1) (Nat.le_trans HK.o.2.1.2 Dc)).mono ?_;rintro e w5 ⟨x,rfl,ho,hb5⟩;have HO:=Ad (An ho.read (bt HK.o.2.2.2 hb5));obtain ⟨xa,xc,rfl⟩:=ho.form;clear ho hb5;go_wp2;go_ret2;exact ⟨_,by rw [HE.o];rfl,by rw [HE.o];exact HO.o.1.more fun j _ h=>Nat.le_trans hs h,HO.o.2⟩
def Dv (m:Nat):List Int:=MA (fun n=>m.testBit n) 0 9
theorem Et {j:Nat}:∀ (l:List Int) (m:Nat),(l.foldl As m).testBit j=(m.testBit j || l.any fun t=>Al t && decide (t=(j:Int)))
 | [],m=>by simp
 | x :: l,m=>by rw [List.foldl_cons,Et l,AR,List.any_cons,Bool.or_assoc]
theorem OR {m:Nat} (h:∀ j,9≤j→m.testBit j=false):Ay (Dv m)=m:=by
 refine Nat.eq_of_testBit_eq fun j=>?_;rw [Ay,Et,Nat.zero_testBit,Bool.false_or];rw [Bool.eq_iff_iff,List.any_eq_true];constructor
 · rintro ⟨t,ht,hj⟩
   rw [Bool.and_eq_true,decide_eq_true_eq] at hj;obtain ⟨n,hn,rfl⟩:=List.mem_map.1 ht;rw [List.mem_filter] at hn;have:n=j:=Int.ofNat.inj hj.2;exact this ▸ hn.2
 · intro hb
   have h9:j < 9:=by
    rcases Nat.lt_or_ge j 9 with h9 | h9
    · exact h9
    · rw [h j h9] at hb;cases hb
   refine ⟨(j:Int),List.mem_map.2 ⟨j,List.mem_filter.2 ⟨by rw [List.mem_range'];exact ⟨j,h9,by omega⟩,hb⟩,rfl⟩,?_⟩;rw [Bool.and_eq_true,decide_eq_true_eq];exact ⟨At.2 Om,rfl⟩
theorem FS (a:Aj) (j:Nat) (h:9≤j):(Ak a).testBit j=false:=by
 have ho:∀ t:Int,CP t j=false:=fun t=>by
  rw [CP];cases ht:Al t with
  | false=>rfl
  | true =>
    have:=At.1 ht;simp;omega
 rw [Bn,Bool.or_eq_false_iff,List.any_eq_false,List.any_eq_false];exact ⟨fun f _=>by rw [ho,ho];decide,fun f _=>by rw [ho,ho];decide⟩
theorem Hs (a:Aj):Ay (Dv (Ak a))=Ak a:=OR (FS a)
theorem OS (m:Nat) (w:World) (hm:m < 65536) :
 Calls Tryz.prog 116 #[.int .u16 (m:Int)] w fun e w'=>∃ v',e=.returned v'∧w'.ownsRow w.heap.size 3 1 v' (Dv m).length (ints (Dv m))∧Below w.heap.size w w':=by
 go_enter Tryz.func116,Tryz.ntmps116
 go_wp2;go_loopg [3,4] 9 (fun q v i wr=>∃ k:Nat,k+q=9∧i=.int .i64 k∧wr.ownsRow w.heap.size 3 1 v (MA (fun n=>m.testBit n) 0 k).length (ints (MA (fun n=>m.testBit n) 0 k))∧Below w.heap.size w wr)
 case atStart=>exact ⟨0,by omega,rfl,World.ownsRow_nil _ _ _ _,Below.refl _ _⟩
 case round =>
  obtain ⟨k,hk,rfl,hown,hb⟩:=hrel;obtain ⟨va,vc,rfl,_⟩:=A8 hown;have hs:=hb.size;have HK:=Ad hk;have HO:=Ad hown;clear hk hown;by_cases hk8:k < 9
  · have i1:(k:Int)≤8:=by omega
    have hl:=Hu (fun n=>m.testBit n) 0 k;obtain ⟨c,hc⟩:=Ex (m.testBit k);(have hhas:AN m (k:Int)=c:=by rw [FN (by omega)];exact hc);have HHAS:=Ad hhas;have HC:=Ad hc;have HL:=Ad hl;clear hhas hc hl;(go_wp2_with fail);refine (CX _ hm HHAS.o).mono ?_;rintro e w5 ⟨rfl,rfl⟩;cases c with
    | true =>
      have hy:=QH (p:=fun n=>m.testBit n) (a:=0) (k:=k) (by rw [Nat.zero_add];exact HC.o);(have e2:(((0+k:Nat):Int))=(k:Int):=by omega);rw [e2] at hy;have HY:=Ad hy;clear hy e2;go_wp2_with (at_builtin;refine Fv _ rfl _ _ rfl w.heap.size _ _ rfl (Ag HO.o (Aa _ _)) ⟨wr.heap.size,0,none⟩ _ rfl (DE _ _ _) (by have:=HL.o;omega) (by simp;omega) ?_;intro v' w1 hown1 hf1)
      go_roundg (gk - 1)
      case rel=>exact ⟨k+1,by have:=HK.o;omega,by go_num,by rw [HY.o];exact hown1,Ce (Ag HO.o (Aa _ _)) hf1 (hb.trans ((Aa _ _).mono hs)) (by simp;omega)⟩
      case measure=>have:=HK.o;omega
    | false =>
      have hy:=Sw (p:=fun n=>m.testBit n) (a:=0) (k:=k) (by rw [Nat.zero_add];exact HC.o);have HY:=Ad hy;clear hy;go_wp2;go_roundg (gk - 1)
      case rel=>exact ⟨k+1,by have:=HK.o;omega,by go_num,by rw [HY.o];exact HO.o,hb⟩
      case measure=>have:=HK.o;omega
  · obtain rfl:k=9:=by have:=HK.o;omega
    go_wp2;go_ret;exact ⟨_,rfl,HO.o,hb⟩
theorem LC {S1 S2:Nat→Prop} (v1 v2:Value) (a:Aj) (w:World) (h1:RL w S1 v1 a.1) (h2:RL w S2 v2 a.2) (ha:Ah a=true) :
 Calls Tryz.prog 37 #[.agg #[v1,v2]] w fun e w'=>∃ v',e=.returned v'∧w'.ownsRow w.heap.size 3 1 v' (Dv (Ak a)).length (ints (Dv (Ak a)))∧Below w.heap.size w w':=by
 obtain ⟨M,hM⟩:=Ex (Ak a);have hMl:M < 65536:=by rw [← hM];exact Bw _
 rw [hM];have HM:=Ad (An hM hMl);clear hM hMl;obtain ⟨p1,c1,rfl⟩:=h1.form;obtain ⟨p2,c2,rfl⟩:=h2.form;have hb0:=Aa w (.cells #[.slice p1 a.1.length c1,.slice p2 a.2.length c2] 26);have hA:=heap_alloc_new w (.cells #[.slice p1 a.1.length c1,.slice p2 a.2.length c2] 26);have H0:=Ad (An (An (h1.keep hb0) (h2.keep hb0)) (An hA hb0));have HA:=Ad ha;clear h1 h2 hb0 hA ha;go_enter Tryz.func37,Tryz.ntmps37
 go_wp2_with fail
 refine (Aq _ _ a _ H0.o.1.1 H0.o.1.2).mono ?_;rw [HA.o];rintro e w2 ⟨rfl,hb2⟩;have H2:=Ad (An (An (H0.o.1.1.keep hb2) (H0.o.1.2.keep hb2)) (An (Ac H0.o.2.1 hb2) (bt H0.o.2.2 hb2)));obtain ⟨b0,b1,bl⟩:=B3 H2.o.2.1;clear hb2;go_wp2_with fail
 refine (B6 _ _ a _ H2.o.1.1 H2.o.1.2).mono ?_;rw [HM.o.1];rintro e w3 ⟨rfl,hb3⟩;have H3:=Ad (An (bt H2.o.2.2 hb3) HM.o.2);clear hb3 b0 b1 bl;go_wp2_with fail
 refine (OS M _ H3.o.2).mono ?_;rintro e w4 ⟨v',rfl,ho,hb4⟩;obtain ⟨va,vc,rfl,_⟩:=A8 ho;have H4:=Ad (An (BK ho H3.o.1.size) (bt H3.o.1 hb4));clear ho hb4;go_wp2;go_ret;exact ⟨.slice va (Dv M).length vc,rfl,H4.o.1,H4.o.2⟩
end Go.Proofs.YtkbbmjcfgcfejaaGreat
