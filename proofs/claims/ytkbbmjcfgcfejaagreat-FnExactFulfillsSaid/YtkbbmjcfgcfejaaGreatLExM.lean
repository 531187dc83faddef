/- Walk: visiting commands (program: the closure of changedIn). -/
import Derived.Test.YtkbbmjcfgcfejaaGreatLChg
set_option linter.unusedVariables false
set_option linter.unusedSimpArgs false
set_option maxRecDepth 100000
set_option maxHeartbeats 12800000
namespace Go.Proofs.YtkbbmjcfgcfejaaGreat
open Go.RowKit
def SetC (w:World) (g m:Nat):Prop:=w.heap[g]?=some (.cells #[.int .u16 (m:Int)] 108 (0,0))
theorem SetC.cell {w:World} {g m:Nat} (h:SetC w g m):w.cell? ⟨g,0,none⟩=some (.int .u16 (m:Int)):=cell_of_row w g 0 _ _ _ h
theorem SetC.thaw {w:World} {g m:Nat} (h:SetC w g m):w.frozen? ⟨g,0,none⟩=false:=frozen_of_row w g 0 _ _ h
theorem SetC.set {w:World} {g m:Nat} (h:SetC w g m) (n:Nat):SetC (w.setCell ⟨g,0,none⟩ (.int .u16 (n:Int))) g n:=by
 unfold SetC at h ⊢;rw [heap_setCell_same w g 0 _ _ _ h];rfl
theorem SetC.keep {w w':World} {g m:Nat} (h:SetC w g m) (hb:Below w.heap.size w w'):SetC w' g m:=Ac h hb
theorem OI (k a b t2 t3:Int) (t1:Bool) (f1 f2 x y:Value) (g m M:Nat) (w:World) (hg:SetC w g m) (hm:m < 65536) (hM:Jj m k a=M) :
 Calls Tryz.prog 164 #[.agg #[.int .i64 k,.int .i64 a,.int .i64 b,.bool t1,.int .i64 t2,.int .i64 t3,f1,f2,x,y],.pointer (some ⟨g,0,none⟩)] w fun e w'=>e=.returned (.tuple #[])∧SetC w' g M∧Fr (fun j=>j=g) w w':=by
 obtain ⟨w0,hw0⟩:=Ey (w.alloc (.cells #[.int .i64 k,.int .i64 a,.int .i64 b,.bool t1,.int .i64 t2,.int .i64 t3,f1,f2,x,y] 63));have hC:w0.heap[w.heap.size]?=some (.cells #[.int .i64 k,.int .i64 a,.int .i64 b,.bool t1,.int .i64 t2,.int .i64 t3,f1,f2,x,y] 63 (0,0)):=by rw [hw0];exact heap_alloc_new w _
 have hb0:Below w.heap.size w w0:=by rw [hw0];exact Aa _ _
 have hg0:=hg.keep hb0;have HW:=Ad hw0;have HG:=Ad (An hg0 hb0);have HM:=Ad hM;have g0:=hg0.cell;have gz:=hg0.thaw;have gl:=Ae hg0;obtain ⟨k0,k1,k2,k3,k4,k5,k6,k7,k8,k9⟩:=Dk hC;have kl:=Ae hC;clear hC hb0 hg0 hw0 hg hM;go_enter Tryz.func164,Tryz.ntmps164
 go_upto_region 1 with fail
 rw [← HW.o];by_cases hch:k=1∨k=2∨k=4
 · have HMM:=Ad (show As m a=M by rw [← HM.o,Jj,if_pos hch])
   have HS:=Ad (An (HG.o.1.set M) ((Aw w0 ⟨g,0,none⟩ (.int .u16 (M:Int))).mono (S':=fun k=>k=g) fun k _ e=>e));rcases hch with h | h | h
   · have y1:(k == 1)=true:=by rw [h];rfl
     clear h;(go_wp2_with fail);refine (A6 _ hm HMM.o).mono ?_;rintro e w5 ⟨rfl,rfl⟩;go_wp2;go_returns;exact ⟨rfl,HS.o.1,DR HS.o.2 HG.o.2⟩
   · have y1:(k == 1)=false:=by rw [h];rfl
     (have y2:(k == 2)=true:=by rw [h];rfl);clear h;(go_wp2_with fail);refine (A6 _ hm HMM.o).mono ?_;rintro e w5 ⟨rfl,rfl⟩;go_wp2;go_returns;exact ⟨rfl,HS.o.1,DR HS.o.2 HG.o.2⟩
   · have y1:(k == 1)=false:=by rw [h];rfl
     (have y2:(k == 2)=false:=by rw [h];rfl);(have y4:(k == 4)=true:=by rw [h];rfl);clear h;(go_wp2_with fail);refine (A6 _ hm HMM.o).mono ?_;rintro e w5 ⟨rfl,rfl⟩;go_wp2;go_returns;exact ⟨rfl,HS.o.1,DR HS.o.2 HG.o.2⟩
 · have y1:(k == 1)=false:=by rw [beq_eq_false_iff_ne];exact fun e=>hch (.inl e)
   (have y2:(k == 2)=false:=by rw [beq_eq_false_iff_ne];exact fun e=>hch (.inr (.inl e)));(have y4:(k == 4)=false:=by rw [beq_eq_false_iff_ne];exact fun e=>hch (.inr (.inr e)));have HMM:=Ad (show m=M by rw [← HM.o,Jj,if_neg hch]);clear hch;go_wp2;go_returns;exact ⟨rfl,by rw [← HMM.o];exact HG.o.1,(Below.fr HG.o.2).mono fun _ _ h=>h.elim⟩
theorem Qk:∀ (d:Nat) {S:Nat→Prop} (g:Nat) (v:Value) (l:List (Cm d)) (m:Nat) (w:World) (_h:RL w S v l) (_hg:SetC w g m) (_hm:m < 65536) (_hs:∀ k,S k→¬ k=g),
 Calls Tryz.prog 163 #[v,.func (.func 164) #[] #[.pointer (some ⟨g,0,none⟩)]] w fun e w'=>e=.returned (.tuple #[])∧SetC w' g (CQ d m l)∧Fr (fun k=>k=g) w w':=by
 intro d;induction d with
 | zero =>
   intro S g v l m w h hg hm hs;obtain rfl:=h.cm0;obtain ⟨a,c,rfl⟩:=h.form;have HO:=Ad hg;clear h hg hs;go_enter Tryz.func163,Tryz.ntmps163
   go_wp2;go_loopg [8] 1 (fun q i wr=>i=.int .i64 0∧wr=w)
   case atStart=>exact ⟨rfl,rfl⟩
   case round =>
    obtain ⟨rfl,rfl⟩:=hrel;go_wp2;go_returns;exact ⟨rfl,HO.o,Fr.refl _ _⟩
 | succ d ih =>
   intro S g v l m w h hg hm hs;obtain ⟨a,vcap,rfl,hq1,hq2,hc⟩:=h.cmAt;have HL:=Ad (An hq1 hq2);have F:=Ad hc;have IH:=Ad (fun (S:Nat→Prop) (v:Value) (l:List (Cm d)) (m:Nat) (w:World) (h:RL w S v l) (hg:SetC w g m) (hm:m < 65536) (hs:∀ k,S k→¬ k=g)=>ih (S:=S) g v l m w h hg hm hs);have HSH:=Ad hs;have HM0:=Ad hm;have HO:=Ad hg;clear h hc ih hs hg hq1 hq2 hm;go_enter Tryz.func163,Tryz.ntmps163
   go_wp2;go_loopg [8] l.length (fun q i wr=>∃ k:Nat,k+q=l.length∧i=.int .i64 (k:Int)∧SetC wr g (CQ (d+1) m (l.take k))∧Fr (fun k=>k=g) w wr)
   case atStart=>exact ⟨0,by omega,rfl,HO.o,Fr.refl _ _⟩
   case round =>
    obtain ⟨k,hk,rfl,hset,hfr⟩:=hrel;have HK:=Ad hk;have hzs:=hfr.size;clear hk;by_cases hk8:k < l.length
    · obtain ⟨b,o,f1,f2,x,y,rfl,hSb,hbl,hcc,⟨g1,g2⟩,g3,g4⟩:=F.o k hk8
      obtain ⟨ia1,in1,rfl⟩:=g1.form;obtain ⟨ia2,in2,rfl⟩:=g2.form;obtain ⟨xa,xn,rfl⟩:=g3.form;obtain ⟨ya,yn,rfl⟩:=g4.form;obtain ⟨c,hck⟩:=Ex (gd l k);rw [hck] at g1 g2 hcc g3 g4;have hst:=Mr (m:=m) hk8;rw [hck] at hst;have hbg:¬ b=g:=HSH.o b hSb;have hkept:∀ {i:Nat} {u:Value},(Cq c.kind c.a c.b c.test (.slice ia1 c.inv.1.length in1) (.slice ia2 c.inv.2.length in2) (.slice xa c.body.length xn) (.slice ya c.els.length yn))[i]?=some u→wr.cell? ⟨b,o+k * 10+i,none⟩=some u:=fun hi=>hfr.cell (by simpa using hbg) (hcc _ _ hi);obtain ⟨M0,hM0⟩:=Ex (CQ (d+1) m (l.take k));(have hm0:M0 < 65536:=by rw [← hM0];exact GU _ _ _ HM0.o);rw [hM0] at hst hset;obtain ⟨M1,hM1⟩:=Ex (Jj M0 c.kind c.a);(have hm1:M1 < 65536:=by rw [← hM1];exact Rj hm0);rw [hM1] at hst;have p0:wr.cell? ⟨b,o+k * 10,none⟩=some (.int .i64 c.kind):=hkept (i:=0) rfl;have p1:=hkept (i:=1) rfl;have p2:=hkept (i:=2) rfl;have p3:=hkept (i:=3) rfl;have p4:=hkept (i:=4) rfl;have p5:=hkept (i:=5) rfl;have p6:=hkept (i:=6) rfl;have p7:=hkept (i:=7) rfl;have p8:=hkept (i:=8) rfl;have p9:=hkept (i:=9) rfl;(have i1:(k:Int) < (l.length:Int):=by omega);(have hzb:b < wr.heap.size:=by omega);have far:∀ j,j < w.heap.size→S j→¬ (fun j=>j=g) j:=fun j _ hj e=>HSH.o j hj e;obtain ⟨wb,hwb⟩:=Ey (wr.alloc (.cells #[.int .i64 c.kind,.int .i64 c.a,.int .i64 c.b,.bool c.test.1,.int .i64 c.test.2.1,.int .i64 c.test.2.2,.slice ia1 c.inv.1.length in1,.slice ia2 c.inv.2.length in2,.slice xa c.body.length xn,.slice ya c.els.length yn] 63));(have hbx:wb.heap[wr.heap.size]?=some (.cells #[.int .i64 c.kind,.int .i64 c.a,.int .i64 c.b,.bool c.test.1,.int .i64 c.test.2.1,.int .i64 c.test.2.2,.slice ia1 c.inv.1.length in1,.slice ia2 c.inv.2.length in2,.slice xa c.body.length xn,.slice ya c.els.length yn] 63 (0,0)):=by rw [hwb];exact heap_alloc_new wr _);(have hbb:Below wr.heap.size wr wb:=by rw [hwb];exact Aa _ _);have hgl:=Ae hset;have HG:=Ad (An (An ((g3.kept hfr far).keep hbb) ((g4.kept hfr far).keep hbb)) (An hst hM1));have HC:=Ad (OI c.kind c.a c.b c.test.2.1 c.test.2.2 c.test.1 (.slice ia1 c.inv.1.length in1) (.slice ia2 c.inv.2.length in2) (.slice xa c.body.length xn) (.slice ya c.els.length yn) g M0 M1 wb (hset.keep hbb) hm0 hM1);have HB:=Ad (An hbx (An hbb (show ¬ wr.heap.size=g by omega)));have HF:=Ad (An hfr (An hm1 (An hk8 hgl)));have HWB:=Ad hwb;clear g1 g2 hst hkept g3 g4 hcc hck hM0 hM1 hfr far hset hbx hbb hwb hm0 hm1;(go_upto_region 3 with fail);rw [← HWB.o];obtain ⟨k0,k1,k2,k3,k4,k5,k6,k7,k8,k9⟩:=Dk HB.o.1;have kl:=Ae HB.o.1;clear p0 p1 p2 p3 p4 p5 p6 p7 p8 p9;go_upto_region 4 with (go_at_call 164;refine HC.o.mono ?_;rintro e w5 ⟨rfl,hs5,hf5⟩)
      have hx5:=AA HB.o.1 hf5 HB.o.2.2;have hfar:∀ j,j < wb.heap.size→S j→¬ (fun j=>j=g) j:=fun j _ hj e=>HSH.o j hj e;have H5:=Ad (An (An (HG.o.1.1.kept hf5 hfar) (HG.o.1.2.kept hf5 hfar)) (An hs5 (An hf5 hx5)));clear k0 k1 k2 k3 k4 k5 k6 k7 k8 k9 kl hf5 hs5 hx5 hfar;have k8:=cr 8 H5.o.2.2.2;have kl:=Ae H5.o.2.2.2;(go_wp2_with fail);refine (IH.o S _ c.body M1 _ H5.o.1.1 H5.o.2.1 HF.o.2.1 HSH.o).mono ?_;rintro e w6 ⟨rfl,hs6,hf6⟩;have hx6:=AA H5.o.2.2.2 hf6 HB.o.2.2;have hfar:∀ j,j < w5.heap.size→S j→¬ (fun j=>j=g) j:=fun j _ hj e=>HSH.o j hj e;have H6:=Ad (An (H5.o.1.2.kept hf6 hfar) (An hs6 (An (H5.o.2.2.1.trans hf6) hx6)));clear k8 kl hf6 hs6 hx6 hfar;have k9:=cr 9 H6.o.2.2.2;have kl:=Ae H6.o.2.2.2;(go_wp2_with fail);refine (IH.o S _ c.els _ _ H6.o.1 H6.o.2.1 (GU _ _ _ HF.o.2.1) HSH.o).mono ?_;rintro e w7 ⟨rfl,hs7,hf7⟩;have H7:=Ad (An hs7 (HF.o.1.trans (DR (H6.o.2.2.1.trans hf7) (HB.o.2.1))));clear k9 kl hf7 hs7;go_wp2;go_roundg (gk - 1)
      case rel=>exact ⟨k+1,WF HK.o HF.o.2.2.1,Mq HF.o.2.2.1 HL.o.1 HL.o.2,by rw [HG.o.2.1];exact H7.o.1,H7.o.2⟩
      case measure=>exact WG HK.o HF.o.2.2.1
    · obtain rfl:k=l.length:=by have:=HK.o;omega
      rw [List.take_length] at hset;go_wp2;go_returns;exact ⟨rfl,hset,hfr⟩
theorem IL (d:Nat) {S:Nat→Prop} (v:Value) (l:List (Cm d)) (w:World) (h:RL w S v l) :
 Calls Tryz.prog 90 #[v] w fun e w'=>e=.returned (.int .u16 ((CQ d 0 l:Nat):Int))∧Below w.heap.size w w':=by
 obtain ⟨a,c,rfl⟩:=h.form;have hb0:=Aa w (.cells #[.int .u16 ((0:Nat):Int)] 108);have hg0:SetC (w.alloc (.cells #[.int .u16 ((0:Nat):Int)] 108)) w.heap.size 0:=heap_alloc_new w _;have H:=Ad (An (Qk d w.heap.size _ l 0 _ ((h.more (S':=fun k=>k < w.heap.size) fun k hk _=>hk).keep hb0) hg0 Dc (fun k hk e=>by have h1:k < w.heap.size:=hk;omega)) hb0);clear h hb0 hg0;go_enter Tryz.func90,Tryz.ntmps90
 go_wp2_with fail
 refine H.o.1.mono ?_;rintro e w5 ⟨rfl,hs5,hf5⟩;have c0:=hs5.cell;have cl:=Ae hs5;have HB:=Ad (H.o.2.trans (hf5.below Sp fun k hk e=>by have e2:k=w.heap.size:=e;omega));clear hs5 hf5;go_wp2;go_returns;exact ⟨rfl,HB.o⟩
theorem Wc {a b:Nat} (h1:a < 65536) (h2:b < 65536):a ||| b < 65536:=Nat.or_lt_two_pow (n:=16) h1 h2
theorem OJ {S1 S2:Nat→Prop} (k a b t2 t3:Int) (t1:Bool) (v1 v2 x y:Value) (inv:Aj) (g m M:Nat) (w:World) (hg:SetC w g m) (hm:m < 65536) (h1:RL w S1 v1 inv.1) (h2:RL w S2 v2 inv.2) (hM:(As (As (As (As m a) b) t2) t3 ||| Ak inv)=M) :
 Calls Tryz.prog 177 #[.agg #[.int .i64 k,.int .i64 a,.int .i64 b,.bool t1,.int .i64 t2,.int .i64 t3,v1,v2,x,y],.pointer (some ⟨g,0,none⟩)] w fun e w'=>e=.returned (.tuple #[])∧SetC w' g M∧Fr (fun j=>j=g) w w':=by
 obtain ⟨p1,c1,rfl⟩:=h1.form;obtain ⟨p2,c2,rfl⟩:=h2.form;obtain ⟨M1,hM1⟩:=Ex (As m a);obtain ⟨M2,hM2⟩:=Ex (As M1 b);obtain ⟨M3,hM3⟩:=Ex (As M2 t2);obtain ⟨M4,hM4⟩:=Ex (As M3 t3);obtain ⟨T,hT⟩:=Ex (Ak inv);rw [hM1,hM2,hM3,hM4,hT] at hM;have l1:M1 < 65536:=by rw [← hM1];exact AJ hm
 have l2:M2 < 65536:=by rw [← hM2];exact AJ l1
 have l3:M3 < 65536:=by rw [← hM3];exact AJ l2
 have l4:M4 < 65536:=by rw [← hM4];exact AJ l3
 have lT:T < 65536:=by rw [← hT];exact Bw inv
 have hor:bits .or .u16 (M4:Int) (T:Int)=((M:Nat):Int):=by rw [← hM];exact u16_or_nat M4 T l4 lT
 have HT:=Ad (An (An hM1 (An hM2 (An hM3 hM4))) hT);have HLT:=Ad (An (An l1 (An l2 l3)) (An l4 lT));obtain ⟨w0,hw0⟩:=Ey (w.alloc (.cells #[.int .i64 k,.int .i64 a,.int .i64 b,.bool t1,.int .i64 t2,.int .i64 t3,.slice p1 inv.1.length c1,.slice p2 inv.2.length c2,x,y] 63));have hC:w0.heap[w.heap.size]?=some (.cells #[.int .i64 k,.int .i64 a,.int .i64 b,.bool t1,.int .i64 t2,.int .i64 t3,.slice p1 inv.1.length c1,.slice p2 inv.2.length c2,x,y] 63 (0,0)):=by rw [hw0];exact heap_alloc_new w _
 have hb0:Below w.heap.size w w0:=by rw [hw0];exact Aa _ _
 have hg0:=(hg.keep hb0).keep (Ai w0);have HW:=Ad hw0;have HG:=Ad (An hg0 (An hb0 (An (h1.keep hb0) (h2.keep hb0))));have hng:¬ w.heap.size=g:=by have:=Ae hg;omega
 have g0:=hg0.cell;have gz:=hg0.thaw;have gl:=Ae hg0;replace hC:=Ac hC (Ai w0);obtain ⟨k0,k1,k2,k3,k4,k5,k6,k7,k8,k9⟩:=Dk hC;have kl:=Ae hC;have HTI:=Ad (show Calls Tryz.prog 66 #[.agg #[.slice p1 inv.1.length c1,.slice p2 inv.2.length c2]] w0.drew fun e w'=>e=.returned (.int .u16 (T:Int))∧Below w0.drew.heap.size w0.drew w' by
  have ht:=B6 _ _ inv w0.drew (HG.o.2.2.1.keep (Ai w0)) (HG.o.2.2.2.keep (Ai w0));rw [HT.o.2] at ht;exact ht)
 clear hC hb0 hg0 hw0 hg hM h1 h2 hM1 hM2 hM3 hM4 hT l1 l2 l3 l4 lT;go_enter Tryz.func177,Tryz.ntmps177
 go_upto_region 1 with fail
 rw [← HW.o];refine wp_region_noPanic ?_;refine wp_region_held_drew (S:=(fun w'=>w'.cell? ⟨w.heap.size,1,none⟩=some (.int .i64 a)∧w'.cell? ⟨w.heap.size,2,none⟩=some (.int .i64 b)∧w'.cell? ⟨w.heap.size,4,none⟩=some (.int .i64 t2)∧w'.cell? ⟨w.heap.size,5,none⟩=some (.int .i64 t3)∧w'.cell? ⟨w.heap.size,6,none⟩=some (.slice p1 inv.1.length c1)∧w'.cell? ⟨w.heap.size,7,none⟩=some (.slice p2 inv.2.length c2))) Kr ?_ (fun hHeld=>?_)
 · try dsimp only
   exact ⟨k1,k2,k4,k5,k6,k7⟩
 refine wpAnyH_take (i:=1) (oi:=_) (v:=?_) rfl Kr Kr Kr (fun _ _ _ h=>h) (Or.inl ⟨by rfl,?_⟩) (by assumption) ?_;rotate_left
 · (intro w hSw;(try dsimp only at hSw);first | (go_simp;done) | (go_simp;with_reducible rfl))
 refine wpAnyH_take (i:=2) (oi:=_) (v:=?_) rfl Kr Kr Kr (fun _ _ _ h=>h) (Or.inl ⟨by rfl,?_⟩) (by assumption) ?_;rotate_left
 · (intro w hSw;(try dsimp only at hSw);first | (go_simp;done) | (go_simp;with_reducible rfl))
 refine wpAnyH_take (i:=4) (oi:=_) (v:=?_) rfl Kr Kr Kr (fun _ _ _ h=>h) (Or.inl ⟨by rfl,?_⟩) (by assumption) ?_;rotate_left
 · (intro w hSw;(try dsimp only at hSw);first | (go_simp;done) | (go_simp;with_reducible rfl))
 refine wpAnyH_take (i:=5) (oi:=_) (v:=?_) rfl Kr Kr Kr (fun _ _ _ h=>h) (Or.inl ⟨by rfl,?_⟩) (by assumption) ?_;rotate_left
 · (intro w hSw;(try dsimp only at hSw);first | (go_simp;done) | (go_simp;with_reducible rfl))
 refine wpAnyH_take (i:=7) (oi:=_) (v:=?_) rfl Kr Kr Kr (fun _ _ _ h=>h) (Or.inl ⟨by rfl,?_⟩) (by assumption) ?_;rotate_left
 · (intro w hSw;(try dsimp only at hSw);first | (go_simp;done) | (go_simp;with_reducible rfl))
 refine wpAnyH_take (i:=8) (oi:=_) (v:=?_) rfl Kr Kr Kr (fun _ _ _ h=>h) (Or.inl ⟨by rfl,?_⟩) (by assumption) ?_;rotate_left
 · (intro w hSw;(try dsimp only at hSw);first | (go_simp;done) | (go_simp;with_reducible rfl))
 refine wpAnyH_take (i:=9) (oi:=_) (v:=?_) rfl Kr Kr Kr (fun _ _ _ h=>h) (Or.inl ⟨by rfl,?_⟩) (by assumption) ?_;rotate_left
 · (intro w hSw;(try dsimp only at hSw);first | (go_simp;done) | (go_simp;with_reducible rfl))
 refine wpAnyH_take (i:=11) (oi:=_) (v:=?_) rfl Kr Kr Kr (fun _ _ _ h=>h) (Or.inl ⟨by rfl,?_⟩) (by assumption) ?_;rotate_left
 · (intro w hSw;(try dsimp only at hSw);first | (go_simp;done) | (go_simp;with_reducible rfl))
 refine wpAnyH_take (i:=12) (oi:=_) (v:=?_) rfl Kr Kr Kr (fun _ _ _ h=>h) (Or.inl ⟨by rfl,?_⟩) (by assumption) ?_;rotate_left
 · (intro w hSw;(try dsimp only at hSw);first | (go_simp;done) | (go_simp;with_reducible rfl))
 refine wpAnyH_take (i:=13) (oi:=_) (v:=?_) rfl Kr Kr Kr (fun _ _ _ h=>h) (Or.inl ⟨by rfl,?_⟩) (by assumption) ?_;rotate_left
 · (intro w hSw;(try dsimp only at hSw);first | (go_simp;done) | (go_simp;with_reducible rfl))
 refine wpAnyH_take (i:=15) (oi:=_) (v:=?_) rfl Kr Kr Kr (fun _ _ _ h=>h) (Or.inl ⟨by rfl,?_⟩) (by assumption) ?_;rotate_left
 · (intro w hSw;(try dsimp only at hSw);first | (go_simp;done) | (go_simp;with_reducible rfl))
 refine wpAnyH_take (i:=16) (oi:=_) (v:=?_) rfl Kr Kr Kr (fun _ _ _ h=>h) (Or.inl ⟨by rfl,?_⟩) (by assumption) ?_;rotate_left
 · (intro w hSw;(try dsimp only at hSw);first | (go_simp;done) | (go_simp;with_reducible rfl))
 refine wpAnyH_ready (rs:=[0]) Kr Sp ?_;refine AllReadyH.cons (o:=_) rfl (fun K hK=>?_) AllReadyH.nil;go_simp
 refine hK.out _ _ ?_ (fun hHeld=>?_)
 · try dsimp only
   exact ⟨k1,k2,k4,k5,k6,k7⟩
 clear hK K;refine wpAnyH_ready (rs:=[3]) Kr Sp ?_;refine AllReadyH.cons (o:=_) rfl (fun K hK=>?_) AllReadyH.nil;go_simp
 go_at_call 147;(with_reducible refine (A6 _ hm HT.o.1.1).mono ?_);rintro e w5 ⟨rfl,rfl⟩
 go_wp2_with fail
 refine hK.out _ _ ?_ (fun hHeld=>?_)
 · try dsimp only
   exact ⟨k1,k2,k4,k5,k6,k7⟩
 clear hK K;refine wpAnyH_ready (rs:=[6]) Kr Sp ?_;refine AllReadyH.cons (o:=_) rfl (fun K hK=>?_) AllReadyH.nil;go_simp
 go_at_call 147;(with_reducible refine (A6 _ HLT.o.1.1 HT.o.1.2.1).mono ?_);rintro e w5 ⟨rfl,rfl⟩
 go_wp2_with fail
 refine hK.out _ _ ?_ (fun hHeld=>?_)
 · try dsimp only
   exact ⟨k1,k2,k4,k5,k6,k7⟩
 clear hK K;refine wpAnyH_ready (rs:=[10]) Kr Sp ?_;refine AllReadyH.cons (o:=_) rfl (fun K hK=>?_) AllReadyH.nil;go_simp
 go_at_call 147;(with_reducible refine (A6 _ HLT.o.1.2.1 HT.o.1.2.2.1).mono ?_);rintro e w5 ⟨rfl,rfl⟩
 go_wp2_with fail
 refine hK.out _ _ ?_ (fun hHeld=>?_)
 · try dsimp only
   exact ⟨k1,k2,k4,k5,k6,k7⟩
 clear hK K;refine wpAnyH_ready (rs:=[14]) Kr Sp ?_;refine AllReadyH.cons (o:=_) rfl (fun K hK=>?_) AllReadyH.nil;go_simp
 go_at_call 147;(with_reducible refine (A6 _ HLT.o.1.2.2 HT.o.1.2.2.2).mono ?_);rintro e w5 ⟨rfl,rfl⟩
 go_wp2_with fail
 refine hK.out _ _ ?_ (fun hHeld=>?_)
 · try dsimp only
   exact ⟨k1,k2,k4,k5,k6,k7⟩
 clear hK K;refine wpAnyH_ready (rs:=[17]) Kr Sp ?_;refine AllReadyH.cons (o:=_) rfl (fun K hK=>?_) AllReadyH.nil;go_simp
 go_at_call 66;(with_reducible refine HTI.o.mono ?_);rintro e w6 ⟨rfl,hb6⟩;replace k1:=Ab hb6 k1;replace k2:=Ab hb6 k2;replace k4:=Ab hb6 k4;replace k5:=Ab hb6 k5;replace k6:=Ab hb6 k6;replace k7:=Ab hb6 k7;have hg6:=HG.o.1.keep hb6;replace g0:=hg6.cell;replace gz:=hg6.thaw;replace gl:=Ae hg6;have HG6:=Ad (An hg6 hb6);clear hg6
 go_wp2_with fail
 refine hK.out _ _ ?_ (fun hHeld=>?_)
 · try dsimp only
   exact ⟨k1,k2,k4,k5,k6,k7⟩
 clear hK K;have HK6:=Ad (An k1 (An k2 (An k4 (An k5 (An k6 k7)))));refine wpAnyH_take (i:=18) (oi:=_) (v:=?_) rfl Kr Kr Kr (fun _ _ _ h=>h) (Or.inl ⟨by rfl,?_⟩) (by assumption) ?_;rotate_left
 · (intro w hSw;(try dsimp only at hSw);first | (go_simp;done) | (go_simp;with_reducible rfl))
 refine wpAnyH_ready (rs:=[19]) Kr Sp ?_;refine AllReadyH.cons (o:=_) rfl (fun K hK=>?_) AllReadyH.nil;go_simp
 refine hK.out _ _ ?_ (fun hHeld=>?_)
 · try dsimp only
   exact ⟨(Aw w6 ⟨g,0,none⟩ _).cell hng k1,(Aw w6 ⟨g,0,none⟩ _).cell hng k2,(Aw w6 ⟨g,0,none⟩ _).cell hng k4,(Aw w6 ⟨g,0,none⟩ _).cell hng k5,(Aw w6 ⟨g,0,none⟩ _).cell hng k6,(Aw w6 ⟨g,0,none⟩ _).cell hng k7⟩
 clear hK K;refine wpAnyH_done Kr ?_ _;refine NoPanic.normal ?_;first | go_returns | (go_wp2;go_returns) | refine bodyPost_ret (results_none rfl _ _ _) rfl ?_
 exact ⟨rfl,HG6.o.1.set M,DR (Aw w6 ⟨g,0,none⟩ (.int .u16 (M:Int))) (bt (bt HG.o.2.1 (Ai w0)) HG6.o.2)⟩
theorem Ms {d m:Nat} {c:Cm (d+1)} (h:m < 65536):C9 m c < 65536:=Wc (AJ (AJ (AJ (AJ h)))) (Bw _)
theorem FQ:∀ (d:Nat) (l:List (Cm d)) (m:Nat),m < 65536→CO d m l < 65536
 | 0,_,_,h=>h
 | d+1,l,m,h=>by
   rw [CO];exact La (fun m c k=>FQ d _ _ (FQ d _ _ (Ms k))) h
theorem R8 {d m k:Nat} {l:List (Cm (d+1))} (h:k < l.length):CO (d+1) m (l.take (k+1))=CO d (CO d (C9 (CO (d+1) m (l.take k)) (gd l k)) (gd l k).body) (gd l k).els:=by
 show (l.take (k+1)).foldl _ m=_
 rw [AT h,List.foldl_append];rfl
theorem Ql:∀ (d:Nat) {S:Nat→Prop} (g:Nat) (v:Value) (l:List (Cm d)) (m:Nat) (w:World) (_h:RL w S v l) (_hg:SetC w g m) (_hm:m < 65536) (_hs:∀ k,S k→¬ k=g),
 Calls Tryz.prog 163 #[v,.func (.func 177) #[] #[.pointer (some ⟨g,0,none⟩)]] w fun e w'=>e=.returned (.tuple #[])∧SetC w' g (CO d m l)∧Fr (fun k=>k=g) w w':=by
 intro d;induction d with
 | zero =>
   intro S g v l m w h hg hm hs;obtain rfl:=h.cm0;obtain ⟨a,c,rfl⟩:=h.form;have HO:=Ad hg;clear h hg hs;go_enter Tryz.func163,Tryz.ntmps163
   go_wp2;go_loopg [8] 1 (fun q i wr=>i=.int .i64 0∧wr=w)
   case atStart=>exact ⟨rfl,rfl⟩
   case round =>
    obtain ⟨rfl,rfl⟩:=hrel;go_wp2;go_returns;exact ⟨rfl,HO.o,Fr.refl _ _⟩
 | succ d ih =>
   intro S g v l m w h hg hm hs;obtain ⟨a,vcap,rfl,hq1,hq2,hc⟩:=h.cmAt;have HL:=Ad (An hq1 hq2);have F:=Ad hc;have IH:=Ad (fun (S:Nat→Prop) (v:Value) (l:List (Cm d)) (m:Nat) (w:World) (h:RL w S v l) (hg:SetC w g m) (hm:m < 65536) (hs:∀ k,S k→¬ k=g)=>ih (S:=S) g v l m w h hg hm hs);have HSH:=Ad hs;have HM0:=Ad hm;have HO:=Ad hg;clear h hc ih hs hg hq1 hq2 hm;go_enter Tryz.func163,Tryz.ntmps163
   go_wp2;go_loopg [8] l.length (fun q i wr=>∃ k:Nat,k+q=l.length∧i=.int .i64 (k:Int)∧SetC wr g (CO (d+1) m (l.take k))∧Fr (fun k=>k=g) w wr)
   case atStart=>exact ⟨0,by omega,rfl,HO.o,Fr.refl _ _⟩
   case round =>
    obtain ⟨k,hk,rfl,hset,hfr⟩:=hrel;have HK:=Ad hk;have hzs:=hfr.size;clear hk;by_cases hk8:k < l.length
    · obtain ⟨b,o,f1,f2,x,y,rfl,hSb,hbl,hcc,⟨g1,g2⟩,g3,g4⟩:=F.o k hk8
      obtain ⟨ia1,in1,rfl⟩:=g1.form;obtain ⟨ia2,in2,rfl⟩:=g2.form;obtain ⟨xa,xn,rfl⟩:=g3.form;obtain ⟨ya,yn,rfl⟩:=g4.form;obtain ⟨c,hck⟩:=Ex (gd l k);rw [hck] at g1 g2 hcc g3 g4;have hst:=R8 (m:=m) hk8;rw [hck] at hst;have hbg:¬ b=g:=HSH.o b hSb;have hkept:∀ {i:Nat} {u:Value},(Cq c.kind c.a c.b c.test (.slice ia1 c.inv.1.length in1) (.slice ia2 c.inv.2.length in2) (.slice xa c.body.length xn) (.slice ya c.els.length yn))[i]?=some u→wr.cell? ⟨b,o+k * 10+i,none⟩=some u:=fun hi=>hfr.cell (by simpa using hbg) (hcc _ _ hi);obtain ⟨M0,hM0⟩:=Ex (CO (d+1) m (l.take k));(have hm0:M0 < 65536:=by rw [← hM0];exact FQ _ _ _ HM0.o);rw [hM0] at hst hset;obtain ⟨M1,hM1⟩:=Ex (C9 M0 c);(have hm1:M1 < 65536:=by rw [← hM1];exact Ms hm0);rw [hM1] at hst;have p0:wr.cell? ⟨b,o+k * 10,none⟩=some (.int .i64 c.kind):=hkept (i:=0) rfl;have p1:=hkept (i:=1) rfl;have p2:=hkept (i:=2) rfl;have p3:=hkept (i:=3) rfl;have p4:=hkept (i:=4) rfl;have p5:=hkept (i:=5) rfl;have p6:=hkept (i:=6) rfl;have p7:=hkept (i:=7) rfl;have p8:=hkept (i:=8) rfl;have p9:=hkept (i:=9) rfl;(have i1:(k:Int) < (l.length:Int):=by omega);(have hzb:b < wr.heap.size:=by omega);have far:∀ j,j < w.heap.size→S j→¬ (fun j=>j=g) j:=fun j _ hj e=>HSH.o j hj e;obtain ⟨wb,hwb⟩:=Ey (wr.alloc (.cells #[.int .i64 c.kind,.int .i64 c.a,.int .i64 c.b,.bool c.test.1,.int .i64 c.test.2.1,.int .i64 c.test.2.2,.slice ia1 c.inv.1.length in1,.slice ia2 c.inv.2.length in2,.slice xa c.body.length xn,.slice ya c.els.length yn] 63));(have hbx:wb.heap[wr.heap.size]?=some (.cells #[.int .i64 c.kind,.int .i64 c.a,.int .i64 c.b,.bool c.test.1,.int .i64 c.test.2.1,.int .i64 c.test.2.2,.slice ia1 c.inv.1.length in1,.slice ia2 c.inv.2.length in2,.slice xa c.body.length xn,.slice ya c.els.length yn] 63 (0,0)):=by rw [hwb];exact heap_alloc_new wr _);(have hbb:Below wr.heap.size wr wb:=by rw [hwb];exact Aa _ _);have hgl:=Ae hset;have HG:=Ad (An (An ((g3.kept hfr far).keep hbb) ((g4.kept hfr far).keep hbb)) (An hst hM1));have HC:=Ad (OJ c.kind c.a c.b c.test.2.1 c.test.2.2 c.test.1 (.slice ia1 c.inv.1.length in1) (.slice ia2 c.inv.2.length in2) (.slice xa c.body.length xn) (.slice ya c.els.length yn) _ g M0 M1 wb (hset.keep hbb) hm0 ((g1.kept hfr far).keep hbb) ((g2.kept hfr far).keep hbb) hM1);have HB:=Ad (An hbx (An hbb (show ¬ wr.heap.size=g by omega)));have HF:=Ad (An hfr (An hm1 (An hk8 hgl)));have HWB:=Ad hwb;clear g1 g2 hst hkept g3 g4 hcc hck hM0 hM1 hfr far hset hbx hbb hwb hm0 hm1;(go_upto_region 3 with fail);rw [← HWB.o];obtain ⟨k0,k1,k2,k3,k4,k5,k6,k7,k8,k9⟩:=Dk HB.o.1;have kl:=Ae HB.o.1;clear p0 p1 p2 p3 p4 p5 p6 p7 p8 p9;go_upto_region 4 with (go_at_call 177;refine HC.o.mono ?_;rintro e w5 ⟨rfl,hs5,hf5⟩)
      have hx5:=AA HB.o.1 hf5 HB.o.2.2;have hfar:∀ j,j < wb.heap.size→S j→¬ (fun j=>j=g) j:=fun j _ hj e=>HSH.o j hj e;have H5:=Ad (An (An (HG.o.1.1.kept hf5 hfar) (HG.o.1.2.kept hf5 hfar)) (An hs5 (An hf5 hx5)));clear k0 k1 k2 k3 k4 k5 k6 k7 k8 k9 kl hf5 hs5 hx5 hfar;have k8:=cr 8 H5.o.2.2.2;have kl:=Ae H5.o.2.2.2;(go_wp2_with fail);refine (IH.o S _ c.body M1 _ H5.o.1.1 H5.o.2.1 HF.o.2.1 HSH.o).mono ?_;rintro e w6 ⟨rfl,hs6,hf6⟩;have hx6:=AA H5.o.2.2.2 hf6 HB.o.2.2;have hfar:∀ j,j < w5.heap.size→S j→¬ (fun j=>j=g) j:=fun j _ hj e=>HSH.o j hj e;have H6:=Ad (An (H5.o.1.2.kept hf6 hfar) (An hs6 (An (H5.o.2.2.1.trans hf6) hx6)));clear k8 kl hf6 hs6 hx6 hfar;have k9:=cr 9 H6.o.2.2.2;have kl:=Ae H6.o.2.2.2;(go_wp2_with fail);refine (IH.o S _ c.els _ _ H6.o.1 H6.o.2.1 (FQ _ _ _ HF.o.2.1) HSH.o).mono ?_;rintro e w7 ⟨rfl,hs7,hf7⟩;have H7:=Ad (An hs7 (HF.o.1.trans (DR (H6.o.2.2.1.trans hf7) (HB.o.2.1))));clear k9 kl hf7 hs7;go_wp2;go_roundg (gk - 1)
      case rel=>exact ⟨k+1,WF HK.o HF.o.2.2.1,Mq HF.o.2.2.1 HL.o.1 HL.o.2,by rw [HG.o.2.1];exact H7.o.1,H7.o.2⟩
      case measure=>exact WG HK.o HF.o.2.2.1
    · obtain rfl:k=l.length:=by have:=HK.o;omega
      rw [List.take_length] at hset;go_wp2;go_returns;exact ⟨rfl,hset,hfr⟩
theorem Nf (d:Nat) {S:Nat→Prop} (v:Value) (l:List (Cm d)) (w:World) (h:RL w S v l) :
 Calls Tryz.prog 105 #[v] w fun e w'=>e=.returned (.int .u16 ((Ds (CO d 0 l):Nat):Int))∧Below w.heap.size w w':=by
 obtain ⟨a,c,rfl⟩:=h.form;have hb0:=Aa w (.cells #[.int .u16 ((0:Nat):Int)] 108);have hg0:SetC (w.alloc (.cells #[.int .u16 ((0:Nat):Int)] 108)) w.heap.size 0:=heap_alloc_new w _;have H:=Ad (An (Ql d w.heap.size _ l 0 _ ((h.more (S':=fun k=>k < w.heap.size) fun k hk _=>hk).keep hb0) hg0 Dc (fun k hk e=>by have h1:k < w.heap.size:=hk;omega)) hb0);clear h hb0 hg0;go_enter Tryz.func105,Tryz.ntmps105
 go_wp2_with fail
 refine H.o.1.mono ?_;rintro e w5 ⟨rfl,hs5,hf5⟩;have c0:=hs5.cell;have cl:=Ae hs5;have HB:=Ad (H.o.2.trans (hf5.below Sp fun k hk e=>by have e2:k=w.heap.size:=e;omega));clear hs5 hf5;go_wp2_with fail
 refine (JG _ _ (FQ d l 0 Dc)).mono ?_;rintro e w6 ⟨rfl,rfl⟩;go_wp2;go_returns;exact ⟨rfl,HB.o⟩
def ExB (w:World) (b m:Nat) (v1 v2:Value) (row:Array Value):Prop :=
 (w.heap[b]?=some (.cells #[.int .u16 (m:Int),.bool true] 150 (0,0))∧w.heap[b+1]?=some (.cells #[v1,v2] 26 (0,0)))∧w.heap[b+2]?=some (.cells row 63 (0,0))
theorem ExB.keep {w w':World} {b m:Nat} {v1 v2:Value} {row:Array Value} (h:ExB w b m v1 v2 row) (hb:Below w.heap.size w w'):ExB w' b m v1 v2 row:=⟨⟨Ac h.1.1 hb,Ac h.1.2 hb⟩,Ac h.2 hb⟩
theorem ExB.kept {w w':World} {b m:Nat} {v1 v2:Value} {row:Array Value} {F:Nat→Prop} (h:ExB w b m v1 v2 row) (hf:Fr F w w') (hF:∀ k,b≤k→k≤b+2→¬ F k):ExB w' b m v1 v2 row:=⟨⟨AA h.1.1 hf (hF _ Om Om),AA h.1.2 hf (hF _ Om Om)⟩,AA h.2 hf (hF _ Om Om)⟩
theorem Kc (w:World) (m:Nat) (v1 v2:Value) (row:Array Value):ExB (((w.alloc (.cells #[.int .u16 (m:Int),.bool true] 150)).alloc (.cells #[v1,v2] 26)).alloc (.cells row 63)) w.heap.size m v1 v2 row:=by
 refine ⟨⟨Ac (Ac (heap_alloc_new w _) (Aa _ _)) (Aa _ _),?_⟩,?_⟩
 · have:=heap_alloc_new (w.alloc (.cells #[.int .u16 (m:Int),.bool true] 150)) (.cells #[v1,v2] 26)
   rw [World.size_alloc] at this;exact Ac this (Aa _ _)
 · have:=heap_alloc_new ((w.alloc (.cells #[.int .u16 (m:Int),.bool true] 150)).alloc (.cells #[v1,v2] 26)) (.cells row 63)
   rw [World.size_alloc,World.size_alloc] at this;exact this
theorem GV (w:World) (m:Nat) (v1 v2:Value) (row:Array Value):Below w.heap.size w (((w.alloc (.cells #[.int .u16 (m:Int),.bool true] 150)).alloc (.cells #[v1,v2] 26)).alloc (.cells row 63)):=ba (ba (Aa _ _) _) _
def OK (m d:Nat):Prop:=∀ (S1 S2 S:Nat→Prop) (v1 v2 v:Value) (a:Aj) (l:List (Cm d)) (D:Int) (w:World) (_h1:RL w S1 v1 a.1) (_h2:RL w S2 v2 a.2) (_h:RL w S v l) (_ha:Ah a=true) (_hs:AZ d l D=true),
    Calls Tryz.prog 184 #[.agg #[.int .u16 (m:Int),.bool true],.agg #[v1,v2],v] w (VR (BE m d l [a]) w)
theorem R9 {m d:Nat} (IH:OK m d) {S1 S2 S:Nat→Prop} (v1 v2 f1 f2 x y:Value) (c:Cm (d+1)) (D:Int) (w:World) (h1:RL w S1 v1 c.inv.1) (h2:RL w S2 v2 c.inv.2) (hf1:∃ a n k,f1=.slice a n k) (hf2:∃ a n k,f2=.slice a n k) (hx:RL w S x c.body) (hy:∃ a n k,y=.slice a n k) (hi:Ah c.inv=true) (hs:AZ d c.body D=true) :
 Calls Tryz.prog 107 #[.agg #[.int .u16 (m:Int),.bool true],.agg #[v1,v2],.agg #[.int .i64 c.kind,.int .i64 c.a,.int .i64 c.b,.bool c.test.1,.int .i64 c.test.2.1,.int .i64 c.test.2.2,f1,f2,x,y]] w fun e w'=>e=.returned (.bool (F3 (fun s=>BE m d c.body [s]) c.inv c.test))∧Below w.heap.size w w':=by
 have hsz:=Co hi;obtain ⟨p1,q1,rfl⟩:=h1.form;obtain ⟨p2,q2,rfl⟩:=h2.form;obtain ⟨a3,n3,c3,rfl⟩:=hf1;obtain ⟨a4,n4,c4,rfl⟩:=hf2;obtain ⟨a5,c5,rfl⟩:=hx.form;obtain ⟨a6,n6,c6,rfl⟩:=hy;obtain ⟨K,hK⟩:∃ K,F3 (fun s=>BE m d c.body [s]) c.inv c.test=K:=⟨_,rfl⟩;rw [hK];obtain ⟨A,hA⟩:=Ex (B7 c.inv c.test);obtain ⟨T,hT⟩:=Ex (BE m d c.body [A]);rw [F3,hA,hT] at hK;have hcell:=Kc w m (.slice p1 c.inv.1.length q1) (.slice p2 c.inv.2.length q2) #[.int .i64 c.kind,.int .i64 c.a,.int .i64 c.b,.bool c.test.1,.int .i64 c.test.2.1,.int .i64 c.test.2.2,.slice a3 n3 c3,.slice a4 n4 c4,.slice a5 c.body.length c5,.slice a6 n6 c6];have hb0:=GV w m (.slice p1 c.inv.1.length q1) (.slice p2 c.inv.2.length q2) #[.int .i64 c.kind,.int .i64 c.a,.int .i64 c.b,.bool c.test.1,.int .i64 c.test.2.1,.int .i64 c.test.2.2,.slice a3 n3 c3,.slice a4 n4 c4,.slice a5 c.body.length c5,.slice a6 n6 c6];obtain ⟨w0,hw0⟩:=Ey (((w.alloc (.cells #[.int .u16 (m:Int),.bool true] 150)).alloc (.cells #[.slice p1 c.inv.1.length q1,.slice p2 c.inv.2.length q2] 26)).alloc (.cells #[.int .i64 c.kind,.int .i64 c.a,.int .i64 c.b,.bool c.test.1,.int .i64 c.test.2.1,.int .i64 c.test.2.2,.slice a3 n3 c3,.slice a4 n4 c4,.slice a5 c.body.length c5,.slice a6 n6 c6] 63));rw [← hw0] at hcell hb0;have HW0:=Ad hw0;have H0:=Ad (An (An (h1.keep hb0) (h2.keep hb0)) (An (hx.keep hb0) (An hcell hb0)));have HP:=Ad (An hsz (An hA (An hT hs)));have HK:=Ad hK;have HIH:=Ad IH;obtain ⟨b0,b1,bl⟩:=B3 hcell.1.2;obtain ⟨k0,k1,k2,k3,k4,k5,k6,k7,k8,k9⟩:=Dk hcell.2;have kl:=Ae hcell.2;clear hcell hb0 hw0 h1 h2 hx hsz hA hT hs hK hi IH;go_enter Tryz.func107,Tryz.ntmps107
 go_upto_region 1 with fail
 rw [← HW0.o];go_wp2_with fail
 refine (Ek _ _ c.inv c.test _ H0.o.1.1 H0.o.1.2 HP.o.1).mono ?_;rw [HP.o.2.1];rintro e w1 ⟨u1,u2,rfl,oa,hb1⟩;obtain ⟨r1,r2⟩:=OA.fe oa;obtain ⟨y1,j1,z1,rfl⟩:=r1.forms;obtain ⟨y2,j2,z2,rfl⟩:=r2.forms;obtain ⟨W,hW⟩:=Ey (w1.alloc (.cells #[.slice y1 j1 z1,.slice y2 j2 z2] 26));have hbW:Below w1.heap.size w1 W:=by rw [hW];exact Aa _ _
 have hst:W.heap[w1.heap.size]?=some (.cells #[.slice y1 j1 z1,.slice y2 j2 z2] 26 (0,0)):=by rw [hW];exact heap_alloc_new _ _
 have HW:=Ad hW;have H1:=Ad (An (An (r1.rl.keep hbW) (r2.rl.keep hbW)) (An (An ((H0.o.2.1.keep hb1).keep hbW) (An ((H0.o.1.1.keep hb1).keep hbW) ((H0.o.1.2.keep hb1).keep hbW))) (An (An ((H0.o.2.2.1.keep hb1).keep hbW) hst) (bt (bt H0.o.2.2.2 hb1) hbW))));obtain ⟨s0,s1,sl⟩:=B3 hst;clear oa r1 r2 hb1 hbW hst hW b0 b1 bl k0 k1 k2 k3 k4 k5 k6 k7 k8 k9 kl;go_upto_region 2 with fail
 rw [← HW.o];go_wp2_with fail
 refine (Aq _ _ A _ H1.o.1.1 H1.o.1.2).mono ?_;rintro e w2 ⟨rfl,hb2⟩;have H2:=Ad (An (An (H1.o.1.1.keep hb2) (H1.o.1.2.keep hb2)) (An (An (H1.o.2.1.1.keep hb2) (An (H1.o.2.1.2.1.keep hb2) (H1.o.2.1.2.2.keep hb2))) (An (An (H1.o.2.2.1.1.keep hb2) (Ac H1.o.2.2.1.2 hb2)) (bt H1.o.2.2.2 hb2))));obtain ⟨s0,s1,sl⟩:=B3 H2.o.2.2.1.2;clear hb2;cases hv:Ah A with
 | false =>
   have HE:=Ad (show K=false by rw [← HK.o,hv];rfl);clear hv;go_wp2;go_ret;exact ⟨by rw [HE.o];rfl,H2.o.2.2.2⟩
 | true =>
   have HV:=Ad hv;clear hv;(go_wp2_with fail);refine (C1 _ _ A _ H2.o.1.1 H2.o.1.2).mono ?_;rintro e w3 ⟨rfl,hb3⟩;have H3:=Ad (An (An (H2.o.1.1.keep hb3) (H2.o.1.2.keep hb3)) (An (An (H2.o.2.1.1.keep hb3) (An (H2.o.2.1.2.1.keep hb3) (H2.o.2.1.2.2.keep hb3))) (An (An (H2.o.2.2.1.1.keep hb3) (Ac H2.o.2.2.1.2 hb3)) (bt H2.o.2.2.2 hb3))));obtain ⟨s0,s1,sl⟩:=B3 H3.o.2.2.1.2;obtain ⟨e0,e1,el⟩:=B3 H3.o.2.2.1.1.1.1;obtain ⟨k0,k1,k2,k3,k4,k5,k6,k7,k8,k9⟩:=Dk H3.o.2.2.1.1.2;have kl:=Ae H3.o.2.2.1.1.2;clear hb3;cases hc:Cl A with
   | false =>
     have HE:=Ad (show K=true by rw [← HK.o,HV.o,hc];rfl);clear hc;go_wp2;go_ret;exact ⟨by rw [HE.o];rfl,H3.o.2.2.2⟩
   | true =>
     have HC:=Ad (show K=((T.1 == 0) && T.2.all fun p=>Cp p c.inv) by rw [← HK.o,HV.o,hc];rfl);clear hc;(go_wp2_with fail);refine (HIH.o _ _ _ _ _ _ A c.body D _ H3.o.1.1 H3.o.1.2 H3.o.2.1.1 HV.o HP.o.2.2.2).mono ?_;rw [HP.o.2.2.1];rintro e w4 ⟨r,rfl,hr,hb4⟩;(obtain ⟨ra,rn,rc,rfl⟩:∃ a n k,r=.slice a n k:=by obtain ⟨a,k,h⟩:=hr.form;exact ⟨_,_,_,h⟩);have H4:=Ad (An (An hr (An (H3.o.2.1.2.1.keep hb4) (H3.o.2.1.2.2.keep hb4))) (An (H3.o.2.2.1.1.keep hb4) (bt H3.o.2.2.2 hb4)));obtain ⟨b0,b1,bl⟩:=B3 H4.o.2.1.1.2;clear hr hb4 s0 s1 sl e0 e1 el k0 k1 k2 k3 k4 k5 k6 k7 k8 k9 kl;by_cases h0:T.1=0
     · have y0:(T.1 == 0)=true:=beq_iff_eq.2 h0
       have HE:=Ad (show (T.2.all fun p=>Cp p c.inv)=K by rw [HC.o,y0,Bool.true_and]);clear h0;(go_wp2_with fail);refine (G9 _ _ _ T.2 c.inv _ H4.o.1.1 H4.o.1.2.1 H4.o.1.2.2).mono ?_;rw [HE.o];rintro e w5 ⟨rfl,hb5⟩;have HB:=Ad (bt H4.o.2.2 hb5);clear hb5;go_wp2;go_ret;exact ⟨rfl,HB.o⟩
     · have y0:(T.1 == 0)=false:=beq_eq_false_iff_ne.2 h0
       have HE:=Ad (show K=false by rw [HC.o,y0,Bool.false_and]);clear h0;go_wp2;go_ret;exact ⟨by rw [HE.o];rfl,H4.o.2.2⟩
end Go.Proofs.YtkbbmjcfgcfejaaGreat
