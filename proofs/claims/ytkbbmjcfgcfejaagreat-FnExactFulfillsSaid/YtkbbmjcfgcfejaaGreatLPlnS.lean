/- Walks: a program variable forgotten (spec.l10Forget); contracts are valid (spec.ContractValid). -/
import Derived.Test.YtkbbmjcfgcfejaaGreatLOpnS
set_option linter.unusedVariables false
set_option linter.unusedSimpArgs false
set_option maxRecDepth 100000
set_option maxHeartbeats 12800000
namespace Go.Proofs.YtkbbmjcfgcfejaaGreat
open Go.RowKit
def OZ (a:Aj) (x:Int) (m:Nat):Aj × Int:=(AU a x m).getD (Cb a x 0,0)
theorem GD {S1 S2:Nat→Prop} (v1 v2 bv:Value) (a:Aj) (x:Nat) (m B:Nat) (w:World) (h1:RL w S1 v1 a.1) (h2:RL w S2 v2 a.2) (ho:w.ownsRow B 4 1 bv 9 (Av m)) (ha:Ah a=true) (hx:x≤8) :
 Calls Tryz.prog 77 #[.agg #[v1,v2],.int .i64 (x:Int),bv] w fun e w'=>∃ x1 x2,e=.returned (.tuple #[.agg #[x1,x2],.int .i64 (OZ a x m).2,.bool (AU a x m).isSome])∧(RL w' (fun k=>S1 k∨w.heap.size≤k) x1 (OZ a x m).1.1∧RL w' (fun k=>S2 k∨w.heap.size≤k) x2 (OZ a x m).1.2)∧Below w.heap.size w w':=by
 obtain ⟨p1,c1,rfl⟩:=h1.form;obtain ⟨p2,c2,rfl⟩:=h2.form;obtain ⟨g,cap,rfl⟩:=B8 ho;obtain ⟨w0,hw0⟩:=Ey ((w.alloc (.cells #[.slice p1 a.1.length c1,.slice p2 a.2.length c2] 26)).alloc (.cells #[.slice none 0 0,.slice none 0 0] 26));have hA:w0.heap[w.heap.size]?=some (.cells #[.slice p1 a.1.length c1,.slice p2 a.2.length c2] 26 (0,0)):=by
  rw [hw0];exact Ac (heap_alloc_new w _) (Aa _ _)
 have hR:w0.heap[w.heap.size+1]?=some (.cells #[.slice none 0 0,.slice none 0 0] 26 (0,0)):=by
  rw [hw0];have:=heap_alloc_new (w.alloc (.cells #[.slice p1 a.1.length c1,.slice p2 a.2.length c2] 26)) (.cells #[.slice none 0 0,.slice none 0 0] 26);simpa using this
 have hW:Below w.heap.size w w0:=by rw [hw0];exact ba (Aa _ _) _
 have hall:a.1.all AH=true∧a.2.all AQ=true:=⟨List.all_eq_true.2 (AL ha).1,List.all_eq_true.2 (AL ha).2⟩;have hle:=DY ha;have HW0:=Ad hw0;have H0:=Ad (An (An hA hR) (An hW (An (An ((h1.more (S':=fun k=>k < w.heap.size∧S1 k) fun k hk h=>⟨hk,h⟩).keep hW) ((h2.more (S':=fun k=>k < w.heap.size∧S2 k) fun k hk h=>⟨hk,h⟩).keep hW)) (Ag ho hW))));obtain ⟨T,hT⟩:=Ex (Ak a);have hf:AU a x m=if T.testBit x=true then (D2 (T ||| m)).map fun n=>(Cb a x n,n) else some (a,(x:Int)):=by
  rw [AU,hT,AN,WA hx,Bool.true_and,Int.toNat_natCast]
 obtain ⟨b,hb⟩:=Ex (T.testBit x);rw [hb] at hf;have HP:=Ad (An hall (An hT (An hb (An ha hle))));have HF:=Ad hf;have hx9:(x:Int) < 9:=by omega
 clear hA hR hW hw0 h1 h2 ho ha hall hle hT hf hb;go_enter Tryz.func77,Tryz.ntmps77
 go_wp2_with fail
 rw [← HW0.o];refine (BQ _ _ a _ H0.o.2.2.1.1 H0.o.2.2.1.2 HP.o.1.1 HP.o.1.2).mono ?_;rw [HP.o.2.1];rintro e w1 ⟨v,rfl,hv,hb1⟩;obtain ⟨f,fc,rfl⟩:=B8 hv;have x1:w1.cell? ⟨f,x,none⟩=some (.bool b):=by
  have:=hv.cellAt x Om;rw [AP T x Om,HP.o.2.2.1] at this;simpa using this
 have H1:=Ad (An (An (Ac H0.o.1.1 hb1) (Ac H0.o.1.2 hb1)) (An (bt H0.o.2.1 hb1) (An (An (H0.o.2.2.1.1.keep hb1) (H0.o.2.2.1.2.keep hb1)) (Ag H0.o.2.2.2 hb1))));obtain ⟨a0,a1,al⟩:=B3 H1.o.1.1;clear hv hb1 H0;cases b with
 | false =>
   (have hr:AU a x m=some (a,(x:Int)):=by rw [HF.o,if_neg (by decide)]);obtain ⟨r0,r1,rz,rl⟩:=B4 H1.o.1.2;have rr:=Au (.slice p1 a.1.length c1) (.slice p2 a.2.length c2) r0 r1;have far:∀ (S:Nat→Prop) (k:Nat),k < w1.heap.size→(fun k=>k < w.heap.size∧S k) k→¬ (fun j=>j=w.heap.size+1) k:=fun S k _ hs e=>by
    have h2:k < w.heap.size:=hs.1;have e2:k=w.heap.size+1:=e;omega
   have hset:=El w1 (w.heap.size+1) (.slice p1 a.1.length c1) (.slice p2 a.2.length c2);have HQ:=Ad (An hr (An (An ((H1.o.2.2.1.1.kept hset (far S1)).more (S':=fun k=>S1 k∨w.heap.size≤k) fun k _ h=>.inl h.2) ((H1.o.2.2.1.2.kept hset (far S2)).more (S':=fun k=>S2 k∨w.heap.size≤k) fun k _ h=>.inl h.2)) ((H1.o.2.1.setCell (p:=⟨w.heap.size+1,0,none⟩) Sp (.slice p1 a.1.length c1)).setCell (p:=⟨w.heap.size+1,1,none⟩) Sp (.slice p2 a.2.length c2))));clear hr far hset;go_wp2;refine bodyPost_ret (v:=.tuple #[.agg #[.slice p1 a.1.length c1,.slice p2 a.2.length c2],.int .i64 (x:Int),.bool true]) (by simp [results,Tryz.results77,go_sem,rr.1,rr.2]) rfl ?_;rw [OZ,HQ.o.1];exact ⟨_,_,rfl,HQ.o.2⟩
 | true =>
   have hr:=HF.o;rw [if_pos rfl] at hr;obtain ⟨N,hN⟩:=Ex (D2 (T ||| m));rw [hN] at hr;have hnw:=Lm _ _ _ a m B w1 H1.o.2.2.1.1 H1.o.2.2.1.2 H1.o.2.2.2 HP.o.2.2.2.1;rw [HP.o.2.1,hN] at hnw;have HN:=Ad hnw;have hfs:OZ a x m=(Cb a x (N.getD 0),N.getD 0)∧(AU a x m).isSome=N.isSome:=by
    rw [OZ,hr];cases N <;> exact ⟨rfl,rfl⟩
   have HR:=Ad hfs;clear hr hnw hN hfs;(go_wp2_with fail);refine HN.o.mono ?_;rintro e w2 ⟨rfl,hb2⟩;have H2:=Ad (An (An (Ac H1.o.1.1 hb2) (Ac H1.o.1.2 hb2)) (An (bt H1.o.2.1 hb2) (An (H1.o.2.2.1.1.keep hb2) (H1.o.2.2.1.2.keep hb2))));clear hb2 a0 a1 al HN x1;obtain ⟨n,hn⟩:=Ex (N.getD 0);rw [show Uo N=.int .i64 n from by rw [Uo,hn]];have HNN:=Ad hn;clear hn;obtain ⟨a0,a1,al⟩:=B3 H2.o.1.1;obtain ⟨oo,hoo⟩:=Ex (N.isSome);rw [hoo];have HO:=Ad hoo;clear hoo;(go_wp2_with fail);refine (JF _ _ a (x:Int) n _ H2.o.2.2.1 H2.o.2.2.2 (by have:=HP.o.2.2.2.2;omega) (by have:=HP.o.2.2.2.2;omega)).mono ?_;rintro e w3 ⟨y1,y2,rfl,⟨q1,q2⟩,hb3⟩;obtain ⟨d1,m1,e1,rfl⟩:=q1.forms;obtain ⟨d2,m2,e2,rfl⟩:=q2.forms;have hR:=Ac H2.o.1.2 hb3;obtain ⟨r0,r1,rz,rl⟩:=B4 hR;have rr:=Au (.slice d1 m1 e1) (.slice d2 m2 e2) r0 r1;have HQ:=Ad (An (An ((q1.set2 (x:=.slice d1 m1 e1) (y:=.slice d2 m2 e2) hR Dc).rl.more (S':=fun k=>S1 k∨w.heap.size≤k) fun k _ h=>.inr (Nat.le_trans H2.o.2.1.size h)) ((q2.set2 (x:=.slice d1 m1 e1) (y:=.slice d2 m2 e2) hR Dc).rl.more (S':=fun k=>S2 k∨w.heap.size≤k) fun k _ h=>.inr (Nat.le_trans H2.o.2.1.size h))) (((bt H2.o.2.1 hb3).setCell (p:=⟨w.heap.size+1,0,none⟩) Sp (.slice d1 m1 e1)).setCell (p:=⟨w.heap.size+1,1,none⟩) Sp (.slice d2 m2 e2)));clear q1 q2 hb3 hR a0 a1 al;go_wp2;refine bodyPost_ret (v:=.tuple #[.agg #[.slice d1 m1 e1,.slice d2 m2 e2],.int .i64 n,.bool oo]) (by simp [results,Tryz.results77,go_sem,rr.1,rr.2]) rfl ?_;rw [HR.o.1,HR.o.2,HNN.o,HO.o];exact ⟨_,_,rfl,HQ.o⟩
theorem FV {n:Int} {b:Bool} (w:World) (h:BP n=b):Calls Tryz.prog 154 #[.int .i64 n] w fun e w'=>e=.returned (.bool b)∧w=w':=h ▸ FC n w
theorem E9 {S:Nat→Prop} (p1 p2 q1 q2 ch:Value) (k:Q1) (w:World) (h:RCon w S p1 p2 q1 q2 ch k) :
 Calls Tryz.prog 72 #[.agg #[p1,p2,q1,q2,ch]] w fun e w'=>e=.returned (.bool (PM k))∧Below w.heap.size w w':=by
 obtain ⟨⟨a1,a2⟩,⟨b1,b2⟩,l⟩:=k;have hk0:PM ((a1,a2),(b1,b2),l)=(Ah (a1,a2) && (Ah (b1,b2) && KI l)):=rfl;obtain ⟨x1,y1,rfl⟩:=h.pre1.form;obtain ⟨x2,y2,rfl⟩:=h.pre2.form;obtain ⟨x3,y3,rfl⟩:=h.post1.form;obtain ⟨x4,y4,rfl⟩:=h.post2.form;obtain ⟨x5,y5,rfl⟩:=h.chg.form;have hb0:=Aa w (.cells #[.slice x1 a1.length y1,.slice x2 a2.length y2,.slice x3 b1.length y3,.slice x4 b2.length y4,.slice x5 l.length y5] 29);have hK:=Iq w (.slice x1 a1.length y1) (.slice x2 a2.length y2) (.slice x3 b1.length y3) (.slice x4 b2.length y4) (.slice x5 l.length y5);have hlm:=h.chg.len;unfold maxLen at hlm;obtain ⟨W,hWd⟩:=Ey (w.alloc (.cells #[.slice x1 a1.length y1,.slice x2 a2.length y2,.slice x3 b1.length y3,.slice x4 b2.length y4,.slice x5 l.length y5] 29));rw [← hWd] at hb0 hK;have HW:=Ad hWd;have H0:=Ad (An hK (An (h.keep hb0) hb0));have HC:=Ad (h.keep hb0).chg.ints.cells;clear hK hb0 h hWd;obtain ⟨A,hA⟩:=Ex (Ah (a1,a2));obtain ⟨B,hB⟩:=Ex (Ah (b1,b2));rw [hA,hB] at hk0;have HAB:=Ad (An hA (An hB hk0));clear hA hB hk0;go_enter Tryz.func72,Tryz.ntmps72
 go_wp2;rw [← HW.o];go_loopg [3] l.length (fun q i wr=>∃ j:Nat,j+q=l.length∧i=.int .i64 j∧(∀ i,i < j→EG l i=true)∧Below W.heap.size W wr)
 case atStart=>exact ⟨0,by omega,rfl,fun i hi=>absurd hi Om,Below.refl _ _⟩
 case round =>
  obtain ⟨j,hj,rfl,hst,hbw⟩:=hrel;have HJ:=Ad (An hj hst);have H1:=Ad (An (H0.o.1.keep hbw) (An (H0.o.2.1.keep hbw) (An (bt H0.o.2.2 hbw) hbw)));clear hj hst;obtain ⟨k0,k1,k2,k3,k4⟩:=H1.o.1.cells;have kl:=H1.o.1.lt;by_cases hj8:j < l.length
  · have hji:(j:Int) < (l.length:Int):=by omega
    obtain ⟨xa,xc,hxe,hcell⟩:=HC.o;simp only [Value.slice.injEq] at hxe;obtain ⟨rfl,_,rfl⟩:=hxe;obtain ⟨b,o,rfl,hzb0,hck⟩:=hcell j hj8;replace hck:=Ab hbw hck;have hzb:=World.block_lt_of_cell? wr _ hck;simp only at hzb;obtain ⟨x,hx⟩:=Ex (gi l j);rw [hx] at hck;obtain ⟨P,hP⟩:=Ex (BP x);have HP:=Ad (An hP hx);cases P with
    | false =>
      have hbad:=Ip (l:=l) hj8 (show EG l j=false by rw [EG,HP.o.2,HP.o.1];rfl);have HBD:=Ad hbad;clear hcell hx hP hbad;(go_upto_region 4 with fail);refine Af Kr Kr ?_;repeat (go_big_quiet_step (first | (go_at_call 154;exact BA (FV _ HP.o.1))))
      refine wpQuiet_nil ?_;intro w6 hb6;go_wp2;go_returns;exact ⟨by rw [HAB.o.2.2,HBD.o];simp,bt H1.o.2.2.1 hb6⟩
    | true =>
      (have hx1:1≤x:=by have h1:=HP.o.1;simp [BP] at h1;omega);have HX1:=Ad hx1;clear hx1;by_cases h0:0 < j
      · obtain ⟨i,rfl⟩:∃ i,j=i+1:=⟨j - 1,by omega⟩
        (have hz0:(0:Int) < ((i+1:Nat):Int):=by omega);have hck2:=Ab hbw (by have:=hcell i Om;obtain ⟨b',o',he,_,h⟩:=this;simp only [Option.some.injEq,Addr.mk.injEq] at he;obtain ⟨rfl,rfl,_⟩:=he;exact h);obtain ⟨z,hz⟩:=Ex (gi l i);rw [hz] at hck2;(have hsp:EG l (i+1)=decide (z < x):=by rw [EG,HP.o.2,HP.o.1,Bool.true_and,N4,hz]);have HS:=Ad (An hsp hz);clear hcell hx hP hsp hz;by_cases hzx:x≤z
        · have hbad:=Ip (l:=l) hj8 (show EG l (i+1)=false by rw [HS.o.1,decide_eq_false (by omega)])
          have HBD:=Ad hbad;clear hbad;(go_upto_region 4 with fail);refine Af Kr Kr ?_;repeat (go_big_quiet_step (first | (go_at_call 154;exact BA (FV _ HP.o.1))))
          refine wpQuiet_nil ?_;intro w6 hb6;go_wp2;go_returns;exact ⟨by rw [HAB.o.2.2,HBD.o];simp,bt H1.o.2.2.1 hb6⟩
        · have HG:=Ad (show EG l (i+1)=true by rw [HS.o.1,decide_eq_true (by omega)])
          (go_upto_region 4 with fail);refine Af Kr Kr ?_;repeat (go_big_quiet_step (first | (go_at_call 154;exact BA (FV _ HP.o.1))))
          refine wpQuiet_nil ?_;intro w6 hb6;go_wp2;go_roundg (gk - 1)
          case rel=>exact ⟨i+1+1,by have:=HJ.o;omega,by go_num,fun n hi=>(Nat.lt_succ_iff_lt_or_eq.1 hi).elim (HJ.o.2 n) (fun e=>e ▸ HG.o),bt H1.o.2.2.2 hb6⟩
          case measure=>have:=HJ.o;omega
      · have hz0:¬ (0:Int) < (j:Int):=by omega
        clear hcell hx hP;have hgood:EG l j=true:=by
         (have hj0:j=0:=by omega);rw [EG,HP.o.2,HP.o.1,Bool.true_and,PK,if_pos hj0,decide_eq_true (by have:=HX1.o;omega)]
        have HG:=Ad hgood;clear hgood;(go_upto_region 4 with fail);refine Af Kr Kr ?_;repeat (go_big_quiet_step (first | (go_at_call 154;exact BA (FV _ HP.o.1))))
        refine wpQuiet_nil ?_;intro w6 hb6;go_wp2;go_roundg (gk - 1)
        case rel=>exact ⟨j+1,by have:=HJ.o;omega,by go_num,fun i hi=>(Nat.lt_succ_iff_lt_or_eq.1 hi).elim (HJ.o.2 i) (fun e=>e ▸ HG.o),bt H1.o.2.2.2 hb6⟩
        case measure=>have:=HJ.o;omega
  · obtain rfl:j=l.length:=by have:=HJ.o;omega
    have hall:=N3 HJ.o.2;have HAL:=Ad hall;clear hall;(go_wp2_with fail);refine (cb (Ar _ _ (a1,a2) _ H1.o.2.1.pre1 H1.o.2.1.pre2) HAB.o.1).mono ?_;rintro e w1 ⟨rfl,hb1⟩;have H2:=Ad (An (H1.o.1.keep hb1) (An (H1.o.2.1.keep hb1) (bt H1.o.2.2.1 hb1)));clear hb1 k0 k1 k2 k3 k4 kl;cases A with
    | false =>
      go_wp2;go_returns;exact ⟨by rw [HAB.o.2.2];simp,H2.o.2.2⟩
    | true =>
      obtain ⟨k0,k1,k2,k3,k4⟩:=H2.o.1.cells;have kl:=H2.o.1.lt;(go_wp2_with fail);refine (cb (Ar _ _ (b1,b2) _ H2.o.2.1.post1 H2.o.2.1.post2) HAB.o.2.1).mono ?_;rintro e w2 ⟨rfl,hb2⟩;go_wp2;go_returns;exact ⟨by rw [HAB.o.2.2,HAL.o];simp,bt H2.o.2.2 hb2⟩
def Fa (k ca cb:Int) (m:Nat) (a:Aj):Option Aj:=if k=1∧ca=cb then some a else (AU a ca m).map fun r=>if k=1 then B7 r.1 (true,ca,DL ca r.2 cb) else (r.1.1,(1,ca,0) :: r.1.2)
theorem Wh {a:Aj} {x t:Int}:(Cb a x t).1.length=a.1.length∧(Cb a x t).2.length=a.2.length:=by
 rw [Cb];simp
theorem Ua {a:Aj} {x:Int} {m:Nat} (ha:Ah a=true):Hg (OZ a x m).1:=by
 rw [OZ];cases h:AU a x m with
 | none =>
   have h2:=Co ha;have h3:=@Wh a x 0;exact ⟨by show (Cb a x 0).1.length≤_;rw [h3.1];exact h2.1,by show (Cb a x 0).2.length≤_;rw [h3.2];exact h2.2⟩
 | some r=>exact Co (E6 ha h)
def Ub (P:Option Aj) (w:World) (e:Ending) (w':World):Prop:=∃ (x1 x2:Value) (C:Aj),e=.returned (.tuple #[.agg #[x1,x2],.bool P.isSome])∧(∀ b,P=some b→C=b)∧(RL w' (fun k=>w.heap.size≤k) x1 C.1∧RL w' (fun k=>w.heap.size≤k) x2 C.2)∧Below w.heap.size w w'
theorem ES {P:Option Aj} {w w6:World} {R L:Nat} {x1 x2:Value} {C:Aj} {n:Bool} (hn:n=P.isSome) (hC:∀ b,P=some b→C=b) (h:RL w6 (fun k=>L≤k) x1 C.1∧RL w6 (fun k=>L≤k) x2 C.2) (hb:Below w.heap.size w w6) (hR:R < L) (h0:w.heap.size≤R) :
 Ub P w (.returned (.tuple #[.agg #[x1,x2],.bool n])) ((w6.setCell ⟨R,0,none⟩ x1).setCell ⟨R,1,none⟩ x2):=by
 subst hn;have far:∀ k,k < w6.heap.size→(fun k=>L≤k) k→¬ (fun j=>j=R) k:=fun k _ h e=>by have h2:L≤k:=h;have e2:k=R:=e;omega
 have far2:∀ k,k < (w6.setCell ⟨R,0,none⟩ x1).heap.size→(fun k=>L≤k) k→¬ (fun j=>j=R) k:=fun k _ h e=>by have h2:L≤k:=h;have e2:k=R:=e;omega
 exact ⟨x1,x2,C,rfl,hC,⟨((h.1.kept (Aw w6 ⟨R,0,none⟩ x1) far).kept (Aw _ ⟨R,1,none⟩ x2) far2).more fun k _ h=>by have h2:L≤k:=h;show w.heap.size≤k;omega,((h.2.kept (Aw w6 ⟨R,0,none⟩ x1) far).kept (Aw _ ⟨R,1,none⟩ x2) far2).more fun k _ h=>by have h2:L≤k:=h;show w.heap.size≤k;omega⟩,
  (hb.setCell (p:=⟨R,0,none⟩) h0 _).setCell (p:=⟨R,1,none⟩) h0 _⟩
theorem IT {S1 S2:Nat→Prop} (v1 v2 bv:Value) (k cb tx ty:Int) (x:Nat) (tb:Bool) (ga1 ga2 ga3 ga4:Option Addr) (gn1 gn2 gn3 gn4 gc1 gc2 gc3 gc4:Nat) (a:Aj) (m B:Nat) (w:World) (h1:RL w S1 v1 a.1) (h2:RL w S2 v2 a.2) (hbv:w.ownsRow B 4 1 bv 9 (Av m)) (ha:Ah a=true) (hx:x≤8) :
 Calls Tryz.prog 298 #[.agg #[v1,v2],.agg #[.int .i64 k,.int .i64 (x:Int),.int .i64 cb,.bool tb,.int .i64 tx,.int .i64 ty,.slice ga1 gn1 gc1,.slice ga2 gn2 gc2,.slice ga3 gn3 gc3,.slice ga4 gn4 gc4],bv] w (Ub (Fa k (x:Int) cb m a) w):=by
 obtain ⟨p1,c1,rfl⟩:=h1.form;obtain ⟨p2,c2,rfl⟩:=h2.form;obtain ⟨bva,bvc,rfl,_⟩:=A8 hbv;obtain ⟨ca,hca⟩:∃ ca:Int,ca=(x:Int):=⟨_,rfl⟩;obtain ⟨P,hP⟩:=Ex (Fa k (x:Int) cb m a);rw [hP];obtain ⟨w0,hw0⟩:=Ey (((w.alloc (.cells #[.slice p1 a.1.length c1,.slice p2 a.2.length c2] 26)).alloc (.cells #[.int .i64 k,.int .i64 (x:Int),.int .i64 cb,.bool tb,.int .i64 tx,.int .i64 ty,.slice ga1 gn1 gc1,.slice ga2 gn2 gc2,.slice ga3 gn3 gc3,.slice ga4 gn4 gc4] 63)).alloc (.cells #[.slice none 0 0,.slice none 0 0] 26));have hb0:Below w.heap.size w w0:=by rw [hw0];exact ba (ba (Aa _ _) _) _
 have hA:w0.heap[w.heap.size]?=some (.cells #[.slice p1 a.1.length c1,.slice p2 a.2.length c2] 26 (0,0)):=by rw [hw0];exact Ac (Ac (heap_alloc_new w _) (Aa _ _)) (Aa _ _)
 have hC:w0.heap[w.heap.size+1]?=some (.cells #[.int .i64 k,.int .i64 (x:Int),.int .i64 cb,.bool tb,.int .i64 tx,.int .i64 ty,.slice ga1 gn1 gc1,.slice ga2 gn2 gc2,.slice ga3 gn3 gc3,.slice ga4 gn4 gc4] 63 (0,0)):=by
  rw [hw0];have:=heap_alloc_new (w.alloc (.cells #[.slice p1 a.1.length c1,.slice p2 a.2.length c2] 26)) (.cells #[.int .i64 k,.int .i64 (x:Int),.int .i64 cb,.bool tb,.int .i64 tx,.int .i64 ty,.slice ga1 gn1 gc1,.slice ga2 gn2 gc2,.slice ga3 gn3 gc3,.slice ga4 gn4 gc4] 63);rw [World.size_alloc] at this;exact Ac this (Aa _ _)
 have hR:w0.heap[w.heap.size+2]?=some (.cells #[.slice none 0 0,.slice none 0 0] 26 (0,0)):=by
  rw [hw0];have:=heap_alloc_new ((w.alloc (.cells #[.slice p1 a.1.length c1,.slice p2 a.2.length c2] 26)).alloc (.cells #[.int .i64 k,.int .i64 (x:Int),.int .i64 cb,.bool tb,.int .i64 tx,.int .i64 ty,.slice ga1 gn1 gc1,.slice ga2 gn2 gc2,.slice ga3 gn3 gc3,.slice ga4 gn4 gc4] 63)) (.cells #[.slice none 0 0,.slice none 0 0] 26);rw [World.size_alloc,World.size_alloc] at this;exact this
 have H0:=Ad (An (An (h1.keep hb0) (h2.keep hb0)) (An (An hA (Ag hbv hb0)) (An (An hC hR) hb0)));have HW:=Ad hw0;have HP:=Ad (An (An ha hx) hP);obtain ⟨b0,b1,bl⟩:=B3 hA;obtain ⟨k0,k1,k2,k3,k4,k5,k6,k7,k8,k9⟩:=Dk hC;have kl:=Ae hC;have hRz0:w.heap.size+2 < w0.heap.size:=Ae hR;clear h1 h2 hbv hP ha hx hA hC hR hb0 hw0;go_enter Tryz.func298,Tryz.ntmps298
 go_upto_region 1 with fail
 rw [← HW.o];by_cases hk1:k=1
 · have y1:(k == 1)=true:=beq_iff_eq.2 hk1
   by_cases hab:(x:Int)=cb
   · have yab:((x:Int) == cb)=true:=beq_iff_eq.2 hab
     have HE:=Ad (show P=some a by rw [← HP.o.2,Fa,if_pos ⟨hk1,hab⟩]);clear hab hk1;(go_wp2_with fail);refine (Gg _ _ a _ H0.o.1.1 H0.o.1.2 (Co HP.o.1.1)).mono ?_;rintro e w2 ⟨x1,x2,rfl,q1,q2,hb2⟩;obtain ⟨d1,m1,k1',rfl⟩:=q1.forms;obtain ⟨d2,m2,k2',rfl⟩:=q2.forms;have hR:=Ac H0.o.2.2.1.2 hb2;have HQ:=Ad (An (An q1.rl q2.rl) (bt H0.o.2.2.2 hb2));clear b0 b1 bl k0 k1 k2 k3 k4 k5 k6 k7 k8 k9 kl;obtain ⟨r0,r1,rz,rl⟩:=B4 hR;clear hR q1 q2 hb2;have r:=Au (.slice d1 m1 k1') (.slice d2 m2 k2') r0 r1;go_wp2;refine bodyPost_ret (v:=.tuple #[.agg #[.slice d1 m1 k1',.slice d2 m2 k2'],.bool true]) (by simp [results,Tryz.results298,go_sem,r.1,r.2]) rfl ?_;rw [HE.o];exact ES (L:=w0.heap.size) rfl (fun b h=>Option.some.inj h) HQ.o.1 HQ.o.2 hRz0 Om
   · have yab:((x:Int) == cb)=false:=beq_eq_false_iff_ne.2 hab
     have HE:=Ad (show P=(AU a (x:Int) m).map fun r=>B7 r.1 (true,(x:Int),DL (x:Int) r.2 cb) by rw [← HP.o.2,Fa,if_neg (fun h=>hab h.2),hk1];rfl);clear hab hk1;(go_wp2_with fail);refine (GD _ _ _ a x m B _ H0.o.1.1 H0.o.1.2 H0.o.2.1.2 HP.o.1.1 HP.o.1.2).mono ?_;rintro e w2 ⟨x1,x2,rfl,⟨q1,q2⟩,hb2⟩;obtain ⟨d1,m1,k1',rfl⟩:=q1.forms;obtain ⟨d2,m2,k2',rfl⟩:=q2.forms;obtain ⟨Z,hZ⟩:=Ex (OZ a (x:Int) m);obtain ⟨N,hN⟩:=Ex ((AU a (x:Int) m).isSome);rw [hZ] at q1 q2;rw [hZ,hN];obtain ⟨ZA,zn⟩:=Z;(have hzs:Hg ZA:=by have h:=Ua (x:=(x:Int)) (m:=m) HP.o.1.1;rw [hZ] at h;exact h);obtain ⟨wo,hwo⟩:=Ey (w2.alloc (.cells #[.slice d1 m1 k1',.slice d2 m2 k2'] 26));(have hbo:Below w2.heap.size w2 wo:=by rw [hwo];exact Aa _ _);(have hT:wo.heap[w2.heap.size]?=some (.cells #[.slice d1 m1 k1',.slice d2 m2 k2'] 26 (0,0)):=by rw [hwo];exact heap_alloc_new _ _);have H2:=Ad (An (An (q1.keep hbo) (q2.keep hbo)) (An (An hT (An (Ac (Ac H0.o.2.2.1.2 hb2) hbo) (Ac (Ac H0.o.2.2.1.1 hb2) hbo))) (bt (bt H0.o.2.2.2 hb2) hbo)));have HZ:=Ad (An hZ (An hN hzs));have HWO:=Ad hwo;have hzb2:w.heap.size+2 < w2.heap.size:=Nat.lt_of_lt_of_le hRz0 hb2.size;clear b0 b1 bl k0 k1 k2 k3 k4 k5 k6 k7 k8 k9 kl q1 q2 hb2 hZ hN hzs hwo hbo hT;obtain ⟨t0,t1,tl⟩:=B3 H2.o.2.1.1;obtain ⟨r0,r1,rz,rl⟩:=B4 H2.o.2.1.2.1;obtain ⟨k0,k1,k2,k3,k4,k5,k6,k7,k8,k9⟩:=Dk H2.o.2.1.2.2;have kl:=Ae H2.o.2.1.2.2;have hRz:=H2.o.2.2.size;have hzo:w.heap.size+2 < wo.heap.size:=rl;(go_upto_region 4 with fail);rw [← HWO.o];obtain ⟨T,hT⟩:=Ex (DL (x:Int) zn cb);have HT:=Ad hT;clear hT;(go_upto_region 5 with fail);go_region_held3 (fun w'=>(w'.cell? ⟨w2.heap.size,0,none⟩=some (.slice d1 m1 k1')∧w'.cell? ⟨w2.heap.size,1,none⟩=some (.slice d2 m2 k2'))∧(w'.cell? ⟨w.heap.size+1,1,none⟩=some (.int .i64 (x:Int))∧w'.cell? ⟨w.heap.size+1,2,none⟩=some (.int .i64 cb)))
      (exact ⟨⟨(Ck t0),(Ck t1)⟩,(Ck k1),(Ck k2)⟩)
      (first
        | (go_at_call 214;go_must (refine (DM cb (x:Int) zn _).mono ?_;rw [HT.o];rintro e w4 ⟨rfl,rfl⟩))
        | (go_at_call 310;go_must (refine (GB _ _ ZA (x:Int) T _ (H2.o.1.1.keep Bl) (H2.o.1.2.keep Bl) HZ.o.2.2).mono ?_;rintro e w5 ⟨u1,u2,rfl,⟨o1,o2⟩,hb5'⟩;have hb5:Below wo.heap.size wo w5:=bt Bl hb5';obtain ⟨e1,g1,l1,rfl⟩:=o1.forms;obtain ⟨e2,g2,l2,rfl⟩:=o2.forms;have hR5:=Ac H2.o.2.1.2.1 hb5;obtain ⟨q0,q1,qz,ql⟩:=B4 hR5;have o3:=o1.rl.more (S':=fun k=>wo.heap.size≤k) (fun k _ h=>by have h2:=h;simp only [World.size_drew] at h2;exact h2);have o4:=o2.rl.more (S':=fun k=>wo.heap.size≤k) (fun k _ h=>by have h2:=h;simp only [World.size_drew] at h2;exact h2);clear hb5'))
        | fail)
     all_goals
      have HQ:=Ad (An (An o3 o4) (bt H2.o.2.2 hb5));have r:=Au (.slice e1 g1 l1) (.slice e2 g2 l2) q0 q1;have HN:=Ad (An (show N=P.isSome by rw [HE.o,Option.isSome_map];exact HZ.o.2.1.symm) (show ∀ b,P=some b→(ZA.1 ++ [((true,(x:Int),T):Ap)],ZA.2)=b by
       intro b hb;rw [HE.o] at hb;obtain ⟨r,hr,rfl⟩:=Option.map_eq_some_iff.1 hb;(have h2:OZ a (x:Int) m=r:=by rw [OZ,hr];rfl);rw [← h2,HZ.o.1,B7,← HT.o]))
      clear o1 o2 o3 o4 hb5;go_wp2;refine bodyPost_ret (v:=.tuple #[.agg #[.slice e1 g1 l1,.slice e2 g2 l2],.bool N]) (by simp [results,Tryz.results298,go_sem,r.1,r.2]) rfl ?_;exact ES (L:=wo.heap.size) HN.o.1 HN.o.2 HQ.o.1 HQ.o.2 Om Om
 · have y1:(k == 1)=false:=beq_eq_false_iff_ne.2 hk1
   have HE:=Ad (show P=(AU a (x:Int) m).map fun r=>(r.1.1,((1,(x:Int),0):Am) :: r.1.2) by rw [← HP.o.2,Fa,if_neg (fun h=>hk1 h.1)];simp only [if_neg hk1]);clear hk1;(go_wp2_with fail);refine (GD _ _ _ a x m B _ H0.o.1.1 H0.o.1.2 H0.o.2.1.2 HP.o.1.1 HP.o.1.2).mono ?_;rintro e w2 ⟨x1,x2,rfl,⟨q1,q2⟩,hb2⟩;obtain ⟨d1,m1,k1',rfl⟩:=q1.forms;obtain ⟨d2,m2,k2',rfl⟩:=q2.forms;obtain ⟨Z,hZ⟩:=Ex (OZ a (x:Int) m);obtain ⟨N,hN⟩:=Ex ((AU a (x:Int) m).isSome);rw [hZ] at q1 q2;rw [hZ,hN];obtain ⟨ZA,zn⟩:=Z;(have hzs:Hg ZA:=by have h:=Ua (x:=(x:Int)) (m:=m) HP.o.1.1;rw [hZ] at h;exact h);obtain ⟨wo,hwo⟩:=Ey (w2.alloc (.cells #[.slice d1 m1 k1',.slice d2 m2 k2'] 26));(have hbo:Below w2.heap.size w2 wo:=by rw [hwo];exact Aa _ _);(have hT:wo.heap[w2.heap.size]?=some (.cells #[.slice d1 m1 k1',.slice d2 m2 k2'] 26 (0,0)):=by rw [hwo];exact heap_alloc_new _ _);have H2:=Ad (An (An (q1.keep hbo) (q2.keep hbo)) (An (An hT (An (Ac (Ac H0.o.2.2.1.2 hb2) hbo) (Ac (Ac H0.o.2.2.1.1 hb2) hbo))) (bt (bt H0.o.2.2.2 hb2) hbo)));have HZ:=Ad (An hZ (An hN hzs));have HWO:=Ad hwo;have hzb2:w.heap.size+2 < w2.heap.size:=Nat.lt_of_lt_of_le hRz0 hb2.size;clear b0 b1 bl k0 k1 k2 k3 k4 k5 k6 k7 k8 k9 kl q1 q2 hb2 hZ hN hzs hwo hbo hT;obtain ⟨t0,t1,tl⟩:=B3 H2.o.2.1.1;obtain ⟨r0,r1,rz,rl⟩:=B4 H2.o.2.1.2.1;obtain ⟨k0,k1,k2,k3,k4,k5,k6,k7,k8,k9⟩:=Dk H2.o.2.1.2.2;have kl:=Ae H2.o.2.1.2.2;have hRz:=H2.o.2.2.size;have hzo:w.heap.size+2 < wo.heap.size:=rl;(go_upto_region 4 with fail);rw [← HWO.o];have HLT:=Ad (BB wo 1 (x:Int) 0 118);(go_wp2_with fail);refine (FH (S4:=fun _=>True) (S3:=fun _=>True) _ _ _ _ (ZA.1,[((1,(x:Int),0):Am)]) (([]:List Ap),ZA.2) _ (H2.o.1.1.keep (Aa _ _)) HLT.o (RL.nil _ _) (H2.o.1.2.keep (Aa _ _)).any HZ.o.2.2.1 Sp Sp HZ.o.2.2.2).mono ?_;rintro e w5 ⟨u1,u2,rfl,o1,o2,hb5'⟩;obtain ⟨e1,g1,l1,rfl⟩:=o1.forms;obtain ⟨e2,g2,l2,rfl⟩:=o2.forms;have hb5:Below wo.heap.size wo w5:=bt (Aa _ _) hb5';have hR5:=Ac H2.o.2.1.2.1 hb5;clear t0 t1 tl r0 r1 rz rl k0 k1 k2 k3 k4 k5 k6 k7 k8 k9 kl;obtain ⟨r0,r1,rz,rl⟩:=B4 hR5;rw [List.append_nil] at o1;have HQ:=Ad (An (An (o1.more (S':=fun k=>wo.heap.size≤k) fun k _ h=>by have h2:=h;simp only [World.size_alloc] at h2;show wo.heap.size≤k;omega) (o2.more (S':=fun k=>wo.heap.size≤k) fun k _ h=>by have h2:=h;simp only [World.size_alloc] at h2;show wo.heap.size≤k;omega)) (bt H2.o.2.2 hb5));have r:=Au (.slice e1 g1 l1) (.slice e2 g2 l2) r0 r1;have HN:=Ad (An (show N=P.isSome by rw [HE.o,Option.isSome_map];exact HZ.o.2.1.symm) (show ∀ b,P=some b→(ZA.1,((1,(x:Int),0):Am) :: ZA.2)=b by
    intro b hb;rw [HE.o] at hb;obtain ⟨r,hr,rfl⟩:=Option.map_eq_some_iff.1 hb;(have h2:OZ a (x:Int) m=r:=by rw [OZ,hr];rfl);rw [← h2,HZ.o.1]))
   clear o1 o2 hb5 hb5' hR5;go_wp2;refine bodyPost_ret (v:=.tuple #[.agg #[.slice e1 g1 l1,.slice e2 g2 l2],.bool N]) (by simp [results,Tryz.results298,go_sem,r.1,r.2]) rfl ?_;exact ES (L:=wo.heap.size) (C:=(ZA.1,((1,(x:Int),0):Am) :: ZA.2)) HN.o.1 HN.o.2 HQ.o.1 HQ.o.2 Om Om
end Go.Proofs.YtkbbmjcfgcfejaaGreat
