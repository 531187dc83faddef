/- Walk: the cell of a term exposed (reference: l10Open). -/
import Derived.Test.YtkbbmjcfgcfejaaGreatLOpnS
set_option linter.unusedVariables false
set_option linter.unusedSimpArgs false
set_option maxRecDepth 100000
set_option maxHeartbeats 12800000
namespace Go.Proofs.YtkbbmjcfgcfejaaGreat
open Go.RowKit
theorem Sl {m:Nat} {t:Int} {d:Nat} {a:Aj} (h:Ah a=false):AS m t (d+1) a=none:=by rw [AS,h,if_neg (by decide)]
theorem Sm {m:Nat} {t:Int} {d:Nat} {a:Aj} (h:Ah a=true) (hc:Cl a=false):AS m t (d+1) a=some []:=by rw [AS,h,if_pos rfl,hc,if_neg (by decide)]
theorem Qv {m:Nat} {t:Int} {d i:Nat} {a:Aj} (h:Ah a=true) (hc:Cl a=true) (hi:atomAt a 1 t=some i):AS m t (d+1) a=(Es (BS a i t)).map fun b=>[b]:=by rw [AS,h,if_pos rfl,hc,if_pos rfl,hi]
theorem Qw {m:Nat} {t:Int} {d i:Nat} {a:Aj} (h:Ah a=true) (hc:Cl a=true) (h1:atomAt a 1 t=none) (hi:atomAt a 2 t=some i):AS m t (d+1) a=(D2 (Ak a ||| m)).bind fun n=>(AS m t d (CN a i)).bind fun x=>(AS m t d (Bp a i n)).map fun y=>x ++ y:=by rw [AS,h,if_pos rfl,hc,if_pos rfl,h1,hi]
theorem Qx {m:Nat} {t:Int} {d:Nat} {a:Aj} (h:Ah a=true) (hc:Cl a=true) (h1:atomAt a 1 t=none) (hi:atomAt a 2 t=none):AS m t (d+1) a=none:=by rw [AS,h,if_pos rfl,hc,if_pos rfl,h1,hi]
theorem Rn (d:Nat):1≤2 ^ d:=Nat.one_le_two_pow
theorem OY {m:Nat} {t:Int}:∀ d:Nat,d≤8→VC m t d:=by
 intro d;induction d with
 | zero =>
   intro _ S1 S2 v1 v2 bv a B w h1 h2 hbv hs;obtain ⟨p1,c1,rfl⟩:=h1.form;obtain ⟨p2,c2,rfl⟩:=h2.form;obtain ⟨bva,bvc,rfl,_⟩:=A8 hbv;have hb0:=Aa w (.cells #[.slice p1 a.1.length c1,.slice p2 a.2.length c2] 26);have H0:=Ad (An (An (h1.keep hb0) (h2.keep hb0)) hb0);clear h1 h2 hbv hs hb0;go_enter Tryz.func299,Tryz.ntmps299
   (go_wp2_with fail);refine (Ar _ _ a _ H0.o.1.1 H0.o.1.2).mono ?_;rintro e w2 ⟨rfl,hb2⟩;have HB:=Ad (bt H0.o.2 hb2);clear hb2;cases hv:Ah a with
   | false =>
     clear hv;go_wp2;go_ret2;exact Fu (ba HB.o _)
   | true =>
     clear hv;go_wp2;go_ret2;exact Fu (ba HB.o _)
 | succ d ih =>
   intro hd S1 S2 v1 v2 bv a B w h1 h2 hbv hs;have IH:=ih Om;obtain ⟨p1,c1,rfl⟩:=h1.form;obtain ⟨p2,c2,rfl⟩:=h2.form;obtain ⟨bva,bvc,rfl,_⟩:=A8 hbv;obtain ⟨O,hO⟩:=Ex (AS m t (d+1) a);rw [hO];(have hp1:((d+1:Nat):Int)=(d:Int)+1:=by omega);(have hp2:¬ (d:Int)+1 < 1:=by omega);obtain ⟨w0,hw0⟩:=Ey (w.alloc (.cells #[.slice p1 a.1.length c1,.slice p2 a.2.length c2] 26));(have hb0:Below w.heap.size w w0:=by rw [hw0];exact Aa _ _);(have hA:w0.heap[w.heap.size]?=some (.cells #[.slice p1 a.1.length c1,.slice p2 a.2.length c2] 26 (0,0)):=by rw [hw0];exact heap_alloc_new _ _);have H0:=Ad (An (An (h1.keep hb0).any (h2.keep hb0).any) (An (Ag hbv hb0) (An hA hb0)));have HW:=Ad hw0;have HP:=Ad (An hO hs);have HIH:=Ad IH;have HD:=Ad hd;obtain ⟨b0,b1,bl⟩:=B3 hA;clear h1 h2 hbv hO hs ih IH hA hb0 hw0 hd;go_enter Tryz.func299,Tryz.ntmps299
   (go_upto_region 1 with fail);rw [← HW.o];(go_wp2_with fail);refine (Ar _ _ a _ H0.o.1.1 H0.o.1.2).mono ?_;rintro e w2 ⟨rfl,hb2⟩;have H2:=Ad (An (An (H0.o.1.1.keep hb2) (H0.o.1.2.keep hb2)) (An (Ag H0.o.2.1 hb2) (An (Ac H0.o.2.2.1 hb2) (bt H0.o.2.2.2 hb2))));clear hb2 b0 b1 bl;cases hv:Ah a with
   | false =>
     have HE:=Ad (show O=none by rw [← HP.o.1];exact Sl hv);clear hv;go_wp2;go_ret2;rw [HE.o];exact Fu (ba H2.o.2.2.2 _)
   | true =>
     have HV:=Ad hv;clear hv;obtain ⟨b0,b1,bl⟩:=B3 H2.o.2.2.1;(go_wp2_with fail);refine (C2 _ _ a _ H2.o.1.1 H2.o.1.2).mono ?_;rintro e w3 ⟨rfl,hb3⟩;have H3:=Ad (An (An (H2.o.1.1.keep hb3) (H2.o.1.2.keep hb3)) (An (Ag H2.o.2.1 hb3) (An (Ac H2.o.2.2.1 hb3) (bt H2.o.2.2.2 hb3))));clear hb3 b0 b1 bl;cases hc:Cl a with
     | false =>
       have HE:=Ad (show O=some [] by rw [← HP.o.1];exact Sm HV.o hc);clear hc;go_wp2;go_ret2;rw [HE.o];exact ⟨_,[],rfl,fun l h=>Option.some.inj h,Nat.zero_le _,GX.nil _ _ _ _,ba H3.o.2.2.2 _⟩
     | true =>
       have HC:=Ad hc;have hsz:=En HV.o;have HSZ:=Ad hsz;clear hc hsz;(go_upto_region 6 with fail);go_loopg [10] a.2.length (fun q i wr=>∃ j:Nat,j+q=a.2.length∧i=.int .i64 j∧(List.range j).find? (O7 a 1 t)=none∧Below w3.heap.size w3 wr)
       case atStart=>exact ⟨0,by omega,rfl,rfl,Below.refl _ _⟩
       case round =>
        obtain ⟨j,hj,rfl,ht,hW⟩:=hrel;have HK:=Ad (An hj (An ht hW));have HR:=Ad (An (An (H3.o.1.1.keep hW) (H3.o.1.2.keep hW)) (An (Ag H3.o.2.1 hW) (An (Ac H3.o.2.2.1 hW) (bt H3.o.2.2.2 hW))));obtain ⟨b0,b1,bl⟩:=B3 HR.o.2.2.1;clear hj ht hW;by_cases hj8:j < a.2.length
        · have i1:(j:Int) < (a.2.length:Int):=by omega
          obtain ⟨qa,qc,hqe,_,_,hqf⟩:=HR.o.1.2.atomAt;simp only [Value.slice.injEq] at hqe;obtain ⟨rfl,_,rfl⟩:=hqe;obtain ⟨bb,oo,rfl,_,hzr,e1,e2,e3⟩:=hqf j hj8;obtain ⟨X,hX⟩:=Ex (gd a.2 j);obtain ⟨X1,X2,X3⟩:=X;rw [hX] at e1 e2 e3;simp only at e1 e2 e3;obtain ⟨s,hs⟩:=Ex ((X1 == 1));obtain ⟨r,hr⟩:=Ex (D4 a (true,X2,t));(have hat:O7 a 1 t j=(s && r):=by rw [O7,hX,hs,hr]);have HX:=Ad (An hX (An hr hj8));have HF:=Ad (show (s && r)=true→atomAt a 1 t=some j by intro h;exact Qd hj8 HK.o.2.1 (hat.trans h));have HG:=Ad (show (s && r)=false→(List.range (j+1)).find? (O7 a 1 t)=none by intro h;exact Ep HK.o.2.1 (hat.trans h));obtain ⟨wx,hwx⟩:=Ey (wr.alloc (.cells #[.int .i64 X1,.int .i64 X2,.int .i64 X3] 118));(have hbx:Below wr.heap.size wr wx:=by rw [hwx];exact Aa _ _);(have hxb:wx.heap[wr.heap.size]?=some (.cells #[.int .i64 X1,.int .i64 X2,.int .i64 X3] 118 (0,0)):=by rw [hwx];exact heap_alloc_new _ _);have HWX:=Ad hwx;have HU:=Ad (An (show UfS wx w.heap.size wr.heap.size (.slice p1 a.1.length c1) (.slice (some ⟨bb,oo,none⟩) a.2.length c2) (.slice bva 9 bvc) a m B (X1,X2,X3) from ⟨HR.o.1.1.keep hbx,HR.o.1.2.keep hbx,Ac HR.o.2.2.1 hbx,hxb,Ag HR.o.2.1 hbx⟩) (An hbx (bt HR.o.2.2.2 hbx)));have HJ:=Ad (bt HK.o.2.2 hbx);clear hat hX hr hwx hbx hxb hqf;(go_upto_region 9 with fail);rw [← HWX.o];clear e1 e2 e3 b0 b1 bl;obtain ⟨b0,b1,bl⟩:=B3 HU.o.1.bx;have x0:=Lp HU.o.1.xb;have x1:=JZ HU.o.1.xb;have x2:=J0 HU.o.1.xb;have xl:=Ae HU.o.1.xb;cases s with
          | false =>
            go_wp2;go_roundg (gk - 1)
            case rel=>exact ⟨j+1,Jo HK.o.1 HX.o.2.2,(by first | exact Mq HX.o.2.2 HSZ.o.2 Dc | go_num),HG.o rfl,HJ.o⟩
            case measure=>exact Jp HK.o.1 HX.o.2.2
          | true =>
            (go_wp2_with fail);refine (IQ _ _ a X2 t _ HU.o.1.a1 HU.o.1.a2).mono ?_;rw [HX.o.2.1];rintro e w5 ⟨rfl,hb5⟩;have H5:=Ad (An (HU.o.1.keep hb5) (An (bt HU.o.2.1 hb5) (An (bt HU.o.2.2 hb5) (bt HJ.o hb5))));clear hb5 b0 b1 bl x0 x1 x2 xl;cases r with
            | false =>
              go_wp2;go_roundg (gk - 1)
              case rel=>exact ⟨j+1,Jo HK.o.1 HX.o.2.2,(by first | exact Mq HX.o.2.2 HSZ.o.2 Dc | go_num),HG.o rfl,H5.o.2.2.2⟩
              case measure=>exact Jp HK.o.1 HX.o.2.2
            | true =>
              (have hO2:O=(Es (BS a j t)).map fun b=>[b]:=by rw [← HP.o.1];exact Qv HV.o HC.o (HF.o rfl));have HO:=Ad hO2;clear hO2;obtain ⟨b0,b1,bl⟩:=B3 H5.o.1.bx;have x0:=Lp H5.o.1.xb;have x1:=JZ H5.o.1.xb;have x2:=J0 H5.o.1.xb;have xl:=Ae H5.o.1.xb;(go_wp2_with fail);refine (IR _ _ a j 1 t X3 _ H5.o.1.a1 H5.o.1.a2 HP.o.2.1 HP.o.2.2).mono ?_;rintro e w9 ⟨y1,y2,rfl,⟨r1,r2⟩,hb9⟩;rw [IS HX.o.2.2] at r2;obtain ⟨e1,g1,l1,rfl⟩:=r1.forms;obtain ⟨e2,g2,l2,rfl⟩:=r2.forms;obtain ⟨wF,hwF⟩:=Ey (w9.alloc (.cells #[.slice e1 g1 l1,.slice e2 g2 l2] 26));(have hF:AB w5 wF w9.heap.size (.slice e1 g1 l1) (.slice e2 g2 l2) (a.1,((1,t,X3):Am) :: Br a.2 j):=by rw [hwF];exact AB.new hb9 r1 r2);have HWF:=Ad hwF;have H9:=Ad (An hF (H5.o.1.keep hF.bl));clear hb9 r1 r2 hF hwF b0 b1 bl x0 x1 x2 xl;obtain ⟨⟨t0,t1⟩,⟨z0,z1⟩,tl⟩:=H9.o.1.cells;have x0:=Lp H9.o.2.xb;have x1:=JZ H9.o.2.xb;have x2:=J0 H9.o.2.xb;have xl:=Ae H9.o.2.xb;(go_upto_region 11 with fail);rw [← HWF.o];go_upto_if 58 with fail
              go_cut [] (fun wd=>∃ z1 z2:Value,wd.heap[w9.heap.size]?=some (.cells #[z1,z2] 26 (0,0))∧(RL wd (fun k=>w5.heap.size≤k) z1 (BS a j t).1∧RL wd (fun k=>w5.heap.size≤k) z2 (BS a j t).2)∧Below w5.heap.size w5 wd)
              case first =>
               by_cases hxt:X2=t
               · have y0:(X2 == t)=true:=beq_iff_eq.2 hxt
                 (have hex:BS a j t=(a.1,((1,t,X3):Am) :: Br a.2 j):=by rw [BS,HX.o.1,if_pos hxt]);have HEX:=Ad hex;clear hxt hex;go_wp2;go_meet
                 case rel=>exact ⟨_,_,H9.o.1.box,⟨by rw [HEX.o];exact H9.o.1.f.rl,by rw [HEX.o];exact H9.o.1.a.rl⟩,H9.o.1.bl⟩
               · have y0:(X2 == t)=false:=beq_eq_false_iff_ne.2 hxt
                 (have hex:BS a j t=(a.1 ++ [((true,X2,t):Ap)],((1,t,X3):Am) :: Br a.2 j):=by rw [BS,HX.o.1,if_neg hxt]);have HEX:=Ad hex;clear hxt hex;have hsk:Hg (a.1,((1,t,X3):Am) :: Br a.2 j):=⟨HP.o.2.1,by have:=DO a.2 j;have:=HSZ.o.2;show (_ :: Br a.2 j).length≤_;simp;omega⟩;have HSK:=Ad hsk;clear hsk;(go_wp2_with fail);refine (GB _ _ _ X2 t _ H9.o.1.f.rl H9.o.1.a.rl HSK.o).mono ?_;rintro e w10 ⟨q1,q2,rfl,⟨f1,f2⟩,hb10⟩;obtain ⟨d1,m1,k1,rfl⟩:=f1.forms;obtain ⟨d2,m2,k2,rfl⟩:=f2.forms;have hbx:=Ac H9.o.1.box hb10;have hT2:=(Ae H9.o.1.box);have hz5:=H9.o.1.lt;have HR2:=Ad (An (BX (BL hbx (.slice d1 m1 k1)) (.slice d2 m2 k2)) (An (An ((f1.set2 (x:=.slice d1 m1 k1) (y:=.slice d2 m2 k2) hbx Dc).mono (B':=w5.heap.size) (Nat.le_of_lt (Nat.lt_of_le_of_lt hz5 hT2))).rl ((f2.set2 (x:=.slice d1 m1 k1) (y:=.slice d2 m2 k2) hbx Dc).mono (B':=w5.heap.size) (Nat.le_of_lt (Nat.lt_of_le_of_lt hz5 hT2))).rl) (((bt H9.o.1.bl hb10).setCell (p:=⟨w9.heap.size,0,none⟩) hz5 (.slice d1 m1 k1)).setCell (p:=⟨w9.heap.size,1,none⟩) hz5 (.slice d2 m2 k2))));clear t0 t1 z0 z1 tl;obtain ⟨t0,t1,tz,tl⟩:=B4 hbx;clear hbx f1 f2 hb10;go_wp2;go_meet
                 case rel=>exact ⟨_,_,HR2.o.1,⟨by rw [HEX.o];exact HR2.o.2.1.1,by rw [HEX.o];exact HR2.o.2.1.2⟩,HR2.o.2.2⟩
              case rest =>
               rename World=>wd
               obtain ⟨q1,q2,hbx,⟨f1,f2⟩,hbd⟩:=hcut;obtain ⟨d1,m1,k1,rfl⟩:=f1.forms;obtain ⟨d2,m2,k2,rfl⟩:=f2.forms;obtain ⟨C,hC⟩:=Ex (BS a j t);rw [hC] at f1 f2;have HCC:=Ad (show O=(Es C).map fun b=>[b] by rw [HO.o,hC]);have hs5:=H5.o.2.2.1.size;have hsd:=hbd.size;have HS:=Ad (An (An (f1.more (S':=fun k=>w.heap.size≤k) fun k _ h=>Nat.le_trans hs5 h) (f2.more (S':=fun k=>w.heap.size≤k) fun k _ h=>Nat.le_trans hs5 h)) (bt H5.o.2.2.1 hbd));clear t0 t1 z0 z1 tl x0 x1 x2 xl;obtain ⟨t0,t1,tl⟩:=B3 hbx;clear f1 f2 hbd hC hbx;(go_upto_region 13 with fail);go_cut [8,9] (fun s8 s9 wc=>s9=.bool (Ah C)∧GX wc w.heap.size (fun k=>w.heap.size≤k) s8 [C]∧Below w.heap.size w wc)
               case first =>
                go_region_held3 (fun w'=>w'.cell? ⟨w9.heap.size,0,none⟩=some (.slice d1 m1 k1)∧w'.cell? ⟨w9.heap.size,1,none⟩=some (.slice d2 m2 k2))
                 (exact ⟨(Ck t0),(Ck t1)⟩)
                 (first
                   | (go_at_call 71;go_must (refine (Ar _ _ C _ (HS.o.1.1.keep Bl) (HS.o.1.2.keep Bl)).mono ?_;rintro e w11 ⟨rfl,hb11'⟩;have hb11:Below wd.heap.size wd w11:=bt Bl hb11';have hz11:=hb11.size;(first | (have hg:=(GX.lit (w:=wd.drew) (B:=w.heap.size) (R:=fun k=>w.heap.size≤k) (a:=C) (HS.o.1.1.keep (Ai _)) (HS.o.1.2.keep (Ai _)) (by simp only [World.size_drew];omega) (fun k _ h=>h)).keep hb11') | skip);clear hb11'))
                   | fail)
                all_goals
                 have HB:=Ad (An hb11 (bt HS.o.2 hb11));clear hb11;go_wp2;go_meet
                 case rel =>
                  first
                    | exact ⟨rfl,hg,HB.o.2⟩
                    | exact ⟨rfl,GX.lit (HS.o.1.1.keep HB.o.1) (HS.o.1.2.keep HB.o.1) Om (fun k _ h=>h),ba HB.o.2 _⟩
                    | fail
               case rest =>
                rename World=>we
                obtain ⟨rfl,hg,hbe⟩:=hcut;obtain ⟨ra,rc,rfl⟩:=hg.form;have HR3:=Ad (An hg hbe);clear hg hbe t0 t1 tl;cases hv:Ah C with
                | false =>
                  have HE:=Ad (show O=none by rw [HCC.o,Es,hv,if_neg (by decide)];rfl);clear hv;go_wp2;go_ret2;rw [HE.o];exact ⟨_,[C],rfl,fun l h=>(by cases h),Rn _,HR3.o.1,HR3.o.2⟩
                | true =>
                  have HE:=Ad (show O=some [C] by rw [HCC.o,Es,hv,if_pos rfl];rfl);clear hv;go_wp2;go_ret2;rw [HE.o];exact ⟨_,[C],rfl,fun l h=>Option.some.inj h,Rn _,HR3.o.1,HR3.o.2⟩
        · obtain rfl:j=a.2.length:=by have:=HK.o.1;omega
          (have i1:¬ (a.2.length:Int) < (a.2.length:Int):=by omega);have HN1:=Ad (show atomAt a 1 t=none from HK.o.2.1);obtain ⟨wq,hwq⟩:∃ wq:World,wq=wr:=⟨_,rfl⟩;subst hwq;(go_upto_region 15 with fail);clear b0 b1 bl;go_loopg [13] a.2.length (fun q i wr=>∃ j:Nat,j+q=a.2.length∧i=.int .i64 j∧(List.range j).find? (O7 a 2 t)=none∧Below wq.heap.size wq wr)
          case atStart=>exact ⟨0,by omega,rfl,rfl,Below.refl _ _⟩
          case round =>
           obtain ⟨j,hj,rfl,ht,hW⟩:=hrel;have HK2:=Ad (An hj (An ht hW));have HR2:=Ad (An (An (HR.o.1.1.keep hW) (HR.o.1.2.keep hW)) (An (Ag HR.o.2.1 hW) (An (Ac HR.o.2.2.1 hW) (bt HR.o.2.2.2 hW))));obtain ⟨b0,b1,bl⟩:=B3 HR2.o.2.2.1;clear hj ht hW i1;by_cases hj8:j < a.2.length
           · have i1:(j:Int) < (a.2.length:Int):=by omega
             obtain ⟨qa,qc,hqe,_,_,hqf⟩:=HR2.o.1.2.atomAt;simp only [Value.slice.injEq] at hqe;obtain ⟨rfl,_,rfl⟩:=hqe;obtain ⟨bb,oo,rfl,_,hzr,e1,e2,e3⟩:=hqf j hj8;obtain ⟨X,hX⟩:=Ex (gd a.2 j);obtain ⟨X1,X2,X3⟩:=X;rw [hX] at e1 e2 e3;simp only at e1 e2 e3;obtain ⟨s,hs⟩:=Ex ((X1 == 2));obtain ⟨r,hr⟩:=Ex (D4 a (true,X2,t));(have hat:O7 a 2 t j=(s && r):=by rw [O7,hX,hs,hr]);have HX:=Ad (An hX (An hr hj8));have HF:=Ad (show (s && r)=true→atomAt a 2 t=some j by intro h;exact Qd hj8 HK2.o.2.1 (hat.trans h));have HG:=Ad (show (s && r)=false→(List.range (j+1)).find? (O7 a 2 t)=none by intro h;exact Ep HK2.o.2.1 (hat.trans h));clear hat hX hr hqf;(go_upto_region 17 with fail);go_cut [92] (fun s92 wc=>s92=.bool (s && r)∧Below wr.heap.size wr wc)
             case first =>
              cases s with
              | false =>
                refine Af Kr Kr ?_;repeat (go_big_quiet_step (fail))
                refine wpQuiet_nil ?_;intro w5 hb5;go_wp2;go_meet
                case rel=>exact ⟨rfl,hb5⟩
              | true =>
                refine Af Kr Kr ?_;repeat (go_big_quiet_step ((go_at_call 311;exact Eu (cb (IQ _ _ a X2 t _ (HR2.o.1.1.keep (AV _ _)) (HR2.o.1.2.keep (AV _ _))) HX.o.2.1))))
                refine wpQuiet_nil ?_;intro w5 hb5;go_wp2;go_meet
                case rel=>exact ⟨by rw [Bool.true_and],hb5⟩
             case rest =>
              rename World=>wd
              obtain ⟨rfl,hbd⟩:=hcut;have HR4:=Ad (An (An (HR2.o.1.1.keep hbd) (HR2.o.1.2.keep hbd)) (An (Ag HR2.o.2.1 hbd) (An (Ac HR2.o.2.2.1 hbd) (bt HR2.o.2.2.2 hbd))));have HB4:=Ad (bt HK2.o.2.2 hbd);clear e1 e2 e3 b0 b1 bl hbd;cases hsr:(s && r) with
              | false =>
                have HG2:=Ad (HG.o hsr);clear hsr;go_wp2;go_roundg (gk - 1)
                case rel=>exact ⟨j+1,Jo HK2.o.1 HX.o.2.2,(by first | exact Mq HX.o.2.2 HSZ.o.2 Dc | go_num),HG2.o,HB4.o⟩
                case measure=>exact Jp HK2.o.1 HX.o.2.2
              | true =>
                have HE:=Ad (show (D2 (Ak a ||| m)).bind (fun n=>(AS m t d (CN a j)).bind fun x=>(AS m t d (Bp a j n)).map fun y=>x ++ y)=O by rw [← HP.o.1];exact (Qw HV.o HC.o HN1.o (HF.o hsr)).symm);clear hsr;obtain ⟨b0,b1,bl⟩:=B3 HR4.o.2.2.1;have hd7:=HD.o;(have hd8:d≤8:=by omega);have HD8:=Ad hd8;clear hd7 hd8;have hcall:=OX HD8.o HIH.o _ _ _ a j B _ HR4.o.1.1 HR4.o.1.2 HR4.o.2.1 HV.o HX.o.2.2;rw [HE.o,hp1] at hcall;have HCALL:=Ad hcall;clear hcall;(go_wp2_with fail);refine HCALL.o.mono ?_;rintro e w6 ⟨v,L,rfl,hL,hn,gL,hb6⟩;obtain ⟨ra,rc,rfl⟩:=gL.form;have hz4:=HR4.o.2.2.2.size;have H6:=Ad (An (An hL hn) (An (gL.mono (B':=w.heap.size) (R':=fun k=>w.heap.size≤k) hz4 fun j _ h=>Nat.le_trans hz4 h) (bt HR4.o.2.2.2 hb6)));clear gL hb6 hL hn b0 b1 bl;go_wp2;go_ret2;exact ⟨_,L,rfl,H6.o.1.1,H6.o.1.2,H6.o.2.1,H6.o.2.2⟩
           · obtain rfl:j=a.2.length:=by have:=HK2.o.1;omega
             (have i1:¬ (a.2.length:Int) < (a.2.length:Int):=by omega);have HE:=Ad (show O=none by rw [← HP.o.1];exact Qx HV.o HC.o HN1.o HK2.o.2.1);go_wp2;go_ret2;rw [HE.o];exact Fu (ba HR2.o.2.2.2 _)
end Go.Proofs.YtkbbmjcfgcfejaaGreat
