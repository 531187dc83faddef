/- Walk: the logical variables that commands speak of (reference: l8Logical). -/
import Derived.Test.YtkbbmjcfgcfejaaGreatLLgc
import Derived.Test.YtkbbmjcfgcfejaaGreatLSbsS
set_option linter.unusedVariables false
set_option linter.unusedSimpArgs false
set_option maxRecDepth 100000
set_option maxHeartbeats 12800000
namespace Go.Proofs.YtkbbmjcfgcfejaaGreat
open Go.RowKit
theorem Qy {W:World} {B:Nat} {a b c d:Int} (hB:B≤W.heap.size):FE (W.alloc (.cells #[.int .i64 a,.int .i64 b,.int .i64 c,.int .i64 d] 3)) B (.slice (some ⟨W.heap.size,0,none⟩) 4 4) [a,b,c,d] :=
 FE.of (OO.ints (l:=[a,b,c,d]) (World.ownsRow_lit (size:=1) W _ 4 hB (by unfold maxLen;omega) rfl))
theorem Ue {W w5:World} {B:Nat} {a b c d:Int} (hB:B≤W.heap.size) (hb:Below (W.alloc (.cells #[.int .i64 a,.int .i64 b,.int .i64 c,.int .i64 d] 3)).heap.size (W.alloc (.cells #[.int .i64 a,.int .i64 b,.int .i64 c,.int .i64 d] 3)) w5):FE w5 B (.slice (some ⟨W.heap.size,0,none⟩) 4 4) [a,b,c,d]:=(Qy hB).keep hb
theorem Rq {W w5:World} {B:Nat} {a b c d:Int} (hB:B≤W.heap.size) (hb:Below (W.alloc (.cells #[.int .i64 a,.int .i64 b,.int .i64 c,.int .i64 d] 3)).drew.heap.size (W.alloc (.cells #[.int .i64 a,.int .i64 b,.int .i64 c,.int .i64 d] 3)).drew w5):FE w5 B (.slice (some ⟨W.heap.size,0,none⟩) 4 4) [a,b,c,d]:=((Qy hB).keep (Ai _)).keep hb
theorem Qz {l:List Int} {m k:Nat} (h:k < l.length):(l.take (k+1)).foldl IO m=IO ((l.take k).foldl IO m) (gd l k):=by rw [AT h,List.foldl_append];rfl
theorem LF:∀ (d:Nat) {S:Nat→Prop} (g cap:Nat) (v:Value) (l:List (Cm d)) (m B:Nat) (D:Int) (w:World) (_h:RL w S v l) (_ho:w.ownsRow B 4 1 (.slice (some ⟨g,0,none⟩) 9 cap) 9 (Av m)) (_hs:∀ k,S k→¬ k=g) (_hsh:AZ d l D=true),
 Calls Tryz.prog 167 #[.slice (some ⟨g,0,none⟩) 9 cap,v] w fun e w'=>e=.returned (.slice (some ⟨g,0,none⟩) 9 cap)∧w'.ownsRow B 4 1 (.slice (some ⟨g,0,none⟩) 9 cap) 9 (Av (IP d m l))∧Fr (fun k=>k=g) w w':=by
 intro d;induction d with
 | zero =>
   intro S g cap v l m B D w h ho hs hsh;obtain rfl:=h.cm0;obtain ⟨a,c,rfl⟩:=h.form;have HO:=Ad ho;clear h ho hs hsh;go_enter Tryz.func167,Tryz.ntmps167
   go_wp2;go_loopg [0,5] 1 (fun q f i wr=>f=.slice (some ⟨g,0,none⟩) 9 cap∧i=.int .i64 0∧wr=w)
   case atStart=>exact ⟨rfl,rfl,rfl⟩
   case round =>
    obtain ⟨rfl,rfl,rfl⟩:=hrel;go_wp2;go_ret;exact ⟨rfl,HO.o,Fr.refl _ _⟩
 | succ d ih =>
   intro S g cap v l m B D w h ho hs hsh;obtain ⟨a,vcap,rfl,_,_,hc⟩:=h.cmAt;have hlm:=h.len;unfold maxLen at hlm;have F:=Ad hc;have IH:=Ad (fun (S:Nat→Prop) (v:Value) (l:List (Cm d)) (m:Nat) (w:World) (h:RL w S v l) (ho:w.ownsRow B 4 1 (.slice (some ⟨g,0,none⟩) 9 cap) 9 (Av m)) (hs:∀ k,S k→¬ k=g) (hsh:AZ d l (D - 1)=true)=>ih (S:=S) g cap v l m B (D - 1) w h ho hs hsh);have HSH:=Ad (An hs (DI hsh));have HO:=Ad ho;have hgw:=(AD ho (k:=g) rfl).2;clear h hc ih hs hsh ho;go_enter Tryz.func167,Tryz.ntmps167
   go_wp2;go_loopg [0,5] l.length (fun q f i wr=>∃ k:Nat,k+q=l.length∧f=.slice (some ⟨g,0,none⟩) 9 cap∧i=.int .i64 (k:Int)∧wr.ownsRow B 4 1 (.slice (some ⟨g,0,none⟩) 9 cap) 9 (Av (IP (d+1) m (l.take k)))∧Fr (fun k=>k=g) w wr)
   case atStart=>exact ⟨0,by omega,rfl,rfl,HO.o,Fr.refl _ _⟩
   case round =>
    obtain ⟨k,hk,rfl,rfl,hown,hfr⟩:=hrel;have HK:=Ad hk;have hzs:=hfr.size;clear hk;by_cases hk8:k < l.length
    · obtain ⟨b,o,f1,f2,x,y,rfl,hSb,hbl,hcc,⟨g1,g2⟩,g3,g4⟩:=F.o k hk8
      obtain ⟨fa1,fn1,rfl⟩:=g1.form;obtain ⟨fa2,fn2,rfl⟩:=g2.form;obtain ⟨xa,xn,rfl⟩:=g3.form;obtain ⟨ya,yn,rfl⟩:=g4.form;obtain ⟨c,hck⟩:=Ex (gd l k);have hst:=Sj (m:=m) hk8;obtain ⟨hhead,hsb,hse⟩:=HSH.o.2 c (hck ▸ Be hk8);rw [hck] at hcc g1 g2 g3 g4 hst;have hbg:¬ b=g:=HSH.o.1 b hSb;have hkept:∀ {i:Nat} {u:Value},(Cq c.kind c.a c.b c.test (.slice fa1 c.inv.1.length fn1) (.slice fa2 c.inv.2.length fn2) (.slice xa c.body.length xn) (.slice ya c.els.length yn))[i]?=some u→wr.cell? ⟨b,o+k * 10+i,none⟩=some u:=fun hi=>hfr.cell (by simpa using hbg) (hcc _ _ hi);have p0:wr.cell? ⟨b,o+k * 10,none⟩=some (.int .i64 c.kind):=hkept (i:=0) rfl;have p1:=hkept (i:=1) rfl;have p2:=hkept (i:=2) rfl;have p3:=hkept (i:=3) rfl;have p4:=hkept (i:=4) rfl;have p5:=hkept (i:=5) rfl;have p6:=hkept (i:=6) rfl;have p7:=hkept (i:=7) rfl;have p8:=hkept (i:=8) rfl;have p9:=hkept (i:=9) rfl;(have i1:(k:Int) < (l.length:Int):=by omega);(have hzb:b < wr.heap.size:=by omega);have far:∀ j,j < w.heap.size→S j→¬ (fun j=>j=g) j:=fun j _ hj e=>HSH.o.1 j hj e;obtain ⟨M0,hM0⟩:=Ex (IP (d+1) m (l.take k));rw [hM0] at hst hown;obtain ⟨wb,hwb⟩:=Ey (wr.alloc (.cells #[.int .i64 c.kind,.int .i64 c.a,.int .i64 c.b,.bool c.test.1,.int .i64 c.test.2.1,.int .i64 c.test.2.2,.slice fa1 c.inv.1.length fn1,.slice fa2 c.inv.2.length fn2,.slice xa c.body.length xn,.slice ya c.els.length yn] 63));(have hbb:Below wr.heap.size wr wb:=by rw [hwb];exact Aa _ _);(have hcb:wb.heap[wr.heap.size]?=some (.cells #[.int .i64 c.kind,.int .i64 c.a,.int .i64 c.b,.bool c.test.1,.int .i64 c.test.2.1,.int .i64 c.test.2.2,.slice fa1 c.inv.1.length fn1,.slice fa2 c.inv.2.length fn2,.slice xa c.body.length xn,.slice ya c.els.length yn] 63 (0,0)):=by rw [hwb];exact heap_alloc_new _ _);have HWB:=Ad hwb;have HG:=Ad (An (An ((g1.kept hfr far).keep hbb).any ((g2.kept hfr far).keep hbb).any) (An (An ((g3.kept hfr far).keep hbb) ((g4.kept hfr far).keep hbb)) (An hcb (An (Ag hown hbb) ((hfr.trans ((Below.fr hbb).mono fun _ _ h=>h.elim)))))));have HH:=Ad (An hhead (An (An hsb hse) (An hst hk8)));(have hgb:g < wb.heap.size:=by have:=hbb.size;omega);(have hgr:¬ wr.heap.size=g:=by omega);clear hst hhead hsb hse hkept g1 g2 g3 g4 hcc hck hM0 hfr far hown hbb hwb hcb;(go_upto_region 5 with fail);rw [← HWB.o];clear p0 p1 p2 p3 p4 p5 p6 p7 p8 p9;obtain ⟨k0,k1,k2,k3,k4,k5,k6,k7,k8,k9⟩:=Dk HG.o.2.2.1;have kl:=Ae HG.o.2.2.1;obtain ⟨TI,hTI⟩:=Ex (Ak c.inv);(have hall:EV c=[c.a,c.b,c.test.2.1,c.test.2.2] ++ Dv TI:=by rw [← hTI];rfl);have hval:=K7 (Lk HH.o.1).2.2;have HT:=Ad (An hTI (An hall (An (List.all_eq_true.2 hval.1.2) (List.all_eq_true.2 hval.2.2))));clear hTI hall hval;go_cut [7] (fun s7 wc=>RL wc (fun k=>wb.heap.size≤k) s7 (EV c)∧Below wb.heap.size wb wc)
      case first =>
       go_region_held3 (fun w'=>(w'.cell? ⟨wr.heap.size,1,none⟩=some (.int .i64 c.a)∧w'.cell? ⟨wr.heap.size,2,none⟩=some (.int .i64 c.b)∧w'.cell? ⟨wr.heap.size,4,none⟩=some (.int .i64 c.test.2.1)∧w'.cell? ⟨wr.heap.size,5,none⟩=some (.int .i64 c.test.2.2))∧(w'.cell? ⟨wr.heap.size,6,none⟩=some (.slice fa1 c.inv.1.length fn1)∧w'.cell? ⟨wr.heap.size,7,none⟩=some (.slice fa2 c.inv.2.length fn2)))
        (exact ⟨⟨(Ck k1),(Ck k2),(Ck k4),(Ck k5)⟩,(Ck k6),(Ck k7)⟩)
        (first
          | (go_at_call 75;go_must (refine (BQ _ _ c.inv _ (HG.o.1.1.keep Bl) (HG.o.1.2.keep Bl) HT.o.2.2.1 HT.o.2.2.2).mono ?_;rw [HT.o.1];rintro e w5 ⟨u,rfl,ho5,hb5'⟩;have hb5:Below wb.heap.size wb w5:=bt Bl hb5';obtain ⟨d5,e5,rfl,_⟩:=A8 ho5;have hz5:=hb5.size;(first | (have hl:=Ue (B:=wb.heap.size) (Nat.le_refl _) hb5') | (have hl:=Rq (B:=wb.heap.size) (Nat.le_refl _) hb5') | skip);(try simp only [World.size_alloc,World.size_drew] at hl);clear hb5'))
          | (go_at_call 160;go_must (refine (Fw TI _ _ _ (Ag ho5 Bl)).mono ?_;rintro e w6 ⟨u,rfl,ho6,hb6'⟩;have hb6:Below wb.heap.size wb w6:=bt Bl hb6';have hb56:Below w5.heap.size w5 w6:=bt Bl hb6';have hq6:RL w6 (fun _=>True) u (Dv TI):=(Nc ho6).any;obtain ⟨d6,e6,rfl⟩:=hq6.form;have hz6:=hb6.size;(first | (replace hl:=hl.keep hb56;have _g:=hl) | (have hl:=Ue (B:=wb.heap.size) Om hb6') | (have hl:=Rq (B:=wb.heap.size) Om hb6') | skip);(try simp only [World.size_alloc,World.size_drew] at hl);clear hb6' ho6))
          | (refine CA (l:=[c.a,c.b,c.test.2.1,c.test.2.2]) (m:=Dv TI) (B:=wb.heap.size) (.tmp 29) (.tmp 33) _ (by rfl) Ph (by rfl) (by first | exact hl | exact Qy Om) (by rfl) (hq6.keep Bl) (by have h1:=Hu (fun n=>TI.testBit n) 0 9;rw [Dv];simp;omega) (Below.size (w:=wb) (B:=wb.heap.size) Bl) ?_;intro v7 w7 o7 hf7';obtain ⟨d7,m7,e7,rfl⟩:=o7.forms;have hb7:Below wb.heap.size wb w7:=Below.trans Bl (AG hf7' (Below.size (w:=wb) (B:=wb.heap.size) Bl));clear hf7')
          | fail)
       all_goals
        have HQ:=Ad (An (show RL w7 (fun k=>wb.heap.size≤k) (.slice d7 m7 e7) (EV c) by rw [HT.o.2.1];exact o7.rl) hb7);clear o7 hb7 hq6 ho5 hb5 hb6 hb56;go_wp2;go_meet
        case rel=>exact ⟨HQ.o.1,HQ.o.2⟩
      case rest =>
       rename World=>wd
       obtain ⟨hall,hbd⟩:=hcut;obtain ⟨qa,qc,rfl⟩:=hall.form;have HAL:=Ad (An hall (An (Ve HH.o.1) (T7 c)));have HD:=Ad (An (Ag HG.o.2.2.2.1 hbd) (An (Ac HG.o.2.2.1 hbd) hbd));have hzd:=hbd.size;have hzbx:=Ae HG.o.2.2.1;clear hall hbd k0 k1 k2 k3 k4 k5 k6 k7 k8 k9 kl;obtain ⟨gO,hgO⟩:∃ g,g=gk:=⟨_,rfl⟩;have HGO:=Ad hgO;clear hgO;obtain ⟨wR,hwR⟩:∃ wR:World,wR=wr:=⟨_,rfl⟩;subst hwR;(go_upto_region 7 with fail);go_loopg [8] (EV c).length (fun q i wi=>∃ j:Nat,j+q=(EV c).length∧i=.int .i64 (j:Int)∧wi.ownsRow B 4 1 (.slice (some ⟨g,0,none⟩) 9 cap) 9 (Av (((EV c).take j).foldl IO M0))∧Fr (fun k=>k=g) wd wi)
       case atStart=>exact ⟨0,by omega,rfl,HD.o.1,Fr.refl _ _⟩
       case round =>
        obtain ⟨j,hj,rfl,hown,hf⟩:=hrel;have HJ:=Ad (An hj (An hown hf));have hsz:=hf.size;clear hj hown;by_cases hj8:j < (EV c).length
        · have i2:(j:Int) < ((EV c).length:Int):=by omega
          obtain ⟨ya',yc',hye,hyc⟩:=(HAL.o.1.kept hf (fun r _ h e=>by have h2:wb.heap.size≤r:=h;have e2:r=g:=e;omega)).ints.cells;simp only [Value.slice.injEq,true_and] at hye;obtain ⟨rfl,rfl⟩:=hye;obtain ⟨b1,o1,rfl,hz1,q1⟩:=hyc j hj8;(have hgi:gi (EV c) j=gd (EV c) j:=by first | rfl | (simp [gi,gd];done));rw [hgi] at q1;have hv:=HAL.o.2.1 _ (Be hj8);obtain ⟨A,hA⟩:=Int.eq_ofNat_of_zero_le hv.1;rw [hA] at q1 hv;(have hA9:(A:Int) < 9:=by omega);(have hA8:A≤8:=by omega);obtain ⟨Mj,hMj⟩:=Ex (((EV c).take j).foldl IO M0);have hstep:=Qz (m:=M0) hj8;rw [hMj,hA] at hstep;have HST:=Ad (An hstep (An hMj hj8));(have hgz:g < wr.heap.size:=by omega);by_cases h4:4 < A
          · have i4:(4:Int) < (A:Int):=by omega
            (have hlog:IO Mj (A:Int)=Mj ||| 2 ^ A:=by rw [IO,if_pos i4,Df hA8]);have hown:=HJ.o.2.1;rw [hMj] at hown;obtain ⟨s1,g1⟩:=hown.stored A (.bool true);rw [Da Mj A Om,← hlog] at s1;have z1:=hown.frozenAt A;have y1:wr.cell? ⟨g,A,none⟩=some (.bool (Mj.testBit A)):=by
             have:=hown.cellAt A Om;rw [AP Mj A (by omega)] at this;simpa using this
            have HS:=Ad (An s1 (hf.trans ((AF g1).mono (S':=fun k=>k=g) fun k _ e=>Option.some.inj e)));clear s1 g1 hlog hown hstep hMj hv hA hf hyc h4;go_wp2;go_roundg (gk - 1)
            case rel=>exact ⟨j+1,by have:=HJ.o.1;omega,(by first | exact Mq HST.o.2.2 HAL.o.2.2 Dc | go_num),by rw [HST.o.1];exact HS.o.1,HS.o.2⟩
            case measure=>have:=HJ.o.1;omega
          · have i4:¬ (4:Int) < (A:Int):=by omega
            (have hlog:IO Mj (A:Int)=Mj:=by rw [IO,if_neg i4]);have HS:=Ad hlog;clear hlog hstep hMj hv hA hf hyc h4;go_wp2;go_roundg (gk - 1)
            case rel=>exact ⟨j+1,by have:=HJ.o.1;omega,(by first | exact Mq HST.o.2.2 HAL.o.2.2 Dc | go_num),by rw [HST.o.1,HS.o,← HST.o.2.1];exact HJ.o.2.1,HJ.o.2.2⟩
            case measure=>have:=HJ.o.1;omega
        · have hjn:j=(EV c).length:=by have:=HJ.o.1;omega
          (have i2:¬ (j:Int) < ((EV c).length:Int):=by omega);obtain ⟨M1,hM1⟩:=Ex ((EV c).foldl IO M0);have hown:=HJ.o.2.1;rw [hjn,List.take_length,hM1] at hown;(have hbg:¬ (fun k=>k=g) wR.heap.size:=by show ¬ wR.heap.size=g;omega);have hcb:=AA HD.o.2.1 hf hbg;have p8:=cr 8 hcb;have p9:=cr 9 hcb;have pl:=Ae hcb;have farS:∀ r,r < wd.heap.size→S r→¬ (fun j=>j=g) r:=fun r _ hj e=>HSH.o.1 r hj e;have HQ:=Ad (An (An ((HG.o.2.1.1.keep HD.o.2.2).kept hf farS) ((HG.o.2.1.2.keep HD.o.2.2).kept hf farS)) (An hown ((HG.o.2.2.2.2.trans ((Below.fr HD.o.2.2).mono fun _ _ h=>h.elim)).trans hf)));have HM1:=Ad hM1;obtain ⟨wE,hwE⟩:∃ wE:World,wE=wr:=⟨_,rfl⟩;subst hwE;clear hjn hown hcb hf hM1 farS;(go_upto_region 11 with fail);go_region_held3 (fun w'=>w'.cell? ⟨wR.heap.size,8,none⟩=some (.slice xa c.body.length xn)∧w'.cell? ⟨wR.heap.size,9,none⟩=some (.slice ya c.els.length yn))
           (first | exact ⟨hf6.cell (p:=⟨wR.heap.size,8,none⟩) hbg p8,hf6.cell (p:=⟨wR.heap.size,9,none⟩) hbg p9⟩ | exact ⟨p8,p9⟩ | exact ⟨hf5.cell (p:=⟨wR.heap.size,8,none⟩) hbg p8,hf5.cell (p:=⟨wR.heap.size,9,none⟩) hbg p9⟩ | exact ⟨(Ck p8),(Ck p9)⟩)
           (first
             | (have _h:=hf5;go_at_call 167;go_must (refine (IH.o S _ c.els _ _ ((HQ.o.1.2.kept hf5 (fun j _ hj e=>HSH.o.1 j hj e)).keep Bl) (Ag ho5 Bl) HSH.o.1 HH.o.2.1.2).mono ?_;rintro e w6 ⟨rfl,ho6,hf6'⟩;have hf6:Fr (fun k=>k=g) wE w6:=hf5.trans (DR hf6' Bl)))
             | (go_at_call 167;go_must (refine (IH.o S _ c.body _ _ (HQ.o.1.1.keep Bl) (Ag HQ.o.2.1 Bl) HSH.o.1 HH.o.2.1.1).mono ?_;rintro e w5 ⟨rfl,ho5,hf5'⟩;have hf5:Fr (fun k=>k=g) wE w5:=DR hf5' Bl)))
          have HN:=Ad (An (show w6.ownsRow B 4 1 (.slice (some ⟨g,0,none⟩) 9 cap) 9 (Av (IP (d+1) m (l.take (k+1)))) by rw [HH.o.2.2.1,HM1.o];exact ho6) (HQ.o.2.2.trans hf6));clear ho6 hf6 hf6' ho5 hf5 hf5' p8 p9;go_wp2;go_roundg (gO - 1)
          case rel=>exact ⟨k+1,by have:=HK.o;have:=HGO.o;have:=HH.o.2.2.2;omega,rfl,(by first | exact Mq HH.o.2.2.2 (Nat.le_refl _) hlm | go_num),HN.o.1,HN.o.2⟩
          case measure=>have:=HK.o;have:=HGO.o;have:=HH.o.2.2.2;omega
    · obtain rfl:k=l.length:=by have:=HK.o;omega
      rw [List.take_length] at hown;(have i1:¬ (l.length:Int) < (l.length:Int):=by omega);go_wp2;go_ret;exact ⟨rfl,hown,hfr⟩
def Ef (K T:Nat):Nat→Nat
 | 0=>K
 | n+1=>if T.testBit n=true then Ef K T n ||| 2 ^ n else Ef K T n
theorem GY (K T j:Nat):∀ n,(Ef K T n).testBit j=(K.testBit j || (decide (j < n) && T.testBit j))
 | 0=>by simp [Ef]
 | n+1=>by
   rw [Ef];split
   · rename_i h
     rw [Bk,GY K T j n];by_cases e:n=j
     · subst e;simp [h]
     · rw [decide_eq_false e,Bool.or_false]
       congr 2
       rw [decide_eq_decide];omega
   · rename_i h
     rw [GY K T j n];by_cases e:n=j
     · subst e;simp [h]
     · congr 2
       rw [decide_eq_decide];omega
theorem QA {m k:Nat} (h:k < 9):(Av m).set k (.bool (m.testBit k))=Av m:=by
 refine List.ext_getElem? fun i=>?_;by_cases e:k=i
 · subst e
   rw [List.getElem?_set_self (by simp [Av];omega),AP m k h]
 · rw [List.getElem?_set_ne e]
theorem Uf {K T n:Nat} (h:n < 9):(Av (Ef K T n)).set n (.bool ((Ef K T n).testBit n || T.testBit n))=Av (Ef K T (n+1)):=by
 rw [Ef];split
 · rename_i ht
   rw [ht,Bool.or_true,Da _ n h]
 · rename_i ht
   rw [Bool.not_eq_true] at ht;rw [ht,Bool.or_false,QA h]
def JR (keep:List Int) (pre:Aj) {d:Nat} (l:List (Cm d)):Nat:=Ef (IP d (Ay keep) l) (Ds (Ak pre)) 9
theorem My (l:List Int) (j:Nat) (h:9≤j):(l.foldl As 0).testBit j=false:=by
 rw [Et,Nat.zero_testBit,Bool.false_or,List.any_eq_false];intro t _ e;rw [Bool.and_eq_true,decide_eq_true_eq] at e;have:=At.1 e.1;omega
theorem Ln:∀ (d:Nat) (l:List (Cm d)) (m:Nat),(∀ j,9≤j→m.testBit j=false)→∀ j,9≤j→(CO d m l).testBit j=false
 | 0,_,_,h=>h
 | d+1,l,m,h=>by
   show ∀ j,9≤j→(l.foldl _ m).testBit j=false
   induction l generalizing m with
   | nil=>exact h
   | cons c l ih=>exact ih _ (Ln d _ _ (Ln d _ _ fun j hj=>by rw [FT,h j hj,My _ j hj];rfl))
theorem Lo (keep:List Int) (pre:Aj) {d:Nat} (l:List (Cm d)) (j:Nat):(JR keep pre l).testBit j=(JI (Ay keep) pre l).testBit j:=by
 rw [JR,GY,Ni,D5,JI,Nat.testBit_or,Nat.testBit_or,D5,D5];rcases Nat.lt_or_ge j 9 with h9 | h9
 · rw [decide_eq_true h9,Bool.true_and]
   cases (Ay keep).testBit j <;> cases decide (5≤j) <;> cases (Ak pre).testBit j <;> cases (CO d 0 l).testBit j <;> rfl
 · rw [FS pre j h9]
   simp
theorem QB (keep:List Int) (pre:Aj) {d:Nat} (l:List (Cm d)):Ay (Dv (JR keep pre l))=JI (Ay keep) pre l:=by
 rw [OR]
 · exact Nat.eq_of_testBit_eq (Lo keep pre l)
 · intro j hj
   rw [Lo,JI,Nat.testBit_or,Nat.testBit_or,D5,D5,FS pre j hj,Ln d l 0 (fun j _=>Nat.zero_testBit j) j hj,Ay,My _ j hj];simp
theorem So (K T:Nat):Ef K (Ds T) 5=K:=by
 refine Nat.eq_of_testBit_eq fun j=>?_;rw [GY,D5];by_cases h:j < 5
 · rw [decide_eq_false (by omega:¬ 5≤j)];simp
 · rw [decide_eq_false h];simp
theorem O0 (d:Nat) {S1 S2 S:Nat→Prop} (v1 v2 v kv:Value) (pre:Aj) (l:List (Cm d)) (keep:List Int) (w:World) (h1:RL w S1 v1 pre.1) (h2:RL w S2 v2 pre.2) (h:RL w S v l) (hk:RInts w kv keep) (ha:Ah pre=true) (hs:AZ d l 4=true) :
 Calls Tryz.prog 95 #[.agg #[v1,v2],v,kv] w fun e w'=>∃ u,e=.returned u∧RInts w' u (Dv (JR keep pre l))∧Below w.heap.size w w':=by
 obtain ⟨p1,c1,rfl⟩:=h1.form;obtain ⟨p2,c2,rfl⟩:=h2.form;obtain ⟨va,vc,rfl⟩:=h.form;obtain ⟨ka,kc,rfl,_⟩:=hk.cells;obtain ⟨w0,hw0⟩:=Ey (w.alloc (.cells #[.slice p1 pre.1.length c1,.slice p2 pre.2.length c2] 26));have hb0:Below w.heap.size w w0:=by rw [hw0];exact Aa _ _
 have hA:w0.heap[w.heap.size]?=some (.cells #[.slice p1 pre.1.length c1,.slice p2 pre.2.length c2] 26 (0,0)):=by rw [hw0];exact heap_alloc_new _ _
 have H0:=Ad (An (An (h1.keep hb0).any (h2.keep hb0).any) (An (An ((h.keep hb0).more (S':=fun k=>k < w0.heap.size) fun k hk _=>hk) (hk.keep hb0)) (An hA hb0)));have HP:=Ad (An (K7 ha) hs);have HW:=Ad hw0;obtain ⟨b0,b1,bl⟩:=B3 hA;clear h1 h2 h hk ha hs hA hb0 hw0;go_enter Tryz.func95,Tryz.ntmps95
 go_upto_region 1 with fail
 rw [← HW.o];go_wp2_with fail
 refine (E1 _ keep _ H0.o.2.1.2).mono ?_;rintro e w1 ⟨u,rfl,ho1,hb1⟩;obtain ⟨ga,gc,rfl,hg⟩:=A8 ho1;obtain ⟨g,rfl⟩:=hg 0 Dc;have hgl:=AD ho1 (k:=g) rfl;have H1:=Ad (An (H0.o.2.1.1.keep hb1) (An ho1 hb1));clear hb1 ho1 hg;go_wp2_with fail
 refine (LF d g gc _ l (Ay keep) _ 4 _ H1.o.1 H1.o.2.1 (fun k hk e=>by have h1:k < w0.heap.size:=hk;have:=hgl.1;omega) HP.o.2).mono ?_;rintro e w2 ⟨rfl,ho2,hf2⟩;have hb2:Below w0.heap.size w0 w2:=H1.o.2.2.trans (hf2.below H1.o.2.2.size fun k hk e=>by have e2:k=g:=e;have:=hgl.1;omega);obtain ⟨K,hK⟩:=Ex (IP d (Ay keep) l);rw [hK] at ho2;have H2:=Ad (An (An (H0.o.1.1.keep hb2) (H0.o.1.2.keep hb2)) (An ho2 (An (Ac H0.o.2.2.1 hb2) (bt H0.o.2.2.2 hb2))));have HK:=Ad hK;have hz2:=hb2.size;clear hb2 ho2 hf2 hK b0 b1 bl;obtain ⟨b0,b1,bl⟩:=B3 H2.o.2.2.1;go_wp2_with fail
 refine (BQ _ _ pre _ H2.o.1.1 H2.o.1.2 (List.all_eq_true.2 HP.o.1.1.2) (List.all_eq_true.2 HP.o.1.2.2)).mono ?_;rintro e w3 ⟨u,rfl,ho3,hb3⟩;obtain ⟨T,hT⟩:=Ex (Ak pre);rw [hT] at ho3;obtain ⟨ta,tc,rfl,htg⟩:=A8 ho3;obtain ⟨tg,rfl⟩:=htg 0 Dc;have htl:=AD ho3 (k:=tg) rfl;have hgw2:=(AD H2.o.2.1 (k:=g) rfl).2;have H3:=Ad (An (Ag H2.o.2.1 hb3) (An ho3 (bt H2.o.2.2.2 hb3)));have HT:=Ad hT;have hne:¬ tg=g:=by omega
 clear hb3 ho3 hT htg b0 b1 bl;have HG:=Ad (show w.heap.size≤g∧w.heap.size≤tg from ⟨by have:=hgl.1;have:=H0.o.2.2.2.size;omega,by have:=htl.1;have:=H2.o.2.2.2.size;omega⟩);go_upto_region 4 with fail
 go_loopg [9] 4 (fun q i wr=>∃ j:Nat,(5≤j∧j+q=9)∧i=.int .i64 (j:Int)∧wr.ownsRow w0.heap.size 4 1 (.slice (some ⟨g,0,none⟩) 9 gc) 9 (Av (Ef K (Ds T) j))∧wr.ownsRow w2.heap.size 4 1 (.slice (some ⟨tg,0,none⟩) 9 tc) 9 (Av T)∧Fr (fun k=>k=g) w3 wr)
 case atStart=>exact ⟨5,⟨by omega,by omega⟩,rfl,by rw [So];exact H3.o.1,H3.o.2.1,Fr.refl _ _⟩
 case round =>
  obtain ⟨j,⟨hj5,hj⟩,rfl,hob,hot,hfr⟩:=hrel;have HJ:=Ad (An hj hfr);clear hj hfr;by_cases h8:j≤8
  · have hj8:(j:Int)≤8:=by omega
    (have hj9:(j:Int) < 9:=by omega);(have hjp:(0:Int)≤(j:Int):=by omega);(have hTT:(Ds T).testBit j=T.testBit j:=by rw [D5,decide_eq_true hj5,Bool.true_and]);have x1:wr.cell? ⟨g,j,none⟩=some (.bool ((Ef K (Ds T) j).testBit j)):=by
     have:=hob.cellAt j Om;rw [AP _ j (by omega)] at this;simpa using this
    have x2:wr.cell? ⟨tg,j,none⟩=some (.bool ((Ds T).testBit j)):=by
     have:=hot.cellAt j Om;rw [AP _ j Om,← hTT] at this;simpa using this
    have z1:=hob.frozenAt j;have hbz:=(AD hob (k:=g) rfl).2;have htz:=(AD hot (k:=tg) rfl).2;obtain ⟨s1,g1⟩:=hob.stored j (.bool ((Ef K (Ds T) j).testBit j || (Ds T).testBit j));rw [Uf (by omega)] at s1;have f1:=AF g1;have HS:=Ad (An s1 (An (BR hot f1 fun k hk e=>by have e1:k=tg:=Option.some.inj hk;have e2:k=g:=Option.some.inj e;omega) (HJ.o.2.trans (f1.mono fun k _ e=>Option.some.inj e))));obtain ⟨c1,hc1⟩:∃ c,(Ef K (Ds T) j).testBit j=c:=⟨_,rfl⟩;obtain ⟨c2,hc2⟩:∃ c,(Ds T).testBit j=c:=⟨_,rfl⟩;rw [hc1] at x1 HS;rw [hc2] at x2 HS;clear s1 g1 f1 hob hot hc1 hc2 hTT;cases c1 with
    | true =>
      rw [Bool.true_or] at HS;go_wp2;go_roundg (gk - 1)
      case rel=>exact ⟨j+1,⟨by omega,by have:=HJ.o.1;omega⟩,by go_num,HS.o⟩
      case measure=>have:=HJ.o.1;omega
    | false =>
      rw [Bool.false_or] at HS;go_wp2;go_roundg (gk - 1)
      case rel=>exact ⟨j+1,⟨by omega,by have:=HJ.o.1;omega⟩,by go_num,HS.o⟩
      case measure=>have:=HJ.o.1;omega
  · obtain rfl:j=9:=by have:=HJ.o.1;omega
    obtain ⟨Q,hQ⟩:=Ex (Ef K (Ds T) 9);rw [hQ] at hob;(have hQ2:JR keep pre l=Q:=by rw [JR,HK.o,HT.o,hQ]);have hbr:Below w.heap.size w wr:=H3.o.2.2.trans (HJ.o.2.below H3.o.2.2.size fun k hk e=>by have e2:k=g:=e;have:=HG.o.1;omega);have HR:=Ad (An hob (An hQ2 hbr));clear hob hot hQ hQ2 hbr;(go_wp2_with fail);refine (Fw _ _ _ _ HR.o.1).mono ?_;rintro e w6 ⟨u,rfl,ho6,hb6⟩;obtain ⟨ua,uc,rfl,_⟩:=A8 ho6;have HO:=Ad (An (CV ho6).1 (bt HR.o.2.2 hb6));clear ho6 hb6;go_wp2;go_ret;exact ⟨_,rfl,by rw [HR.o.2.1];exact HO.o.1,HO.o.2⟩
theorem Ug {α β:Type} [Inhabited α] {f:α→β} {l:List α} {k:Nat} (h:k < l.length):(l.take (k+1)).map f=(l.take k).map f ++ [f (gd l k)]:=by rw [AT h,List.map_append];rfl
theorem QC {d:Nat} {S1 S2 S3 S4 S5 S6:Nat→Prop} (v1 v2 f1 f2 x y kv:Value) (a:Aj) (c:Cm (d+1)) (keep:List Int) (w:World) (h1:RL w S1 v1 a.1) (h2:RL w S2 v2 a.2) (hf1:RL w S3 f1 c.inv.1) (hf2:RL w S4 f2 c.inv.2) (hx:RL w S5 x c.body) (hy:RL w S6 y c.els) (hk:RInts w kv keep) (hkn:keep.length≤1048576) (ha:Ah a=true) (hh:AI c=true) (h6:¬ c.kind=6) (h7:¬ c.kind=7) :
 Calls Tryz.prog 263 #[.agg #[v1,v2],.agg #[.int .i64 c.kind,.int .i64 c.a,.int .i64 c.b,.bool c.test.1,.int .i64 c.test.2.1,.int .i64 c.test.2.2,f1,f2,x,y],kv] w fun e w'=>∃ v,e=.returned (.tuple #[v,.bool (BV c.kind c.a c.b (Ay keep) a).isSome])∧RL w' (fun k=>w.heap.size≤k) v (((BV c.kind c.a c.b (Ay keep) a).getD []).map (BD (Ay keep)))∧Below w.heap.size w w':=by
 have hb:=Eh hh h6 h7;obtain ⟨p1,c1,rfl⟩:=h1.form;obtain ⟨p2,c2,rfl⟩:=h2.form;obtain ⟨a3,c3,rfl⟩:=hf1.form;obtain ⟨a4,c4,rfl⟩:=hf2.form;obtain ⟨a5,c5,rfl⟩:=hx.form;obtain ⟨a6,c6,rfl⟩:=hy.form;obtain ⟨ka,kc,rfl,_⟩:=hk.cells;obtain ⟨O,hO⟩:=Ex (BV c.kind c.a c.b (Ay keep) a);have hgood:∀ L,O=some L→GoodV 128 L:=fun L h=>Hp ha (ER hb) (hO.trans h);rw [hO];obtain ⟨L,hL⟩:=Ex (O.getD []);rw [hL];have hgl:GoodV 128 L:=by
  rw [← hL];cases O with
  | none=>exact Cx _
  | some l=>exact hgood l rfl
 have HL:=Ad (An hL hgl);clear hL hgl;obtain ⟨m,hm⟩:=Ex (Ay keep);rw [hm];obtain ⟨w0,hw0⟩:=Ey ((w.alloc (.cells #[.slice p1 a.1.length c1,.slice p2 a.2.length c2] 26)).alloc (.cells #[.int .i64 c.kind,.int .i64 c.a,.int .i64 c.b,.bool c.test.1,.int .i64 c.test.2.1,.int .i64 c.test.2.2,.slice a3 c.inv.1.length c3,.slice a4 c.inv.2.length c4,.slice a5 c.body.length c5,.slice a6 c.els.length c6] 63));have hb0:Below w.heap.size w w0:=by rw [hw0];exact ba (Aa _ _) _
 have hA:w0.heap[w.heap.size]?=some (.cells #[.slice p1 a.1.length c1,.slice p2 a.2.length c2] 26 (0,0)):=by rw [hw0];exact Ac (heap_alloc_new w _) (Aa _ _)
 have hC:w0.heap[w.heap.size+1]?=some (.cells #[.int .i64 c.kind,.int .i64 c.a,.int .i64 c.b,.bool c.test.1,.int .i64 c.test.2.1,.int .i64 c.test.2.2,.slice a3 c.inv.1.length c3,.slice a4 c.inv.2.length c4,.slice a5 c.body.length c5,.slice a6 c.els.length c6] 63 (0,0)):=by
  rw [hw0];have:=heap_alloc_new (w.alloc (.cells #[.slice p1 a.1.length c1,.slice p2 a.2.length c2] 26)) (.cells #[.int .i64 c.kind,.int .i64 c.a,.int .i64 c.b,.bool c.test.1,.int .i64 c.test.2.1,.int .i64 c.test.2.2,.slice a3 c.inv.1.length c3,.slice a4 c.inv.2.length c4,.slice a5 c.body.length c5,.slice a6 c.els.length c6] 63);rw [World.size_alloc] at this;exact this
 have H0:=Ad (An (An (h1.keep hb0) (h2.keep hb0)) (An (hk.keep hb0) hb0));have HC0:=Ad (An (An (hf1.keep hb0) (hf2.keep hb0)) (An (hx.keep hb0) (hy.keep hb0)));have HP:=Ad (An (An ha hb) (An hO (An hgood (An hm hkn))));have HW:=Ad hw0;have y6:(c.kind == 6)=false:=beq_eq_false_iff_ne.2 h6;have y7:(c.kind == 7)=false:=beq_eq_false_iff_ne.2 h7;obtain ⟨b0,b1,bl⟩:=B3 hA;obtain ⟨k0,k1,k2,k3,k4,k5,k6,k7,k8,k9⟩:=Dk hC;have kl:=Ae hC;clear h1 h2 hf1 hf2 hx hy hk ha hb hh h6 h7 hA hC hb0 hw0 hkn hO hgood hm;go_enter Tryz.func263,Tryz.ntmps263
 go_upto_region 1 with fail
 rw [← HW.o];go_wp2_with fail
 refine (LE _ _ _ _ _ _ _ a c keep _ H0.o.1.1 H0.o.1.2 HC0.o.1.1 HC0.o.1.2 HC0.o.2.1 HC0.o.2.2 H0.o.2.1 HP.o.2.2.2.2 HP.o.1.1 HP.o.1.2).mono ?_;rw [HP.o.2.1];rintro e w2 ⟨v,rfl,hG,hb2⟩;rw [HL.o.1] at hG;obtain ⟨va,vc,rfl⟩:=hG.form;have H2:=Ad (An hG.rl.any (An (H0.o.2.1.keep hb2) (bt H0.o.2.2 hb2)));clear hG hb2 b0 b1 bl k0 k1 k2 k3 k4 k5 k6 k7 k8 k9 kl y6 y7;go_upto_region 7 with fail
 obtain ⟨wE,hwE⟩:=Ey (w2.alloc (.cells #[] 26));have hbE:Below w2.heap.size w2 wE:=by rw [hwE];exact Aa _ _
 have H3:=Ad (An (H2.o.1.keep hbE) (An (H2.o.2.1.keep hbE) (bt H2.o.2.2 hbE)));have HWE:=Ad hwE;clear hwE hbE;rw [← HWE.o];go_loopg [11,10] L.length (fun q i out wr=>∃ j:Nat,j+q=L.length∧i=.int .i64 j∧GX wr wE.heap.size (fun k=>wE.heap.size≤k) out ((L.take j).map (BD m))∧Below wE.heap.size wE wr)
 case atStart=>exact ⟨0,by omega,rfl,GX.nil _ _ _ _,Below.refl _ _⟩
 case round =>
  obtain ⟨j,hj,rfl,hG,hW⟩:=hrel;obtain ⟨ra,rn,rc,rfl⟩:=hG.forms;have HK:=Ad (An hj hW);have HG:=Ad hG;have hzs:=hW.size;clear hj hG;by_cases hj8:j < L.length
  · have i1:(j:Int) < (L.length:Int):=by omega
    obtain ⟨qa,qc,hqe,_,_,hqf⟩:=(H3.o.1.keep hW).asnAt;simp only [Value.slice.injEq,true_and] at hqe;obtain ⟨rfl,rfl⟩:=hqe;obtain ⟨bb,oo,u1,u2,rfl,_,hzb,hp1,hp2,r1,r2⟩:=hqf j hj8;obtain ⟨y1,z1,rfl⟩:=r1.form;obtain ⟨y2,z2,rfl⟩:=r2.form;have HV:=Ad (An (HL.o.2.1 _ (Be hj8)) (An hj8 (H3.o.2.1.keep hW)));have HR:=Ad (An r1 r2);clear r1 r2 hqf hW;(go_wp2_with fail);refine (Ma _ _ _ (gd L j) keep _ HR.o.1 HR.o.2 HV.o.2.2 HV.o.1).mono ?_;rw [HP.o.2.2.2.1];rintro e w5 ⟨x1,x2,rfl,⟨g1,g2⟩,hb5⟩;obtain ⟨d1,m1,e1,rfl⟩:=g1.forms;obtain ⟨d2,m2,e2,rfl⟩:=g2.forms;obtain ⟨wx,hwx⟩:=Ey (w5.alloc (.cells #[.slice d1 m1 e1,.slice d2 m2 e2] 26));(have hbx:Below w5.heap.size w5 wx:=by rw [hwx];exact Aa _ _);(have hT:wx.heap[w5.heap.size]?=some (.cells #[.slice d1 m1 e1,.slice d2 m2 e2] 26 (0,0)):=by rw [hwx];exact heap_alloc_new _ _);have hbw:=bt hb5 hbx;have H5:=Ad (An (HG.o.keep hbw) (bt HK.o.2 hbw));have hz5:=hbw.size;have HLT:=Ad (Cr (w:=wx) (S:=fun k=>wr.heap.size≤k) (a:=BD m (gd L j)) (g1.rl.keep hbx) (g2.rl.keep hbx) hz5);have HIN:=Ad HG.o.inside;have HWX:=Ad hwx;obtain ⟨t0,t1,tl⟩:=B3 hT;clear g1 g2 hb5 hbx hwx hT hbw hp1 hp2;(go_upto_region 10 with fail);rw [← HWX.o];go_wp2_with (at_builtin;go_must (refine D8 (l:=(L.take j).map (BD m)) (m:=[BD m (gd L j)]) rfl (.tmp 44) (.tmp 46) _ rfl (B:=wE.heap.size) (R:=fun k=>wE.heap.size≤k) Cy rfl (H5.o.1.keep (Aa _ _)) rfl HLT.o (fun k _ h=>⟨by have h6:wr.heap.size≤k:=h;show wE.heap.size≤k;omega,fun hne e=>by rcases HIN.o with h4 | h4;exact hne h4;have h5:=(h4 k e).2;have h6:wr.heap.size≤k:=h;omega⟩) (by have h1:=HL.o.2.2;simp;omega) (by simp;omega) ?_;intro v9 w9 g9 f9;obtain ⟨a9,n9,c9,rfl⟩:=g9.forms))
    have hb9:=(H5.o.1.keep (Aa wx (.cells #[.slice d1 m1 e1,.slice d2 m2 e2] 26))).below (ba H5.o.2 _) (Nat.le_refl _) (by simp;omega) f9;have H9:=Ad (An g9 hb9);have HST:=Ad (Ug (f:=BD m) HV.o.2.1);clear g9 hb9 f9;go_wp2;go_roundg (gk - 1)
    case rel=>exact ⟨j+1,Jo HK.o.1 HV.o.2.1,(by first | exact Wz HV.o.2.1 HL.o.2.2 | go_num),by rw [HST.o];exact H9.o.1,H9.o.2⟩
    case measure=>exact Jp HK.o.1 HV.o.2.1
  · have hjn:j=L.length:=by have:=HK.o.1;omega
    subst hjn;(have i1:¬ (L.length:Int) < (L.length:Int):=by omega);have hzw:=H3.o.2.2.size;have HR:=Ad (show RL wr (fun k=>w.heap.size≤k) (.slice ra rn rc) (L.map (BD m)) by have h:=HG.o.rl;rw [List.take_length] at h;exact h.more fun k _ h=>by rcases h with h | h <;> exact Nat.le_trans hzw h);clear hW;go_wp2;go_ret2;exact ⟨_,rfl,HR.o,bt H3.o.2.2 HK.o.2⟩
def VS (S:Nat→Prop) (r:BF) (w:World) (e:Ending) (w':World):Prop:=∃ x,e=.returned (.tuple #[x,.int .i64 r.1])∧RL w' (fun k=>S k∨w.heap.size≤k) x r.2∧Below w.heap.size w w'
def Uh (keep:List Int) (d:Nat):Prop:=∀ (S1 S:Nat→Prop) (pv v kv:Value) (pres:List Aj) (l:List (Cm d)) (D:Int) (w:World) (_h1:RL w S1 pv pres) (_h:RL w S v l) (_hk:RInts w kv keep) (_hg:GoodV 24 pres) (_hs:AZ d l D=true),
    Calls Tryz.prog 172 #[pv,v,kv] w (VS S1 (BE (Ay keep) d l pres) w)
theorem QD {keep:List Int} {d:Nat} (IH:Uh keep d) {S3 S4 S5:Nat→Prop} (f1 f2 x y kv:Value) (c:Cm (d+1)) (D:Int) (w:World) (hf1:RL w S3 f1 c.inv.1) (hf2:RL w S4 f2 c.inv.2) (hx:RL w S5 x c.body) (hy:∃ a n k,y=.slice a n k) (hk:RInts w kv keep) (hi:Ah c.inv=true) (hs:AZ d c.body D=true) :
 Calls Tryz.prog 98 #[.agg #[.int .i64 c.kind,.int .i64 c.a,.int .i64 c.b,.bool c.test.1,.int .i64 c.test.2.1,.int .i64 c.test.2.2,f1,f2,x,y],kv] w fun e w'=>e=.returned (.bool (F3 (fun s=>BE (Ay keep) d c.body [s]) c.inv c.test))∧Below w.heap.size w w':=by
 obtain ⟨a3,c3,rfl⟩:=hf1.form;obtain ⟨a4,c4,rfl⟩:=hf2.form;obtain ⟨a5,c5,rfl⟩:=hx.form;obtain ⟨a6,n6,c6,rfl⟩:=hy;obtain ⟨ka,kc,rfl,_⟩:=hk.cells;obtain ⟨K,hK⟩:∃ K,F3 (fun s=>BE (Ay keep) d c.body [s]) c.inv c.test=K:=⟨_,rfl⟩;rw [hK];obtain ⟨A,hA⟩:=Ex (B7 c.inv c.test);obtain ⟨T,hT⟩:=Ex (BE (Ay keep) d c.body [A]);rw [F3,hA,hT] at hK;obtain ⟨w0,hw0⟩:=Ey (w.alloc (.cells #[.int .i64 c.kind,.int .i64 c.a,.int .i64 c.b,.bool c.test.1,.int .i64 c.test.2.1,.int .i64 c.test.2.2,.slice a3 c.inv.1.length c3,.slice a4 c.inv.2.length c4,.slice a5 c.body.length c5,.slice a6 n6 c6] 63));have hb0:Below w.heap.size w w0:=by rw [hw0];exact Aa _ _
 have hC:w0.heap[w.heap.size]?=some (.cells #[.int .i64 c.kind,.int .i64 c.a,.int .i64 c.b,.bool c.test.1,.int .i64 c.test.2.1,.int .i64 c.test.2.2,.slice a3 c.inv.1.length c3,.slice a4 c.inv.2.length c4,.slice a5 c.body.length c5,.slice a6 n6 c6] 63 (0,0)):=by rw [hw0];exact heap_alloc_new _ _
 have H0:=Ad (An (An (hf1.keep hb0) (hf2.keep hb0)) (An (An (hx.keep hb0) (hk.keep hb0)) (An hC hb0)));have HW:=Ad hw0;have HP:=Ad (An (An hi (Co hi)) (An hA (An hT hs)));have HK:=Ad hK;have HIH:=Ad IH;obtain ⟨k0,k1,k2,k3,k4,k5,k6,k7,k8,k9⟩:=Dk hC;have kl:=Ae hC;clear hf1 hf2 hx hk hi hA hT hs hK IH hC hb0 hw0;go_enter Tryz.func98,Tryz.ntmps98
 go_upto_region 1 with fail
 rw [← HW.o];have HLT:=Ad (Bm w0 c.test.1 c.test.2.1 c.test.2.2 61);go_wp2_with fail
 refine (FH (S3:=fun k=>k=w0.heap.size) (S4:=fun _=>True) _ _ _ _ c.inv ([((c.test.1,c.test.2.1,c.test.2.2):Ap)],([]:List Am)) _ (H0.o.1.1.keep (Aa _ _)) (H0.o.1.2.keep (Aa _ _)) HLT.o (RL.nil _ _) HP.o.1.2.1 HP.o.1.2.2 Sp Sp).mono ?_;rintro e w1 ⟨x1,x2,rfl,o1,o2,hb1'⟩;rw [List.append_nil] at o2;have hb1:Below w0.heap.size w0 w1:=bt (Aa _ _) hb1';obtain ⟨y1,j1,z1,rfl⟩:=o1.forms;obtain ⟨y2,j2,z2,rfl⟩:=o2.forms;have q1:RL w1 (fun _=>True) (.slice y1 j1 z1) A.1:=by rw [← HP.o.2.1];exact o1.any
 have q2:RL w1 (fun _=>True) (.slice y2 j2 z2) A.2:=by rw [← HP.o.2.1];exact o2.any
 obtain ⟨W,hW⟩:=Ey (w1.alloc (.cells #[.slice y1 j1 z1,.slice y2 j2 z2] 26));have hbW:Below w1.heap.size w1 W:=by rw [hW];exact Aa _ _
 have hst:W.heap[w1.heap.size]?=some (.cells #[.slice y1 j1 z1,.slice y2 j2 z2] 26 (0,0)):=by rw [hW];exact heap_alloc_new _ _
 have hbw:=bt hb1 hbW;have HW1:=Ad hW;have H1:=Ad (An (An (q1.keep hbW) (q2.keep hbW)) (An (An (H0.o.1.1.keep hbw) (H0.o.1.2.keep hbw)) (An (An (H0.o.2.1.1.keep hbw) (H0.o.2.1.2.keep hbw)) (An (An (Ac H0.o.2.2.1 hbw) hst) (bt H0.o.2.2.2 hbw)))));clear o1 o2 q1 q2 hb1 hb1' hbW hst hW hbw k0 k1 k2 k3 k4 k5 k6 k7 k8 k9 kl;obtain ⟨s0,s1,sl⟩:=B3 H1.o.2.2.2.1.2;go_upto_region 2 with fail
 rw [← HW1.o];go_wp2_with fail
 refine (Ar _ _ A _ H1.o.1.1 H1.o.1.2).mono ?_;rintro e w2 ⟨rfl,hb2⟩;have H2:=Ad (An (An (H1.o.1.1.keep hb2) (H1.o.1.2.keep hb2)) (An (An (H1.o.2.1.1.keep hb2) (H1.o.2.1.2.keep hb2)) (An (An (H1.o.2.2.1.1.keep hb2) (H1.o.2.2.1.2.keep hb2)) (An (An (Ac H1.o.2.2.2.1.1 hb2) (Ac H1.o.2.2.2.1.2 hb2)) (bt H1.o.2.2.2.2 hb2)))));clear hb2 s0 s1 sl;obtain ⟨s0,s1,sl⟩:=B3 H2.o.2.2.2.1.2;cases hv:Ah A with
 | false =>
   have HE:=Ad (show K=false by rw [← HK.o,hv];rfl);clear hv;go_wp2;go_ret;exact ⟨by rw [HE.o];rfl,H2.o.2.2.2.2⟩
 | true =>
   have HV:=Ad hv;clear hv;(go_wp2_with fail);refine (C2 _ _ A _ H2.o.1.1 H2.o.1.2).mono ?_;rintro e w3 ⟨rfl,hb3⟩;have H3:=Ad (An (An (H2.o.1.1.keep hb3) (H2.o.1.2.keep hb3)) (An (An (H2.o.2.1.1.keep hb3) (H2.o.2.1.2.keep hb3)) (An (An (H2.o.2.2.1.1.keep hb3) (H2.o.2.2.1.2.keep hb3)) (An (An (Ac H2.o.2.2.2.1.1 hb3) (Ac H2.o.2.2.2.1.2 hb3)) (bt H2.o.2.2.2.2 hb3)))));clear hb3 s0 s1 sl;obtain ⟨s0,s1,sl⟩:=B3 H3.o.2.2.2.1.2;obtain ⟨k0,k1,k2,k3,k4,k5,k6,k7,k8,k9⟩:=Dk H3.o.2.2.2.1.1;have kl:=Ae H3.o.2.2.2.1.1;cases hc:Cl A with
   | false =>
     have HE:=Ad (show K=true by rw [← HK.o,HV.o,hc];rfl);clear hc;go_wp2;go_ret;exact ⟨by rw [HE.o];rfl,H3.o.2.2.2.2⟩
   | true =>
     have HC:=Ad (show K=((T.1 == 0) && T.2.all fun p=>Cp p c.inv) by rw [← HK.o,HV.o,hc];rfl);have HLT2:=Ad (Cr (w:=w3) (S:=fun _=>True) (a:=A) H3.o.1.1 H3.o.1.2 trivial);have HGV:=Ad (AX (n:=24) HV.o Dc);clear hc;(go_wp2_with fail);refine (HIH.o _ _ _ _ _ [A] c.body D _ HLT2.o (H3.o.2.2.1.1.keep (Aa _ _)) (H3.o.2.2.1.2.keep (Aa _ _)) HGV.o HP.o.2.2.2).mono ?_;rw [HP.o.2.2.1];rintro e w4 ⟨r,rfl,hr,hb4'⟩;have hb4:Below w3.heap.size w3 w4:=bt (Aa _ _) hb4';obtain ⟨ra,rc,rfl⟩:=hr.form;have hrl:=hr.len;have H4:=Ad (An hr.any (An (An (H3.o.2.1.1.keep hb4) (H3.o.2.1.2.keep hb4)) (An (Ac H3.o.2.2.2.1.1 hb4) (bt H3.o.2.2.2.2 hb4))));have HRL:=Ad hrl;clear hr hb4 hb4' hrl s0 s1 sl k0 k1 k2 k3 k4 k5 k6 k7 k8 k9 kl;(go_upto_region 8 with fail);by_cases h0:T.1=0
     · have y0:(T.1 == 0)=true:=beq_iff_eq.2 h0
       have HE:=Ad (show (T.2.all fun p=>Cp p c.inv)=K by rw [HC.o,y0,Bool.true_and]);clear h0;go_loopg [8] T.2.length (fun q i wr=>∃ j:Nat,j+q=T.2.length∧i=.int .i64 j∧((T.2.take j).all fun p=>Cp p c.inv)=true∧Below w4.heap.size w4 wr)
       case atStart=>exact ⟨0,by omega,rfl,rfl,Below.refl _ _⟩
       case round =>
        obtain ⟨j,hj,rfl,ht,hW⟩:=hrel;have HJ:=Ad (An hj (An ht hW));have hzs:=hW.size;clear hj ht;by_cases hj8:j < T.2.length
        · have i1:(j:Int) < (T.2.length:Int):=by omega
          obtain ⟨qa,qc,hqe,_,_,hqf⟩:=(H4.o.1.keep hW).asnAt;simp only [Value.slice.injEq,true_and] at hqe;obtain ⟨rfl,rfl⟩:=hqe;obtain ⟨bb,oo,u1,u2,rfl,_,hzb,hp1,hp2,r1,r2⟩:=hqf j hj8;obtain ⟨g1,l1,rfl⟩:=r1.form;obtain ⟨g2,l2,rfl⟩:=r2.form;have hCb:=Ac H4.o.2.2.1 hW;obtain ⟨k0,k1,k2,k3,k4,k5,k6,k7,k8,k9⟩:=Dk hCb;have kl:=Ae hCb;obtain ⟨b,hb⟩:=Ex (Cp (gd T.2 j) c.inv);have HQ:=Ad (An (An r1 r2) (An hb hj8));have HI:=Ad (An (H4.o.2.1.1.keep hW) (H4.o.2.1.2.keep hW));clear r1 r2 hb hqf hCb hW;(go_upto_region 10 with fail);refine Af Kr Kr ?_;repeat (go_big_quiet_step ((go_at_call 97;exact Eu (cb (FM _ _ _ _ (gd T.2 j) c.inv _ (HQ.o.1.1.keep (AV _ _)) (HQ.o.1.2.keep (AV _ _)) (HI.o.1.keep (AV _ _)) (HI.o.2.keep (AV _ _))) HQ.o.2.1))))
          refine wpQuiet_nil ?_;intro w6 hb6;have HB6:=Ad (bt HJ.o.2.2 hb6);clear hb6 hp1 hp2 k0 k1 k2 k3 k4 k5 k6 k7 k8 k9 kl;cases b with
          | false =>
            have HF:=Ad (show K=false by rw [← HE.o];exact IJ HQ.o.2.2 HQ.o.2.1);go_wp2;go_ret;exact ⟨by rw [HF.o];rfl,bt H4.o.2.2.2 HB6.o⟩
          | true =>
            have HS:=Ad (IK HQ.o.2.2 HJ.o.2.1 HQ.o.2.1);go_wp2;go_roundg (gk - 1)
            case rel=>exact ⟨j+1,Jo HJ.o.1 HQ.o.2.2,(by first | exact Mq HQ.o.2.2 HRL.o (Nat.le_refl _) | go_num),HS.o,HB6.o⟩
            case measure=>exact Jp HJ.o.1 HQ.o.2.2
        · have hjn:j=T.2.length:=by have:=HJ.o.1;omega
          subst hjn;(have i1:¬ (T.2.length:Int) < (T.2.length:Int):=by omega);have HF:=Ad (show K=true by rw [← HE.o,← HJ.o.2.1,List.take_length]);go_wp2;go_ret;exact ⟨by rw [HF.o];rfl,bt H4.o.2.2.2 HJ.o.2.2⟩
     · have y0:(T.1 == 0)=false:=beq_eq_false_iff_ne.2 h0
       have HF:=Ad (show K=false by rw [HC.o,y0,Bool.false_and]);clear h0;go_loopg [8] 1 (fun q i wr=>i=.int .i64 0∧wr=w4)
       case atStart=>exact ⟨rfl,rfl⟩
       case round =>
        obtain ⟨rfl,rfl⟩:=hrel;by_cases hl0:0 < T.2.length
        · have i1:(0:Int) < (T.2.length:Int):=by omega
          go_wp2;go_ret;exact ⟨by rw [HF.o];rfl,H4.o.2.2.2⟩
        · have i1:¬ (0:Int) < (T.2.length:Int):=by omega
          go_wp2;go_ret;exact ⟨by rw [HF.o];rfl,H4.o.2.2.2⟩
end Go.Proofs.YtkbbmjcfgcfejaaGreat
