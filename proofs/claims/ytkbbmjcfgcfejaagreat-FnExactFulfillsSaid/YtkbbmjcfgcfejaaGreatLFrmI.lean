/- Walks: atoms are chosen (impl.pickAtoms, spec.l7Pick). -/
import Derived.Test.YtkbbmjcfgcfejaaGreatLList1
import Derived.Test.YtkbbmjcfgcfejaaGreatLItrB
set_option linter.unusedVariables false
set_option linter.unusedSimpArgs false
set_option maxRecDepth 100000
set_option maxHeartbeats 12800000
namespace Go.Proofs.YtkbbmjcfgcfejaaGreat
open Go.RowKit
theorem Sa:∀ n:Nat,n < 64→(bits .and .i64 (n:Int) 1 == 1)=n.testBit 0:=by decide
theorem Vz {m k:Nat} (hm:m < 64):(bits .and .i64 ((m:Int) / 2 ^ k) 1 == 1)=m.testBit k:=by
 have e:((m:Int) / 2 ^ k)=((m / 2 ^ k:Nat):Int):=by simp
 rw [e,Sa _ (Nat.lt_of_le_of_lt (Nat.div_le_self _ _) hm),← Nat.shiftRight_eq_div_pow,Nat.testBit_shiftRight];rfl
theorem Mt {S1 S2:Nat→Prop} (v1 v2:Value) (a:Aj) (m:Nat) (w:World) (h1:RL w S1 v1 a.1) (h2:RL w S2 v2 a.2) (hm:m < 64) (hl:(a.2.length:Int)≤8) :
 Calls Tryz.prog 83 #[.agg #[v1,v2],.int .i64 (m:Int)] w fun e w'=>∃ x2,e=.returned (.agg #[.slice none 0 0,x2])∧FE w' w.heap.size x2 (CR a.2 m)∧Below w.heap.size w w':=by
 obtain ⟨a1,a2⟩:=a;simp only at h1 h2 hl;obtain ⟨p1,c1,rfl⟩:=h1.form;obtain ⟨p2,c2,rfl⟩:=h2.form;have hbR:=Ac (heap_alloc_new (w.alloc (.cells #[.slice p1 a1.length c1,.slice p2 a2.length c2] 26)) (.cells #[.slice none 0 0,.slice none 0 0] 26)) (Aa _ (.cells #[.slice none 0 0,.slice none 0 0] 26));have hbT:=heap_alloc_new ((w.alloc (.cells #[.slice p1 a1.length c1,.slice p2 a2.length c2] 26)).alloc (.cells #[.slice none 0 0,.slice none 0 0] 26)) (.cells #[.slice none 0 0,.slice none 0 0] 26);simp only [World.size_alloc] at hbR hbT;have hB0:Below w.heap.size w (((w.alloc (.cells #[.slice p1 a1.length c1,.slice p2 a2.length c2] 26)).alloc (.cells #[.slice none 0 0,.slice none 0 0] 26)).alloc (.cells #[.slice none 0 0,.slice none 0 0] 26)):=Bl;have D0:DB w (((w.alloc (.cells #[.slice p1 a1.length c1,.slice p2 a2.length c2] 26)).alloc (.cells #[.slice none 0 0,.slice none 0 0] 26)).alloc (.cells #[.slice none 0 0,.slice none 0 0] 26)) (w.heap.size+1) (w.heap.size+1+1) (.slice none 0 0) (.slice none 0 0) [] []:=⟨FE.nil _ _ _,FE.nil _ _ _,hbR,hbT,hB0⟩;have H1:=Ad D0;have HH:=Ad h2;have HM:=Ad hm;clear hbR hbT hB0 h1 h2 hm D0;go_enter Tryz.func83,Tryz.ntmps83
 go_wp2;go_loopg [11] a2.length (fun q i wr=>∃ (k:Nat) (y2:Value),k+q=a2.length∧i=.int .i64 k∧DB w wr (w.heap.size+1) (w.heap.size+1+1) (.slice none 0 0) y2 [] (Dp a2 m k))
 case atStart=>exact ⟨0,_,by omega,rfl,H1.o⟩
 case round =>
  clear H1;obtain ⟨k,y2,hk,rfl,D⟩:=hrel;obtain ⟨L,hL⟩:=Ex (Dp a2 m k);have hLk:L.length≤k:=by rw [← hL];exact GM _ _ _
  rw [hL] at D;obtain ⟨ua2,uc2,rfl⟩:=D.a.form;have HK:=Ad (An hk hL);clear hk hL;by_cases hk8:k < a2.length
  · have hki:(k:Int) < (a2.length:Int):=by omega
    (have hkk:(k:Int) < 64:=by omega);(have hk0:(0:Int)≤(k:Int):=by omega);obtain ⟨qa,qc,hqe,_,_,hqf⟩:=(HH.o.keep D.fr).atomAt;simp only [Value.slice.injEq] at hqe;obtain ⟨rfl,_,rfl⟩:=hqe;obtain ⟨bb,oo,rfl,_,hz1,hp1,hp2,hp3⟩:=hqf k hk8;obtain ⟨X,hX⟩:=Ex (gd a2 k);obtain ⟨X1,X2,X3⟩:=X;rw [hX] at hp1 hp2 hp3;simp only at hp1 hp2 hp3;obtain ⟨c,hc⟩:=Ex (m.testBit k);have hbit:=Vz (k:=k) HM.o;rw [hc] at hbit;have HX:=Ad (An hX hc);have hbF:=Aa wr (.cells #[.int .i64 X1,.int .i64 X2,.int .i64 X3] 118);have HD:=Ad (D.keep hbF);have hwz:=D.fr.size;clear hqf hX hc D hbF;cases c with
    | false =>
      have HN:=Ad (show Dp a2 m (k+1)=L by rw [N0 HX.o.2,HK.o.2]);go_wp2;go_roundg (gk - 1)
      case rel=>exact ⟨k+1,_,by have:=HK.o;omega,by go_num,by rw [HN.o];exact HD.o⟩
      case measure=>have:=HK.o;omega
    | true =>
      have HN:=Ad (show Dp a2 m (k+1)=L ++ [(X1,X2,X3)] by rw [L0 HX.o.2,HK.o.2,HX.o.1]);(go_upto_region 6 with fail);have d1:=AY HD.o.boxA;have dz:=BI HD.o.boxA 1;have dl:=Ae HD.o.boxA;have hFX:=heap_alloc_new wr (.cells #[.int .i64 X1,.int .i64 X2,.int .i64 X3] 118);have e0:=Lp hFX;have e1:=JZ hFX;have e2:=J0 hFX;have ez:=Ae hFX;clear hp1 hp2 hp3 hFX;generalize hwe:wr.alloc (.cells #[.int .i64 X1,.int .i64 X2,.int .i64 X3] 118)=we at HD d1 dz dl e0 e1 e2 ez ⊢;clear hwe;go_wp2_with (at_builtin;go_must (refine Ez (l:=L) (m:=[((X1,X2,X3):Am)]) (B:=w.heap.size) (by rfl) (.tmp 22) (.tmp 24) _ (by rfl) A3 (by rfl) (HD.o.a.keep (Aa _ _)) (by rfl) (DZ rfl _ _ _ _) (by simp;omega) (by simp;omega) ?_;intro v' w7 o7 hf7;obtain ⟨a7,n7,c7,rfl⟩:=o7.forms;have hA7:=HD.o.boxTf hf7 (Aa _ _) Dc;have hb0:=AY hA7;have hbz:=BI hA7 1;have hbl7:=Ae hA7;clear hA7))
      have D9:=Ad (HD.o.app2T hf7 o7 (Aa _ _) Om Om);clear o7 hf7;go_wp2;go_roundg (gk - 1)
      case rel=>exact ⟨k+1,_,by have:=HK.o;omega,by go_num,by rw [HN.o];exact D9.out⟩
      case measure=>have:=HK.o;omega
  · obtain rfl:k=a2.length:=by have:=HK.o;omega
    obtain ⟨b0,b1,bl⟩:=B3 D.boxA;obtain ⟨r0,r1,rz,rl⟩:=B4 D.boxR;have r:=Au (.slice none 0 0) (.slice ua2 L.length uc2) r0 r1;have HO:=Ad (D.done Om (.slice none 0 0) (.slice ua2 L.length uc2));clear D;go_wp2;refine bodyPost_ret (v:=.agg #[.slice none 0 0,.slice ua2 L.length uc2]) (by simp [results,Tryz.results83,go_sem,r.1,r.2]) rfl ?_;exact ⟨_,rfl,by rw [← Jb,HK.o.2];exact HO.o.1.2,HO.o.2⟩
theorem Sb {S1 S2:Nat→Prop} (v1 v2:Value) (a:Aj) (m:Nat) (w:World) (h1:RL w S1 v1 a.1) (h2:RL w S2 v2 a.2) (hm:m < 64) (hl:(a.2.length:Int)≤8) :
 Calls Tryz.prog 155 #[.agg #[v1,v2],.int .i64 (m:Int)] w fun e w'=>∃ x2,e=.returned (.agg #[.slice none 0 0,x2])∧FE w' w.heap.size x2 (CR a.2 m)∧Below w.heap.size w w':=by
 obtain ⟨a1,a2⟩:=a;simp only at h1 h2 hl;obtain ⟨p1,c1,rfl⟩:=h1.form;obtain ⟨p2,c2,rfl⟩:=h2.form;have hbX:=Ac (Ac (heap_alloc_new w (.cells #[.slice p1 a1.length c1,.slice p2 a2.length c2] 26)) (Aa _ (.cells #[.slice none 0 0,.slice none 0 0] 26))) (Aa _ (.cells #[.slice none 0 0,.slice none 0 0] 26));have hbR:=Ac (heap_alloc_new (w.alloc (.cells #[.slice p1 a1.length c1,.slice p2 a2.length c2] 26)) (.cells #[.slice none 0 0,.slice none 0 0] 26)) (Aa _ (.cells #[.slice none 0 0,.slice none 0 0] 26));have hbT:=heap_alloc_new ((w.alloc (.cells #[.slice p1 a1.length c1,.slice p2 a2.length c2] 26)).alloc (.cells #[.slice none 0 0,.slice none 0 0] 26)) (.cells #[.slice none 0 0,.slice none 0 0] 26);simp only [World.size_alloc] at hbR hbT;have hB0:Below w.heap.size w (((w.alloc (.cells #[.slice p1 a1.length c1,.slice p2 a2.length c2] 26)).alloc (.cells #[.slice none 0 0,.slice none 0 0] 26)).alloc (.cells #[.slice none 0 0,.slice none 0 0] 26)):=Bl;have D0:DB w (((w.alloc (.cells #[.slice p1 a1.length c1,.slice p2 a2.length c2] 26)).alloc (.cells #[.slice none 0 0,.slice none 0 0] 26)).alloc (.cells #[.slice none 0 0,.slice none 0 0] 26)) (w.heap.size+1) (w.heap.size+1+1) (.slice none 0 0) (.slice none 0 0) [] []:=⟨FE.nil _ _ _,FE.nil _ _ _,hbR,hbT,hB0⟩;have H1:=Ad (An D0 hbX);have HH2:=Ad h2;have HM:=Ad hm;clear hbR hbT hB0 h1 h2 hm D0 hbX;go_enter Tryz.func155,Tryz.ntmps155
 go_wp2;go_loopg [6] a2.length (fun q i wr=>∃ (k:Nat) (y2:Value),k+q=a2.length∧i=.int .i64 k∧DB w wr (w.heap.size+1) (w.heap.size+1+1) (.slice none 0 0) y2 [] (Dp a2 m k)∧wr.heap[w.heap.size]?=some (.cells #[.slice p1 a1.length c1,.slice p2 a2.length c2] 26 (0,0)))
 case atStart=>exact ⟨0,_,by omega,rfl,H1.o.1,H1.o.2⟩
 case round =>
  clear H1;obtain ⟨n,y2,hn,rfl,D,hBX⟩:=hrel;have HN:=Ad hn;clear hn;obtain ⟨M,hM⟩:=Ex (Dp a2 m n);have hMl:M.length≤n:=by rw [← hM];exact GM _ _ _
  rw [hM] at D;have HM2:=Ad (An hM hMl);clear hM hMl;obtain ⟨ua2,uc2,rfl⟩:=D.a.form;have hc1:=AY hBX;have zc:=World.block_lt_of_cell? wr _ hc1;simp only at zc;by_cases hn8:n < a2.length
  · have hni:(n:Int) < (a2.length:Int):=by omega
    (have hkk:(n:Int) < 64:=by omega);(have hk0:(0:Int)≤(n:Int):=by omega);obtain ⟨q2a,q2c,hqe,_,_,hqf⟩:=(HH2.o.keep D.fr).atomAt;simp only [Value.slice.injEq] at hqe;obtain ⟨rfl,_,rfl⟩:=hqe;obtain ⟨b1,o1,rfl,_,hz1,hp1,hp2,hp3⟩:=hqf n hn8;obtain ⟨X,hX⟩:=Ex (gd a2 n);obtain ⟨X1,X2,X3⟩:=X;rw [hX] at hp1 hp2 hp3;simp only at hp1 hp2 hp3;obtain ⟨c,hc⟩:=Ex (m.testBit n);have hbit:=Vz (k:=n) HM.o;rw [hc] at hbit;cases c with
    | false =>
      have HS:=Ad (show Dp a2 m (n+1)=M by rw [N0 hc,HM2.o.1]);have HD:=Ad (An D hBX);clear D hBX hqf hc hX;go_wp2;go_roundg (gk - 1)
      case rel=>exact ⟨n+1,_,by have:=HN.o;omega,by go_num,by rw [HS.o];exact HD.o.1,HD.o.2⟩
      case measure=>have:=HN.o;omega
    | true =>
      have HS:=Ad (show Dp a2 m (n+1)=M ++ [(X1,X2,X3)] by rw [L0 hc,HM2.o.1,hX]);have d1:=AY D.boxA;have dz:=BI D.boxA 1;have dl:=Ae D.boxA;have HD:=Ad (An D hBX);have hlo:w.heap.size≤wr.heap.size:=D.fr.size;have HLE:=Ad (show M.length≤n∧n≤1048576 from ⟨HM2.o.2,by omega⟩);clear D hBX hqf hX hc;(go_upto_region 6 with fail);go_region_law (first
       | (refine DH (l:=M) (m:=[((X1,X2,X3):Am)]) (B:=w.heap.size) (by rfl) (.tmp 21) (.tmp 27) _ (by rfl) A3 (by rfl) (HD.o.1.a.keep Bl) (by rfl) (BB _ _ _ _ _) (by have:=HLE.o;simp;omega) (by simp;omega) ?_;intro v' w7 o7 hf7;obtain ⟨a7,n7,c7,rfl⟩:=o7.forms;have hA7:=AM (Ac HD.o.1.boxA (w':=wr.drew.alloc (.cells #[.int .i64 X1,.int .i64 X2,.int .i64 X3] 118)) Bl) hf7 Dc;have hb0:=AY hA7;have hbz:=BI hA7 1;have hbl7:=Ae hA7;clear hA7)
       | fail)
      all_goals
       have hkp:Below wr.heap.size wr (wr.drew.alloc (.cells #[.int .i64 X1,.int .i64 X2,.int .i64 X3] 118)):=Bl;have D9:=(HD.o.1.keep hkp).app2 Om Om o7 hf7;have hB9:=Ax (AM (Ac HD.o.2 hkp) hf7 Dc) ⟨w.heap.size+1+1,1,none⟩ (.slice a7 n7 c7) (by show ¬ w.heap.size=w.heap.size+1+1;omega);have H9:=Ad (An D9 hB9);clear D9 hB9 o7 hf7 hkp;go_wp2;go_roundg (gk - 1)
       case rel=>exact ⟨n+1,_,by have:=HN.o;omega,by go_num,by rw [HS.o];exact H9.o.1,H9.o.2⟩
       case measure=>have:=HN.o;omega
  · obtain rfl:n=a2.length:=by have:=HN.o;omega
    obtain ⟨b0,b1,bz,bl⟩:=B4 D.boxA;obtain ⟨r0,r1,rz,rl⟩:=B4 D.boxR;have r:=Au (.slice none 0 0) (.slice ua2 M.length uc2) r0 r1;have HO:=Ad (D.done Om (.slice none 0 0) (.slice ua2 M.length uc2));clear D hBX;go_wp2;refine bodyPost_ret (v:=.agg #[.slice none 0 0,.slice ua2 M.length uc2]) (by simp [results,Tryz.results155,go_sem,r.1,r.2]) rfl ?_;exact ⟨_,rfl,by rw [← Jb,HM2.o.1];exact HO.o.1.2,HO.o.2⟩
theorem U7 {a b:Aj} {m:Nat} (ha:Ah a=true) (hb:Ah b=true):Dq b ([],CR a.2 m)=Ah (b.1,b.2 ++ CR a.2 m):=by
 have hp:=PQ ha m;have hp2:Ah (([]:List Ap),CR a.2 m)=true:=by
  have h:=DY hp;have p:=AL hp;exact Ja Sp (fun f hf=>by simp at hf) h.1.2 p.2
 rw [Dq,hb,hp2,Bool.true_and,Bool.true_and,JB,List.append_nil]
theorem TX {a b:Aj} {m:Nat} (h:Dq b ([],CR a.2 m)=true):F0 b ([],CR a.2 m)=(b.1,b.2 ++ CR a.2 m):=by
 rw [F0,if_pos h,JB,List.append_nil]
def Wd (w wc:World) (C:Aj) (s:Value):Prop:=∃ (t:Nat) (x1 x2:Value),s=.pointer (some ⟨t,0,none⟩)∧wc.heap[t]?=some (.cells #[x1,x2] 26 (0,0))∧(RL wc (fun _=>True) x1 C.1∧RL wc (fun _=>True) x2 C.2)∧Below w.heap.size w wc
theorem Rk {α:Type} [Dat α] {w:World} {B t:Nat} {v:Value} {l:List α} (h:RL w (fun k=>B≤k) v l) (ht:t < B) (x y:Value):RL ((w.setCell ⟨t,0,none⟩ x).setCell ⟨t,1,none⟩ y) (fun k=>B≤k) v l :=
 (h.kept (Aw _ ⟨t,0,none⟩ x) fun k _ hk e=>by have h2:B≤k:=hk;have e2:k=t:=e;omega).kept (Aw _ ⟨t,1,none⟩ y) fun k _ hk e=>by have h2:B≤k:=hk;have e2:k=t:=e;omega
theorem OM {w w6:World} {B t:Nat} {x1 x2 y1 y2:Value} {C:Aj} (h1:RL w6 (fun k=>B≤k) x1 C.1) (h2:RL w6 (fun k=>B≤k) x2 C.2) (hT:w6.heap[t]?=some (.cells #[y1,y2] 26 (0,0))) (ht:t < B) (hb:Below w.heap.size w w6) (h0:w.heap.size≤t) :
 Wd w ((w6.setCell ⟨t,0,none⟩ x1).setCell ⟨t,1,none⟩ x2) C (.pointer (some ⟨t,0,none⟩)) :=
 ⟨t,x1,x2,rfl,BX (BL hT _) _,⟨(Rk h1 ht x1 x2).any,(Rk h2 ht x1 x2).any⟩,(hb.setCell (p:=⟨t,0,none⟩) h0 _).setCell (p:=⟨t,1,none⟩) h0 _⟩
theorem Qm {w w6:World} {S1 S2:Nat→Prop} {x1 x2:Value} {C:Aj} (h1:RL w6 S1 x1 C.1) (h2:RL w6 S2 x2 C.2) (hb:Below w.heap.size w w6) :
 Wd w (w6.alloc (.cells #[x1,x2] 26)) C (.pointer (some ⟨w6.heap.size,0,none⟩)) :=
 ⟨_,x1,x2,rfl,heap_alloc_new _ _,⟨(h1.keep (Aa _ _)).any,(h2.keep (Aa _ _)).any⟩,ba hb _⟩
theorem Qn {S1 S2 S3 S4:Nat→Prop} (p1 p2 q1 q2:Value) (a b:Aj) (bB bA m:Nat) (c:Bool) (w:World) (hB:w.heap[bB]?=some (.cells #[q1,q2] 26 (0,0))) (hA:w.heap[bA]?=some (.cells #[p1,p2] 26 (0,0)))
 (h1:RL w S1 p1 a.1) (h2:RL w S2 p2 a.2) (k1:RL w S3 q1 b.1) (k2:RL w S4 q2 b.2) (ha:Ah a=true) (hb:Ah b=true) (hm:m < 64) (hc:Su a b m=c) :
 Calls Tryz.prog 81 #[.int .i64 (m:Int),.pointer (some ⟨bB,0,none⟩),.pointer (some ⟨bA,0,none⟩)] w fun e w'=>e=.returned (.bool c)∧Below w.heap.size w w':=by
 obtain ⟨xa1,xc1,rfl⟩:=h1.form;obtain ⟨xa2,xc2,rfl⟩:=h2.form;obtain ⟨ya1,yc1,rfl⟩:=k1.form;obtain ⟨ya2,yc2,rfl⟩:=k2.form;have hl8:(a.2.length:Int)≤8:=by have:=(DY ha).1.2;omega
 obtain ⟨ok,hok⟩:=Ex (Dq b ([],CR a.2 m));obtain ⟨C,hC⟩:=Ex (F0 b ([],CR a.2 m));have hcc:c=(ok && Cp a C):=by
  rw [← hc,Su,← U7 ha hb,hok];cases ok with
  | false=>rw [Bool.false_and,Bool.false_and]
  | true=>rw [← hC,TX hok]
 have HC:=Ad (An hcc (An hok hC));have HA:=Ad (An (An h1 h2) (An k1 k2));have HBB:=Ad (An hA hB);obtain ⟨b0,b1,bl⟩:=B3 hB;obtain ⟨a0,a1,al⟩:=B3 hA;clear hcc hok hC h1 h2 k1 k2 hA hB ha hb hc;go_enter Tryz.func81,Tryz.ntmps81
 go_upto_region 1 with fail
 go_cut [5,6] from 5 (fun s5 s6 wc=>s6=.bool ok∧Wd w wc C s5)
 case first =>
  go_region_held3 (fun w'=>(w'.cell? ⟨bB,0,none⟩=some (.slice ya1 b.1.length yc1)∧w'.cell? ⟨bB,1,none⟩=some (.slice ya2 b.2.length yc2))∧(w'.cell? ⟨bA,0,none⟩=some (.slice xa1 a.1.length xc1)∧w'.cell? ⟨bA,1,none⟩=some (.slice xa2 a.2.length xc2)))
   (exact ⟨⟨(Ck b0),(Ck b1)⟩,⟨(Ck a0),(Ck a1)⟩⟩)
   (first
     | (go_at_call 83;go_must (refine (Mt _ _ a m _ (HA.o.1.1.keep Bl) (HA.o.1.2.keep Bl) hm hl8).mono ?_;rintro e w5 ⟨x1,rfl,o5,hb5'⟩;obtain ⟨d1,m1,k1,rfl⟩:=o5.forms;have hb5:Below w.heap.size w w5:=bt Bl hb5';have hz5:=hb5.size;(first | have hT5:w5.heap[w.heap.size]?=some (.cells #[.slice none 0 0,.slice none 0 0] 26 (0,0)):=Ac (heap_alloc_new w (.cells #[.slice none 0 0,.slice none 0 0] 26)) hb5' | have hT5:w5.heap[w.heap.size]?=some (.cells #[.slice none 0 0,.slice none 0 0] 26 (0,0)):=Ac (heap_alloc_new w.drew (.cells #[.slice none 0 0,.slice none 0 0] 26)) hb5' | skip);have o5r:=o5.rl;clear o5))
     | (go_at_call 82;go_must (refine (G0 (S3:=fun _=>True) _ _ _ _ b (([]:List Ap),CR a.2 m) _ (HA.o.2.1.keep Bl) (HA.o.2.2.keep Bl) (RL.nil _ _) (o5r.keep Bl)).mono ?_;rw [HC.o.2.1,HC.o.2.2];rintro e w6 ⟨y1,y2,rfl,o6,hb6'⟩;obtain ⟨e1,n1,g1,rfl⟩:=o6.one.forms;obtain ⟨e2,n2,g2,rfl⟩:=o6.two.forms;have hb6:Below w.heap.size w w6:=bt Bl hb6';(first | have hT6:=Ac hT5 (bt (by first | exact Below.refl _ _ | exact Aa _ _) hb6') | have hT6:=Ac (heap_alloc_new w5 (.cells #[.slice none 0 0,.slice none 0 0] 26)) hb6' | skip);(first | (have V9:=B4 hT6;obtain ⟨ht0,ht1,htz,htl⟩:=V9) | skip);have q1:=o6.one;have q2:=o6.two;clear o6)))
  all_goals
   have HQ:=Ad (An q1 (An q2 hb6));clear q1 q2;go_wp2;go_meet
   case rel =>
    refine ⟨rfl,?_⟩;first
      | exact Qm HQ.o.1 HQ.o.2.1 HQ.o.2.2
      | (have hl5:=Ae hT5;exact OM HQ.o.1 HQ.o.2.1 hT6 (by first | omega | (simp;done) | (simp;omega) | fail) HQ.o.2.2 Om)
      | exact OM HQ.o.1 HQ.o.2.1 hT6 (by first | omega | (simp;done) | (simp;omega) | fail) HQ.o.2.2 Om
      | fail
 case rest =>
  obtain ⟨rfl,t,x1,x2,rfl,hT,⟨r1,r2⟩,hbw⟩:=hcut;obtain ⟨t0,t1,tl⟩:=B3 hT;obtain ⟨ta1,tc1,rfl⟩:=r1.form;obtain ⟨ta2,tc2,rfl⟩:=r2.form;replace b0:=Ab hbw b0;replace b1:=Ab hbw b1;replace a0:=Ab hbw a0;replace a1:=Ab hbw a1;have hz:=hbw.size;have al2:bA < wc.heap.size:=by omega
  have HQ:=Ad (An (An r1 r2) (An hbw (An (HA.o.1.1.keep hbw) (HA.o.1.2.keep hbw))));clear r1 r2 hbw hT;cases ok with
  | false =>
    go_wp2;go_returns;exact ⟨by rw [HC.o.1,Bool.false_and];rfl,HQ.o.2.1⟩
  | true =>
    (go_wp2_with fail);refine (Iu _ _ _ _ a C _ HQ.o.2.2.1 HQ.o.2.2.2 HQ.o.1.1 HQ.o.1.2).mono ?_;rintro e w8 ⟨rfl,hb8⟩;go_wp2;go_returns;exact ⟨by rw [HC.o.1,Bool.true_and];rfl,bt HQ.o.2.1 hb8⟩
theorem Lb {n:Nat} (h:n≤6):2 ^ n≤64:=Nat.pow_le_pow_right (n:=2) Dc h
def VA (o:Option Nat):Value:=.int .i64 ((o.getD 0:Nat):Int)
theorem ON {S1 S2 S3 S4:Nat→Prop} (p1 p2 q1 q2:Value) (a b:Aj) (bB bA:Nat) (w:World) (hB:w.heap[bB]?=some (.cells #[q1,q2] 26 (0,0))) (hA:w.heap[bA]?=some (.cells #[p1,p2] 26 (0,0)))
 (h1:RL w S1 p1 a.1) (h2:RL w S2 p2 a.2) (k1:RL w S3 q1 b.1) (k2:RL w S4 q2 b.2) (ha:Ah a=true) (hb:Ah b=true) :
 Calls Tryz.prog 80 #[.int .i64 (a.2.length:Int),.func (.func 81) #[] #[.pointer (some ⟨bB,0,none⟩),.pointer (some ⟨bA,0,none⟩)]] w fun e w'=>e=.returned (.tuple #[VA (E5 a b),.bool (E5 a b).isSome])∧Below w.heap.size w w':=by
 obtain ⟨n,hn⟩:=Ex (a.2.length);have hn6:n≤6:=by rw [← hn];exact (DY ha).1.2
 have hfm:E5 a b=(List.range (2 ^ n)).find? (Su a b):=by rw [Jc,hn]
 have hN64:=Lb hn6;rw [hn];have HH:=Ad (An (An hA hB) (An (An h1 h2) (An (An k1 k2) (An ha (An hb hfm)))));have hn0:(0:Int)≤(n:Int):=by omega
 have hn64:(n:Int) < 64:=by omega
 obtain ⟨N,hN⟩:∃ N,2 ^ n=N:=⟨_,rfl⟩;have hpw:((2:Int) ^ n)=(N:Int):=by rw [← hN];simp
 rw [hN] at hN64;have HN:=Ad hN;clear hn hfm h1 h2 k1 k2 hA hB ha hb hN;go_enter Tryz.func80,Tryz.ntmps80
 go_wp2;go_loopg [6] N (fun q i wr=>∃ k:Nat,k+q=N∧i=.int .i64 (k:Int)∧(List.range k).find? (Su a b)=none∧Below w.heap.size w wr)
 case atStart=>exact ⟨0,by omega,rfl,rfl,Below.refl _ _⟩
 case round =>
  obtain ⟨k,hk,rfl,hf,hbw⟩:=hrel;have HK:=Ad (An hk (An hf hbw));clear hk hf hbw;by_cases hk8:k < N
  · have hki:(k:Int) < (N:Int):=by omega
    obtain ⟨c,hc⟩:=Ex (Su a b k);have hcl:=Qn p1 p2 q1 q2 a b bB bA k c wr (Ac HH.o.1.2 HK.o.2.2) (Ac HH.o.1.1 HK.o.2.2) (HH.o.2.1.1.keep HK.o.2.2) (HH.o.2.1.2.keep HK.o.2.2) (HH.o.2.2.1.1.keep HK.o.2.2) (HH.o.2.2.1.2.keep HK.o.2.2) HH.o.2.2.2.1 HH.o.2.2.2.2.1 Om hc;have HC:=Ad (An hcl hc);clear hcl hc;cases c with
    | true =>
      go_wp2_with (first | (go_at_call 81;refine HC.o.1.mono ?_;rintro e w5 ⟨rfl,hb5⟩))
      (have hh:E5 a b=some k:=by rw [HH.o.2.2.2.2.2,HN.o];exact Io hk8 HK.o.2.1 HC.o.2);go_returns;exact ⟨by rw [hh];rfl,bt HK.o.2.2 hb5⟩
    | false =>
      go_wp2_with (first | (go_at_call 81;refine HC.o.1.mono ?_;rintro e w5 ⟨rfl,hb5⟩))
      go_roundg (gk - 1)
      case rel=>exact ⟨k+1,by have:=HK.o.1;omega,by go_num,Ep HK.o.2.1 HC.o.2,bt HK.o.2.2 hb5⟩
      case measure=>have:=HK.o.1;omega
  · obtain rfl:k=N:=by have:=HK.o.1;omega
    go_wp2;(have hh:E5 a b=none:=by rw [HH.o.2.2.2.2.2,HN.o];exact HK.o.2.1);go_returns;exact ⟨by rw [hh];rfl,HK.o.2.2⟩
def VB (a b:Aj):Option (List Am):=if (Ah a && Ah b)=true then Cz a b else none
theorem Qo {S1 S2 S3 S4:Nat→Prop} (v1 v2 u1 u2:Value) (a b:Aj) (w:World) (h1:RL w S1 v1 a.1) (h2:RL w S2 v2 a.2) (k1:RL w S3 u1 b.1) (k2:RL w S4 u2 b.2) :
 Calls Tryz.prog 16 #[.agg #[v1,v2],.agg #[u1,u2]] w fun e w'=>∃ x2,e=.returned (.tuple #[.agg #[.slice none 0 0,x2],.bool (VB a b).isSome])∧FE w' w.heap.size x2 ((VB a b).getD [])∧Below w.heap.size w w':=by
 obtain ⟨p1,c1,rfl⟩:=h1.form;obtain ⟨p2,c2,rfl⟩:=h2.form;obtain ⟨p3,c3,rfl⟩:=k1.form;obtain ⟨p4,c4,rfl⟩:=k2.form;obtain ⟨w0,hw0⟩:=Ey ((((w.alloc (.cells #[.slice p1 a.1.length c1,.slice p2 a.2.length c2] 26)).alloc (.cells #[.slice p3 b.1.length c3,.slice p4 b.2.length c4] 26)).alloc (.cells #[.slice none 0 0,.slice none 0 0] 26)));have hA:w0.heap[w.heap.size]?=some (.cells #[.slice p1 a.1.length c1,.slice p2 a.2.length c2] 26 (0,0)):=by
  rw [hw0];exact Ac (Ac (heap_alloc_new w _) (Aa _ _)) (Aa _ _)
 have hB:w0.heap[w.heap.size+1]?=some (.cells #[.slice p3 b.1.length c3,.slice p4 b.2.length c4] 26 (0,0)):=by
  rw [hw0];have:=Ac (heap_alloc_new (w.alloc (.cells #[.slice p1 a.1.length c1,.slice p2 a.2.length c2] 26)) (.cells #[.slice p3 b.1.length c3,.slice p4 b.2.length c4] 26)) (Aa _ (.cells #[.slice none 0 0,.slice none 0 0] 26));simpa using this
 have hR:w0.heap[w.heap.size+1+1]?=some (.cells #[.slice none 0 0,.slice none 0 0] 26 (0,0)):=by
  rw [hw0];have:=heap_alloc_new ((w.alloc (.cells #[.slice p1 a.1.length c1,.slice p2 a.2.length c2] 26)).alloc (.cells #[.slice p3 b.1.length c3,.slice p4 b.2.length c4] 26)) (.cells #[.slice none 0 0,.slice none 0 0] 26);simpa using this
 have hW:Below w.heap.size w w0:=by rw [hw0];exact ba (ba (Aa _ _) _) _
 have HW0:=Ad hw0;have H0:=Ad (An (An hA (An hB hR)) (An hW (An (An (h1.keep hW) (h2.keep hW)) (An (k1.keep hW) (k2.keep hW)))));clear hA hB hR hW hw0 h1 h2 k1 k2;obtain ⟨A,hA⟩:=Ex (Ah a);obtain ⟨B,hB⟩:=Ex (Ah b);have hr:VB a b=if (A && B)=true then Cz a b else none:=by rw [← hA,← hB];rfl
 have HR:=Ad (An hr (An hA hB));clear hr hA hB;go_enter Tryz.func16,Tryz.ntmps16
 go_wp2_with fail
 rw [← HW0.o];refine (cb (Aq _ _ a _ H0.o.2.2.1.1 H0.o.2.2.1.2) HR.o.2.1).mono ?_;rintro e w1 ⟨rfl,hb1⟩;have H1:=Ad (An (An (Ac H0.o.1.1 hb1) (An (Ac H0.o.1.2.1 hb1) (Ac H0.o.1.2.2 hb1))) (An (bt H0.o.2.1 hb1) (An (An (H0.o.2.2.1.1.keep hb1) (H0.o.2.2.1.2.keep hb1)) (An (H0.o.2.2.2.1.keep hb1) (H0.o.2.2.2.2.keep hb1)))));clear H0 hb1;have NIL:∀ w1:World,VB a b=none→w1.heap[w.heap.size+1+1]?=some (.cells #[.slice none 0 0,.slice none 0 0] 26 (0,0))→Below w.heap.size w w1→∃ x2,(Ending.returned (.tuple #[.agg #[.slice none 0 0,.slice none 0 0],.bool false]))=.returned (.tuple #[.agg #[.slice none 0 0,x2],.bool (VB a b).isSome])∧FE ((w1.setCell ⟨w.heap.size+1+1,0,none⟩ (.slice none 0 0)).setCell ⟨w.heap.size+1+1,1,none⟩ (.slice none 0 0)) w.heap.size x2 ((VB a b).getD [])∧Below w.heap.size w ((w1.setCell ⟨w.heap.size+1+1,0,none⟩ (.slice none 0 0)).setCell ⟨w.heap.size+1+1,1,none⟩ (.slice none 0 0)):=by
  intro w1 hn hR hb;rw [hn];exact ⟨_,rfl,FE.nil _ _ _,(hb.setCell (p:=⟨w.heap.size+1+1,0,none⟩) (by simp;omega) _).setCell (p:=⟨w.heap.size+1+1,1,none⟩) (by simp;omega) _⟩
 have HNIL:=Ad NIL;clear NIL;cases A with
 | false =>
   obtain ⟨r0,r1,rz,rl⟩:=B4 H1.o.1.2.2;have rr:=Au (.slice none 0 0) (.slice none 0 0) r0 r1;go_wp2;refine bodyPost_ret (v:=.tuple #[.agg #[.slice none 0 0,.slice none 0 0],.bool false]) (by simp [results,Tryz.results16,go_sem,rr.1,rr.2]) rfl ?_;exact HNIL.o _ (by rw [HR.o.1];rfl) H1.o.1.2.2 H1.o.2.1
 | true =>
 obtain ⟨b0,b1,bl⟩:=B3 H1.o.1.2.1;go_wp2_with fail
 refine (cb (Aq _ _ b _ H1.o.2.2.2.1 H1.o.2.2.2.2) HR.o.2.2).mono ?_;rintro e w2 ⟨rfl,hb2⟩;have H2:=Ad (An (An (Ac H1.o.1.1 hb2) (An (Ac H1.o.1.2.1 hb2) (Ac H1.o.1.2.2 hb2))) (An (bt H1.o.2.1 hb2) (An (An (H1.o.2.2.1.1.keep hb2) (H1.o.2.2.1.2.keep hb2)) (An (H1.o.2.2.2.1.keep hb2) (H1.o.2.2.2.2.keep hb2)))));clear H1 hb2 b0 b1 bl;cases B with
 | false =>
   obtain ⟨r0,r1,rz,rl⟩:=B4 H2.o.1.2.2;have rr:=Au (.slice none 0 0) (.slice none 0 0) r0 r1;go_wp2;refine bodyPost_ret (v:=.tuple #[.agg #[.slice none 0 0,.slice none 0 0],.bool false]) (by simp [results,Tryz.results16,go_sem,rr.1,rr.2]) rfl ?_;exact HNIL.o _ (by rw [HR.o.1];rfl) H2.o.1.2.2 H2.o.2.1
 | true =>
 have hr:=HR.o.1;rw [Bool.true_and,if_pos rfl,Cz] at hr;obtain ⟨M,hM⟩:=Ex (E5 a b);rw [hM] at hr;have hcall:=ON _ _ _ _ a b (w.heap.size+1) w.heap.size w2 H2.o.1.2.1 H2.o.1.1 H2.o.2.2.1.1 H2.o.2.2.1.2 H2.o.2.2.2.1 H2.o.2.2.2.2 HR.o.2.1 HR.o.2.2;rw [hM] at hcall;have HM:=Ad (An hr (An hcall hM));clear hr hcall hM;obtain ⟨a0,a1,al⟩:=B3 H2.o.1.1;have bl:=Ae H2.o.1.2.1;go_wp2_with fail
 refine HM.o.2.1.mono ?_;rintro e w3 ⟨rfl,hb3⟩;have H3:=Ad (An (An (Ac H2.o.1.1 hb3) (An (Ac H2.o.1.2.1 hb3) (Ac H2.o.1.2.2 hb3))) (An (bt H2.o.2.1 hb3) (An (An (H2.o.2.2.1.1.keep hb3) (H2.o.2.2.1.2.keep hb3)) (An (H2.o.2.2.2.1.keep hb3) (H2.o.2.2.2.2.keep hb3)))));clear H2 hb3 a0 a1 al bl;obtain ⟨a0,a1,al⟩:=B3 H3.o.1.1;obtain ⟨r0,r1,rz,rl⟩:=B4 H3.o.1.2.2;cases M with
 | none =>
   have rr:=Au (.slice none 0 0) (.slice none 0 0) r0 r1;go_wp2;refine bodyPost_ret (v:=.tuple #[.agg #[.slice none 0 0,.slice none 0 0],.bool false]) (by simp [results,Tryz.results16,go_sem,rr.1,rr.2]) rfl ?_;exact HNIL.o _ (by rw [HM.o.1];rfl) H3.o.1.2.2 H3.o.2.1
 | some m =>
   rw [show VA (some m)=.int .i64 (m:Int) from rfl];have hl6:=(DY HR.o.2.1).1.2;have hm64:m < 64:=by
    have h1:=HM.o.2.2;rw [Jc] at h1;have h2:=List.mem_range.1 (List.mem_of_find?_eq_some h1);have:=Lb hl6;omega
   have HMM:=Ad (An hm64 (show (a.2.length:Int)≤8 by omega));clear hl6 hm64 r0 r1 rz rl;(go_wp2_with fail);refine (Mt _ _ a m _ H3.o.2.2.1.1 H3.o.2.2.1.2 HMM.o.1 HMM.o.2).mono ?_;rintro e w4 ⟨x2,rfl,o4,hb4⟩;obtain ⟨d,n4,g4,rfl⟩:=o4.forms;have hR4:=Ac H3.o.1.2.2 hb4;obtain ⟨r0,r1,rz,rl⟩:=B4 hR4;have rr:=Au (.slice none 0 0) (.slice d n4 g4) r0 r1;have HQ:=Ad (An ((o4.mono H3.o.2.1.size).set2 (x:=.slice none 0 0) (y:=.slice d n4 g4) hR4 Dc) (((bt H3.o.2.1 hb4).setCell (p:=⟨w.heap.size+1+1,0,none⟩) (by simp;omega) (.slice none 0 0)).setCell (p:=⟨w.heap.size+1+1,1,none⟩) (by simp;omega) (.slice d n4 g4)));clear o4 hb4 hR4 a0 a1 al;go_wp2;refine bodyPost_ret (v:=.tuple #[.agg #[.slice none 0 0,.slice d n4 g4],.bool true]) (by simp [results,Tryz.results16,go_sem,rr.1,rr.2]) rfl ?_;rw [HM.o.1];exact ⟨_,rfl,HQ.o⟩
end Go.Proofs.YtkbbmjcfgcfejaaGreat
