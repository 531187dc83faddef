/- Walk: impl.tidy. -/
import Derived.Test.YtkbbmjcfgcfejaaGreatLNfI
import Derived.Test.YtkbbmjcfgcfejaaGreatLImpA
set_option linter.unusedVariables false
set_option linter.unusedSimpArgs false
set_option maxRecDepth 100000
set_option maxHeartbeats 12800000
namespace Go.Proofs.YtkbbmjcfgcfejaaGreat
open Go.RowKit
def Ds (m:Nat):Nat:=m / 32 * 32
theorem D5 (m b:Nat):(Ds m).testBit b=(decide (5≤b) && m.testBit b):=by
 rw [Ds,show m / 32 * 32=(m >>> 5) <<< 5 by rw [Nat.shiftLeft_eq,Nat.shiftRight_eq_div_pow],Nat.testBit_shiftLeft,Nat.testBit_shiftRight];by_cases h:5≤b
 · rw [decide_eq_true h,show 5+(b - 5)=b by omega]
 · rw [decide_eq_false h];rfl
theorem IB {m:Nat} (h:m < 65536):Ds m < 65536:=by rw [Ds];omega
theorem M6 {K b:Nat} (hK:K < 65536):(65535 - K).testBit b=(decide (b < 16) && !K.testBit b):=by
 have:=Nat.testBit_two_pow_sub_succ (n:=16) (x:=K) hK b;rwa [show 2 ^ 16 - (K+1)=65535 - K by omega] at this
theorem TD {n:Nat}:(n == 0)=true ↔ ∀ b,n.testBit b=false:=by
 rw [beq_iff_eq];constructor
 · rintro rfl b;exact Nat.zero_testBit b
 · intro h;exact Nat.eq_of_testBit_eq fun b=>by rw [h b,Nat.zero_testBit]
theorem RZ {K i j:Nat} (hK:K < 65536) (hi:i≤8) (hj:j≤8):((Ds (As (As 0 (i:Int)) (j:Int)) &&& (65535 - K)) == 0)=(Q2 K (i:Int) && Q2 K (j:Int)):=by
 have ti:Al (i:Int)=true:=by simp [Al];omega
 have tj:Al (j:Int)=true:=by simp [Al];omega
 have hbit:∀ b,(Ds (As (As 0 (i:Int)) (j:Int)) &&& (65535 - K)).testBit b=(decide (5≤b) && (decide (i=b) || decide (j=b)) && (decide (b < 16) && !K.testBit b)):=fun b=>by
  rw [Nat.testBit_and,D5,M6 hK,As,if_pos tj,As,if_pos ti,Nat.testBit_or,Nat.testBit_or,Nat.zero_testBit,Int.toNat_natCast,Int.toNat_natCast,Nat.testBit_two_pow,Nat.testBit_two_pow,Bool.false_or]
 have e:∀ n:Nat,n≤8→(Q2 K (n:Int)=true ↔ (5≤n→K.testBit n=true)):=fun n hn=>by
  rw [Q2,FN hn,Bool.or_eq_true,decide_eq_true_eq];constructor
  · rintro (h | h) h5
    · omega
    · exact h
  · intro h
    by_cases h5:5≤n
    · exact .inr (h h5)
    · left;omega
 rw [Bool.eq_iff_iff,TD,Bool.and_eq_true,e i hi,e j hj];constructor
 · intro h
   refine ⟨fun h5=>?_,fun h5=>?_⟩
   · have:=h i
     rw [hbit,decide_eq_true h5,decide_eq_true (show i < 16 by omega)] at this;simpa using this
   · have:=h j
     rw [hbit,decide_eq_true h5,decide_eq_true (show j < 16 by omega)] at this;simpa using this
 · rintro ⟨h1,h2⟩ b
   rw [hbit];by_cases h5:5≤b
   · by_cases e1:i=b
     · subst e1;rw [h1 h5];simp
     · by_cases e2:j=b
       · subst e2;rw [h2 h5];simp
       · simp [e1,e2]
   · simp [h5]
theorem JG (m:Nat) (w:World) (hm:m < 65536):Calls Tryz.prog 104 #[.int .u16 m] w fun e w'=>e=.returned (.int .u16 (Ds m:Int))∧w=w':=by
 have hl:((Ds m:Nat):Int)=(m:Int) / 32 * 32:=by rw [Ds];simp
 have HL:=Ad hl;clear hl;go_enter Tryz.func104,Tryz.ntmps104
 go_wp2;go_ret;exact ⟨by rw [HL.o];rfl,rfl⟩
theorem JH {m n:Nat} (w:World) (hm:m < 65536) (h:Ds m=n):Calls Tryz.prog 104 #[.int .u16 m] w fun e w'=>e=.returned (.int .u16 (n:Int))∧w=w':=by
 subst h;exact JG m w hm
theorem R0 {n:Nat} {t:Int} (w:World) (h:As 0 t=n):Calls Tryz.prog 147 #[.int .u16 0,.int .i64 t] w fun e w'=>e=.returned (.int .u16 n)∧w=w' :=
 A6 (m:=0) w Dc h
theorem Mb {S1 S2:Nat→Prop} (v1 v2:Value) (a:Aj) (m:Nat) (w:World) (h1:RL w S1 v1 a.1) (h2:RL w S2 v2 a.2) (hm:m < 65536) (ha:Ah a=true) :
 Calls Tryz.prog 178 #[.agg #[v1,v2],.int .u16 m] w fun e w'=>∃ x1 x2,e=.returned (.agg #[x1,x2])∧((FE w' w.heap.size x1 (BD m a).1∧FE w' w.heap.size x2 (BD m a).2)∧(NilE (BD m a).1 x1∧NilE (BD m a).2 x2))∧Below w.heap.size w w':=by
 obtain ⟨p1,c1,rfl⟩:=h1.form;obtain ⟨p2,c2,rfl⟩:=h2.form;have hbA:=Ac (heap_alloc_new w (.cells #[.slice p1 a.1.length c1,.slice p2 a.2.length c2] 26)) (Aa _ (.cells #[.slice none 0 0,.slice none 0 0] 26));have hbR:=heap_alloc_new (w.alloc (.cells #[.slice p1 a.1.length c1,.slice p2 a.2.length c2] 26)) (.cells #[.slice none 0 0,.slice none 0 0] 26);rw [World.size_alloc] at hbR;have hB0:Below w.heap.size w ((w.alloc (.cells #[.slice p1 a.1.length c1,.slice p2 a.2.length c2] 26)).alloc (.cells #[.slice none 0 0,.slice none 0 0] 26)):=Bl;have H0:=Ad (An (An hbA hbR) (An hB0 (An h1 h2)));have HA:=Ad ha;have hlb:=DY ha;have hs1:a.1.length≤1048576:=by omega
 have hs2:a.2.length≤1048576:=by omega
 clear hbA hbR hB0 h1 h2 ha hlb;go_enter Tryz.func178,Tryz.ntmps178
 go_wp2_with fail
 refine (BG _ _ a _ (H0.o.2.2.1.keep Bl) (H0.o.2.2.2.keep Bl) hs1 hs2).mono ?_;rintro e w2 ⟨x1,x2,rfl,⟨f1,f2,o1,o2,hn⟩,hb⟩;obtain ⟨u1,k1,rfl⟩:=o1.read.form;obtain ⟨u2,k2,rfl⟩:=o2.read.form;have hA1:=Ac H0.o.1.1 hb;have hzz:=Ae hA1;have hzw:=hb.size;simp only [World.size_alloc] at hzw;have hs6:=El w2 w.heap.size (.slice u1 a.1.length k1) (.slice u2 a.2.length k2);have q1:RL w2 (fun k=>w.heap.size+2≤k) _ a.1:=o1.read.more fun k _ hk=>by have:=(o1.lt k hk).1;simpa using this
 have q2:RL w2 (fun k=>w.heap.size+2≤k) _ a.2:=o2.read.more fun k _ hk=>by have:=(o2.lt k hk).1;simpa using this
 have far:∀ k,k < w2.heap.size→(fun k=>w.heap.size+2≤k) k→¬ (fun j=>j=w.heap.size) k:=fun k _ h e=>by
  have h2:w.heap.size+2≤k:=h;have e2:k=w.heap.size:=e;omega
 have H2:=Ad (An (An (BX (BL hA1 (.slice u1 a.1.length k1)) (.slice u2 a.2.length k2)) (Ax (Ax (Ac H0.o.1.2 hb) ⟨w.heap.size,0,none⟩ (.slice u1 a.1.length k1) (by show ¬ w.heap.size+1=w.heap.size;omega)) ⟨w.heap.size,1,none⟩ (.slice u2 a.2.length k2) (by show ¬ w.heap.size+1=w.heap.size;omega))) (An (An (q1.kept hs6 far) (q2.kept hs6 far)) (((bt H0.o.2.1 hb).setCell (p:=⟨w.heap.size,0,none⟩) (Nat.le_refl _) (.slice u1 a.1.length k1)).setCell (p:=⟨w.heap.size,1,none⟩) (Nat.le_refl _) (.slice u2 a.2.length k2))));have HZ:=Ad hzw;have c0:=Bd hA1;have c1':=AY hA1;have cz:=BI hA1;clear hA1 hs6 q1 q2 far o1 o2 hn hb H0 hzw;go_wp2;clear c0 c1' cz hzz;go_loopg [] 4 (fun q wr=>∃ (b:Aj) (o1 o2:Value),(Ah b=true∧EH m q b=EH m 4 a∧PN m b.1≤q)∧(wr.heap[w.heap.size]?=some (.cells #[o1,o2] 26 (0,0))∧wr.heap[w.heap.size+1]?=some (.cells #[.slice none 0 0,.slice none 0 0] 26 (0,0)))∧(RL wr (fun k=>w.heap.size+2≤k) o1 b.1∧RL wr (fun k=>w.heap.size+2≤k) o2 b.2)∧Below w.heap.size w wr)
 case atStart=>exact ⟨a,_,_,⟨HA.o,rfl,Q4 _ _⟩,H2.o⟩
 case round =>
  clear H2;obtain ⟨b,o1,o2,hpl,hBB,hoo,hW⟩:=hrel;obtain ⟨d1,e1,rfl⟩:=hoo.1.form;obtain ⟨d2,e2,rfl⟩:=hoo.2.form;obtain ⟨r,hr⟩:=Ex (C7 m b.1);have HP:=Ad (An hpl.1 (An hpl.2.1 (An hpl.2.2 hr)));have HR:=Ad (An hBB (An hoo hW));have b0:=Bd hBB.1;have bl:=Ae hBB.1;clear hpl hBB hoo hW hr;go_wp2_with fail
  refine (M5 _ b.1 m r _ HR.o.2.1.1 hm (AL HP.o.1).1 HP.o.2.2.2).mono ?_;rintro e w3 ⟨rfl,hb3⟩;have HR3:=Ad (An (An (Ac HR.o.1.1 hb3) (Ac HR.o.1.2 hb3)) (An (An (HR.o.2.1.1.keep hb3) (HR.o.2.1.2.keep hb3)) (bt HR.o.2.2 hb3)));clear b0 bl HR hb3;cases r with
  | some s =>
    obtain ⟨sx,st⟩:=s;have hkv:=Gq HP.o.1 HP.o.2.2.2;have HK:=Ad hkv;have hlb:=DY HP.o.1;(have hl1:(b.1.length:Int)≤12:=by omega);(have hl2:(b.2.length:Int)≤8:=by omega);clear hkv hlb;have hk0:kX (some (sx,st))=sx:=rfl;have hk1:kT (some (sx,st))=st:=rfl;have hk2:P7 (some (sx,st))=true:=rfl;rw [hk0,hk1,hk2];clear hk0 hk1 hk2;have hb4:=Aa w3 (.cells #[.int .i64 sx,.int .i64 st] 253);obtain ⟨b0,b1,bl⟩:=B3 HR3.o.1.1;have HR4:=Ad (An (An (Ac HR3.o.1.1 hb4) (Ac HR3.o.1.2 hb4)) (An (An (HR3.o.2.1.1.keep hb4) (HR3.o.2.1.2.keep hb4)) (bt HR3.o.2.2 hb4)));clear hb4;(go_wp2_with fail);refine (G7 _ _ b sx st _ HR4.o.2.1.1 HR4.o.2.1.2 hl1 hl2).mono ?_;rintro e w5 ⟨y1,y2,rfl,⟨hy1,hy2⟩,hb5⟩;obtain ⟨g1,n1,rfl⟩:=hy1.form;obtain ⟨g2,n2,rfl⟩:=hy2.form;have hO5:=Ac HR4.o.1.1 hb5;have hzw:=HZ.o;have hle:=HR4.o.2.2.size;have hzz:=Ae HR4.o.1.2;have hs6:=El w5 w.heap.size (.slice g1 (Cb b sx st).1.length n1) (.slice g2 (Cb b sx st).2.length n2);have far:∀ k,k < w5.heap.size→(fun k=>w.heap.size+2≤k) k→¬ (fun j=>j=w.heap.size) k:=fun k _ h e=>by
     have h2:w.heap.size+2≤k:=h;have e2:k=w.heap.size:=e;omega
    have mor:∀ k,k < w5.heap.size→(fun k=>(w3.alloc (.cells #[.int .i64 sx,.int .i64 st] 253)).heap.size≤k) k→(fun k=>w.heap.size+2≤k) k:=fun k _ h=>Nat.le_trans Om h;have H6:=Ad (An (An (BX (BL hO5 (.slice g1 (Cb b sx st).1.length n1)) (.slice g2 (Cb b sx st).2.length n2)) (Ax (Ax (Ac HR4.o.1.2 hb5) ⟨w.heap.size,0,none⟩ (.slice g1 (Cb b sx st).1.length n1) (by show ¬ w.heap.size+1=w.heap.size;omega)) ⟨w.heap.size,1,none⟩ (.slice g2 (Cb b sx st).2.length n2) (by show ¬ w.heap.size+1=w.heap.size;omega))) (An (An ((hy1.more mor).kept hs6 far) ((hy2.more mor).kept hs6 far)) (((bt HR4.o.2.2 hb5).setCell (p:=⟨w.heap.size,0,none⟩) (Nat.le_refl _) (.slice g1 (Cb b sx st).1.length n1)).setCell (p:=⟨w.heap.size,1,none⟩) (Nat.le_refl _) (.slice g2 (Cb b sx st).2.length n2))));have c0:=Bd hO5;have c1':=AY hO5;have cz:=BI hO5;clear hO5 hs6 far mor hy1 hy2 hb5 b0 b1 bl hzw hle hzz;go_wp2;go_roundg (gk - 1)
    case rel =>
     have hc:=HK.o.2.2.2;have hq:=HP.o.2.2.1;(have hgk:gk=(gk - 1)+1:=by omega);refine ⟨Cb b sx st,_,_,⟨HK.o.2.2.1,?_,by omega⟩,H6.o⟩;rw [← HP.o.2.1,hgk,LY HP.o.2.2.2];rfl
    case measure =>
     have hc:=HK.o.2.2.2;have hq:=HP.o.2.2.1;omega
  | none =>
    obtain ⟨wm,rfl⟩:∃ wm:World,wm=wr:=⟨_,rfl⟩;have hk2:P7 (none:Option (Int × Int))=false:=rfl;have hk0:kX (none:Option (Int × Int))=0:=rfl;have hk1:kT (none:Option (Int × Int))=0:=rfl;rw [hk0,hk1,hk2];clear hk0 hk1 hk2;(have hbb:b=EH m 4 a:=by rw [← HP.o.2.1,LZ HP.o.2.2.2]);have HBB:=Ad hbb;have hlb:=DY HP.o.1;have hlf:b.1.length≤12:=hlb.1.1;have hall:=AL HP.o.1;have HALL:=Ad hall;clear hbb hlb hall;have hb4:=Aa w3 (.cells #[.int .i64 0,.int .i64 0] 253);obtain ⟨b0,b1,bl⟩:=B3 HR3.o.1.1;have HR4:=Ad (An (An (Ac HR3.o.1.1 hb4) (Ac HR3.o.1.2 hb4)) (An (An (HR3.o.2.1.1.keep hb4) (HR3.o.2.1.2.keep hb4)) (bt HR3.o.2.2 hb4)));clear hb4;(go_wp2_with fail);refine (B6 (S1:=fun _=>True) _ _ (([]:List Ap),b.2) _ (RL.nil _ _) HR4.o.2.1.2).mono ?_;rintro e w5 ⟨rfl,hb5⟩;obtain ⟨U,hU⟩:=Ex (Ak ([],b.2));rw [hU];(have hUl:U < 65536:=by rw [← hU];exact Bw _);have hor:bits .or .u16 (m:Int) (U:Int)=((m ||| U:Nat):Int):=u16_or_nat m U hm hUl;(have hKl:m ||| U < 65536:=Nat.or_lt_two_pow (n:=16) hm hUl);have HU:=Ad (An hU hKl);have HR5:=Ad (An (An (Ac HR4.o.1.1 hb5) (Ac HR4.o.1.2 hb5)) (An (An (HR4.o.2.1.1.keep hb5) (HR4.o.2.1.2.keep hb5)) (bt HR4.o.2.2 hb5)));clear hU hUl hKl hb5 b0 b1 bl;obtain ⟨b0,b1,bl⟩:=B3 HR5.o.1.1;have q1:RL w5 (fun k=>k < w5.heap.size) (.slice d1 b.1.length e1) b.1:=HR5.o.2.1.1.more fun k hk _=>hk;have q2:RL w5 (fun k=>k < w5.heap.size) (.slice d2 b.2.length e2) b.2:=HR5.o.2.1.2.more fun k hk _=>hk;have hbE:=Aa w5 (.cells #[.slice none 0 0,.slice d2 b.2.length e2] 26);have hbX:=heap_alloc_new w5 (.cells #[.slice none 0 0,.slice d2 b.2.length e2] 26);have H5:=Ad (An (An hbX (Ac HR5.o.1.2 hbE)) (An (An (q1.keep hbE) (q2.keep hbE)) (An (bt HR5.o.2.2 hbE) hbE)));have HL5:=Ad (An HR5.o.2.2.size (Ae HR5.o.1.2));clear q1 q2 hbE hbX HR3 HR4 HR5;go_wp2;clear b0 b1 bl hor;go_loopg [41] b.1.length (fun q i wr=>∃ (k:Nat) (y:Value),k+q=b.1.length∧i=.int .i64 k∧FE wr w5.heap.size y ((b.1.take k).filter (Gp (m ||| U)))∧(wr.heap[w5.heap.size]?=some (.cells #[y,.slice d2 b.2.length e2] 26 (0,0))∧wr.heap[w.heap.size+1]?=some (.cells #[.slice none 0 0,.slice none 0 0] 26 (0,0)))∧(RL wr (fun k=>k < w5.heap.size) (.slice d1 b.1.length e1) b.1∧RL wr (fun k=>k < w5.heap.size) (.slice d2 b.2.length e2) b.2)∧Below w.heap.size w wr∧Below w5.heap.size w5 wr)
    case atStart=>exact ⟨0,_,by omega,rfl,FE.nil _ _ _,H5.o⟩
    case round =>
     clear H5;obtain ⟨k,y,hk,rfl,hF,hBB,hqq,hW,hW5⟩:=hrel;have HK:=Ad hk;clear hk;obtain ⟨L,hL⟩:=Ex ((b.1.take k).filter (Gp (m ||| U)));(have hLk:L.length≤k:=by rw [← hL];exact Oo _ _);rw [hL] at hF;obtain ⟨ua,un,uc,rfl⟩:=hF.forms;by_cases hk8:k < b.1.length
     · have hki:(k:Int) < (b.1.length:Int):=by omega
       obtain ⟨qa,qc,hqe,_,_,hqf⟩:=hqq.1.factAt;simp only [Value.slice.injEq] at hqe;obtain ⟨rfl,_,rfl⟩:=hqe;obtain ⟨bb,oo,rfl,_,hz1,hp1,hp2,hp3⟩:=hqf k hk8;obtain ⟨X,hX⟩:=Ex (gd b.1 k);obtain ⟨X1,X2,X3⟩:=X;have hv:=Cw.1 (HALL.o.1 _ (Be hk8));rw [hX] at hp1 hp2 hp3 hv;simp only at hp1 hp2 hp3 hv;obtain ⟨i2,rfl⟩:=Int.eq_ofNat_of_zero_le hv.1.1;obtain ⟨i3,rfl⟩:=Int.eq_ofNat_of_zero_le hv.2.1;(have u2:i2≤8:=by omega);(have u3:i3≤8:=by omega);obtain ⟨c,hc⟩:=Ex (Gp (m ||| U) (X1,(i2:Int),(i3:Int)));obtain ⟨n1,hn1⟩:∃ n,As 0 (i2:Int)=n:=⟨_,rfl⟩;obtain ⟨n2,hn2⟩:∃ n,As n1 (i3:Int)=n:=⟨_,rfl⟩;obtain ⟨n3,hn3⟩:∃ n,Ds n2=n:=⟨_,rfl⟩;(have l1:n1 < 65536:=by rw [← hn1];exact AJ Dc);(have l2:n2 < 65536:=by rw [← hn2];exact AJ l1);(have l3:n3 < 65536:=by rw [← hn3];exact IB l2);have hbits:=RZ HU.o.2 u2 u3;rw [hn1,hn2,hn3] at hbits;have hand:=u16_andNot_nat n3 (m ||| U) l3 HU.o.2;have hce:(n3 &&& (65535 - (m ||| U)) == 0)=c:=hbits.trans hc;obtain ⟨z,hz⟩:=Ex (n3 &&& (65535 - (m ||| U)));rw [hz] at hand hce;(have hcz:((z:Int) == 0)=c:=by rw [← hce];rw [Bool.eq_iff_iff];simp);have HNN:=Ad (An (An hn1 (An hn2 hn3)) (An l1 l2));have HCZ:=Ad (An hand hcz);have hbF:=Aa wr (.cells #[.bool X1,.int .i64 i2,.int .i64 i3] 61);have hFX:=heap_alloc_new wr (.cells #[.bool X1,.int .i64 i2,.int .i64 i3] 61);have HD:=Ad (An (An (hF.keep hbF) (An (Ac hBB.1 hbF) (Ac hBB.2 hbF))) (An (An (hqq.1.keep hbF) (hqq.2.keep hbF)) (An (bt hW hbF) (bt hW5 hbF))));have HX:=Ad (An hX (An hc hL));have HF5:=Ad hW5.size;have HLK:=Ad (show L.length≤k∧k≤12 from ⟨hLk,by omega⟩);clear hqf hv u2 u3 hbF hF hBB hqq hW hW5 hX hc hL hLk hn1 hn2 hn3 l1 l2 l3 hbits hand hce hz hcz;(go_upto_region 11 with fail);go_cut [55] from 45 to 55 (fun s wc=>s=.bool c∧Below wr.heap.size wr wc∧Below (wr.alloc (.cells #[.bool X1,.int .i64 i2,.int .i64 i3] 61)).heap.size (wr.alloc (.cells #[.bool X1,.int .i64 i2,.int .i64 i3] 61)) wc)
       case first =>
        obtain ⟨hand,hcz⟩:=HCZ.o;refine Af Kr Kr ?_;repeat (go_big_quiet_step (first
         | (go_at_call 104;exact BA (JH _ HNN.o.2.2 HNN.o.1.2.2))
         | (go_at_call 147;first | with_reducible exact BA (R0 _ HNN.o.1.1) | with_reducible exact BA (A6 _ HNN.o.2.1 HNN.o.1.2.1))))
        refine wpQuiet_nil ?_;intro w6 hb6;go_wp2;go_meet
        case rel=>exact ⟨rfl,bt (Aa _ _) hb6,hb6⟩
       case rest =>
        obtain ⟨rfl,hbw,hbf⟩:=hcut;have HE:=Ad (An (An (HD.o.1.1.keep hbf) (An (Ac HD.o.1.2.1 hbf) (Ac HD.o.1.2.2 hbf))) (An (An (HD.o.2.1.1.keep hbf) (HD.o.2.1.2.keep hbf)) (An (bt HD.o.2.2.1 hbf) (bt HD.o.2.2.2 hbf))));have hFX:=Ac hFX hbf;clear hp1 hp2 hp3 HD hbf;cases c with
        | false =>
          have HN:=Ad (show (b.1.take (k+1)).filter (Gp (m ||| U))=L by rw [Ra hk8 (by rw [HX.o.1];exact HX.o.2.1),HX.o.2.2]);clear hFX hbw;go_wp2;go_roundg (gk - 1)
          case rel=>exact ⟨k+1,_,by have:=HK.o;omega,by go_num,by rw [HN.o];exact HE.o.1.1,HE.o.1.2,HE.o.2⟩
          case measure=>have:=HK.o;omega
        | true =>
          have HN:=Ad (show (b.1.take (k+1)).filter (Gp (m ||| U))=L ++ [(X1,(i2:Int),(i3:Int))] by rw [On hk8 (by rw [HX.o.1];exact HX.o.2.1),HX.o.2.2,HX.o.1]);have e0:=Lp hFX;have e1:=JZ hFX;have e2:=J0 hFX;have ez:=Ae hFX;have d0:=Bd HE.o.1.2.1;have dz:=BI HE.o.1.2.1 0;have dl:=Ae HE.o.1.2.1;have hlk:=HLK.o;have hzw5:=Nat.le_trans HF5.o hbw.size;clear hFX hbw;go_wp2_with (at_builtin;go_must (refine Ez (l:=L) (m:=[((X1,(i2:Int),(i3:Int)):Ap)]) (B:=w5.heap.size) (by rfl) (.tmp 57) (.tmp 59) _ (by rfl) A0 (by rfl) (HE.o.1.1.keep (Aa _ _)) (by rfl) (Gz rfl _ _ _ _) (by simp;omega) (by simp;omega) ?_;intro v' w7 o7 hf7;obtain ⟨a7,n7,c7,rfl⟩:=o7.forms;have hA7:=AM (Ac HE.o.1.2.1 (Aa wc (.cells #[.bool X1,.int .i64 i2,.int .i64 i3] 61))) hf7 Dc;have hb0:=Bd hA7;have hbz:=BI hA7 0;have hbl7:=Ae hA7;have HA7:=Ad hA7;clear hA7))
          have hkp:=Aa wc (.cells #[.bool X1,.int .i64 i2,.int .i64 i3] 61);have hb7:=AG hf7 (by simp;omega);have far:∀ k,k < (wc.alloc (.cells #[.bool X1,.int .i64 i2,.int .i64 i3] 61)).heap.size→(fun k=>k < w5.heap.size) k→¬ TF (wc.alloc (.cells #[.bool X1,.int .i64 i2,.int .i64 i3] 61)) w5.heap.size 61 k:=fun k _ hs ht=>by
           have h2:k < w5.heap.size:=hs;have:=ht.1;omega
          have hset:=Aw w7 ⟨w5.heap.size,0,none⟩ (.slice a7 n7 c7);have far2:∀ k,k < w7.heap.size→(fun k=>k < w5.heap.size) k→¬ (fun j=>j=w5.heap.size) k:=fun k _ hs e=>by
           have h2:k < w5.heap.size:=hs;have e2:k=w5.heap.size:=e;omega
          have hll:=HL5.o;(have hne:¬ w.heap.size+1=w5.heap.size:=by omega);have H7:=Ad (An (An (o7.setB (p:=⟨w5.heap.size,0,none⟩) (u:=.slice a7 n7 c7) (Ge HA7.o Dc)) (An (BL HA7.o (.slice a7 n7 c7)) (Ax (AM (Ac HE.o.1.2.2 hkp) hf7 Dc) ⟨w5.heap.size,0,none⟩ (.slice a7 n7 c7) hne))) (An (An (((HE.o.2.1.1.keep hkp).kept hf7 far).kept hset far2) (((HE.o.2.1.2.keep hkp).kept hf7 far).kept hset far2)) (An (((bt HE.o.2.2.1 hkp).trans (hb7.mono Om)).setCell (p:=⟨w5.heap.size,0,none⟩) (by show w.heap.size≤w5.heap.size;omega) (.slice a7 n7 c7)) (((bt HE.o.2.2.2 hkp).trans hb7).setCell (p:=⟨w5.heap.size,0,none⟩) (Nat.le_refl _) (.slice a7 n7 c7)))));clear o7 hf7 hkp hb7 far far2 hset hlk hzw5 e0 e1 e2 ez d0 dz dl hll hne;go_wp2;go_roundg (gk - 1)
          case rel=>exact ⟨k+1,_,by have:=HK.o;omega,by go_num,by rw [HN.o];exact H7.o.1.1,H7.o.1.2,H7.o.2⟩
          case measure=>have:=HK.o;omega
     · obtain rfl:k=b.1.length:=by have:=HK.o;omega
       rw [List.take_length] at hL;obtain ⟨wn,rfl⟩:∃ wn:World,wn=wr:=⟨_,rfl⟩;(have hLL:(L,b.2)=(I8 m b,b.2):=by rw [← hL,I8,HU.o.1]);have HDD:=Ad (An (An hF.rl hBB) (An hqq (An hW hW5)));have HLL:=Ad (An hLL (show Ah (L,b.2)=true by rw [hLL];exact Hh HP.o.1));obtain ⟨d0,d1,dl⟩:=B3 hBB.1;clear hF hBB hqq hW hW5 hL hLL hLk;(go_wp2_with fail);refine (P8 _ _ (L,b.2) _ HDD.o.1.1 HDD.o.2.1.2 HLL.o.2).mono ?_;rintro e w9 ⟨x1,x2,rfl,⟨⟨n1,n2⟩,z12⟩,hb9⟩;obtain ⟨f1,m1,g1,rfl⟩:=n1.forms;obtain ⟨f2,m2,g2,rfl⟩:=n2.forms;have HZ12:=Ad z12;clear z12;have hR9:=Ac HDD.o.1.2.2 hb9;obtain ⟨r0,r1,rz,rl⟩:=B4 hR9;have rr:=Au (.slice f1 m1 g1) (.slice f2 m2 g2) r0 r1;have hle:w.heap.size≤wn.heap.size:=HDD.o.2.2.1.size;have hfin:=Ad (An (An ((n1.mono hle).set2 (x:=.slice f1 m1 g1) (y:=.slice f2 m2 g2) hR9 Dc) ((n2.mono hle).set2 (x:=.slice f1 m1 g1) (y:=.slice f2 m2 g2) hR9 Dc)) (((bt HDD.o.2.2.1 hb9).setCell (p:=⟨w.heap.size+1,0,none⟩) Sp (.slice f1 m1 g1)).setCell (p:=⟨w.heap.size+1,1,none⟩) Sp (.slice f2 m2 g2)));clear hR9 n1 n2 hb9 d0 d1 dl hle;go_wp2;refine bodyPost_ret (v:=.agg #[.slice f1 m1 g1,.slice f2 m2 g2]) (by simp [results,Tryz.results178,go_sem,rr.1,rr.2]) rfl ?_;(have hres:BD m a=Ss (L,b.2):=by rw [BD,Q3,← HBB.o,← HLL.o.1]);exact ⟨_,_,rfl,by rw [hres];exact ⟨hfin.out.1,HZ12.o⟩,hfin.out.2⟩
def Es (a:Aj):Option Aj:=if Ah a=true then some a else none
def Br (l:List Am) (i:Nat):List Am:=l.take i ++ l.drop (i+1)
def O7 (a:Aj) (k t:Int) (i:Nat):Bool:=((gd a.2 i).1 == k) && D4 a (true,(gd a.2 i).2.1,t)
def atomAt (a:Aj) (k t:Int):Option Nat:=(List.range a.2.length).find? (O7 a k t)
def BS (a:Aj) (i:Nat) (t:Int):Aj:=(if (gd a.2 i).2.1=t then a.1 else a.1 ++ [(true,(gd a.2 i).2.1,t)],(1,t,(gd a.2 i).2.2) :: Br a.2 i)
def CN (a:Aj) (i:Nat):Aj:=(a.1 ++ [(true,(gd a.2 i).2.1,(gd a.2 i).2.2)],Br a.2 i)
def Bp (a:Aj) (i:Nat) (n:Int):Aj:=(a.1 ++ [(false,(gd a.2 i).2.1,(gd a.2 i).2.2)],(1,(gd a.2 i).2.1,n) :: (Br a.2 i ++ [(2,n,(gd a.2 i).2.2)]))
def AS (m:Nat) (t:Int):Nat→Aj→Option (List Aj)
 | 0,_=>none
 | d+1,a=>if Ah a=true then (if Cl a=true then
    (match atomAt a 1 t with
     | some i=>(Es (BS a i t)).map fun b=>[b]
     | none=>match atomAt a 2 t with
       | some i=>(D2 (Ak a ||| m)).bind fun n=>(AS m t d (CN a i)).bind fun x=>(AS m t d (Bp a i n)).map fun y=>x ++ y
       | none=>none)
    else some []) else none
def CC (a:Aj) (x t:Int) (m:Nat):Option Aj:=(AU a x m).bind fun r=>Es (B7 r.1 (true,x,DL x r.2 t))
def M7 (a:Aj) (x:Int) (m:Nat):Option Aj:=(AU a x m).bind fun r=>Es (r.1.1,(1,x,0) :: r.1.2)
def DN (k ca cb:Int) (m:Nat) (e:Aj):Option Aj :=
 if k=2 then CC e ca (gd e.2 0).2.2 m
 else if k=3 then some (e.1,((gd e.2 0).1,(gd e.2 0).2.1,cb) :: e.2.drop 1)
 else some (e.1,e.2.drop 1)
def D6 (m:Nat) (ca cb:Int):Nat:=As (As m ca) cb
def CT {α β:Type} (f:α→Option β):List α→Option (List β)
 | []=>some []
 | x :: r=>(f x).bind fun y=>(CT f r).map fun z=>y :: z
def BV (k ca cb:Int) (m:Nat) (a:Aj):Option (List Aj) :=
 if k=1 then (if ca=cb then some [a] else (CC a ca cb (D6 m ca cb)).map fun b=>[b])
 else if k=4 then (M7 a ca (D6 m ca cb)).map fun b=>[b]
 else (AS (D6 m ca cb) (if k=2 then cb else ca) 7 a).bind (CT (DN k ca cb (D6 m ca cb)))
abbrev BF:Type:=Int × List Aj
def Wy (r:Option (List Aj)):BF:=match r with
 | some l=>(0,l)
 | none=>(1,[])
def Cu (x:BF) (f:List Aj→BF):BF:=if x.1=0 then f x.2 else (x.1,[])
def Dt (g:Aj→BF):List Aj→List Aj→BF
 | acc,[]=>(0,acc)
 | acc,a :: r=>Cu (g a) fun l=>if acc.length+l.length≤24 then Dt g (acc ++ l) r else (1,[])
def IC {α:Type} (f:α→Aj→BF):List α→List Aj→BF
 | [],now=>(0,now)
 | c :: r,now=>Cu (Dt (f c) [] now) (IC f r)
def Fo (g:Aj→BF) (s:Aj):BF:=if Ah s=true then (if Cl s=true then g s else (0,[])) else (1,[])
def TE (yes no:Aj→BF) (t:Ap) (a:Aj):BF:=Cu (Fo yes (B7 a t)) fun x=>Cu (Fo no (B7 a (nF t))) fun y=>(0,x ++ y)
def F3 (body:Aj→BF) (inv:Aj) (t:Ap):Bool:=Ah (B7 inv t) && (!Cl (B7 inv t) || (((body (B7 inv t)).1 == 0) && (body (B7 inv t)).2.all fun p=>Cp p inv))
def Fp (ch:Nat) (f:Ap):Bool:=!AN ch f.2.1 && !AN ch f.2.2
def EP (ch:Nat) (inv:Aj) (t:Ap) (a:Aj) (f:List Am):Aj:=((a.1.filter (Fp ch) ++ inv.1) ++ [nF t],inv.2 ++ f)
def Ee (body:Aj→BF) (ch:Nat) (inv:Aj) (t:Ap) (a:Aj):Int × Aj:=match Cz a inv with
 | none=>(3,([],[]))
 | some f=>if Ak ([],f) &&& ch=0 then (if F3 body inv t=true then (if Ah (EP ch inv t a f)=true then (0,EP ch inv t a f) else (1,([],[]))) else (4,([],[]))) else (3,([],[]))
def Mc (body:Aj→BF) (ch m:Nat) (inv:Aj) (t:Ap) (a:Aj):BF:=if (Ee body ch inv t a).1=0 then (0,[BD m (Ee body ch inv t a).2]) else ((Ee body ch inv t a).1,[])
def Jj (m:Nat) (k a:Int):Nat:=if k=1∨k=2∨k=4 then As m a else m
def CQ:(d:Nat)→Nat→List (Cm d)→Nat
 | 0,m,_=>m
 | d+1,m,l=>l.foldl (fun m c=>CQ d (CQ d (Jj m (Cm.kind c) (Cm.a c)) (Cm.body c)) (Cm.els c)) m
def C9 {d:Nat} (m:Nat) (c:Cm (d+1)):Nat:=As (As (As (As m c.a) c.b) c.test.2.1) c.test.2.2 ||| Ak c.inv
def CO:(d:Nat)→Nat→List (Cm d)→Nat
 | 0,m,_=>m
 | d+1,m,l=>l.foldl (fun m c=>CO d (CO d (C9 m c) (Cm.body c)) (Cm.els c)) m
def Rb (m:Nat) (x:BF):BF:=(x.1,x.2.map (BD m))
def BE (m:Nat):(d:Nat)→List (Cm d)→List Aj→BF
 | 0,_,now=>(0,now)
 | d+1,l,now=>IC (fun (c:Cm (d+1)) a =>
    if c.kind=6 then TE (fun s=>BE m d c.body [s]) (fun s=>BE m d c.els [s]) c.test a
    else if c.kind=7 then Mc (fun s=>BE m d c.body [s]) (CQ d 0 c.body) m c.inv c.test a
    else Rb m (Wy (BV c.kind c.a c.b m a))) l now
def EQ {d:Nat} (m:Nat) (c:Cm (d+1)) (a:Aj):BF :=
 if c.kind=6 then TE (fun s=>BE m d c.body [s]) (fun s=>BE m d c.els [s]) c.test a
 else if c.kind=7 then Mc (fun s=>BE m d c.body [s]) (CQ d 0 c.body) m c.inv c.test a
 else Rb m (Wy (BV c.kind c.a c.b m a))
theorem Jk {d:Nat} (m:Nat) (l:List (Cm (d+1))) (now:List Aj):BE m (d+1) l now=IC (EQ m) l now:=rfl
def JI (m:Nat) (pre:Aj) {d:Nat} (l:List (Cm d)):Nat:=m ||| (Ds (Ak pre) ||| Ds (CO d 0 l))
def CU (pre:Aj) {d:Nat} (l:List (Cm d)) (m:Nat):BF:=if (Ah pre && BY l)=true then BE (JI m pre l) d l [pre] else (5,[])
def K2 (pre:Aj) {d:Nat} (l:List (Cm d)) (post:Aj):Int :=
 if Ah post=true then (if (CU pre l (Ak post)).1=0 then (if ((CU pre l (Ak post)).2.all fun p=>Cp p post)=true then 0 else 2) else (CU pre l (Ak post)).1) else 5
def FP (a b:Nat):Bool:=(List.range 9).all fun i=>!a.testBit i || b.testBit i
def P9 {d:Nat} (l:List (Cm d)) (k:Q1):Bool:=PM k && (decide (K2 k.1 l k.2.1=0) && FP (CQ d 0 l) (Ay k.2.2))
def ID (k a b:Int):Bool:=((decide (k=1) || decide (k=2)) && (BP a && Al b)) ||
 ((decide (k=3) && (Al a && Al b)) ||
   ((decide (k=4) && (BP a && decide (b=0))) || (decide (k=5) && (Al a && decide (b=0)))))
theorem ER {d:Nat} {c:Cm (d+1)} (h:Bs c=true):ID c.kind c.a c.b=true:=by
 rw [Bs,Bool.and_eq_true,Bool.and_eq_true,Bool.and_eq_true,Bool.and_eq_true] at h;exact h.2.2.2.2
def TG (hs:List Int) (y:Am):Option (List Int):=if y.1=2 then UH hs y.2.2 8 y.2.1 else if (ct hs y.2.1 == y.2.2)=true then some [y.2.1] else none
def V5 (f:Int→Int) (x:Am):Am:=(x.1,f x.2.1,f x.2.2)
structure HoldsP (vl hs:List Int) (a:Aj):Prop where
 valid:VD vl hs=true
 asn:Ah a=true
 facts:∀ x ∈ a.1,Fl (tv vl) x=true
 cells:∀ x ∈ a.2,VO vl hs x=true
 nd:(a.2.flatMap (SU vl hs)).Nodup
 mem:∀ v,v ∈ a.2.flatMap (SU vl hs) ↔ Wk hs v=true
def Rc (hs:List Int) (y:Am):List Int:=(TG hs y).getD []
structure FillP (hs:List Int) (l:List Am):Prop where
 some:∀ y ∈ l,(TG hs y).isSome=true
 nd:(l.flatMap (Rc hs)).Nodup
 al:∀ v ∈ l.flatMap (Rc hs),Wk hs v=true
 kinds:Wt l
 fill:∀ y ∈ l,y.1=1∨y.2.1 ≠ y.2.2
section
variable {hs:List Int} {l:List Am}
end
structure Val (g:Int→Int):Prop where
 zero:g 0=0
 le:∀ t,0≤g t∧g t≤8
structure SatA (g:Int→Int) (hs:List Int) (l:List Am) (C:Int→Prop):Prop where
 some:∀ x ∈ l,(TG hs (V5 g x)).isSome=true
 nd:(l.flatMap fun x=>Rc hs (V5 g x)).Nodup
 mem:∀ v,v ∈ (l.flatMap fun x=>Rc hs (V5 g x)) ↔ C v
structure Sat (g:Int→Int) (hs:List Int) (a:Aj) (C:Int→Prop):Prop where
 asn:Ah a=true
 facts:∀ x ∈ a.1,Fl g x=true
 atoms:SatA g hs a.2 C
section
variable {g h:Int→Int} {hs hs':List Int} {l m:List Am} {C D:Int→Prop} {a b:Aj}
end
theorem Rd {a b:Aj} (h:Es a=some b):b=a∧Ah a=true:=by
 rw [Es] at h;split at h
 · exact ⟨(Option.some.inj h).symm,by assumption⟩
 · cases h
theorem Md {l:List Am} {i:Nat} (h:i < l.length):l.Perm (gd l i :: Br l i):=by
 rw [Br,BT h];have e:l=l.take i ++ l[i] :: l.drop (i+1):=by
  rw [← List.drop_eq_getElem_cons h,List.take_append_drop]
 exact (List.Perm.of_eq e).trans List.perm_middle
structure Fm (hs:List Int) (C:Int→Prop) (hs':List Int) (C':Int→Prop):Prop where
 out:∀ v,Wk hs v=true→¬ C v→ct hs' v=ct hs v∧¬ C' v
 new:∀ v,Wk hs' v=true→C' v∨(Wk hs v=true∧¬ C v)
section
variable {g:Int→Int} {hs:List Int} {C:Int→Prop} {a b:Aj} {m:Nat}
theorem E2 {k t:Int} {i:Nat} (h:atomAt a k t=some i):i < a.2.length∧(gd a.2 i).1=k∧D4 a (true,(gd a.2 i).2.1,t)=true:=by
 have h1:=List.mem_range.1 (List.mem_of_find?_eq_some h);have h2:=List.find?_some h;rw [O7,Bool.and_eq_true,beq_iff_eq] at h2;exact ⟨h1,h2.1,h2.2⟩
theorem UX {x y:Int}:Fl g (false,x,y)=true ↔ g x ≠ g y:=by simp [Fl]
theorem TH {f:Ap} (h:D4 a f=true):AH f=true:=by
 rw [D4,Bool.and_eq_true,Bool.and_eq_true] at h;exact h.2.1
end
theorem Qa {l m:List Am} (hp:l.Perm m) (h:NP l):NP m :=
 ⟨fun y hy=>h.1 y (hp.mem_iff.2 hy),(hp.pairwise_iff (fun hab=>Ne.symm hab)).1 h.2⟩
theorem Qb {g:Int→Int} {l m:List Am} (hp:l.Perm m):(Dy g l).Perm (Dy g m):=(hp.filter _).map _
theorem R1 {a:Aj} {i:Nat} {n:Int} {g:Int→Int} (hi:i < a.2.length) (h:PossV g (Bp a i n)):PossV g a:=by
 have hne:g (gd a.2 i).2.1 ≠ g (gd a.2 i).2.2:=UX.1 (h.facts _ (List.mem_append_right _ (List.mem_singleton.2 rfl)));refine ⟨fun x hx=>h.facts x (List.mem_append_left _ hx),Qa (Qb (Md hi)).symm ?_⟩;have hA:=h.apart;have e1:Dy g (gd a.2 i :: Br a.2 i)=((gd a.2 i).1,g (gd a.2 i).2.1,g (gd a.2 i).2.2) :: Dy g (Br a.2 i):=by
  rw [Dy,List.filter_cons,if_pos (by simp [bne_iff_ne,hne]),List.map_cons];rfl
 have e2:Dy g (Bp a i n).2=(1,g (gd a.2 i).2.1,g n) :: (Dy g (Br a.2 i) ++ Dy g [(2,n,(gd a.2 i).2.2)]):=by
  show Dy g ((1,(gd a.2 i).2.1,n) :: (Br a.2 i ++ [(2,n,(gd a.2 i).2.2)]))=_
  rw [Dy,List.filter_cons,if_pos Sp,List.map_cons,List.filter_append,List.map_append];rfl
 rw [e1];rw [e2] at hA;have h2:=List.pairwise_cons.1 hA.2;refine ⟨fun y hy=>?_,List.pairwise_cons.2 ⟨fun y hy=>h2.1 y (List.mem_append_left _ hy),(List.pairwise_append.1 h2.2).1⟩⟩;rcases List.mem_cons.1 hy with rfl | hy
 · exact show g (gd a.2 i).2.1 ≠ 0 from hA.1 (1,g (gd a.2 i).2.1,g n) List.mem_cons_self
 · exact hA.1 y (List.mem_cons_of_mem _ (List.mem_append_left _ hy))
theorem Re {a:Aj} {i:Nat} {t n:Int} (ha:Ah a=true) (hi:atomAt a 2 t=some i) (hv:Ah (Bp a i n)=true):atomAt (Bp a i n) 1 t=some 0:=by
 obtain ⟨hl,_,hp⟩:=E2 hi;have hf:=TH hp;refine Io (by simp [Bp]) rfl ?_;show (((1:Int) == 1) && D4 (Bp a i n) (true,(gd a.2 i).2.1,t))=true
 rw [Bool.and_eq_true];exact ⟨rfl,(Q6 hv hf).2 fun g g0 hg=>(Q6 ha hf).1 hp g g0 (R1 hl hg)⟩
theorem Me {a:Aj} {i m d e:Nat} {t n:Int} (ha:Ah a=true) (hi:atomAt a 2 t=some i):AS m t (d+1) (Bp a i n)=AS m t (e+1) (Bp a i n):=by
 rw [AS,AS];by_cases hv:Ah (Bp a i n)=true
 · rw [if_pos hv,if_pos hv,Re ha hi hv]
 · rw [if_neg hv,if_neg hv]
theorem M8 {a:Aj} {i:Nat} (hi:i < a.2.length):(CN a i).2.length+1=a.2.length:=by
 have:=(Md hi).length_eq;rw [List.length_cons] at this;exact this.symm
theorem R2 {m:Nat} {t:Int}:∀ (k:Nat) (a:Aj) (e:Nat),a.2.length≤k→k≤e→AS m t (e+1) a=AS m t (k+1) a:=fun k=>by
 induction k with
 | zero =>
   intro a e h _;rw [AS,AS];split
   · split
     · cases h1:atomAt a 1 t with
       | some i=>rfl
       | none =>
         cases h2:atomAt a 2 t with
         | none=>rfl
         | some i=>exact absurd (E2 h2).1 Om
     · rfl
   · rfl
 | succ k ih =>
   intro a e h he;obtain ⟨e,rfl⟩:∃ e',e=e'+1:=⟨e - 1,by omega⟩;rw [AS,AS];by_cases ha:Ah a=true
   · rw [if_pos ha,if_pos ha]
     split
     · cases h1:atomAt a 1 t with
       | some i=>rfl
       | none =>
         cases h2:atomAt a 2 t with
         | none=>rfl
         | some i =>
           have hl:=M8 (E2 h2).1;simp only;rw [ih (CN a i) e Om (by omega)];congr 1
           funext n
           congr 1
           funext x
           rw [Me (e:=k) ha h2]
     · rfl
   · rw [if_neg ha,if_neg ha]
def Ec (m:Nat) (t:Int) (a:Aj):Option (List Aj):=AS m t 7 a
theorem R3 {m:Nat} {t:Int} {a:Aj} {d:Nat} (h:a.2.length≤d) (hd:d≤6):AS m t (d+1) a=Ec m t a:=(R2 d a 6 h hd).symm
theorem V6 {m:Nat} {t:Int} {a:Aj} (ha:Ah a=true) (hl:a.2.length≤6):Ec m t a=if Cl a=true then
 (match atomAt a 1 t with
  | some i=>(Es (BS a i t)).map fun b=>[b]
  | none=>match atomAt a 2 t with
    | some i=>(D2 (Ak a ||| m)).bind fun n=>(Ec m t (CN a i)).bind fun x=>(Ec m t (Bp a i n)).map fun y=>x ++ y
    | none=>none)
 else some []:=by
 rw [Ec,AS,if_pos ha];split
 · cases h1:atomAt a 1 t with
   | some i=>rfl
   | none =>
     cases h2:atomAt a 2 t with
     | none=>rfl
     | some i =>
       have hl2:=M8 (E2 h2).1;simp only;have he:AS m t 6 (CN a i)=Ec m t (CN a i):=R3 (d:=5) Om Om;rw [he];refine congrArg (Option.bind _) (funext fun n=>congrArg (Option.bind _) (funext fun x=>?_));have hf:AS m t 6 (Bp a i n)=Ec m t (Bp a i n):=Me (d:=5) (e:=6) ha h2;rw [hf]
 · rfl
end Go.Proofs.YtkbbmjcfgcfejaaGreat
