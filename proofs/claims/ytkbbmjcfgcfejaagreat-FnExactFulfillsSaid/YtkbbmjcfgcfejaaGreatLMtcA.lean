/- MtcA: texts Mtc1, Mtc2 in one. -/
import Derived.Test.YtkbbmjcfgcfejaaGreatLCase14
set_option linter.unusedVariables false
set_option linter.unusedSimpArgs false
set_option maxRecDepth 100000
set_option maxHeartbeats 12800000
namespace Go.Proofs.YtkbbmjcfgcfejaaGreat
open Go.RowKit
def WB (v:Value) (m:Nat) (c:Int):Array Value:=(v :: (CI 6 m ++ [.int .i64 c])).toArray
def CM (w:World) (b:Nat) (v:Value) (m:Nat) (c:Int):Prop:=w.heap[b]?=some (.cells (WB v m c) 277 (0,0))
section
variable {w w':World} {b:Nat} {v:Value} {m:Nat} {c:Int}
theorem CM.c0 (h:CM w b v m c):w.cell? ⟨b,0,none⟩=some v:=by rw [cr 0 h];rfl
theorem CM.cb (h:CM w b v m c) {i:Nat} (hi:i < 6):w.cell? ⟨b,1+i,none⟩=some (.bool (m.testBit i)):=by
 rw [cell_of_row _ _ _ _ _ _ h];have:=Gk (n:=6) (m:=m) hi;simp only [WB,List.getElem?_toArray,Nat.add_comm 1 i,List.getElem?_cons_succ];rw [List.getElem?_append_left (by rw [GI];exact hi)];exact this
theorem CM.c7 (h:CM w b v m c):w.cell? ⟨b,7,none⟩=some (.int .i64 c):=by
 rw [cr 7 h];simp only [WB,List.getElem?_toArray,List.getElem?_cons_succ];rw [List.getElem?_append_right (by rw [GI];omega),GI];rfl
theorem CM.fz (h:CM w b v m c) (i:Nat):w.frozen? ⟨b,i,none⟩=false:=frozen_of_row _ _ i _ _ h
theorem CM.lt (h:CM w b v m c):b < w.heap.size:=Ae h
theorem CM.keep (h:CM w b v m c) (hb:Below w.heap.size w w'):CM w' b v m c:=Ac h hb
theorem CM.setb (h:CM w b v m c) {i:Nat} (hi:i < 6):CM (w.setCell ⟨b,1+i,none⟩ (.bool true)) b v (m ||| 2 ^ i) c:=by
 unfold CM;rw [heap_setCell_same w b (1+i) _ _ _ h];congr 2
 simp only [WB,List.setIfInBounds_toArray,Nat.add_comm 1 i,List.set_cons_succ];rw [List.set_append_left _ _ (by rw [GI];exact hi),RC hi]
theorem CM.set7 (h:CM w b v m c) (c':Int):CM (w.setCell ⟨b,7,none⟩ (.int .i64 c')) b v m c':=by
 unfold CM;rw [heap_setCell_same w b 7 _ _ _ h];rfl
end
theorem Gu (b:Nat) (v:Value) (m i:Nat) (c:Int) (w:World) (h:CM w b v m c) (hi:i < 6) (h0:0≤c) (h6:c≤6) :
 Calls Tryz.prog 276 #[.pointer (some ⟨b,0,none⟩),.int .i64 i] w fun e w'=>(∃ u,e=.returned u)∧CM w' b v (m ||| 2 ^ i) (c+1)∧Fr (fun k=>k=b) w w':=by
 have hi6:(i:Int) < 6:=by omega
 have hb:=h.cb hi;have hz:=h.fz;have h1:=h.setb hi;have h7:=h1.c7;have H2:=Ad (h1.set7 (c+1));clear h h1;go_enter Tryz.func276,Tryz.ntmps276
 go_wp2;go_end0
 exact ⟨⟨_,rfl⟩,H2.o,(Aw w ⟨b,1+i,none⟩ (.bool true)).trans (Aw _ ⟨b,7,none⟩ _)⟩
def KN:Option Nat→Value
 | some i=>.tuple #[.int .i64 (i:Int),.bool true]
 | none=>.tuple #[.int .i64 0,.bool false]
theorem By {S:Nat→Prop} (b:Nat) (v:Value) (left:List Am) (m:Nat) (c cls:Int) (r:Option Nat) (w:World) (h:CM w b v m c) (hv:RL w S v left) (h6:left.length≤6) (hr:Gl left m cls=r) :
 Calls Tryz.prog 275 #[.pointer (some ⟨b,0,none⟩),.int .i64 cls] w fun e w'=>e=.returned (KN r)∧Below w.heap.size w w':=by
 obtain ⟨a,cp,rfl,_,_,hf1⟩:=hv.atomAt;have F1:=Ad hf1;have h0:=h.c0;have hlt:=h.lt;have HC:=Ad h;have HR:=Ad hr;clear hf1 hv hr h;go_enter Tryz.func275,Tryz.ntmps275
 go_wp2;go_loopg [13] left.length (fun q i wr=>∃ k:Nat,k+q=left.length∧i=.int .i64 k∧(∀ j,j < k→(((gd left j).2.1 == cls) && !m.testBit j)=false)∧Below w.heap.size w wr)
 case atStart=>exact ⟨0,by omega,rfl,fun j hj=>absurd hj Om,Below.refl _ _⟩
 case round =>
  obtain ⟨k,hk,rfl,hno,hb⟩:=hrel;have HK:=Ad hk;have HNO:=Ad hno;clear hk hno;by_cases hk8:k < left.length
  · obtain ⟨b1,o1,rfl,_,hbl1,hp1,hp2,hp3⟩:=F1.o k hk8
    replace hp1:=Ab hb hp1;replace hp2:=Ab hb hp2;replace hp3:=Ab hb hp3;have hs:=hb.size;(have i1:(k:Int) < (left.length:Int):=by omega);(have k6:(k:Int) < 6:=by omega);(have hzb:b1 < wr.heap.size:=by omega);have hbit:=(HC.o.keep hb).cb (i:=k) Om;(have hzm:b < wr.heap.size:=by omega);by_cases hp:(gd left k).2.1=cls
    · have hpb:((gd left k).2.1 == cls)=true:=by simp [hp]
      cases hq:m.testBit k with
      | false =>
        rw [hq] at hbit;have hf:=LT (p:=fun i=>((gd left i).2.1 == cls) && !m.testBit i) hk8 HNO.o (by show (((gd left k).2.1 == cls) && !m.testBit k)=true;rw [hpb,hq];rfl);have HF:=Ad (show r=some k by rw [← HR.o];exact hf);clear hp hq hf;go_wp2;go_returns;exact ⟨by rw [HF.o];rfl,bt hb Bl⟩
      | true =>
        rw [hq] at hbit;have HN:=Ad (show (((gd left k).2.1 == cls) && !m.testBit k)=false by rw [hq];simp);clear hp hq;go_wp2;go_roundg (gk - 1)
        case rel=>exact ⟨k+1,by have:=HK.o;omega,by go_num,fun j hj=>by rcases Nat.lt_succ_iff_lt_or_eq.1 hj with h | h;exact HNO.o j h;subst h;exact HN.o,bt hb Bl⟩
        case measure=>have:=HK.o;omega
    · have hpb:((gd left k).2.1 == cls)=false:=by simp [hp]
      have HN:=Ad (show (((gd left k).2.1 == cls) && !m.testBit k)=false by rw [hpb];rfl);clear hp hbit;go_wp2;go_roundg (gk - 1)
      case rel=>exact ⟨k+1,by have:=HK.o;omega,by go_num,fun j hj=>by rcases Nat.lt_succ_iff_lt_or_eq.1 hj with h | h;exact HNO.o j h;subst h;exact HN.o,bt hb Bl⟩
      case measure=>have:=HK.o;omega
  · obtain rfl:k=left.length:=by have:=HK.o;omega
    have HF:=Ad (show r=none by rw [← HR.o];exact NN HNO.o);go_wp2;go_returns;exact ⟨by rw [HF.o];rfl,hb⟩
theorem JC {S:Nat→Prop} (b:Nat) (v:Value) (left:List Am) (m:Nat) (x:Am) (r:Option (Nat × List Int)) (w:World) (h:CM w b v m (Bf left.length m)) (hv:RL w S v left) (h6:left.length≤6) (hr:E0 left m x=r) :
 Calls Tryz.prog 250 #[.pointer (some ⟨b,0,none⟩),.agg #[.int .i64 x.1,.int .i64 x.2.1,.int .i64 x.2.2]] w fun e w'=>∃ v',e=.returned (.tuple #[v',.bool r.isSome]) ∧
  (∀ m' us,r=some (m',us)→CM w' b v m' (Bf left.length m')∧OO w' w.heap.size v' us)∧Fr (fun k=>k=b) w w':=by
 obtain ⟨x1,x2,x3⟩:=x;simp only;obtain ⟨va,vc,rfl,_,_,hf1⟩:=hv.atomAt;have F1:=Ad hf1;have h0:=h.c0;have hlt:=h.lt;have HR:=Ad hr;clear hf1 hr;cases hf:Gl left m x2 with
 | none =>
   have HF:=Ad hf;have HRN:=Ad (show r=none by rw [← HR.o,E0,hf]);clear hf;go_enter Tryz.func250,Tryz.ntmps250
   (go_wp2_with fail);refine (By b _ left m (Bf left.length m) x2 none _ (h.keep (Aa _ _)) (hv.keep (Aa _ _)) h6 HF.o).mono ?_;rintro e w5 ⟨rfl,hb5⟩;simp only [KN];have HB5:=Ad (bt (Aa _ _) hb5);clear hb5;go_wp2;refine Af Kr Kr ?_;repeat (go_big_quiet_step ((fail)))
   refine wpQuiet_nil ?_;intro w6 hb6;go_wp2;go_returns;exact ⟨.slice none 0 0,by rw [HRN.o];rfl,fun m' us e=>(by rw [HRN.o] at e;cases e),(Below.fr (bt HB5.o hb6)).mono fun _ _ h=>h.elim⟩
 | some i =>
   obtain ⟨hil,hic,hbm⟩:=EE hf;(have hi6:(i:Int) < (left.length:Int):=by omega);obtain ⟨b1,o1,rfl,_,hbl1,hp1,hp2,hp3⟩:=F1.o i hil;have hzb:=World.block_lt_of_cell? w _ hp1;have HF:=Ad hf;clear hf hic;by_cases e0:(gd left i).1=x1;rotate_left
   · have hb0:((gd left i).1 == x1)=false:=by simp [e0]
     have HEQ:=Ad (show r=none by rw [← HR.o,E0,HF.o];show (if gd left i=(x1,x2,x3) then _ else _)=none;rw [if_neg (by simp [Prod.ext_iff,e0])]);clear e0;go_enter Tryz.func250,Tryz.ntmps250
     (go_wp2_with fail);refine (By b _ left m (Bf left.length m) x2 (some i) _ (h.keep (Aa _ _)) (hv.keep (Aa _ _)) h6 HF.o).mono ?_;rintro e w5 ⟨rfl,hb5⟩;simp only [KN];have c0:=Ab (bt (Aa _ _) hb5) h0;have a1:=Ab (bt (Aa _ _) hb5) hp1;have a2:=Ab (bt (Aa _ _) hb5) hp2;have a3:=Ab (bt (Aa _ _) hb5) hp3;have d0:=Ab hb5 (p:=⟨w.heap.size,0,none⟩) (v:=.int .i64 x1) (by simp [go_sem]);have d1:=Ab hb5 (p:=⟨w.heap.size,1,none⟩) (v:=.int .i64 x2) (by simp [go_sem]);have d2:=Ab hb5 (p:=⟨w.heap.size,2,none⟩) (v:=.int .i64 x3) (by simp [go_sem]);have q0:=World.block_lt_of_cell? w5 _ c0;have q1:=World.block_lt_of_cell? w5 _ a1;have q2:=World.block_lt_of_cell? w5 _ d0;simp only at q0 q1 q2;have HB5:=Ad (bt (Aa _ _) hb5);clear hb5;go_wp2;refine Af Kr Kr ?_;repeat (go_big_quiet_step ((fail)))
     refine wpQuiet_nil ?_;intro w6 hb6;go_wp2;go_returns;exact ⟨.slice none 0 0,by rw [HEQ.o];rfl,fun m' us e=>(by rw [HEQ.o] at e;cases e),(Below.fr (bt HB5.o hb6)).mono fun _ _ h=>h.elim⟩
   (have hb0:((gd left i).1 == x1)=true:=by simp [e0]);by_cases e1:(gd left i).2.1=x2;rotate_left
   · have hb1:((gd left i).2.1 == x2)=false:=by simp [e1]
     have HEQ:=Ad (show r=none by rw [← HR.o,E0,HF.o];show (if gd left i=(x1,x2,x3) then _ else _)=none;rw [if_neg (by simp [Prod.ext_iff,e1])]);clear e0 e1;go_enter Tryz.func250,Tryz.ntmps250
     (go_wp2_with fail);refine (By b _ left m (Bf left.length m) x2 (some i) _ (h.keep (Aa _ _)) (hv.keep (Aa _ _)) h6 HF.o).mono ?_;rintro e w5 ⟨rfl,hb5⟩;simp only [KN];have c0:=Ab (bt (Aa _ _) hb5) h0;have a1:=Ab (bt (Aa _ _) hb5) hp1;have a2:=Ab (bt (Aa _ _) hb5) hp2;have a3:=Ab (bt (Aa _ _) hb5) hp3;have d0:=Ab hb5 (p:=⟨w.heap.size,0,none⟩) (v:=.int .i64 x1) (by simp [go_sem]);have d1:=Ab hb5 (p:=⟨w.heap.size,1,none⟩) (v:=.int .i64 x2) (by simp [go_sem]);have d2:=Ab hb5 (p:=⟨w.heap.size,2,none⟩) (v:=.int .i64 x3) (by simp [go_sem]);have q0:=World.block_lt_of_cell? w5 _ c0;have q1:=World.block_lt_of_cell? w5 _ a1;have q2:=World.block_lt_of_cell? w5 _ d0;simp only at q0 q1 q2;have HB5:=Ad (bt (Aa _ _) hb5);clear hb5;go_wp2;refine Af Kr Kr ?_;repeat (go_big_quiet_step ((fail)))
     refine wpQuiet_nil ?_;intro w6 hb6;go_wp2;go_returns;exact ⟨.slice none 0 0,by rw [HEQ.o];rfl,fun m' us e=>(by rw [HEQ.o] at e;cases e),(Below.fr (bt HB5.o hb6)).mono fun _ _ h=>h.elim⟩
   (have hb1:((gd left i).2.1 == x2)=true:=by simp [e1]);by_cases e2:(gd left i).2.2=x3;rotate_left
   · have hb2:((gd left i).2.2 == x3)=false:=by simp [e2]
     have HEQ:=Ad (show r=none by rw [← HR.o,E0,HF.o];show (if gd left i=(x1,x2,x3) then _ else _)=none;rw [if_neg (by simp [Prod.ext_iff,e2])]);clear e0 e1 e2;go_enter Tryz.func250,Tryz.ntmps250
     (go_wp2_with fail);refine (By b _ left m (Bf left.length m) x2 (some i) _ (h.keep (Aa _ _)) (hv.keep (Aa _ _)) h6 HF.o).mono ?_;rintro e w5 ⟨rfl,hb5⟩;simp only [KN];have c0:=Ab (bt (Aa _ _) hb5) h0;have a1:=Ab (bt (Aa _ _) hb5) hp1;have a2:=Ab (bt (Aa _ _) hb5) hp2;have a3:=Ab (bt (Aa _ _) hb5) hp3;have d0:=Ab hb5 (p:=⟨w.heap.size,0,none⟩) (v:=.int .i64 x1) (by simp [go_sem]);have d1:=Ab hb5 (p:=⟨w.heap.size,1,none⟩) (v:=.int .i64 x2) (by simp [go_sem]);have d2:=Ab hb5 (p:=⟨w.heap.size,2,none⟩) (v:=.int .i64 x3) (by simp [go_sem]);have q0:=World.block_lt_of_cell? w5 _ c0;have q1:=World.block_lt_of_cell? w5 _ a1;have q2:=World.block_lt_of_cell? w5 _ d0;simp only at q0 q1 q2;have HB5:=Ad (bt (Aa _ _) hb5);clear hb5;go_wp2;refine Af Kr Kr ?_;repeat (go_big_quiet_step ((fail)))
     refine wpQuiet_nil ?_;intro w6 hb6;go_wp2;go_returns;exact ⟨.slice none 0 0,by rw [HEQ.o];rfl,fun m' us e=>(by rw [HEQ.o] at e;cases e),(Below.fr (bt HB5.o hb6)).mono fun _ _ h=>h.elim⟩
   (have hb2:((gd left i).2.2 == x3)=true:=by simp [e2]);have HEQ:=Ad (show r=some (m ||| 2 ^ i,[(i:Int)]) by rw [← HR.o,E0,HF.o];show (if gd left i=(x1,x2,x3) then _ else _)=_;rw [if_pos (by simp [Prod.ext_iff,e0,e1,e2])]);clear e0 e1 e2;go_enter Tryz.func250,Tryz.ntmps250
   (go_wp2_with fail);refine (By b _ left m (Bf left.length m) x2 (some i) _ (h.keep (Aa _ _)) (hv.keep (Aa _ _)) h6 HF.o).mono ?_;rintro e w5 ⟨rfl,hb5⟩;simp only [KN];have c0:=Ab (bt (Aa _ _) hb5) h0;have a1:=Ab (bt (Aa _ _) hb5) hp1;have a2:=Ab (bt (Aa _ _) hb5) hp2;have a3:=Ab (bt (Aa _ _) hb5) hp3;have d0:=Ab hb5 (p:=⟨w.heap.size,0,none⟩) (v:=.int .i64 x1) (by simp [go_sem]);have d1:=Ab hb5 (p:=⟨w.heap.size,1,none⟩) (v:=.int .i64 x2) (by simp [go_sem]);have d2:=Ab hb5 (p:=⟨w.heap.size,2,none⟩) (v:=.int .i64 x3) (by simp [go_sem]);have q0:=World.block_lt_of_cell? w5 _ c0;have q1:=World.block_lt_of_cell? w5 _ a1;have q2:=World.block_lt_of_cell? w5 _ d0;simp only at q0 q1 q2;have HB5:=Ad (bt (Aa _ _) hb5);clear hb5;go_wp2;refine Af Kr Kr ?_;repeat (go_big_quiet_step ((fail)))
   refine wpQuiet_nil ?_;intro w6 hb6;have HB6:=Ad hb6;have hC6:=h.keep (bt HB5.o hb6);have hcs:=Ik hil hbm;have hle:=GL left.length m;(go_wp2_with fail);refine (Gu b _ m i (Bf left.length m) _ hC6 Om Om Om).mono ?_;rintro e w7 ⟨⟨u,rfl⟩,hC7,hf7⟩;have HF7:=Ad (An hC7 hf7);clear hC6 hC7 hf7 hb6;go_wp2;go_returns;refine ⟨_,by rw [HEQ.o];rfl,fun m' us e=>?_,((Below.fr (bt HB5.o HB6.o)).mono fun _ _ h=>h.elim).trans (HF7.o.2.trans ((Below.fr (Aa _ _)).mono fun _ _ h=>h.elim))⟩;rw [HEQ.o] at e;simp only [Option.some.injEq,Prod.mk.injEq] at e;obtain ⟨rfl,rfl⟩:=e;refine ⟨?_,OO.ints (World.ownsRow_lit (size:=1) w7 #[.int .i64 (i:Int)] 1 (by have:=HF7.o.2.size;have:=HB6.o.size;have:=HB5.o.size;omega) (by unfold maxLen;omega) rfl)⟩;have:=HF7.o.1.keep (Aa _ (.cells #[.int .i64 (i:Int)] 3));rw [hcs];exact this
theorem KO {left:List Am} {B A:Int} {cl:Bool} {f m:Nat} (h:Gl left m A=none):BO left B cl f m A=none:=by
 cases f with
 | zero=>rfl
 | succ f=>rw [BO,h]
theorem KP {left:List Am} {B A:Int} {cl:Bool} {m i:Nat} (h:Gl left m A=some i):BO left B cl (left.length - Bf left.length m) m A=if (gd left i).2.2=B then some (m ||| 2 ^ i,[(i:Int)]) else
 if (gd left i).1=2∧cl=false then none else (BO left B cl (left.length - Bf left.length (m ||| 2 ^ i)) (m ||| 2 ^ i) (gd left i).2.2).map fun r=>(r.1,(i:Int) :: r.2):=by
 obtain ⟨h1,_,h3⟩:=EE h;have h4:=Ik h1 h3;have h5:=GL left.length (m ||| 2 ^ i);rw [show left.length - Bf left.length m=(left.length - Bf left.length (m ||| 2 ^ i))+1 by omega,BO,h]
theorem Ir {S:Nat→Prop} (b:Nat) (v:Value) (left:List Am) (m:Nat) (x:Am) (r:Option (Nat × List Int)) (w:World) (h:CM w b v m (Bf left.length m)) (hv:RL w S v left) (hS:∀ k,S k→¬ k=b) (h6:left.length≤6)
 (hr:BO left x.2.2 (EY left x.2.2) (left.length - Bf left.length m) m x.2.1=r) :
 Calls Tryz.prog 251 #[.pointer (some ⟨b,0,none⟩),.agg #[.int .i64 x.1,.int .i64 x.2.1,.int .i64 x.2.2]] w fun e w'=>∃ v',e=.returned (.tuple #[v',.bool r.isSome]) ∧
  (∀ m' us,r=some (m',us)→CM w' b v m' (Bf left.length m')∧OO w' w.heap.size v' us)∧Fr (fun k=>k=b) w w':=by
 obtain ⟨x1,x2,x3⟩:=x;simp only at hr ⊢;obtain ⟨va,vc,rfl,_,_,hf1⟩:=hv.atomAt;have F1:=Ad hf1;have h0:=h.c0;have hlt:=h.lt;obtain ⟨cl,hcl⟩:∃ c,EY left x3=c:=⟨_,rfl⟩;rw [hcl] at hr;have HCL:=Ad hcl;have HR:=Ad hr;clear hf1 hr hcl;go_enter Tryz.func251,Tryz.ntmps251
 go_upto_region 1 with fail
 go_cut [6] from 11 (fun c wc=>c=.bool cl∧Below w.heap.size w wc∧wc.cell? ⟨w.heap.size,1,none⟩=some (.int .i64 x2)∧wc.cell? ⟨w.heap.size,2,none⟩=some (.int .i64 x3))
 case first =>
  have d1:(w.alloc (.cells #[.int .i64 x1,.int .i64 x2,.int .i64 x3] 118)).cell? ⟨w.heap.size,1,none⟩=some (.int .i64 x2):=by simp [go_sem]
  have d2:(w.alloc (.cells #[.int .i64 x1,.int .i64 x2,.int .i64 x3] 118)).cell? ⟨w.heap.size,2,none⟩=some (.int .i64 x3):=by simp [go_sem]
  have hb0:=Aa w (.cells #[.int .i64 x1,.int .i64 x2,.int .i64 x3] 118);have HB:=Ad (An hb0 (An d1 d2));by_cases hx0:x3=0
  · have hxb:(x3 == 0)=true:=by simp [hx0]
    have HT:=Ad (show true=cl by rw [← HCL.o,EY,hxb];rfl);clear hx0;refine Af Kr Kr ?_;repeat (go_big_quiet_step ((fail)))
    refine wpQuiet_nil ?_;intro w6 hb6;go_wp2;go_meet
    case rel=>exact ⟨by rw [HT.o],bt HB.o.1 hb6,Ab hb6 HB.o.2.1,Ab hb6 HB.o.2.2⟩
  · have hxb:(x3 == 0)=false:=by simp [hx0]
    have HT:=Ad (show (left.any fun y=>y.2.1 == x3)=cl by rw [← HCL.o,EY,hxb];rfl);clear hx0;have hq:=hv.keep HB.o.1;have hc0:=Ab HB.o.1 h0;clear d1 d2 hb0 h0;generalize (w.alloc (.cells #[.int .i64 x1,.int .i64 x2,.int .i64 x3] 118))=w0 at *;have d2:=HB.o.2.2;have z1:=World.block_lt_of_cell? w0 _ d2;have z2:=World.block_lt_of_cell? w0 _ hc0;simp only at z1 z2;refine Af Kr Kr ?_;repeat (go_big_quiet_step ((go_at_call 277;first
     | with_reducible exact Eu (cb (MM (.slice va left.length vc) left x3 _ (hq.keep (AV _ _))) HT.o))))
    refine wpQuiet_nil ?_;intro w6 hb6;go_wp2;go_meet
    case rel=>exact ⟨rfl,bt HB.o.1 hb6,Ab hb6 HB.o.2.1,Ab hb6 HB.o.2.2⟩
 case rest =>
  obtain ⟨rfl,hb0,d1,d2⟩:=hcut;have hC0:=h.keep hb0;have HC0:=Ad hC0;clear hC0 h h0;have hq:=hv.keep hb0;have hz0:b < wc.heap.size:=Nat.lt_of_lt_of_le hlt hb0.size;have z1:w.heap.size < wc.heap.size:=World.block_lt_of_cell? wc _ d2;have HW:=Ad (show Fr (fun k=>k=b) w wc from (Below.fr hb0).mono fun _ _ h=>h.elim);clear hb0;go_wp2;go_loopg [7,8] (left.length - Bf left.length m) (fun q us at_ wr=>∃ (m':Nat) (pre:List Int) (A:Int),q=left.length - Bf left.length m'∧pre.length+q≤6∧at_=.int .i64 A∧wr.ownsRow (w.heap.size+1) 3 1 us pre.length (ints pre) ∧
   r=(BO left x3 cl q m' A).map (fun p=>(p.1,pre ++ p.2))∧CM wr b (.slice va left.length vc) m' (Bf left.length m')∧wr.cell? ⟨w.heap.size,2,none⟩=some (.int .i64 x3)∧Fr (fun k=>k=b) w wr)
  case atStart=>exact ⟨m,[],x2,rfl,by have:=GL left.length m;simp;omega,rfl,World.ownsRow_nil _ _ _ _,by rw [HR.o];cases r <;> rfl,HC0.o,d2,HW.o⟩
  case round =>
   clear d1 d2 hz0 z1 hq;obtain ⟨m',pre,A,hgk,hpl,rfl,hown,hch,hC,hd2,hf⟩:=hrel;have hq:=hv.kept hf (fun k _ hs h=>hS k hs h);have HGK:=Ad hgk;have HPL:=Ad hpl;have HOWN:=Ad hown;have hle:=GL left.length m';(have hpl6:pre.length≤6:=by omega);rw [hgk] at hch;clear hgk hpl hown;cases hfu:Gl left m' A with
   | none =>
     have HN:=Ad (show r=none by rw [hch,KO hfu];rfl);have HF:=Ad hfu;clear hfu hch;(go_wp2_with fail);refine (By b _ left m' _ A none wr hC hq h6 HF.o).mono ?_;rintro e w5 ⟨rfl,hb5⟩;simp only [KN];go_wp2;go_returns;exact ⟨.slice none 0 0,by rw [HN.o];rfl,fun m' us e=>(by rw [HN.o] at e;cases e),hf.thenB hb5⟩
   | some i =>
     obtain ⟨hil,hic,hbm⟩:=EE hfu;(have hi6:(i:Int) < (left.length:Int):=by omega);have hcs:=Ik hil hbm;have HCS:=Ad (show (Bf left.length (m' ||| 2 ^ i):Int)=(Bf left.length m':Int)+1 by omega);obtain ⟨b1,o1,hve,hsb,hbl1,hp1,hp2,hp3⟩:=F1.o i hil;subst hve;have hb1b:¬ b1=b:=hS b1 hsb;replace hp1:=hf.cell hb1b hp1;replace hp3:=hf.cell hb1b hp3;have HNB:=Ad hb1b;have HLE:=Ad (GL left.length (m' ||| 2 ^ i));have hst:=KP (cl:=cl) (B:=x3) hfu;rw [hst] at hch;have HF:=Ad hfu;obtain ⟨K1,hK1⟩:∃ x,(gd left i).1=x:=⟨_,rfl⟩;obtain ⟨B1,hB1⟩:∃ x,(gd left i).2.2=x:=⟨_,rfl⟩;rw [hK1] at hp1 hch;rw [hB1] at hp3 hch;clear hst hfu hic hbm hcs hp2 hK1 hB1 hb1b;by_cases hB:B1=x3
     · have hbb:(B1 == x3)=true:=by simp [hB]
       have HN:=Ad (show r=some (m' ||| 2 ^ i,pre ++ [(i:Int)]) by rw [hch,if_pos hB];rfl);clear hB hch;(go_wp2_with fail);refine (By b _ left m' _ A (some i) wr hC hq h6 HF.o).mono ?_;rintro e w5 ⟨rfl,hb5⟩;simp only [KN];(go_wp2_with fail);refine (Gu b _ m' i _ w5 (hC.keep hb5) Om Om Om).mono ?_;rintro e w6 ⟨⟨u,rfl⟩,hC6,hf6⟩;rw [← HCS.o] at hC6;have own6:=BR (Ag HOWN.o hb5) hf6 (fun k hk e=>by have:=(AD HOWN.o hk).1;omega);have e3:=hf6.cell (fun e=>HNB.o e) (Ab hb5 hp3);have e1:=hf6.cell (fun e=>HNB.o e) (Ab hb5 hp1);have e2:=hf6.cell (by show ¬ w.heap.size=b;omega) (Ab hb5 hd2);have F6:=Ad ((hf.thenB hb5).trans hf6);have hz6:w.heap.size+1≤w6.heap.size:=World.block_lt_of_cell? w6 _ e2;have HC6:=Ad hC6;clear hb5 hf6 hC6 hd2 hp1 hp3;go_wp2_with (at_builtin;go_must (refine Fv _ rfl _ _ rfl (w.heap.size+1) _ _ rfl (Ag own6 (Aa _ _)) ⟨w6.heap.size,0,none⟩ _ rfl (DE _ _ _) Om (by simp;omega) ?_;intro v' w7 own7 hf7;have hn7:=fun k (hk:k≤w.heap.size) (e:some k=_)=>Nat.not_le.2 (AD own6 e).1 hk;have g1:=hf7.cell (hn7 _ (Nat.le_of_lt hbl1)) (Ab (Aa _ (.cells #[.int .i64 (i:Int)] 3)) e1);have g3:=hf7.cell (hn7 _ (Nat.le_of_lt hbl1)) (Ab (Aa _ (.cells #[.int .i64 (i:Int)] 3)) e3);have g2:=hf7.cell (hn7 _ (Nat.le_refl _)) (Ab (Aa _ (.cells #[.int .i64 (i:Int)] 3)) e2);have hC7:CM w7 b _ _ _:=AA (HC6.o.keep (Aa _ (.cells #[.int .i64 (i:Int)] 3))) hf7 (hn7 _ Om);have g0:=hC7.c0;have F7:=Ad ((F6.out.thenB (Aa _ (.cells #[.int .i64 (i:Int)] 3))).then hf7 (fun k hk e=>absurd e (hn7 k Om)))))
       go_wp2;go_returns;exact ⟨v',by rw [HN.o];rfl,fun mm us e=>(by rw [HN.o] at e;simp only [Option.some.injEq,Prod.mk.injEq] at e;obtain ⟨rfl,rfl⟩:=e;exact ⟨hC7,(OO.ints own7).mono Om⟩),F7.out⟩
     (have hbb:(B1 == x3)=false:=by simp [hB]);rw [if_neg hB] at hch;clear hB;by_cases hK:K1=2
     · have hkk:(K1 == 2)=true:=by simp [hK]
       cases cl with
       | true =>
         have HN:=Ad (show r=(BO left x3 true (left.length - Bf left.length (m' ||| 2 ^ i)) (m' ||| 2 ^ i) B1).map fun p=>(p.1,(pre ++ [(i:Int)]) ++ p.2) by
          rw [hch,if_neg (by simp)];cases BO left x3 true (left.length - Bf left.length (m' ||| 2 ^ i)) (m' ||| 2 ^ i) B1 <;> simp)
         clear hK hch;(go_wp2_with fail);refine (By b _ left m' _ A (some i) wr hC hq h6 HF.o).mono ?_;rintro e w5 ⟨rfl,hb5⟩;simp only [KN];(go_wp2_with fail);refine (Gu b _ m' i _ w5 (hC.keep hb5) Om Om Om).mono ?_;rintro e w6 ⟨⟨u,rfl⟩,hC6,hf6⟩;rw [← HCS.o] at hC6;have own6:=BR (Ag HOWN.o hb5) hf6 (fun k hk e=>by have:=(AD HOWN.o hk).1;omega);have e3:=hf6.cell (fun e=>HNB.o e) (Ab hb5 hp3);have e1:=hf6.cell (fun e=>HNB.o e) (Ab hb5 hp1);have e2:=hf6.cell (by show ¬ w.heap.size=b;omega) (Ab hb5 hd2);have F6:=Ad ((hf.thenB hb5).trans hf6);have hz6:w.heap.size+1≤w6.heap.size:=World.block_lt_of_cell? w6 _ e2;have HC6:=Ad hC6;clear hb5 hf6 hC6 hd2 hp1 hp3;go_wp2_with (at_builtin;go_must (refine Fv _ rfl _ _ rfl (w.heap.size+1) _ _ rfl (Ag own6 (Aa _ _)) ⟨w6.heap.size,0,none⟩ _ rfl (DE _ _ _) Om (by simp;omega) ?_;intro v' w7 own7 hf7;have hn7:=fun k (hk:k≤w.heap.size) (e:some k=_)=>Nat.not_le.2 (AD own6 e).1 hk;have g1:=hf7.cell (hn7 _ (Nat.le_of_lt hbl1)) (Ab (Aa _ (.cells #[.int .i64 (i:Int)] 3)) e1);have g3:=hf7.cell (hn7 _ (Nat.le_of_lt hbl1)) (Ab (Aa _ (.cells #[.int .i64 (i:Int)] 3)) e3);have g2:=hf7.cell (hn7 _ (Nat.le_refl _)) (Ab (Aa _ (.cells #[.int .i64 (i:Int)] 3)) e2);have hC7:CM w7 b _ _ _:=AA (HC6.o.keep (Aa _ (.cells #[.int .i64 (i:Int)] 3))) hf7 (hn7 _ Om);have g0:=hC7.c0;have F7:=Ad ((F6.out.thenB (Aa _ (.cells #[.int .i64 (i:Int)] 3))).then hf7 (fun k hk e=>absurd e (hn7 k Om)))))
         go_wp2;go_roundg (left.length - Bf left.length (m' ||| 2 ^ i))
         case rel=>exact ⟨m' ||| 2 ^ i,pre ++ [(i:Int)],B1,rfl,by have:=HPL.o;have:=HGK.o;have:=HCS.o;have:=HLE.o;simp;omega,rfl,own7,HN.o,hC7,g2,F7.out⟩
         case measure=>have:=HGK.o;have:=HCS.o;have:=HLE.o;omega
       | false =>
         have HN:=Ad (show r=none by rw [hch,if_pos ⟨hK,rfl⟩];rfl);clear hK hch;(go_wp2_with fail);refine (By b _ left m' _ A (some i) wr hC hq h6 HF.o).mono ?_;rintro e w5 ⟨rfl,hb5⟩;simp only [KN];(go_wp2_with fail);refine (Gu b _ m' i _ w5 (hC.keep hb5) Om Om Om).mono ?_;rintro e w6 ⟨⟨u,rfl⟩,hC6,hf6⟩;rw [← HCS.o] at hC6;have own6:=BR (Ag HOWN.o hb5) hf6 (fun k hk e=>by have:=(AD HOWN.o hk).1;omega);have e3:=hf6.cell (fun e=>HNB.o e) (Ab hb5 hp3);have e1:=hf6.cell (fun e=>HNB.o e) (Ab hb5 hp1);have e2:=hf6.cell (by show ¬ w.heap.size=b;omega) (Ab hb5 hd2);have F6:=Ad ((hf.thenB hb5).trans hf6);have hz6:w.heap.size+1≤w6.heap.size:=World.block_lt_of_cell? w6 _ e2;have HC6:=Ad hC6;clear hb5 hf6 hC6 hd2 hp1 hp3;go_wp2_with (at_builtin;go_must (refine Fv _ rfl _ _ rfl (w.heap.size+1) _ _ rfl (Ag own6 (Aa _ _)) ⟨w6.heap.size,0,none⟩ _ rfl (DE _ _ _) Om (by simp;omega) ?_;intro v' w7 own7 hf7;have hn7:=fun k (hk:k≤w.heap.size) (e:some k=_)=>Nat.not_le.2 (AD own6 e).1 hk;have g1:=hf7.cell (hn7 _ (Nat.le_of_lt hbl1)) (Ab (Aa _ (.cells #[.int .i64 (i:Int)] 3)) e1);have g3:=hf7.cell (hn7 _ (Nat.le_of_lt hbl1)) (Ab (Aa _ (.cells #[.int .i64 (i:Int)] 3)) e3);have g2:=hf7.cell (hn7 _ (Nat.le_refl _)) (Ab (Aa _ (.cells #[.int .i64 (i:Int)] 3)) e2);have hC7:CM w7 b _ _ _:=AA (HC6.o.keep (Aa _ (.cells #[.int .i64 (i:Int)] 3))) hf7 (hn7 _ Om);have g0:=hC7.c0;have F7:=Ad ((F6.out.thenB (Aa _ (.cells #[.int .i64 (i:Int)] 3))).then hf7 (fun k hk e=>absurd e (hn7 k Om)))))
         go_wp2;go_returns;exact ⟨.slice none 0 0,by rw [HN.o];rfl,fun m' us e=>(by rw [HN.o] at e;cases e),F7.out⟩
     · have hkk:(K1 == 2)=false:=by simp [hK]
       have HN:=Ad (show r=(BO left x3 cl (left.length - Bf left.length (m' ||| 2 ^ i)) (m' ||| 2 ^ i) B1).map fun p=>(p.1,(pre ++ [(i:Int)]) ++ p.2) by
        rw [hch,if_neg (by simp [hK])];cases BO left x3 cl (left.length - Bf left.length (m' ||| 2 ^ i)) (m' ||| 2 ^ i) B1 <;> simp)
       clear hK hch;(go_wp2_with fail);refine (By b _ left m' _ A (some i) wr hC hq h6 HF.o).mono ?_;rintro e w5 ⟨rfl,hb5⟩;simp only [KN];(go_wp2_with fail);refine (Gu b _ m' i _ w5 (hC.keep hb5) Om Om Om).mono ?_;rintro e w6 ⟨⟨u,rfl⟩,hC6,hf6⟩;rw [← HCS.o] at hC6;have own6:=BR (Ag HOWN.o hb5) hf6 (fun k hk e=>by have:=(AD HOWN.o hk).1;omega);have e3:=hf6.cell (fun e=>HNB.o e) (Ab hb5 hp3);have e1:=hf6.cell (fun e=>HNB.o e) (Ab hb5 hp1);have e2:=hf6.cell (by show ¬ w.heap.size=b;omega) (Ab hb5 hd2);have F6:=Ad ((hf.thenB hb5).trans hf6);have hz6:w.heap.size+1≤w6.heap.size:=World.block_lt_of_cell? w6 _ e2;have HC6:=Ad hC6;clear hb5 hf6 hC6 hd2 hp1 hp3;go_wp2_with (at_builtin;go_must (refine Fv _ rfl _ _ rfl (w.heap.size+1) _ _ rfl (Ag own6 (Aa _ _)) ⟨w6.heap.size,0,none⟩ _ rfl (DE _ _ _) Om (by simp;omega) ?_;intro v' w7 own7 hf7;have hn7:=fun k (hk:k≤w.heap.size) (e:some k=_)=>Nat.not_le.2 (AD own6 e).1 hk;have g1:=hf7.cell (hn7 _ (Nat.le_of_lt hbl1)) (Ab (Aa _ (.cells #[.int .i64 (i:Int)] 3)) e1);have g3:=hf7.cell (hn7 _ (Nat.le_of_lt hbl1)) (Ab (Aa _ (.cells #[.int .i64 (i:Int)] 3)) e3);have g2:=hf7.cell (hn7 _ (Nat.le_refl _)) (Ab (Aa _ (.cells #[.int .i64 (i:Int)] 3)) e2);have hC7:CM w7 b _ _ _:=AA (HC6.o.keep (Aa _ (.cells #[.int .i64 (i:Int)] 3))) hf7 (hn7 _ Om);have g0:=hC7.c0;have F7:=Ad ((F6.out.thenB (Aa _ (.cells #[.int .i64 (i:Int)] 3))).then hf7 (fun k hk e=>absurd e (hn7 k Om)))))
       go_wp2;go_roundg (left.length - Bf left.length (m' ||| 2 ^ i))
       case rel=>exact ⟨m' ||| 2 ^ i,pre ++ [(i:Int)],B1,rfl,by have:=HPL.o;have:=HGK.o;have:=HCS.o;have:=HLE.o;simp;omega,rfl,own7,HN.o,hC7,g2,F7.out⟩
       case measure=>have:=HGK.o;have:=HCS.o;have:=HLE.o;omega
theorem CK {a:Aj} (h:Ah a=true):(a.1.all AH=true∧a.2.all AQ=true)∧a.2.length≤6:=by
 simp only [Ah,Bv,Bool.and_eq_true,decide_eq_true_eq] at h;exact ⟨⟨h.1.2,h.2.2⟩,h.2.1⟩
theorem L1 {W:World} {g:Nat} {q:List Int} {T:TypeId} (h:W.heap[g]?=some (.cells (CD q) T (0,0))) (hq:q.length=9):RArr W g q :=
 ⟨hq,Ae h,fun i hi=>GG h i Om⟩
theorem V0 (w:World) (v:Value) (n:Nat):CM (w.alloc (.cells #[v,.bool false,.bool false,.bool false,.bool false,.bool false,.bool false,.int .i64 0] 277)) w.heap.size v 0 (Bf n 0):=by
 unfold CM;rw [RM,heap_alloc_new];rfl
theorem PU {left:List Am} {m:Nat} {x:Am}:Kz left m x=if x.1=1 then E0 left m x else BO left x.2.2 (EY left x.2.2) (left.length - Bf left.length m) m x.2.1:=rfl
theorem Lv {S1 S2 S3 S4:Nat→Prop} (v1 v2 u1 u2:Value) (a b:Aj) (cl:List Int) (r:Option (List (List Int))) (w:World) (h1:RL w S1 v1 a.1) (h2:RL w S2 v2 a.2) (k1:RL w S3 u1 b.1) (k2:RL w S4 u2 b.2)
 (ha:Ah a=true) (hb:Ah b=true) (hc:cl.length=9) (hr:KA a b cl=r) :
 Calls Tryz.prog 206 #[.agg #[v1,v2],.agg #[u1,u2],.agg (CD cl)] w fun e w'=>∃ v',e=.returned (.tuple #[v',.bool r.isSome])∧(∀ us,r=some us→OO w' w.heap.size v' us)∧Below w.heap.size w w':=by
 obtain ⟨xa1,xc1,rfl⟩:=h1.form;obtain ⟨xa2,xc2,rfl⟩:=h2.form;obtain ⟨ya1,yc1,rfl⟩:=k1.form;obtain ⟨ya2,yc2,rfl⟩:=k2.form;have fa:=CK ha;have fb:=CK hb;obtain ⟨fbb,hfb⟩:∃ r,b.1.all (B5 cl)=r:=⟨_,rfl⟩;obtain ⟨left,hleft⟩:∃ l,Az cl a.2=l:=⟨_,rfl⟩;obtain ⟨right,hright⟩:∃ l,Az cl b.2=l:=⟨_,rfl⟩;have hr2:r=if fbb=true then CJ left right else none:=by rw [← hr,KA,hfb,hleft,hright]
 have h6:left.length≤6:=by rw [← hleft];exact Nat.le_trans (EX _ _) fa.2
 have hr6:right.length≤6:=by rw [← hright];exact Nat.le_trans (EX _ _) fb.2
 have HR:=Ad hr2;have HFB:=Ad hfb;have HL:=Ad (An hleft hright);have HC:=Ad hc;have FA:=Ad fa;have FB:=Ad fb;clear hr hr2 hfb hleft hright hc ha hb fa fb;have hrow:=heap_alloc_new ((w.alloc (.cells #[.slice xa1 a.1.length xc1,.slice xa2 a.2.length xc2] 26)).alloc (.cells #[.slice ya1 b.1.length yc1,.slice ya2 b.2.length yc2] 26)) (.cells (CD cl) 161);simp only [World.size_alloc] at hrow;have hc1:(((w.alloc (.cells #[.slice xa1 a.1.length xc1,.slice xa2 a.2.length xc2] 26)).alloc (.cells #[.slice ya1 b.1.length yc1,.slice ya2 b.2.length yc2] 26)).alloc (.cells (CD cl) 161)).cell? ⟨w.heap.size,1,none⟩=some (.slice xa2 a.2.length xc2):=by simp [go_sem]
 have hd0:(((w.alloc (.cells #[.slice xa1 a.1.length xc1,.slice xa2 a.2.length xc2] 26)).alloc (.cells #[.slice ya1 b.1.length yc1,.slice ya2 b.2.length yc2] 26)).alloc (.cells (CD cl) 161)).cell? ⟨w.heap.size+1,0,none⟩=some (.slice ya1 b.1.length yc1):=by simp [go_sem]
 have hd1:(((w.alloc (.cells #[.slice xa1 a.1.length xc1,.slice xa2 a.2.length xc2] 26)).alloc (.cells #[.slice ya1 b.1.length yc1,.slice ya2 b.2.length yc2] 26)).alloc (.cells (CD cl) 161)).cell? ⟨w.heap.size+1,1,none⟩=some (.slice ya2 b.2.length yc2):=by simp [go_sem]
 have hW:Below w.heap.size w (((w.alloc (.cells #[.slice xa1 a.1.length xc1,.slice xa2 a.2.length xc2] 26)).alloc (.cells #[.slice ya1 b.1.length yc1,.slice ya2 b.2.length yc2] 26)).alloc (.cells (CD cl) 161)):=ba (ba (Aa _ _) _) _;have HX:=Ad (An hrow (An hc1 (An (An hd0 hd1) hW)));clear hrow hc1 hd0 hd1 hW;go_enter Tryz.func206,Tryz.ntmps206
 go_wp2_with fail
 generalize ((w.alloc (.cells #[.slice xa1 a.1.length xc1,.slice xa2 a.2.length xc2] 26)).alloc (.cells #[.slice ya1 b.1.length yc1,.slice ya2 b.2.length yc2] 26)).alloc (.cells (CD cl) 161)=w0 at HX ⊢;have hA:=L1 HX.o.1 HC.o;have hc1:=HX.o.2.1;have hd1:=HX.o.2.2.1.2;have hW:=HX.o.2.2.2;refine (cb (Kt (w.heap.size+1+1) cl _ b.1 _ hA (k1.keep hW) FB.out.1.1) HFB.o).mono ?_;rintro e w1 ⟨rfl,hb1⟩;replace hA:=hA.keep hb1;replace hc1:=Ab hb1 hc1;replace hd1:=Ab hb1 hd1;replace hW:=bt hW hb1;clear hb1;cases fbb with
 | false =>
   have HN:=Ad (show r=none by rw [HR.o];rfl);go_wp2;go_returns;exact ⟨.slice none 0 0,by rw [HN.o];rfl,fun us e=>(by rw [HN.o] at e;cases e),hW⟩
 | true =>
   have HM:=Ad (show r=CJ left right by rw [HR.o];rfl);(go_wp2_with fail);refine (Jw (w.heap.size+1+1) cl _ a.2 _ hA (h2.keep hW) FA.o.1.2 (by have:=FA.o.2;omega)).mono ?_;rintro e w2 ⟨vL,rfl,hL,hb2⟩;rw [HL.o.1] at hL;have hLr:=hL.rl;obtain ⟨la,lc,rfl⟩:=hLr.form;replace hA:=hA.keep hb2;have hz1:=hW.size;replace hc1:=Ab hb2 hc1;replace hd1:=Ab hb2 hd1;replace hW:=bt hW hb2;clear hb2;have hCM:=V0 w2 (.slice la left.length lc) left.length;have HCM:=Ad hCM;have hz2:=hW.size;have hzd:w.heap.size+1 < w2.heap.size:=World.block_lt_of_cell? w2 _ hd1;have HZ:=Ad hz2;have HL2:=Ad (An hLr hA);have hb3:=Aa w2 (.cells #[.slice la left.length lc,.bool false,.bool false,.bool false,.bool false,.bool false,.bool false,.int .i64 0] 277);have HB3:=Ad hb3;clear hCM hL hLr hA hb3;(go_wp2_with fail);refine (Jw (w.heap.size+1+1) cl _ b.2 _ (HL2.o.2.keep (Aa _ _)) (k2.keep (bt hW (Aa _ _))) FB.out.1.2 (by have:=FB.out.2;omega)).mono ?_;rintro e w3 ⟨vR,rfl,hR,hb4⟩;rw [HL.o.2] at hR;have hRr:=hR.rl;obtain ⟨ra,rc,rfl⟩:=hRr.form;have HW3:=Ad (bt (bt hW HB3.o) hb4);have hC3:=HCM.o.keep hb4;have HL3:=Ad (HL2.o.1.lt.keep (bt HB3.o hb4));have hz4:=hb4.size;simp only [World.size_alloc] at hz4;have HR3:=Ad (An (hRr.more (S':=fun j=>w2.heap.size+1≤j) fun j _ hj=>by have hj':_≤j:=hj;simpa using hj') hC3);clear hR hRr hb4 hc1 hd1 hW hC3;go_wp2;go_loopg [9,26] right.length (fun q res i wr=>∃ (k m:Nat) (us:List (List Int)),k+q=right.length∧i=.int .i64 k∧Ca left (right.take k) 0=some (m,us)∧us.length=k∧PL wr w3.heap.size res us.length us us.length∧CM wr w2.heap.size (.slice la left.length lc) m (Bf left.length m)∧Fr (fun k=>k=w2.heap.size) w3 wr)
   case atStart=>exact ⟨0,0,[],by omega,rfl,rfl,rfl,(OO.nil _ _).pl,HR3.o.2,Fr.refl _ _⟩
   case round =>
    obtain ⟨k,m,us,hk,rfl,hgo,hlk,hP,hC,hf⟩:=hrel;have HK:=Ad hk;have HP:=Ad hP;have HF:=Ad hf;have HLK:=Ad hlk;have HZ3:=Ad hz4;have hq:=HL3.o.kept hf (fun j _ hj e=>by have:j < w2.heap.size:=hj;omega);have HC:=Ad hC;clear hk hP;by_cases hk8:k < right.length
    · have hki:(k:Int) < (right.length:Int):=by omega
      (have hus6:us.length≤6:=by omega);obtain ⟨ra',rc',hre,_,_,hrf⟩:=(HR3.o.1.kept hf (fun j _ hj e=>by have hj':w2.heap.size+1≤j:=hj;omega)).atomAt;simp only [Value.slice.injEq] at hre;obtain ⟨rfl,_,rfl⟩:=hre;obtain ⟨b1,o1,rfl,_,hzc,hp1,hp2,hp3⟩:=hrf k hk8;have hgt:=KB hk8 hgo;obtain ⟨x,hxe⟩:=Ex (gd right k);obtain ⟨x1,x2,x3⟩:=x;rw [hxe] at hp1 hp2 hp3 hgt;obtain ⟨rU,hrU⟩:∃ r,Kz left m (x1,x2,x3)=r:=⟨_,rfl⟩;rw [hrU] at hgt;have HGT:=Ad hgt;rw [PU] at hrU;simp only at hrU hp1 hp2 hp3;clear hrf hgo hgt hxe hC hlk hf;have hz4':=HZ3.o;have hzw:=HF.o.size;clear hz4;by_cases hx1:x1=1
      · have hxb:(x1 == 1)=true:=by simp [hx1]
        rw [if_pos hx1] at hrU;have HGO:=Ad hrU;clear hx1 hrU;cases rU with
        | none =>
          have HN:=Ad (show r=none by rw [HM.o,CJ,C6 (k:=k+1) (by rw [HGT.o];rfl)]);(go_wp2_with fail);refine (JC w2.heap.size _ left m (x1,x2,x3) none _ (HC.o.keep (Aa _ _)) (hq.keep (Aa _ _)) h6 HGO.o).mono ?_;rintro e w5 ⟨vu,rfl,hU,hf5⟩;have HU:=Ad (An hU (((Below.fr (Aa wr (.cells #[.int .i64 x1,.int .i64 x2,.int .i64 x3] 118))).mono (S':=fun k=>k=w2.heap.size) fun _ _ h=>h.elim).trans hf5));clear hU hf5;go_wp2;go_returns;exact ⟨.slice none 0 0,by rw [HN.o];rfl,fun us e=>(by rw [HN.o] at e;cases e),HW3.o.trans ((HF.o.trans HU.o.2).below HW3.o.size fun j hj e=>by have:=HZ.o;omega)⟩
        | some p =>
          obtain ⟨m',us'⟩:=p;have HN:=Ad (show Ca left (right.take (k+1)) 0=some (m',us ++ [us']) by rw [HGT.o];rfl);(go_wp2_with fail);refine (JC w2.heap.size _ left m (x1,x2,x3) (some (m',us')) _ (HC.o.keep (Aa _ _)) (hq.keep (Aa _ _)) h6 HGO.o).mono ?_;rintro e w5 ⟨vu,rfl,hU,hf5⟩;have HU:=Ad (An hU (((Below.fr (Aa wr (.cells #[.int .i64 x1,.int .i64 x2,.int .i64 x3] 118))).mono (S':=fun k=>k=w2.heap.size) fun _ _ h=>h.elim).trans hf5));clear hU hf5;obtain ⟨hC5,hO5⟩:=HU.o.1 m' us' rfl;obtain ⟨ua,uc,rfl⟩:=hO5.form;obtain ⟨fx,hOL,hfx⟩:=hO5;have hx:Own.own (w5.alloc (.cells #[.slice ua us'.length uc] 27)) wr.heap.size us' [.slice ua us'.length uc] fx:=⟨_,rfl,(hOL.keep (Aa _ _)).mono Sp⟩;obtain ⟨xs,hown,hgrow⟩:=HP.o.grow (HU.o.2.thenB (Aa w5 (.cells #[.slice ua us'.length uc] 27))) (fun j hj _ e=>by have:=HZ3.o;omega) HF.o.size;have HG:=Ad (fun v' w7 hf7 hr7 hl7=>hgrow us' _ fx v' w7 hx hfx hf7 hr7 hl7);have HC5:=Ad hC5;have hz5:=Nat.le_trans HF.o.size HU.o.2.size;clear hx hgrow hOL hfx hC5;go_wp2_with (at_builtin;go_must (refine Fd (n:=us.length) (m:=1) (news:=[.slice ua us'.length uc]) rfl (.tmp 45) (.tmp 47) _ rfl (B:=w3.heap.size) QQ rfl hown rfl rfl (Vn _ _ _) (Wo _ _ _) Om (by simp;omega) ?_;intro v' w7 hr7 hf7 hl7))
          have hP7:=HG.o v' w7 hf7 hr7 hl7;have hn7:=fun (j:Nat) (hj:j < w3.heap.size) (e:some j=_)=>Nat.not_le.2 hj (AD hown e).1;have hC7:CM w7 w2.heap.size _ _ _:=AA (HC5.o.keep (Aa w5 (.cells #[.slice ua us'.length uc] 27))) hf7 (hn7 _ (by have:=HZ3.o;omega));have F7:=Ad (((HF.o.trans HU.o.2).thenB (Aa w5 (.cells #[.slice ua us'.length uc] 27))).then hf7 (fun j hj e=>absurd e (hn7 j hj)));go_wp2;go_roundg (gk - 1)
          case rel=>exact ⟨k+1,m',us ++ [us'],by have:=HK.o;omega,by go_num,HN.o,by rw [List.length_append,HLK.o];rfl,hP7,hC7,F7.out⟩
          case measure=>have:=HK.o;omega
      · have hxb:(x1 == 1)=false:=by simp [hx1]
        rw [if_neg hx1] at hrU;have HGO:=Ad hrU;clear hx1 hrU;cases rU with
        | none =>
          have HN:=Ad (show r=none by rw [HM.o,CJ,C6 (k:=k+1) (by rw [HGT.o];rfl)]);(go_wp2_with fail);refine (Ir w2.heap.size _ left m (x1,x2,x3) none _ (HC.o.keep (Aa _ _)) (hq.keep (Aa _ _)) (fun j hj e=>by have:j < w2.heap.size:=hj;omega) h6 HGO.o).mono ?_;rintro e w5 ⟨vu,rfl,hU,hf5⟩;have HU:=Ad (An hU (((Below.fr (Aa wr (.cells #[.int .i64 x1,.int .i64 x2,.int .i64 x3] 118))).mono (S':=fun k=>k=w2.heap.size) fun _ _ h=>h.elim).trans hf5));clear hU hf5;go_wp2;go_returns;exact ⟨.slice none 0 0,by rw [HN.o];rfl,fun us e=>(by rw [HN.o] at e;cases e),HW3.o.trans ((HF.o.trans HU.o.2).below HW3.o.size fun j hj e=>by have:=HZ.o;omega)⟩
        | some p =>
          obtain ⟨m',us'⟩:=p;have HN:=Ad (show Ca left (right.take (k+1)) 0=some (m',us ++ [us']) by rw [HGT.o];rfl);(go_wp2_with fail);refine (Ir w2.heap.size _ left m (x1,x2,x3) (some (m',us')) _ (HC.o.keep (Aa _ _)) (hq.keep (Aa _ _)) (fun j hj e=>by have:j < w2.heap.size:=hj;omega) h6 HGO.o).mono ?_;rintro e w5 ⟨vu,rfl,hU,hf5⟩;have HU:=Ad (An hU (((Below.fr (Aa wr (.cells #[.int .i64 x1,.int .i64 x2,.int .i64 x3] 118))).mono (S':=fun k=>k=w2.heap.size) fun _ _ h=>h.elim).trans hf5));clear hU hf5;obtain ⟨hC5,hO5⟩:=HU.o.1 m' us' rfl;obtain ⟨ua,uc,rfl⟩:=hO5.form;obtain ⟨fx,hOL,hfx⟩:=hO5;have hx:Own.own (w5.alloc (.cells #[.slice ua us'.length uc] 27)) wr.heap.size us' [.slice ua us'.length uc] fx:=⟨_,rfl,(hOL.keep (Aa _ _)).mono Sp⟩;obtain ⟨xs,hown,hgrow⟩:=HP.o.grow (HU.o.2.thenB (Aa w5 (.cells #[.slice ua us'.length uc] 27))) (fun j hj _ e=>by have:=HZ3.o;omega) HF.o.size;have HG:=Ad (fun v' w7 hf7 hr7 hl7=>hgrow us' _ fx v' w7 hx hfx hf7 hr7 hl7);have HC5:=Ad hC5;have hz5:=Nat.le_trans HF.o.size HU.o.2.size;clear hx hgrow hOL hfx hC5;go_wp2_with (at_builtin;go_must (refine Fd (n:=us.length) (m:=1) (news:=[.slice ua us'.length uc]) rfl (.tmp 45) (.tmp 47) _ rfl (B:=w3.heap.size) QQ rfl hown rfl rfl (Vn _ _ _) (Wo _ _ _) Om (by simp;omega) ?_;intro v' w7 hr7 hf7 hl7))
          have hP7:=HG.o v' w7 hf7 hr7 hl7;have hn7:=fun (j:Nat) (hj:j < w3.heap.size) (e:some j=_)=>Nat.not_le.2 hj (AD hown e).1;have hC7:CM w7 w2.heap.size _ _ _:=AA (HC5.o.keep (Aa w5 (.cells #[.slice ua us'.length uc] 27))) hf7 (hn7 _ (by have:=HZ3.o;omega));have F7:=Ad (((HF.o.trans HU.o.2).thenB (Aa w5 (.cells #[.slice ua us'.length uc] 27))).then hf7 (fun j hj e=>absurd e (hn7 j hj)));go_wp2;go_roundg (gk - 1)
          case rel=>exact ⟨k+1,m',us ++ [us'],by have:=HK.o;omega,by go_num,HN.o,by rw [List.length_append,HLK.o];rfl,hP7,hC7,F7.out⟩
          case measure=>have:=HK.o;omega
    · obtain rfl:k=right.length:=by have:=HK.o;omega
      rw [List.take_length] at hgo;have hc0:=hC.c0;have hc7:=hC.c7;obtain ⟨cb,hcb⟩:∃ q,(Bf left.length m == left.length)=q:=⟨_,rfl⟩;(have hE:r=if cb=true then some us else none:=by rw [HM.o,CJ,hgo,← hcb,← MQ]);have HE:=Ad hE;have HFF:=Ad hf;clear hgo hE hC hf hlk;cases cb with
      | true =>
        (have hnb:((Bf left.length m:Int) != (left.length:Int))=false:=by rw [beq_iff_eq] at hcb;simp [hcb]);clear hcb;go_wp2;go_returns;refine ⟨_,by rw [HE.o];rfl,fun us' e=>?_,HW3.o.trans (HFF.o.below HW3.o.size fun j hj e=>by have:=HZ.o;omega)⟩;rw [HE.o] at e;simp only [if_true,Option.some.injEq] at e;subst e;exact HP.o.done.mono HW3.o.size
      | false =>
        (have hnb:((Bf left.length m:Int) != (left.length:Int))=true:=by rw [beq_eq_false_iff_ne] at hcb;simp;omega);clear hcb;go_wp2;go_returns;exact ⟨.slice none 0 0,by rw [HE.o];rfl,fun us e=>(by rw [HE.o] at e;cases e),HW3.o.trans (HFF.o.below HW3.o.size fun j hj e=>by have:=HZ.o;omega)⟩
end Go.Proofs.YtkbbmjcfgcfejaaGreat
