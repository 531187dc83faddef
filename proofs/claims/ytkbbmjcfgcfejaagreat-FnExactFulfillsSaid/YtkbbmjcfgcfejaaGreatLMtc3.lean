/- Walks: the matching of atoms in a case: the reference. -/
import Derived.Test.YtkbbmjcfgcfejaaGreatLMtcA
set_option linter.unusedVariables false
set_option linter.unusedSimpArgs false
set_option maxRecDepth 100000
set_option maxHeartbeats 12800000
namespace Go.Proofs.YtkbbmjcfgcfejaaGreat
open Go.RowKit
structure BW (w:World) (g n m:Nat):Prop where
 lt:g < w.heap.size
 cell:∀ i,i < n→w.cell? ⟨g,i,none⟩=some (.bool (m.testBit i))
 fz:∀ i,i < n→w.frozen? ⟨g,i,none⟩=false
section
variable {w w':World} {g n m:Nat} {T:Nat→Prop}
theorem BW.kept (h:BW w g n m) (hf:Fr T w w') (hT:¬ T g):BW w' g n m :=
 ⟨Nat.lt_of_lt_of_le h.lt hf.size,fun i hi=>hf.cell hT (h.cell i hi),fun i hi=>by
   have:=h.fz i hi;rw [← this];unfold World.frozen?;rw [hf.block g h.lt hT]⟩
theorem BW.keep (h:BW w g n m) (hb:Below w.heap.size w w'):BW w' g n m:=h.kept (Below.fr hb) fun h=>h
theorem BW.set (h:BW w g n m) {i:Nat} (hi:i < n):BW (w.setCell ⟨g,i,none⟩ (.bool true)) g n (m ||| 2 ^ i):=by
 refine ⟨by rw [World.size_setCell];exact h.lt,fun j hj=>?_,fun j hj=>by rw [World.frozen?_setCell];exact h.fz j hj⟩;rw [Bk];by_cases e:i=j
 · subst e
   rw [World.cell?_setCell_same' _ _ _ (by rw [h.cell i hi];rfl)];simp
 · rw [World.cell?_setCell_other _ _ _ _ Sp,h.cell j hj]
   simp [e]
end
theorem Jd {w:World} {B g n c m:Nat} (h:w.ownsRow B 4 1 (.slice (some ⟨g,0,none⟩) n c) n (CI n m)):BW w g n m:=by
 refine ⟨(AD h rfl).2,fun i hi=>?_,fun i _=>by simpa using h.frozenAt i⟩;rcases JV h with ⟨_,_,_,h0,_⟩ | ⟨b,o,cap,e,_,_,hc⟩
 · omega
 · simp only [Value.slice.injEq,Option.some.injEq,Addr.mk.injEq] at e
   obtain ⟨⟨rfl,rfl,_⟩,_⟩:=e;have:=hc i Om;rw [Nat.zero_add] at this;rw [this];show some ((CI n m).getD i undef)=_
   rw [List.getD_eq_getElem?_getD,Gk hi];rfl
def Je:Option Nat→Int
 | some i=>i
 | none=>-1
theorem BJ {S:Nat→Prop} (v:Value) (g uc m:Nat) (left:List Am) (c:Int) (r:Option Nat) (w:World) (hv:RL w S v left) (hb:BW w g left.length m) (hr:Gl left m c=r) :
 Calls Tryz.prog 297 #[v,.slice (some ⟨g,0,none⟩) left.length uc,.int .i64 c] w fun e w'=>e=.returned (.int .i64 (Je r))∧w=w':=by
 obtain ⟨a,cp,rfl,_,_,hf1⟩:=hv.atomAt;have hm:=hv.len;unfold maxLen at hm;have F1:=Ad hf1;have HC:=Ad hb;have HR:=Ad hr;clear hf1 hv hr hb;go_enter Tryz.func297,Tryz.ntmps297
 go_wp2;go_loopg [7] left.length (fun q i wr=>∃ k:Nat,k+q=left.length∧i=.int .i64 k∧(∀ j,j < k→(((gd left j).2.1 == c) && !m.testBit j)=false)∧wr=w)
 case atStart=>exact ⟨0,by omega,rfl,fun j hj=>absurd hj Om,rfl⟩
 case round =>
  obtain ⟨k,hk,rfl,hno,rfl⟩:=hrel;have HK:=Ad hk;have HNO:=Ad hno;clear hk hno;by_cases hk8:k < left.length
  · obtain ⟨b1,o1,rfl,_,hbl1,hp1,hp2,hp3⟩:=F1.o k hk8
    (have i1:(k:Int) < (left.length:Int):=by omega);have hbit:=HC.o.cell k hk8;cases hq:m.testBit k with
    | true =>
      rw [hq] at hbit;have HN:=Ad (show (((gd left k).2.1 == c) && !m.testBit k)=false by rw [hq];simp);clear hq;go_wp2;go_roundg (gk - 1)
      case rel=>exact ⟨k+1,by have:=HK.o;omega,by go_num,fun j hj=>by rcases Nat.lt_succ_iff_lt_or_eq.1 hj with h | h;exact HNO.o j h;subst h;exact HN.o,rfl⟩
      case measure=>have:=HK.o;omega
    | false =>
      rw [hq] at hbit;by_cases hp:(gd left k).2.1=c
      · have hpb:((gd left k).2.1 == c)=true:=by simp [hp]
        have hf:=LT (p:=fun i=>((gd left i).2.1 == c) && !m.testBit i) hk8 HNO.o (by show (((gd left k).2.1 == c) && !m.testBit k)=true;rw [hpb,hq];rfl);have HF:=Ad (show r=some k by rw [← HR.o];exact hf);clear hp hq hf;go_wp2;go_returns;exact ⟨by rw [HF.o];rfl,rfl⟩
      · have hpb:((gd left k).2.1 == c)=false:=by simp [hp]
        have HN:=Ad (show (((gd left k).2.1 == c) && !m.testBit k)=false by rw [hpb];rfl);clear hp hq;go_wp2;go_roundg (gk - 1)
        case rel=>exact ⟨k+1,by have:=HK.o;omega,by go_num,fun j hj=>by rcases Nat.lt_succ_iff_lt_or_eq.1 hj with h | h;exact HNO.o j h;subst h;exact HN.o,rfl⟩
        case measure=>have:=HK.o;omega
  · obtain rfl:k=left.length:=by have:=HK.o;omega
    have HF:=Ad (show r=none by rw [← HR.o];exact NN HNO.o);go_wp2;go_returns;exact ⟨by rw [HF.o];rfl,rfl⟩
theorem JD {S:Nat→Prop} (v:Value) (g uc m:Nat) (left:List Am) (A B:Int) (r:Option Nat) (w:World) (hv:RL w S v left) (hS:∀ k,S k→¬ k=g) (hb:BW w g left.length m) (hne:A ≠ B)
 (hr:(BO left B (EY left B) (left.length - Bf left.length m) m A).map Prod.fst=r) :
 Calls Tryz.prog 296 #[v,.slice (some ⟨g,0,none⟩) left.length uc,.int .i64 A,.int .i64 B] w fun e w'=>e=.returned (.bool r.isSome)∧(∀ m',r=some m'→BW w' g left.length m')∧Fr (fun k=>k=g) w w':=by
 have hm:=hv.len;unfold maxLen at hm;obtain ⟨cl,hcl⟩:∃ c,EY left B=c:=⟨_,rfl⟩;obtain ⟨bg,hbg⟩:∃ b,(left.any fun y=>y.2.1 == B)=b:=⟨_,rfl⟩;have hcl':cl=((B == 0) || bg):=by rw [← hcl,EY,hbg]
 rw [hcl] at hr;have HBG:=Ad hbg;have HR:=Ad hr;have HCL:=Ad hcl';have HV:=Ad hv;have HB:=Ad hb;have HNE:=Ad hne;obtain ⟨va,vc,rfl⟩:=hv.form;clear hr hcl hcl' hbg hv hb hne;go_enter Tryz.func296,Tryz.ntmps296
 go_wp2;go_loopg [2] (left.length - Bf left.length m) (fun q fr wr=>∃ (m':Nat) (A':Int),q=left.length - Bf left.length m'∧fr=.int .i64 A'∧BW wr g left.length m' ∧
  ((A'=B→r=some m')∧(A' ≠ B→r=(BO left B cl q m' A').map Prod.fst))∧Fr (fun k=>k=g) w wr)
 case atStart=>exact ⟨m,A,rfl,rfl,HB.o,⟨fun e=>absurd e HNE.o,fun _=>HR.o.symm⟩,Fr.refl _ _⟩
 case round =>
  obtain ⟨m',A',hgk,rfl,hbw,hch,hf⟩:=hrel;have HGK:=Ad hgk;have HCH:=Ad hch;have hq:=HV.o.kept hf (fun k _ hs h=>hS k hs h);clear hch;by_cases hAB:A'=B
  · have hab:(A' != B)=false:=by simp [hAB]
    have HN:=Ad (HCH.o.1 hAB);clear hAB hgk;go_wp2;go_returns;exact ⟨by rw [HN.o];rfl,fun mm e=>(by rw [HN.o] at e;injection e with e;subst e;exact hbw),hf⟩
  have hab:(A' != B)=true:=by simp [hAB]
  have hch:=HCH.o.2 hAB;rw [hgk] at hch;clear hAB hgk;cases hfu:Gl left m' A' with
  | none =>
    have HN:=Ad (show r=none by rw [hch,KO hfu];rfl);have HF:=Ad hfu;clear hfu hch;(go_wp2_with fail);refine (BJ _ g uc m' left A' none wr hq hbw HF.o).mono ?_;rintro e w5 ⟨rfl,rfl⟩;simp only [Je];go_wp2;go_returns;exact ⟨by rw [HN.o];rfl,fun m' e=>(by rw [HN.o] at e;cases e),hf⟩
  | some i =>
    obtain ⟨hil,hic,hbm⟩:=EE hfu;(have hi6:(i:Int) < (left.length:Int):=by omega);have hcs:=Ik hil hbm;have HCS:=Ad (show (Bf left.length (m' ||| 2 ^ i):Int)=(Bf left.length m':Int)+1 by omega);obtain ⟨va',vc',hve,_,_,hvf⟩:=hq.atomAt;simp only [Value.slice.injEq] at hve;obtain ⟨rfl,_,rfl⟩:=hve;obtain ⟨b1,o1,rfl,hsb,hbl1,hp1,hp2,hp3⟩:=hvf i hil;have hb1b:¬ b1=g:=hS b1 hsb;have HLE:=Ad (GL left.length (m' ||| 2 ^ i));have hst:=KP (cl:=cl) (B:=B) hfu;rw [hst] at hch;have HF:=Ad hfu;obtain ⟨K1,hK1⟩:∃ x,(gd left i).1=x:=⟨_,rfl⟩;obtain ⟨B1,hB1⟩:∃ x,(gd left i).2.2=x:=⟨_,rfl⟩;rw [hK1] at hp1 hch;rw [hB1] at hp3 hch;clear hst hfu hic hbm hcs hp2 hK1 hB1 hvf;by_cases hB:B1=B
    · have hbb:(B1 != B)=false:=by simp [hB]
      have HN:=Ad (show (B1=B→r=some (m' ||| 2 ^ i))∧(B1 ≠ B→r=(BO left B cl (left.length - Bf left.length (m' ||| 2 ^ i)) (m' ||| 2 ^ i) B1).map Prod.fst) from ⟨fun _=>by rw [hch,if_pos hB];rfl,fun h=>absurd hB h⟩);clear hB hch;by_cases hK:K1=2
      · have hkk:(K1 == 2)=true:=by simp [hK]
        clear hK;(go_wp2_with fail);refine (BJ _ g uc m' left A' (some i) wr hq hbw HF.o).mono ?_;rintro e w5 ⟨rfl,rfl⟩;simp only [Je];have hbit:=hbw.cell i hil;have hfz:=hbw.fz i hil;have H5:=Ad (An (hbw.set hil) (hf.trans (Aw wr ⟨g,i,none⟩ (.bool true))));go_wp2;go_roundg (left.length - Bf left.length (m' ||| 2 ^ i))
        case rel=>exact ⟨m' ||| 2 ^ i,B1,rfl,rfl,H5.o.1,HN.o,H5.o.2⟩
        case measure=>have:=HGK.o;have:=HCS.o;have:=HLE.o;omega
      · have hkk:(K1 == 2)=false:=by simp [hK]
        clear hK;(go_wp2_with fail);refine (BJ _ g uc m' left A' (some i) wr hq hbw HF.o).mono ?_;rintro e w5 ⟨rfl,rfl⟩;simp only [Je];have hbit:=hbw.cell i hil;have hfz:=hbw.fz i hil;have H5:=Ad (An (hbw.set hil) (hf.trans (Aw wr ⟨g,i,none⟩ (.bool true))));go_wp2;go_roundg (left.length - Bf left.length (m' ||| 2 ^ i))
        case rel=>exact ⟨m' ||| 2 ^ i,B1,rfl,rfl,H5.o.1,HN.o,H5.o.2⟩
        case measure=>have:=HGK.o;have:=HCS.o;have:=HLE.o;omega
    (have hbb:(B1 != B)=true:=by simp [hB]);rw [if_neg hB] at hch;by_cases hK:K1=2;rotate_left
    · have hkk:(K1 == 2)=false:=by simp [hK]
      have HN:=Ad (show (B1=B→r=some (m' ||| 2 ^ i))∧(B1 ≠ B→r=(BO left B cl (left.length - Bf left.length (m' ||| 2 ^ i)) (m' ||| 2 ^ i) B1).map Prod.fst) from ⟨fun h=>absurd h hB,fun _=>by
       rw [hch,if_neg (by simp [hK]),Option.map_map];rfl⟩)
      clear hB hch hK;(go_wp2_with fail);refine (BJ _ g uc m' left A' (some i) wr hq hbw HF.o).mono ?_;rintro e w5 ⟨rfl,rfl⟩;simp only [Je];have hbit:=hbw.cell i hil;have hfz:=hbw.fz i hil;have H5:=Ad (An (hbw.set hil) (hf.trans (Aw wr ⟨g,i,none⟩ (.bool true))));go_wp2;go_roundg (left.length - Bf left.length (m' ||| 2 ^ i))
      case rel=>exact ⟨m' ||| 2 ^ i,B1,rfl,rfl,H5.o.1,HN.o,H5.o.2⟩
      case measure=>have:=HGK.o;have:=HCS.o;have:=HLE.o;omega
    (have hkk:(K1 == 2)=true:=by simp [hK]);by_cases hB0:B=0
    · have hb0:(B != 0)=false:=by simp [hB0]
      have HN:=Ad (show (B1=B→r=some (m' ||| 2 ^ i))∧(B1 ≠ B→r=(BO left B cl (left.length - Bf left.length (m' ||| 2 ^ i)) (m' ||| 2 ^ i) B1).map Prod.fst) from ⟨fun h=>absurd h hB,fun _=>by
       rw [hch,if_neg (by rw [HCL.o,hB0];simp),Option.map_map];rfl⟩)
      clear hB hch hK hB0;(go_wp2_with fail);refine (BJ _ g uc m' left A' (some i) wr hq hbw HF.o).mono ?_;rintro e w5 ⟨rfl,rfl⟩;simp only [Je];have hbit:=hbw.cell i hil;have hfz:=hbw.fz i hil;have H5:=Ad (An (hbw.set hil) (hf.trans (Aw wr ⟨g,i,none⟩ (.bool true))));go_wp2;go_roundg (left.length - Bf left.length (m' ||| 2 ^ i))
      case rel=>exact ⟨m' ||| 2 ^ i,B1,rfl,rfl,H5.o.1,HN.o,H5.o.2⟩
      case measure=>have:=HGK.o;have:=HCS.o;have:=HLE.o;omega
    (have hb0:(B != 0)=true:=by simp [hB0]);cases bg with
    | true =>
      have HN:=Ad (show (B1=B→r=some (m' ||| 2 ^ i))∧(B1 ≠ B→r=(BO left B cl (left.length - Bf left.length (m' ||| 2 ^ i)) (m' ||| 2 ^ i) B1).map Prod.fst) from ⟨fun h=>absurd h hB,fun _=>by
       rw [hch,if_neg (by rw [HCL.o];simp),Option.map_map];rfl⟩)
      clear hB hch hK hB0;(go_wp2_with fail);refine (BJ _ g uc m' left A' (some i) wr hq hbw HF.o).mono ?_;rintro e w5 ⟨rfl,rfl⟩;simp only [Je];(go_wp2_with fail);refine (cb (Ij _ left B wr hq) HBG.o).mono ?_;rintro e w5 ⟨rfl,hb5⟩;replace hp3:=Ab hb5 hp3;have hbit:=(hbw.keep hb5).cell i hil;have hfz:=(hbw.keep hb5).fz i hil;have H5:=Ad (An ((hbw.keep hb5).set hil) ((hf.thenB hb5).trans (Aw w5 ⟨g,i,none⟩ (.bool true))));have hz5:=World.block_lt_of_cell? w5 _ hp3;clear hb5;go_wp2;go_roundg (left.length - Bf left.length (m' ||| 2 ^ i))
      case rel=>exact ⟨m' ||| 2 ^ i,B1,rfl,rfl,H5.o.1,HN.o,H5.o.2⟩
      case measure=>have:=HGK.o;have:=HCS.o;have:=HLE.o;omega
    | false =>
      have HN:=Ad (show r=none by rw [hch,if_pos ⟨hK,by rw [HCL.o];simp [hB0]⟩];rfl);clear hB hch hK hB0;(go_wp2_with fail);refine (BJ _ g uc m' left A' (some i) wr hq hbw HF.o).mono ?_;rintro e w5 ⟨rfl,rfl⟩;simp only [Je];(go_wp2_with fail);refine (cb (Ij _ left B wr hq) HBG.o).mono ?_;rintro e w5 ⟨rfl,hb5⟩;go_wp2;go_returns;exact ⟨by rw [HN.o];rfl,fun m' e=>(by rw [HN.o] at e;cases e),hf.thenB hb5⟩
theorem Dg {left:List Am} {m:Nat} {x:Am}:Kz left m x=if x.1=1 then E0 left m x else BO left x.2.2 (EY left x.2.2) (left.length - Bf left.length m) m x.2.1:=rfl
theorem N5 {S1 S2:Nat→Prop} (v u:Value) (left right:List Am) (w:World) (h:RL w S1 v left) (h2:RL w S2 u right) (h6:left.length≤6) (hk:∀ y ∈ right,y.1=1∨(y.1=2∧y.2.1 ≠ y.2.2)) :
 Calls Tryz.prog 279 #[v,u] w fun e w'=>e=.returned (.bool (CJ left right).isSome)∧Below w.heap.size w w':=by
 obtain ⟨la,lc,rfl⟩:=h.form;obtain ⟨ra,rc,rfl⟩:=h2.form;have hrm:=h2.len;unfold maxLen at hrm;have hL0:=h.lt;have hR0:=h2.lt;have HKD:=Ad hk;clear hk;obtain ⟨i0,hi,hz0,hz1,hz2⟩:=info_parts PD;go_enter Tryz.func279,Tryz.ntmps279
 go_wp2_with (at_make;refine wpList_make_full _ rfl _ _ 119 rfl w.heap.size 4 i0 (.bool false) 1 Tryz.underlying119 hi hz0 hz1 _ _ _ _ left.length rfl rfl rfl rfl (by rw [hz2];omega) (by unfold maxLen;omega) (Nat.le_refl _) ?_;intro w3 hown hgr)
 have hb3:=(AF hgr).below (B:=w.heap.size) (Nat.le_refl _) (by intro k _ e;cases e);have e:(madeCells (Value.bool false).cells (left.length * 1)).toList=CI left.length 0:=by
  rw [show (Value.bool false).cells=#[Value.bool false] from rfl,toList_madeCells_one,Nat.mul_one,PC]
 rw [e] at hown;have HB0:=Ad (Jd hown);have HL:=Ad (An (hL0.keep hb3) (hR0.keep hb3));have HW:=Ad hb3;have hg3:=(Jd hown).lt;clear hown hgr e hi hz0 hz1 hz2 hL0 hR0 h h2 hb3;obtain ⟨g,hg⟩:=Ex (w.heap.size);have hgw:w.heap.size≤g:=by omega
 rw [hg] at HB0 HL hg3 ⊢;clear hg;go_loopg [6] right.length (fun q i wr=>∃ (k m:Nat) (us:List (List Int)),k+q=right.length∧i=.int .i64 k∧Ca left (right.take k) 0=some (m,us)∧BW wr g left.length m∧Fr (fun j=>j=g) w3 wr)
 case atStart=>exact ⟨0,0,[],by omega,rfl,rfl,HB0.o,Fr.refl _ _⟩
 case round =>
  obtain ⟨k,m,us,hk,rfl,hgo,hbw,hf⟩:=hrel;have HK:=Ad hk;have hq:=HL.o.1.kept hf (fun j _ hj e=>by have:j < g:=hj;omega);have hW:=HW.o;have hgr:g < wr.heap.size:=hbw.lt;clear hk;by_cases hk8:k < right.length
  · have hki:(k:Int) < (right.length:Int):=by omega
    obtain ⟨ra',rc',hre,_,_,hrf⟩:=(HL.o.2.kept hf (fun j _ hj e=>by have:j < g:=hj;omega)).atomAt;simp only [Value.slice.injEq] at hre;obtain ⟨rfl,_,rfl⟩:=hre;obtain ⟨b1,o1,rfl,hs1,hzc,hp1,hp2,hp3⟩:=hrf k hk8;(have hn1:¬ b1=g:=fun e=>by have:b1 < g:=hs1;omega);have hgt:=KB hk8 hgo;have hkd:=HKD.o _ (Be hk8);obtain ⟨x,hxe⟩:=Ex (gd right k);obtain ⟨x1,x2,x3⟩:=x;rw [hxe] at hp1 hp2 hp3 hgt hkd;simp only at hp1 hp2 hp3 hkd;clear hrf hgo hxe hs1;rcases hkd with rfl | ⟨rfl,hne⟩
    · cases hfu:Gl left m x2 with
      | none =>
        have HF:=Ad hfu;have HN:=Ad (show CJ left right=none by rw [CJ,C6 (k:=k+1) (by rw [hgt,Dg,if_pos rfl,E0,hfu];rfl)]);clear hfu hgt;(go_wp2_with fail);refine (BJ _ g left.length m left x2 none wr hq hbw HF.o).mono ?_;rintro e w5 ⟨rfl,rfl⟩;simp only [Je];go_wp2;refine Af Kr Kr ?_;repeat (go_big_quiet_step ((fail)))
        refine wpQuiet_nil ?_;intro w6 hb6;go_wp2;go_returns;exact ⟨by rw [HN.o];rfl,hW.trans ((hf.thenB hb6).below hW.size fun j hj e=>by omega)⟩
      | some j =>
        obtain ⟨hjl,hic,hbm⟩:=EE hfu;(have hj6:(j:Int) < (left.length:Int):=by omega);(have hj0:decide ((j:Int) < 0)=false:=by simp);obtain ⟨la',lc',hle,_,_,hlf⟩:=hq.atomAt;simp only [Value.slice.injEq] at hle;obtain ⟨rfl,_,rfl⟩:=hle;obtain ⟨b2,o2,rfl,_,hzd,hr1,hr2,hr3⟩:=hlf j hjl;have HF:=Ad hfu;clear hlf;by_cases e0:(gd left j).1=1;rotate_left
        · have hb0:((gd left j).1 == 1)=false:=by simp [e0]
          have HN:=Ad (show CJ left right=none by rw [CJ,C6 (k:=k+1) (by rw [hgt,Dg,if_pos rfl,E0,hfu];show (if gd left j=(1,x2,x3) then _ else _:Option (Nat × List Int)).map _=none;rw [if_neg (by simp [Prod.ext_iff,e0])];rfl)]);clear e0 hfu hgt hic hbm;(go_wp2_with fail);refine (BJ _ g left.length m left x2 (some j) wr hq hbw HF.o).mono ?_;rintro e w5 ⟨rfl,rfl⟩;simp only [Je];go_wp2;refine Af Kr Kr ?_;repeat (go_big_quiet_step ((fail)))
          refine wpQuiet_nil ?_;intro w6 hb6;go_wp2;go_returns;exact ⟨by rw [HN.o];rfl,hW.trans ((hf.thenB hb6).below hW.size fun j hj e=>by omega)⟩
        (have hb0:((gd left j).1 == 1)=true:=by simp [e0]);by_cases e1:(gd left j).2.1=x2;rotate_left
        · have hb1:((gd left j).2.1 == x2)=false:=by simp [e1]
          have HN:=Ad (show CJ left right=none by rw [CJ,C6 (k:=k+1) (by rw [hgt,Dg,if_pos rfl,E0,hfu];show (if gd left j=(1,x2,x3) then _ else _:Option (Nat × List Int)).map _=none;rw [if_neg (by simp [Prod.ext_iff,e1])];rfl)]);clear e0 e1 hfu hgt hic hbm;(go_wp2_with fail);refine (BJ _ g left.length m left x2 (some j) wr hq hbw HF.o).mono ?_;rintro e w5 ⟨rfl,rfl⟩;simp only [Je];go_wp2;refine Af Kr Kr ?_;repeat (go_big_quiet_step ((fail)))
          refine wpQuiet_nil ?_;intro w6 hb6;go_wp2;go_returns;exact ⟨by rw [HN.o];rfl,hW.trans ((hf.thenB hb6).below hW.size fun j hj e=>by omega)⟩
        (have hb1:((gd left j).2.1 == x2)=true:=by simp [e1]);by_cases e2:(gd left j).2.2=x3;rotate_left
        · have hb2:((gd left j).2.2 == x3)=false:=by simp [e2]
          have HN:=Ad (show CJ left right=none by rw [CJ,C6 (k:=k+1) (by rw [hgt,Dg,if_pos rfl,E0,hfu];show (if gd left j=(1,x2,x3) then _ else _:Option (Nat × List Int)).map _=none;rw [if_neg (by simp [Prod.ext_iff,e2])];rfl)]);clear e0 e1 e2 hfu hgt hic hbm;(go_wp2_with fail);refine (BJ _ g left.length m left x2 (some j) wr hq hbw HF.o).mono ?_;rintro e w5 ⟨rfl,rfl⟩;simp only [Je];go_wp2;refine Af Kr Kr ?_;repeat (go_big_quiet_step ((fail)))
          refine wpQuiet_nil ?_;intro w6 hb6;go_wp2;go_returns;exact ⟨by rw [HN.o];rfl,hW.trans ((hf.thenB hb6).below hW.size fun j hj e=>by omega)⟩
        (have hb2:((gd left j).2.2 == x3)=true:=by simp [e2]);have HN:=Ad (show Ca left (right.take (k+1)) 0=some (m ||| 2 ^ j,us ++ [[(j:Int)]]) by rw [hgt,Dg,if_pos rfl,E0,hfu];show (if gd left j=(1,x2,x3) then _ else _:Option (Nat × List Int)).map _=_;rw [if_pos (by simp [Prod.ext_iff,e0,e1,e2])];rfl);clear e0 e1 e2 hfu hgt hic hbm;(go_wp2_with fail);refine (BJ _ g left.length m left x2 (some j) wr hq hbw HF.o).mono ?_;rintro e w5 ⟨rfl,rfl⟩;simp only [Je];go_wp2;refine Af Kr Kr ?_;repeat (go_big_quiet_step ((fail)))
        refine wpQuiet_nil ?_;intro w6 hb6;have hbw6:=hbw.keep hb6;have hbit:=hbw6.cell j hjl;have hfz:=hbw6.fz j hjl;have H6:=Ad (An (hbw6.set hjl) ((hf.thenB hb6).trans (Aw w6 ⟨g,j,none⟩ (.bool true))));clear hb6 hbw6;go_wp2;go_roundg (gk - 1)
        case rel=>exact ⟨k+1,m ||| 2 ^ j,us ++ [[(j:Int)]],by have:=HK.o;omega,by go_num,HN.o,H6.o.1,H6.o.2⟩
        case measure=>have:=HK.o;omega
    · obtain ⟨r,hr⟩:=Ex (BO left x3 (EY left x3) (left.length - Bf left.length m) m x2)
      rw [Dg,if_neg (show ¬ ((2:Int)=1) by decide)] at hgt;simp only at hgt;rw [hr] at hgt;cases r with
      | none =>
        have HR:=Ad (show (BO left x3 (EY left x3) (left.length - Bf left.length m) m x2).map Prod.fst=none by rw [hr];rfl);have HN:=Ad (show CJ left right=none by rw [CJ,C6 (k:=k+1) (by rw [hgt];rfl)]);clear hr hgt;go_wp2;go_region_held3 (fun w'=>w'.cell? ⟨b1,o1+k * 3,none⟩=some (.int .i64 2)∧w'.cell? ⟨b1,o1+k * 3+1,none⟩=some (.int .i64 x2)∧w'.cell? ⟨b1,o1+k * 3+2,none⟩=some (.int .i64 x3))
         (first | exact ⟨y1,y2,y3⟩ | exact ⟨Ab Bl hp1,Ab Bl hp2,Ab Bl hp3⟩)
         (first
           | (go_at_call 296;go_must (refine (JD _ g left.length m left x2 x3 (none) _ (hq.keep Bl) (fun j hj e=>by have:j < g:=hj;omega) (hbw.keep Bl) hne HR.o).mono ?_;rintro e w5 ⟨rfl,hbw5,hf5⟩;have hfq:Fr (fun j=>j=g) wr w5:=((Below.fr (w:=wr) Bl).mono (fun _ _ h=>h.elim)).trans hf5;have y1:=hfq.cell (p:=⟨b1,o1+k * 3,none⟩) hn1 hp1;have y2:=hfq.cell (p:=⟨b1,o1+k * 3+1,none⟩) hn1 hp2;have y3:=hfq.cell (p:=⟨b1,o1+k * 3+2,none⟩) hn1 hp3)))
        all_goals
         have HQ:=Ad hfq;clear hbw5 hf5 hfq;go_wp2;go_returns;exact ⟨by rw [HN.o];rfl,hW.trans ((hf.trans HQ.o).below hW.size fun j hj e=>by omega)⟩
      | some p =>
        obtain ⟨m',u'⟩:=p;have HR:=Ad (show (BO left x3 (EY left x3) (left.length - Bf left.length m) m x2).map Prod.fst=some m' by rw [hr];rfl);have HN:=Ad (show Ca left (right.take (k+1)) 0=some (m',us ++ [u']) by rw [hgt];rfl);clear hr hgt;go_wp2;go_region_held3 (fun w'=>w'.cell? ⟨b1,o1+k * 3,none⟩=some (.int .i64 2)∧w'.cell? ⟨b1,o1+k * 3+1,none⟩=some (.int .i64 x2)∧w'.cell? ⟨b1,o1+k * 3+2,none⟩=some (.int .i64 x3))
         (first | exact ⟨y1,y2,y3⟩ | exact ⟨Ab Bl hp1,Ab Bl hp2,Ab Bl hp3⟩)
         (first
           | (go_at_call 296;go_must (refine (JD _ g left.length m left x2 x3 (some m') _ (hq.keep Bl) (fun j hj e=>by have:j < g:=hj;omega) (hbw.keep Bl) hne HR.o).mono ?_;rintro e w5 ⟨rfl,hbw5,hf5⟩;have hfq:Fr (fun j=>j=g) wr w5:=((Below.fr (w:=wr) Bl).mono (fun _ _ h=>h.elim)).trans hf5;have y1:=hfq.cell (p:=⟨b1,o1+k * 3,none⟩) hn1 hp1;have y2:=hfq.cell (p:=⟨b1,o1+k * 3+1,none⟩) hn1 hp2;have y3:=hfq.cell (p:=⟨b1,o1+k * 3+2,none⟩) hn1 hp3)))
        all_goals
         have HQ:=Ad (An hfq (hbw5 m' rfl));clear hbw5 hf5 hfq;go_wp2;go_roundg (gk - 1)
         case rel=>exact ⟨k+1,m',us ++ [u'],by have:=HK.o;omega,by go_num,HN.o,HQ.o.2,hf.trans HQ.o.1⟩
         case measure=>have:=HK.o;omega
  · obtain rfl:k=right.length:=by have:=HK.o;omega
    rw [List.take_length] at hgo;have hE:(CJ left right).isSome=(List.range left.length).all fun j=>m.testBit j:=by
     rw [CJ,hgo];simp only;cases (List.range left.length).all fun j=>m.testBit j <;> rfl
    have HE:=Ad hE;have HBW:=Ad hbw;have HF0:=Ad hf;(have hlm:left.length < 2 ^ 63:=by omega);clear hE hgo hbw hf;go_wp2;go_loopg [8] left.length (fun q i wq=>∃ k,k+q=left.length∧i=.int .i64 k∧(∀ j,j < k→m.testBit j=true)∧wq=wr)
    case atStart=>exact ⟨0,by omega,rfl,fun j hj=>absurd hj Om,rfl⟩
    case round =>
     obtain ⟨k,hk,rfl,hall,rfl⟩:=hrel;have HK:=Ad hk;have HALL:=Ad hall;clear hk hall;by_cases hk8:k < left.length
     · have hki:(k:Int) < (left.length:Int):=by omega
       have hbit:=HBW.o.cell k hk8;cases hb:m.testBit k with
       | true =>
         rw [hb] at hbit;have HB:=Ad hb;clear hb;go_wp2;go_roundg (gk - 1)
         case rel=>exact ⟨k+1,by have:=HK.o;omega,by go_num,fun j hj=>by rcases Nat.lt_succ_iff_lt_or_eq.1 hj with h | h;exact HALL.o j h;subst h;exact HB.o,rfl⟩
         case measure=>have:=HK.o;omega
       | false =>
         rw [hb] at hbit;have HB:=Ad (Ej (p:=fun j=>m.testBit j) hk8 hb);clear hb;go_wp2;go_returns;exact ⟨by rw [HE.o,HB.o];rfl,hW.trans (HF0.o.below hW.size fun j hj e=>by omega)⟩
     · obtain rfl:k=left.length:=by have:=HK.o;omega
       have HB:=Ad (show ((List.range left.length).all fun j=>m.testBit j)=true by
        rw [List.all_eq_true];intro j hj;exact HALL.o j (List.mem_range.1 hj))
       go_wp2;go_returns;exact ⟨by rw [HE.o,HB.o];rfl,hW.trans (HF0.o.below hW.size fun j hj e=>by omega)⟩
end Go.Proofs.YtkbbmjcfgcfejaaGreat
