/- CaseB: texts Case5, Case6, Case7, Case8 in one. -/
import Derived.Test.YtkbbmjcfgcfejaaGreatLCaseA
import Derived.Laws.IdiomCopy
import Derived.Test.YtkbbmjcfgcfejaaGreatLMu8
import Derived.Laws.StructEq
set_option linter.unusedVariables false
set_option linter.unusedSimpArgs false
set_option maxRecDepth 100000
set_option maxHeartbeats 12800000
namespace Go.Proofs.YtkbbmjcfgcfejaaGreat
open Go.RowKit
def Fi (M:Nat) (cl:List Int) (t:Nat):Bool:=if M.testBit t=true then (decide (0≤gi cl t) && (decide (gi cl t≤(t:Int)) && (gi cl (gi cl t).toNat == gi cl t))) else gi cl t == -1
def C5 (M:Nat) (cl:List Int):Bool:=(cl.length == 9) && (List.range 9).all (Fi M cl)
def QT (m:Nat) (a:Aj) (cl:List Int):Bool:=C5 (As (Ak a) 0 ||| m) cl && Bi cl 8 a
theorem Ej {p:Nat→Bool} {k n:Nat} (hk:k < n) (h:p k=false):(List.range n).all p=false:=by
 rw [List.all_eq_false];exact ⟨k,List.mem_range.2 hk,by simp [h]⟩
theorem G4 {p:Nat→Bool} {k:Nat} (h1:(List.range k).all p=true) (h:p k=true):(List.range (k+1)).all p=true:=by
 rw [List.range_succ,List.all_append,h1];simp [h]
theorem Vr:(Tryz.prog.info? 161).map (·.size)=some 9:=by kernel_rfl
def Bu (cl:List Int) (f:Ap):Bool:=!(decide (0≤gi cl f.2.1.toNat) && (decide (0≤gi cl f.2.2.toNat) && ((gi cl f.2.1.toNat == gi cl f.2.2.toNat) != f.1)))
def ED (l:List Am) (i:Nat):Bool:=((gd l i).2.1 != 0) && (List.range i).all fun k=>(gd l k).2.1 != (gd l i).2.1
def CG (l:List Am):Bool:=(List.range l.length).all (ED l)
theorem CH {S:Nat→Prop} (v cv:Value) (l:List Ap) (cl:List Int) (w:World) (h:RL w S v l) (hc:RInts w cv cl) (hf:l.all AH=true) (hc9:cl.length=9) :
 Calls Tryz.prog 256 #[v,cv] w fun e w'=>e=.returned (.bool (l.all (Bu cl)))∧Below w.heap.size w w':=by
 have hm:=h.len;unfold maxLen at hm;obtain ⟨a,c,rfl,_,_,hf1⟩:=h.factAt;have F1:=Ad hf1;have HB:=Ad (FD hf);obtain ⟨cb,co,cc,rfl,_,_,hcell⟩:=hc.ne Om;have HC:=Ad hcell;have HC9:=Ad hc9;clear hf1 h hf hcell hc hc9;go_enter Tryz.func256,Tryz.ntmps256
 go_wp2;go_loopg [5] l.length (fun q i wr=>∃ k:Nat,k+q=l.length∧i=.int .i64 k∧(l.take k).all (Bu cl)=true∧Below w.heap.size w wr)
 case atStart=>exact ⟨0,by omega,rfl,by simp,Below.refl _ _⟩
 case round =>
  obtain ⟨k,hk,rfl,ht,hb⟩:=hrel;have HK:=Ad hk;have HT:=Ad ht;clear hk ht;by_cases hk8:k < l.length
  · obtain ⟨b1,o1,rfl,_,hbl1,hp1,hp2,hp3⟩:=F1.o k hk8
    replace hp1:=Ab hb hp1;replace hp2:=Ab hb hp2;replace hp3:=Ab hb hp3;have hs:=hb.size;(have i1:(k:Int) < (l.length:Int):=by omega);(have hzb:b1 < wr.heap.size:=by omega);obtain ⟨t1,t2,t3,t4⟩:=Ci (HB.o k hk8);obtain ⟨i,hi⟩:=Int.eq_ofNat_of_zero_le t1;obtain ⟨j,hj⟩:=Int.eq_ofNat_of_zero_le t3;(have hi9:(i:Int) < (cl.length:Int):=by rw [HC9.o];omega);(have hj9:(j:Int) < (cl.length:Int):=by rw [HC9.o];omega);rw [hi] at hp2;rw [hj] at hp3;have hci:=Ab hb (HC.o i Om);have hcj:=Ab hb (HC.o j Om);obtain ⟨X,hX⟩:=Ex (gi cl i);obtain ⟨Y,hY⟩:=Ex (gi cl j);obtain ⟨fb,hfb⟩:∃ b,(gd l k).1=b:=⟨_,rfl⟩;(have hft:Bu cl (gd l k)=!(decide (0≤X) && (decide (0≤Y) && ((X == Y) != fb))):=by rw [Bu,hi,hj,Int.toNat_natCast,Int.toNat_natCast,hX,hY,hfb]);rw [hX] at hci;rw [hY] at hcj;rw [hfb] at hp1;clear hi hj hX hY hfb t1 t2 t3 t4;by_cases hx0:0≤X;rotate_left
    · have HP:=Ad (show Bu cl (gd l k)=true by rw [hft,decide_eq_false hx0];rfl)
      clear hft;go_wp2;go_roundg (gk - 1)
      case rel=>exact ⟨k+1,by have:=HK.o;omega,by go_num,Bb hk8 HT.o HP.o,hb⟩
      case measure=>have:=HK.o;omega
    by_cases hy0:0≤Y;rotate_left
    · have HP:=Ad (show Bu cl (gd l k)=true by rw [hft,decide_eq_false hy0];simp)
      clear hft;go_wp2;go_roundg (gk - 1)
      case rel=>exact ⟨k+1,by have:=HK.o;omega,by go_num,Bb hk8 HT.o HP.o,hb⟩
      case measure=>have:=HK.o;omega
    rw [decide_eq_true hx0,decide_eq_true hy0] at hft;obtain ⟨eb,heb⟩:∃ b,(X == Y)=b:=⟨_,rfl⟩;rw [heb] at hft;cases eb with
    | true =>
      cases fb with
      | true =>
        have HP:=Ad (show Bu cl (gd l k)=true by rw [hft];rfl);clear hft;go_wp2;go_roundg (gk - 1)
        case rel=>exact ⟨k+1,by have:=HK.o;omega,by go_num,Bb hk8 HT.o HP.o,hb⟩
        case measure=>have:=HK.o;omega
      | false =>
        have HF:=Ad (F9 hk8 (show Bu cl (gd l k)=false by rw [hft];rfl));clear hft;go_wp2;go_ret;exact ⟨by rw [HF.o];rfl,hb⟩
    | false =>
      cases fb with
      | true =>
        have HF:=Ad (F9 hk8 (show Bu cl (gd l k)=false by rw [hft];rfl));clear hft;go_wp2;go_ret;exact ⟨by rw [HF.o];rfl,hb⟩
      | false =>
        have HP:=Ad (show Bu cl (gd l k)=true by rw [hft];rfl);clear hft;go_wp2;go_roundg (gk - 1)
        case rel=>exact ⟨k+1,by have:=HK.o;omega,by go_num,Bb hk8 HT.o HP.o,hb⟩
        case measure=>have:=HK.o;omega
  · obtain rfl:k=l.length:=by have:=HK.o;omega
    have HA:=Ad (Fy HT.o);clear HT;go_wp2;go_ret;exact ⟨by rw [HA.o];rfl,hb⟩
theorem Ij {S:Nat→Prop} (v:Value) (l:List Am) (c:Int) (w:World) (hv:RL w S v l) :
 Calls Tryz.prog 309 #[v,.int .i64 c] w fun e w'=>e=.returned (.bool (l.any fun x=>x.2.1 == c))∧Below w.heap.size w w':=by
 have hm:=hv.len;unfold maxLen at hm;obtain ⟨a,cp,rfl,_,_,hf1⟩:=hv.atomAt;have F1:=Ad hf1;clear hf1 hv;go_enter Tryz.func309,Tryz.ntmps309
 go_wp2;go_loopg [5] l.length (fun q i wr=>∃ k:Nat,k+q=l.length∧i=.int .i64 k∧((l.take k).any fun x=>x.2.1 == c)=false∧Below w.heap.size w wr)
 case atStart=>exact ⟨0,by omega,rfl,by simp,Below.refl _ _⟩
 case round =>
  obtain ⟨k,hk,rfl,ht,hb⟩:=hrel;have HK:=Ad hk;have HT:=Ad ht;clear hk ht;by_cases hk8:k < l.length
  · obtain ⟨b1,o1,rfl,_,hbl1,hp1,hp2,hp3⟩:=F1.o k hk8
    replace hp1:=Ab hb hp1;replace hp2:=Ab hb hp2;replace hp3:=Ab hb hp3;(have i1:(k:Int) < (l.length:Int):=by omega);by_cases hp:(gd l k).2.1=c
    · have hpb:((gd l k).2.1 == c)=true:=by simp [hp]
      have HF:=Ad (NL (p:=fun x:Am=>x.2.1 == c) hk8 hpb);clear hp;go_wp2;go_ret;exact ⟨by rw [HF.o];rfl,hb⟩
    · have hpb:((gd l k).2.1 == c)=false:=by simp [hp]
      have HP:=Ad hpb;clear hp;go_wp2;go_roundg (gk - 1)
      case rel=>exact ⟨k+1,by have:=HK.o;omega,by go_num,If (p:=fun x:Am=>x.2.1 == c) hk8 HT.o HP.o,hb⟩
      case measure=>have:=HK.o;omega
  · obtain rfl:k=l.length:=by have:=HK.o;omega
    have HA:=Ad (NM HT.o);clear HT;go_wp2;go_ret;exact ⟨by rw [HA.o];rfl,hb⟩
theorem Gj {S:Nat→Prop} (v:Value) (l:List Am) (w:World) (hv:RL w S v l) :
 Calls Tryz.prog 258 #[v] w fun e w'=>e=.returned (.bool (CG l))∧Below w.heap.size w w':=by
 have hm:=hv.len;unfold maxLen at hm;obtain ⟨a,cp,rfl,_,_,hf1⟩:=hv.atomAt;have F1:=Ad hf1;clear hf1 hv;go_enter Tryz.func258,Tryz.ntmps258
 go_wp2;go_loopg [3] l.length (fun q i wr=>∃ k:Nat,k+q=l.length∧i=.int .i64 k∧(List.range k).all (ED l)=true∧Below w.heap.size w wr)
 case atStart=>exact ⟨0,by omega,rfl,rfl,Below.refl _ _⟩
 case round =>
  obtain ⟨k,hk,rfl,ht,hb⟩:=hrel;have HK:=Ad hk;have HT:=Ad ht;clear hk ht;by_cases hk8:k < l.length
  · obtain ⟨b1,o1,rfl,_,hbl1,hp1,hp2,hp3⟩:=F1.o k hk8
    have F2:=Ad (fun j (hj:j < l.length)=>F1.o j hj);replace hp2:=Ab hb hp2;(have i1:(k:Int) < (l.length:Int):=by omega);by_cases hp:(gd l k).2.1=0
    · have hpb:((gd l k).2.1 == 0)=true:=by simp [hp]
      have HF:=Ad (show CG l=false by rw [CG,Ej hk8 (show ED l k=false by rw [ED,hp];rfl)]);clear hp hp1 hp3;go_wp2;go_ret;exact ⟨by rw [HF.o];rfl,hb⟩
    · have hpb:((gd l k).2.1 == 0)=false:=by simp [hp]
      (have hpn:((gd l k).2.1 != 0)=true:=by simp [hp]);have HPN:=Ad hpn;obtain ⟨gO,hgO⟩:∃ g,g=gk:=⟨_,rfl⟩;have HGO:=Ad hgO;obtain ⟨wo,rfl⟩:∃ wo:World,wo=wr:=⟨_,rfl⟩;clear hp hp1 hp3 hgO hpn;go_wp2;go_loopg [4] k (fun q i wr=>∃ j:Nat,j+q=k∧i=.int .i64 j∧((List.range j).all fun n=>(gd l n).2.1 != (gd l k).2.1)=true∧Below w.heap.size w wr)
      case atStart=>exact ⟨0,by omega,rfl,rfl,hb⟩
      case round =>
       clear hb hp2;obtain ⟨j,hj,rfl,hall,hb⟩:=hrel;have HJ:=Ad hj;have HALL:=Ad hall;clear hj hall;obtain ⟨b2,o2,he,_,_,_,hq2,_⟩:=F1.o k hk8;(obtain ⟨rfl,rfl⟩:b1=b2∧o1=o2:=by simpa using he);clear he;replace hq2:=Ab hb hq2;have hzb:b1 < wr.heap.size:=World.block_lt_of_cell? wr _ hq2;by_cases hj8:j < k
       · obtain ⟨b3,o3,he,_,_,_,hr2,_⟩:=F1.o j Om
         (obtain ⟨rfl,rfl⟩:b1=b3∧o1=o3:=by simpa using he);clear he;replace hr2:=Ab hb hr2;(have j1:(j:Int) < (l.length:Int):=by omega);(have j2:(j:Int) < (k:Int):=by omega);by_cases hn:(gd l j).2.1=(gd l k).2.1
         · have hnb:((gd l j).2.1 == (gd l k).2.1)=true:=by simp [hn]
           have HF:=Ad (show CG l=false by rw [CG,Ej hk8 (show ED l k=false by rw [ED,Ej (p:=fun n=>(gd l n).2.1 != (gd l k).2.1) hj8 (by simp [hn])];simp)]);clear hn;go_wp2;refine Af Kr Kr ?_;repeat (go_big_quiet_step ((fail)))
           refine wpQuiet_nil ?_;intro w5 hb5;go_wp2;go_ret;exact ⟨by rw [HF.o];rfl,bt hb hb5⟩
         · have hnb:((gd l j).2.1 == (gd l k).2.1)=false:=by simp [hn]
           have HN:=Ad (G4 (p:=fun n=>(gd l n).2.1 != (gd l k).2.1) HALL.o (by simp [hn]));clear hn;go_wp2;refine Af Kr Kr ?_;repeat (go_big_quiet_step ((fail)))
           refine wpQuiet_nil ?_;intro w5 hb5;go_wp2;go_roundg (gk - 1)
           case rel=>exact ⟨j+1,by have:=HJ.o;omega,by go_num,HN.o,bt hb hb5⟩
           case measure=>have:=HJ.o;omega
       · obtain rfl:j=k:=by have:=HJ.o;omega
         have HN:=Ad (G4 HT.o (show ED l j=true by rw [ED,HPN.o,HALL.o];rfl));clear HALL;go_wp2;go_roundg (gO - 1)
         case rel=>exact ⟨j+1,by have:=HK.o;have:=HGO.o;omega,by go_num,HN.o,hb⟩
         case measure=>have:=HK.o;have:=HGO.o;omega
  · obtain rfl:k=l.length:=by have:=HK.o;omega
    have HA:=Ad (show CG l=true from HT.o);clear HT;go_wp2;go_ret;exact ⟨by rw [HA.o];rfl,hb⟩
theorem PB {S1 S2 S3 S4:Nat→Prop} (v1 v2 u1 u2:Value) (a b:Aj) (w:World) (h1:RL w S1 v1 a.1) (h2:RL w S2 v2 a.2) (k1:RL w S3 u1 b.1) (k2:RL w S4 u2 b.2) (ha:Ah a=true) (hb0:Ah b=true) :
 Calls Tryz.prog 222 #[.agg #[v1,v2],.agg #[u1,u2]] w fun e w'=>∃ v,e=.returned v∧w'.ownsRow w.heap.size 4 1 v 9 (Av (Ak (a.1 ++ b.1,a.2 ++ b.2)))∧Below w.heap.size w w':=by
 have hfa:(a.1.all AH=true∧a.2.all AQ=true)∧(b.1.all AH=true∧b.2.all AQ=true):=by
  simp only [Ah,Bv,Bool.and_eq_true] at ha hb0;exact ⟨⟨ha.1.2,ha.2.2⟩,⟨hb0.1.2,hb0.2.2⟩⟩
 have hl:(a.1.length≤12∧a.2.length≤6)∧(b.1.length≤12∧b.2.length≤6):=by
  simp only [Ah,Bv,Bool.and_eq_true,decide_eq_true_eq] at ha hb0;exact ⟨⟨ha.1.1,ha.2.1⟩,⟨hb0.1.1,hb0.2.1⟩⟩
 obtain ⟨a1,a2⟩:=a;obtain ⟨b1,b2⟩:=b;simp only at h1 h2 k1 k2 hfa hl;obtain ⟨⟨n1,n2⟩,⟨n3,n4⟩⟩:=hl;have hx1:(a1 ++ b1).all AH=true:=by rw [List.all_append,hfa.1.1,hfa.2.1];rfl
 have hx2:(a2 ++ b2).all AQ=true:=by rw [List.all_append,hfa.1.2,hfa.2.2];rfl
 have HX:=Ad (An hx1 hx2);obtain ⟨p1,c1,rfl⟩:=h1.form;obtain ⟨p2,c2,rfl⟩:=h2.form;obtain ⟨p3,c3,rfl⟩:=k1.form;obtain ⟨p4,c4,rfl⟩:=k2.form;clear hfa hx1 hx2 ha hb0;go_enter Tryz.func222,Tryz.ntmps222
 go_wp2;generalize hw0:((w.alloc (.cells #[.slice p1 a1.length c1,.slice p2 a2.length c2] 26)).alloc (.cells #[.slice p3 b1.length c3,.slice p4 b2.length c4] 26))=w0;have hc0:w0.cell? ⟨w.heap.size,0,none⟩=some (.slice p1 a1.length c1):=by rw [← hw0];simp [go_sem]
 have hc1:w0.cell? ⟨w.heap.size,1,none⟩=some (.slice p2 a2.length c2):=by rw [← hw0];simp [go_sem]
 have hd0:w0.cell? ⟨w.heap.size+1,0,none⟩=some (.slice p3 b1.length c3):=by rw [← hw0];simp [go_sem]
 have hd1:w0.cell? ⟨w.heap.size+1,1,none⟩=some (.slice p4 b2.length c4):=by rw [← hw0];simp [go_sem]
 have hW:Below w.heap.size w w0:=by rw [← hw0];exact ba (Aa _ _) _
 clear hw0;have q1:=h1.keep hW;have q2:=h2.keep hW;have q3:=k1.keep hW;have q4:=k2.keep hW;clear h1 h2 k1 k2;go_region_held3 (fun w'=>(w'.cell? ⟨w.heap.size,0,none⟩=some (.slice p1 a1.length c1)∧w'.cell? ⟨w.heap.size,1,none⟩=some (.slice p2 a2.length c2))∧(w'.cell? ⟨w.heap.size+1,0,none⟩=some (.slice p3 b1.length c3)∧w'.cell? ⟨w.heap.size+1,1,none⟩=some (.slice p4 b2.length c4)))
  (exact ⟨⟨(Ck hc0),(Ck hc1)⟩,⟨(Ck hd0),(Ck hd1)⟩⟩)
  (first
    | (go_at_call 75;go_must (refine (BQ _ _ (a1 ++ b1,a2 ++ b2) _ (rl6.keep (Below.trans hb68 Bl)) (rl8.keep Bl) HX.o.1 HX.o.2).mono ?_;rintro e w9 ⟨v9,rfl,hown,hb9'⟩;have hb9:Below w0.heap.size w0 w9:=bt (bt hb8 Bl) hb9'))
    | (refine DG (l:=a1) (by rfl) (.tmp 5) (.tmp 7) _ (by rfl) A0 (by rfl) (by rfl) (q1.keep Bl) Om ?_;intro B1 hB1 v5 w5 y1 r1 t1 hb5';have hle1:w0.heap.size≤B1:=(by rw [hB1];exact Below.size (w:=w0) (B:=w0.heap.size) Bl);have hle5:B1≤w5.heap.size:=(by rw [hB1];exact hb5'.size);have HB1:=Ad hB1;clear hB1;have hb5:Below w0.heap.size w0 w5:=Below.trans Bl (hb5'.mono hle1))
    | (refine Eo (l:=b1) (n:=a1.length) (by rfl) (.tmp 8) (.tmp 10) _ (by rfl) (B:=B1) A0 (by rfl) (r1.keep Bl) (by rfl) (q3.keep Bl) Om (Nat.le_trans hle5 (Below.size (w:=w5) (B:=w5.heap.size) Bl)) ?_;intro v6 w6 y2 r2 _ t2 hb6';have hb6:Below w0.heap.size w0 w6:=Below.trans Bl (hb6'.mono hle1);have rl6:=Fe r2 r1.len t1 t2;obtain ⟨d6,m6,k6,rfl⟩:=rl6.forms)
    | (refine DG (l:=a2) (by rfl) (.tmp 12) (.tmp 14) _ (by rfl) A3 (by rfl) (by rfl) (q2.keep Bl) Om ?_;intro B2 hB2 v7 w7 y3 r3 t3 hb7';have hle2:w0.heap.size≤B2:=(by rw [hB2];exact Below.size (w:=w0) (B:=w0.heap.size) Bl);have hle26:w6.heap.size≤B2:=(by rw [hB2];exact Below.size (w:=w6) (B:=w6.heap.size) Bl);have hle7:B2≤w7.heap.size:=(by rw [hB2];exact hb7'.size);have HB2:=Ad hB2;clear hB2;have hb7:Below w0.heap.size w0 w7:=Below.trans Bl (hb7'.mono hle2);have hb67:Below w6.heap.size w6 w7:=Below.trans Bl (hb7'.mono hle26))
    | (refine Eo (l:=b2) (n:=a2.length) (by rfl) (.tmp 15) (.tmp 17) _ (by rfl) (B:=B2) A3 (by rfl) (r3.keep Bl) (by rfl) (q4.keep Bl) Om (Nat.le_trans hle7 (Below.size (w:=w7) (B:=w7.heap.size) Bl)) ?_;intro v8 w8 y4 r4 _ t4 hb8';have hb8:Below w0.heap.size w0 w8:=Below.trans Bl (hb8'.mono hle2);have hb68:Below w6.heap.size w6 w8:=Below.trans Bl (hb8'.mono hle26);have rl8:=Fe r4 r3.len t3 t4;obtain ⟨d8,m8,k8,rfl⟩:=rl8.forms;clear q1 q2 q3 q4))
 all_goals
  have HO:=Ad (An (BK hown (Nat.le_trans hW.size (Below.size (w:=w0) (B:=w0.heap.size) (bt hb8 Bl)))) (bt hW hb9));clear hown hb9 hb9';go_wp2;go_ret;exact ⟨_,rfl,HO.o.1,HO.o.2⟩
def QU (left:List Am) (B:Int) (closed:Bool) (at_:Int):List Int→Bool
 | []=>false
 | i :: r=>if (gd left i.toNat).2.1=at_ then (if (gd left i.toNat).2.2=B then r.isEmpty else (if ((gd left i.toNat).1 == 2 && !closed)=true then false else QU left B closed (gd left i.toNat).2.2 r)) else false
def EY (left:List Am) (B:Int):Bool:=(B == 0) || left.any fun y=>y.2.1 == B
def VW (left:List Am) (x:Am) (uses:List Int):Bool :=
 if x.1=1 then (uses.length == 1) && decide (gd left (gi uses 0).toNat=x) else QU left x.2.2 (EY left x.2.2) x.2.1 uses
def CI (n m:Nat):List Value:=(List.range n).map fun k=>.bool (m.testBit k)
theorem Gk {n m k:Nat} (h:k < n):(CI n m)[k]?=some (.bool (m.testBit k)):=by simp [CI,h]
theorem GI (n m:Nat):(CI n m).length=n:=by simp [CI]
theorem RC {n m k:Nat} (_h:k < n):(CI n m).set k (.bool true)=CI n (m ||| 2 ^ k):=by
 apply List.ext_getElem?;intro i;rw [List.getElem?_set];by_cases hi:i < n
 · rw [Gk hi,Gk hi,Bk]
   by_cases hk:k=i
   · subst hk;simp [CI,hi]
   · simp [hk]
 · have h1:(CI n m)[i]?=none:=by simp [CI];omega
   (have h2:(CI n (m ||| 2 ^ k))[i]?=none:=by simp [CI];omega);rw [h1,h2];by_cases hk:k=i
   · subst hk;omega
   · simp [hk]
def Bf (n m:Nat):Nat:=((List.range n).filter fun k=>m.testBit k).length
theorem Ik {n m k:Nat} (hk:k < n) (hb:m.testBit k=false):Bf n (m ||| 2 ^ k)=Bf n m+1:=by
 induction n with
 | zero=>omega
 | succ n ih =>
   unfold Bf;rw [List.range_succ,List.filter_append,List.filter_append,List.length_append,List.length_append];by_cases e:k=n
   · subst e
     have h1:((List.range k).filter fun j=>(m ||| 2 ^ k).testBit j)=(List.range k).filter fun j=>m.testBit j:=by
      refine List.filter_congr fun j hj=>?_;have:=List.mem_range.1 hj;rw [Bk];simp;intro h;omega
     rw [h1];(have h2:(m ||| 2 ^ k).testBit k=true:=by rw [Bk];simp);simp [hb]
   · have:=ih Om
     unfold Bf at this;(have h2:(m ||| 2 ^ k).testBit n=m.testBit n:=by rw [Bk];simp [e]);(have h3:([n].filter fun j=>(m ||| 2 ^ k).testBit j)=[n].filter fun j=>m.testBit j:=by simp only [List.filter_cons,h2,List.filter_nil]);rw [h3];omega
theorem Tb (n m:Nat):(Bf n m == n)=(List.range n).all fun k=>m.testBit k:=by
 rw [Bool.eq_iff_iff,beq_iff_eq,List.all_eq_true];unfold Bf;conv=>lhs;rhs;rw [← List.length_range (n:=n)]
 rw [List.length_filter_eq_length_iff]
def CP (t:Int) (j:Nat):Bool:=Al t && decide (t=(j:Int))
theorem Kv (j:Nat):∀ (l:List Ap) (m:Nat),(CE m l).testBit j=(m.testBit j || l.any fun f=>CP f.2.1 j || CP f.2.2 j)
 | [],m=>by simp [CE]
 | f :: l,m=>by
   show (CE (As (As m f.2.1) f.2.2) l).testBit j=_
   rw [Kv j l,AR,AR,List.any_cons,← CP,← CP,Bool.or_assoc,Bool.or_assoc,← Bool.or_assoc (CP f.2.1 j)]
theorem Kw (j:Nat):∀ (l:List Am) (m:Nat),(Dm m l).testBit j=(m.testBit j || l.any fun f=>CP f.2.1 j || CP f.2.2 j)
 | [],m=>by simp [Dm]
 | f :: l,m=>by
   show (Dm (As (As m f.2.1) f.2.2) l).testBit j=_
   rw [Kw j l,AR,AR,List.any_cons,← CP,← CP,Bool.or_assoc,Bool.or_assoc,← Bool.or_assoc (CP f.2.1 j)]
theorem Bn (a:Aj) (j:Nat):(Ak a).testBit j=((a.1.any fun f=>CP f.2.1 j || CP f.2.2 j) || a.2.any fun f=>CP f.2.1 j || CP f.2.2 j):=by
 rw [Ak,Kw,Kv,Nat.zero_testBit,Bool.false_or]
theorem Tc (a b:Aj) (j:Nat):(Ak (a.1 ++ b.1,a.2 ++ b.2)).testBit j=((Ak a).testBit j || (Ak b).testBit j):=by
 rw [Bn,Bn,Bn];simp only [List.any_append];cases a.1.any fun f=>CP f.2.1 j || CP f.2.2 j <;> cases b.1.any fun f=>CP f.2.1 j || CP f.2.2 j <;> cases a.2.any fun f=>CP f.2.1 j || CP f.2.2 j <;> cases b.2.any fun f=>CP f.2.1 j || CP f.2.2 j <;> rfl
theorem DW {t:Int} (h:Al t=true):CP t t.toNat=true:=by
 have:=At.1 h;simp [CP,h];omega
theorem GJ {a:Aj} (ha:Ah a=true) {f:Ap} (hf:f ∈ a.1):(Al f.2.1=true∧(Ak a).testBit f.2.1.toNat=true)∧(Al f.2.2=true∧(Ak a).testBit f.2.2.toNat=true):=by
 simp only [Ah,Bv,Bool.and_eq_true,List.all_eq_true] at ha;have h1:=ha.1.2 f hf;simp only [AH,Bool.and_eq_true] at h1;refine ⟨⟨h1.1,?_⟩,⟨h1.2,?_⟩⟩
 · rw [Bn,Bool.or_eq_true];left;rw [List.any_eq_true];exact ⟨f,hf,by rw [DW h1.1];rfl⟩
 · rw [Bn,Bool.or_eq_true];left;rw [List.any_eq_true];exact ⟨f,hf,by rw [DW h1.2,Bool.or_true]⟩
theorem I1 {a:Aj} (ha:Ah a=true) {f:Am} (hf:f ∈ a.2):(Al f.2.1=true∧(Ak a).testBit f.2.1.toNat=true)∧(Al f.2.2=true∧(Ak a).testBit f.2.2.toNat=true):=by
 simp only [Ah,Bv,Bool.and_eq_true,List.all_eq_true] at ha;have h1:=ha.2.2 f hf;simp only [AQ,Bool.and_eq_true] at h1;refine ⟨⟨h1.2.1,?_⟩,⟨h1.2.2,?_⟩⟩
 · rw [Bn,Bool.or_eq_true];right;rw [List.any_eq_true];exact ⟨f,hf,by rw [DW h1.2.1];rfl⟩
 · rw [Bn,Bool.or_eq_true];right;rw [List.any_eq_true];exact ⟨f,hf,by rw [DW h1.2.2,Bool.or_true]⟩
def VX (m:Nat):List Am→Bool
 | []=>true
 | y :: r=>if (y.2.1 == 0 || AN m y.2.1)=true then false else VX (As m y.2.1) r
theorem I2 {cl:List Int}:∀ (l:List Am) (m:Nat),l.all AQ=true→Bt cl 8 m l=VX m (Az cl l)
 | [],m,_=>rfl
 | x :: l,m,h=>by
   rw [List.all_cons,Bool.and_eq_true] at h;obtain ⟨t1,t2,t3,t4⟩:=BH h.1;(have hi:F5 cl 8 x=De cl x:=by rw [F5,decide_eq_true t2,decide_eq_true t4];rfl);rw [Bt,hi];unfold Az;rw [List.filter_cons];cases hf:De cl x with
   | false=>simp only [Bool.false_eq_true,if_false];exact I2 l m h.2
   | true =>
     simp only [if_true,List.map_cons,VX];show _=if ((Un cl x).2.1 == 0 || AN m (Un cl x).2.1)=true then false else VX (As m (Un cl x).2.1) (Az cl l)
     rw [← I2 l _ h.2];rfl
theorem Fj {m:Nat} {t z:Int} (hz:Al z=true):AN (As m t) z=(AN m z || decide (t=z)):=by
 have:=At.1 hz;rw [AN,AN,hz,Bool.true_and,Bool.true_and,AR];congr 1
 by_cases e:t=z
 · subst e;rw [hz,Bool.true_and];simp;omega
 · rw [decide_eq_false (show ¬ t=((z.toNat:Nat):Int) by omega),decide_eq_false e,Bool.and_false]
theorem QV:∀ (l:List Am) (m:Nat),(∀ y ∈ l,Al y.2.1=true)→(VX m l=true ↔ (∀ y ∈ l,y.2.1 ≠ 0∧AN m y.2.1=false)∧l.Pairwise fun y z=>y.2.1 ≠ z.2.1)
 | [],m,_=>by simp [VX]
 | y :: r,m,h=>by
   have hr:=QV r (As m y.2.1) fun z hz=>h z (List.mem_cons_of_mem _ hz);rw [VX,List.pairwise_cons];by_cases hc:(y.2.1 == 0 || AN m y.2.1)=true
   · rw [if_pos hc]
     constructor
     · intro e;cases e
     · rintro ⟨h1,_⟩
       have:=h1 y List.mem_cons_self;rw [this.2,Bool.or_false,beq_iff_eq] at hc;exact absurd hc this.1
   · rw [if_neg hc,hr]
     simp only [Bool.or_eq_true,beq_iff_eq,not_or,Bool.not_eq_true] at hc;constructor
     · rintro ⟨h1,h2⟩
       have h3:∀ z ∈ r,z.2.1 ≠ 0∧AN m z.2.1=false∧y.2.1 ≠ z.2.1:=fun z hz=>by
        have:=h1 z hz;rw [Fj (h z (List.mem_cons_of_mem _ hz)),Bool.or_eq_false_iff,decide_eq_false_iff_not] at this;exact ⟨this.1,this.2.1,this.2.2⟩
       refine ⟨fun z hz=>?_,⟨fun z hz=>(h3 z hz).2.2,h2⟩⟩;rcases List.mem_cons.1 hz with rfl | hz
       · exact hc
       · exact ⟨(h3 z hz).1,(h3 z hz).2.1⟩
     · rintro ⟨h1,h2,h3⟩
       refine ⟨fun z hz=>?_,h3⟩;have h4:=h1 z (List.mem_cons_of_mem _ hz);refine ⟨h4.1,?_⟩;rw [Fj (h z (List.mem_cons_of_mem _ hz)),h4.2,Bool.false_or,decide_eq_false_iff_not];exact h2 z hz
theorem Kx (l:List Am):CG l=true ↔ (∀ y ∈ l,y.2.1 ≠ 0)∧l.Pairwise fun y z=>y.2.1 ≠ z.2.1:=by
 rw [CG,List.all_eq_true,List.pairwise_iff_getElem];constructor
 · intro h
   refine ⟨fun y hy=>?_,fun i j hi hj hij=>?_⟩
   · obtain ⟨i,hi,rfl⟩:=List.mem_iff_getElem.1 hy
     have:=h i (List.mem_range.2 hi);simp only [ED,Bool.and_eq_true,bne_iff_ne,BT hi] at this;exact this.1
   · have:=h j (List.mem_range.2 hj)
     simp only [ED,Bool.and_eq_true,List.all_eq_true,bne_iff_ne,BT hj] at this;have h2:=this.2 i (List.mem_range.2 hij);rwa [BT hi] at h2
 · rintro ⟨h1,h2⟩ i hi
   have hi':=List.mem_range.1 hi;simp only [ED,Bool.and_eq_true,List.all_eq_true,bne_iff_ne,BT hi'];refine ⟨h1 _ (List.getElem_mem hi'),fun k hk=>?_⟩;have hk':=List.mem_range.1 hk;rw [BT (by omega)];exact h2 k i Om hi' hk'
theorem FL {cl:List Int} {l:List Am} (hl:l.all AQ=true) (hc:∀ x ∈ l,Al (gi cl x.2.1.toNat)=true):Bt cl 8 0 l=CG (Az cl l):=by
 rw [I2 l 0 hl,Bool.eq_iff_iff,Kx,QV _ _ fun y hy=>?_]
 · have h0:∀ t,AN 0 t=false:=fun t=>by simp [AN]
   simp only [h0,and_true]
 · obtain ⟨x,hx,rfl⟩:=List.mem_map.1 hy
   exact hc x (List.mem_filter.1 hx).1
theorem Fk {M:Nat} {cl:List Int} {t:Nat} (h:C5 M cl=true) (ht:t≤8) (hb:M.testBit t=true):0≤gi cl t∧gi cl t≤(t:Int):=by
 simp only [C5,Bool.and_eq_true,List.all_eq_true] at h;have:=h.2 t (List.mem_range.2 Om);rw [Fi,if_pos hb] at this;simp only [Bool.and_eq_true,decide_eq_true_eq] at this;exact ⟨this.1,this.2.1⟩
theorem Td {a b:Aj} {cl:List Int} (hb:Ah b=true) (hr:QT (Ak b) a cl=true):b.1.all (Bu cl)=b.1.all (B5 cl):=by
 simp only [QT,Bool.and_eq_true] at hr;rw [Bool.eq_iff_iff,List.all_eq_true,List.all_eq_true];have key:∀ f ∈ b.1,Bu cl f=B5 cl f:=fun f hf=>by
  obtain ⟨⟨p1,p2⟩,⟨q1,q2⟩⟩:=GJ hb hf;have e1:=At.1 p1;have e2:=At.1 q1;have s:∀ j,(Ak b).testBit j=true→(As (Ak a) 0 ||| Ak b).testBit j=true:=fun j hj=>by rw [Nat.testBit_or,hj,Bool.or_true]
  have c1:=Fk hr.1 (t:=f.2.1.toNat) Om (s _ p2);have c2:=Fk hr.1 (t:=f.2.2.toNat) Om (s _ q2);rw [Bu,decide_eq_true c1.1,decide_eq_true c2.1,B5];cases gi cl f.2.1.toNat == gi cl f.2.2.toNat <;> cases f.1 <;> rfl
 constructor
 · intro h f hf;rw [← key f hf];exact h f hf
 · intro h f hf;rw [key f hf];exact h f hf
theorem PC (n:Nat):List.replicate n (Value.bool false)=CI n 0:=by
 apply List.ext_getElem?;intro i;by_cases h:i < n
 · rw [Gk h,List.getElem?_replicate,if_pos h,Nat.zero_testBit]
 · simp [CI,h]
theorem PD:(Tryz.prog.info? 4).map (fun i=>(i.zero,i.size,i.bytes))=some (some (.bool false),1,1):=by kernel_rfl
end Go.Proofs.YtkbbmjcfgcfejaaGreat
