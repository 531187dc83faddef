/- Walks: a logical variable that is not used (unused, newVariable). -/
import Derived.Test.YtkbbmjcfgcfejaaGreatLOpn
set_option linter.unusedVariables false
set_option linter.unusedSimpArgs false
set_option maxRecDepth 100000
set_option maxHeartbeats 12800000
namespace Go.Proofs.YtkbbmjcfgcfejaaGreat
open Go.RowKit
theorem Op (m:Nat):D2 m=if !m.testBit 5 then some 5 else if !m.testBit 6 then some 6 else if !m.testBit 7 then some 7 else if !m.testBit 8 then some 8 else none:=by
 rw [D2];rcases h5:m.testBit 5 <;> rcases h6:m.testBit 6 <;> rcases h7:m.testBit 7 <;> rcases h8:m.testBit 8 <;> simp [List.range,List.range.loop,List.find?,h5,h6,h7,h8]
theorem Oq {m k:Nat} (hk:k < 4) (h:∀ j,j < k→m.testBit (j+5)=true) (h1:m.testBit (k+5)=false):D2 m=some (5+(k:Int)):=by
 rw [Op];have h0:=h 0;have h2:=h 1;have h3:=h 2;match k,hk with
 | 0,_=>simp_all
 | 1,_=>simp_all
 | 2,_=>simp_all
 | 3,_=>simp_all
theorem Mg {m:Nat} (h:∀ j,j < 4→m.testBit (j+5)=true):D2 m=none:=by
 rw [Op];have h0:=h 0 Om;have h1:=h 1 Om;have h2:=h 2 Om;have h3:=h 3 Om;simp_all
def Uo (o:Option Int):Value:=.int .i64 (o.getD 0)
theorem Qc (m:Nat) (w:World) (hm:m < 65536) :
 Calls Tryz.prog 211 #[.int .u16 m] w fun e w'=>e=.returned (.tuple #[Uo (D2 m),.bool (D2 m).isSome])∧w'=w:=by
 go_enter Tryz.func211,Tryz.ntmps211
 go_wp2;go_loopg [4] 4 (fun q i wr=>∃ k:Nat,k+q=4∧i=.int .i64 (5+(k:Int))∧(∀ j,j < k→m.testBit (j+5)=true)∧wr=w)
 case atStart=>exact ⟨0,by omega,rfl,fun j h=>absurd h Om,rfl⟩
 case round =>
  obtain ⟨k,hk,rfl,hb,rfl⟩:=hrel;have HK:=Ad hk;clear hk;have HB:=Ad hb;clear hb;by_cases h4:k < 4
  · have h8:(5+(k:Int))≤8:=by omega
    have hc:=Gh m (5+(k:Int)) wr hm;have he:AN m (5+(k:Int))=m.testBit (k+5):=by
     (have e:(5+(k:Int)).toNat=k+5:=by omega);rw [AN,e,Al,decide_eq_true (show (0:Int)≤5+(k:Int) by omega),decide_eq_true (show 5+(k:Int)≤8 by omega)];rfl
    rw [he] at hc;have HC:=Ad hc;clear hc he;obtain ⟨b,hbit⟩:=Ex (m.testBit (k+5));rw [hbit] at HC;have HBI:=Ad hbit;clear hbit;cases b with
    | true =>
      go_wp2_with (first | (go_at_call 148;refine HC.o.mono ?_;rintro e w' ⟨rfl,rfl⟩))
      go_roundg (gk - 1)
      case rel=>exact ⟨k+1,by have:=HK.o;omega,by go_num,fun j hj=>(Nat.lt_succ_iff_lt_or_eq.1 hj).elim (HB.o j) (fun e=>e ▸ HBI.o),rfl⟩
      case measure=>have:=HK.o;omega
    | false =>
      go_wp2_with (first | (go_at_call 148;refine HC.o.mono ?_;rintro e w' ⟨rfl,rfl⟩))
      have hv:=Oq h4 HB.o HBI.o;go_returns;exact ⟨by rw [hv];rfl,rfl⟩
  · have h8:¬ (5+(k:Int))≤8:=by omega
    go_wp2;have hv:=Mg (m:=m) (fun j hj=>HB.o j Om);go_returns;exact ⟨by rw [hv];rfl,rfl⟩
theorem F4 {S1 S2:Nat→Prop} (v1 v2:Value) (a:Aj) (m:Nat) (w:World) (h1:RL w S1 v1 a.1) (h2:RL w S2 v2 a.2) (hm:m < 65536) :
 Calls Tryz.prog 150 #[.agg #[v1,v2],.int .u16 m] w fun e w'=>e=.returned (.tuple #[Uo (D2 (Ak a ||| m)),.bool (D2 (Ak a ||| m)).isSome])∧Below w.heap.size w w':=by
 obtain ⟨a1,a2⟩:=a;simp only at h1 h2;obtain ⟨p1,c1,rfl⟩:=h1.form;obtain ⟨p2,c2,rfl⟩:=h2.form;go_enter Tryz.func150,Tryz.ntmps150
 have hb0:=Aa w (.cells #[.slice p1 a1.length c1,.slice p2 a2.length c2] 26);have hM:=Bw (a1,a2);have HJ:=Ad (An (h1.keep hb0) (h2.keep hb0));have HB:=Ad hb0;have HL:=Ad (Nat.or_lt_two_pow (n:=16) hM hm);clear h1 h2 hb0;go_wp2_with fail
 refine (B6 _ _ (a1,a2) _ HJ.o.1 HJ.o.2).mono ?_;rintro e w1 ⟨rfl,hb1⟩;have hbw:Below w.heap.size w w1:=HB.o.trans (hb1.mono HB.o.size);have HBW:=Ad hbw;clear hb1 hbw;have hor:bits .or .u16 (Ak (a1,a2):Int) (m:Int)=((Ak (a1,a2) ||| m:Nat):Int):=u16_or_nat _ m hM hm;go_wp2_with fail
 refine (Qc _ w1 HL.o).mono ?_;rintro e w2 ⟨rfl,rfl⟩;go_wp2_with fail
 go_returns;exact ⟨rfl,HBW.o⟩
def WU (r:Option (Aj × Int)):Aj:=(r.getD (([],[]),0)).1
def WD (r:Option (Aj × Int)):Int:=(r.getD (([],[]),0)).2
def WE (r:Option (Aj × Int)) (x:Int):Int:=if r.isSome=true then x else 0
theorem D7 {w:World} {b:Nat} {T:TypeId} {c0 c1 c2 c3:Value} (h:w.heap[b]?=some (.cells #[c0,c1,c2,c3] T (0,0))) :
 (w.cell? ⟨b,0,none⟩=some c0∧w.cell? ⟨b,1,none⟩=some c1∧w.cell? ⟨b,2,none⟩=some c2∧w.cell? ⟨b,3,none⟩=some c3)∧∀ i,w.frozen? ⟨b,i,none⟩=false :=
 ⟨⟨cell_of_row w b 0 _ _ _ h,cell_of_row w b 1 _ _ _ h,cell_of_row w b 2 _ _ _ h,cell_of_row w b 3 _ _ _ h⟩,fun i=>frozen_of_row w b i _ _ h⟩
theorem J7 {w:World} {C:Nat} {cs:Array Value} {T:TypeId} (h:w.heap[C]?=some (.cells cs T (0,0))) (i:Nat) (v:Value):(w.setCell ⟨C,i,none⟩ v).heap[C]?=some (.cells (cs.setIfInBounds i v) T (0,0)):=by
 rw [heap_setCell_same w C i _ T v h]
theorem Hm {w:World} {b:Nat} {T:TypeId} {c0 c1 c2 c3:Value} (x0 x1 x2 x3:Value) (h:w.heap[b]?=some (.cells #[c0,c1,c2,c3] T (0,0))) :
 ((((w.setCell ⟨b,0,none⟩ x0).setCell ⟨b,1,none⟩ x1).setCell ⟨b,2,none⟩ x2).setCell ⟨b,3,none⟩ x3).heap[b]?=some (.cells #[x0,x1,x2,x3] T (0,0)):=by
 have h0:=J7 h 0 x0;have h1:=J7 h0 1 x1;have h2:=J7 h1 2 x2;have h3:=J7 h2 3 x3;simpa using h3
theorem Hn {w0 w:World} {B b:Nat} (h:Below B w0 w) (hb:B≤b) (x0 x1 x2 x3:Value):Below B w0 ((((w.setCell ⟨b,0,none⟩ x0).setCell ⟨b,1,none⟩ x1).setCell ⟨b,2,none⟩ x2).setCell ⟨b,3,none⟩ x3) :=
 (((h.setCell (p:=⟨b,0,none⟩) hb x0).setCell (p:=⟨b,1,none⟩) hb x1).setCell (p:=⟨b,2,none⟩) hb x2).setCell (p:=⟨b,3,none⟩) hb x3
theorem Rf (w:World) (b:Nat) (x0 x1 x2 x3:Value):Fr (fun k=>k=b) w ((((w.setCell ⟨b,0,none⟩ x0).setCell ⟨b,1,none⟩ x1).setCell ⟨b,2,none⟩ x2).setCell ⟨b,3,none⟩ x3) :=
 ((((Aw w ⟨b,0,none⟩ x0).trans (Aw _ ⟨b,1,none⟩ x1)).trans (Aw _ ⟨b,2,none⟩ x2)).trans (Aw _ ⟨b,3,none⟩ x3))
theorem JJ {S1 S2:Nat→Prop} (v1 v2:Value) (a:Aj) (x:Int) (m:Nat) (w:World) (h1:RL w S1 v1 a.1) (h2:RL w S2 v2 a.2) (hm:m < 65536) (hl1:(a.1.length:Int)≤12) (hl2:(a.2.length:Int)≤8) :
 Calls Tryz.prog 69 #[.agg #[v1,v2],.int .i64 x,.int .u16 m] w fun e w'=>∃ x1 x2,e=.returned (.tuple #[.agg #[x1,x2,.int .i64 (WE (AU a x m) x),.int .i64 (WD (AU a x m))],.bool (AU a x m).isSome])∧(RL w' (fun k=>w.heap.size≤k) x1 (WU (AU a x m)).1∧RL w' (fun k=>w.heap.size≤k) x2 (WU (AU a x m)).2)∧Below w.heap.size w w':=by
 obtain ⟨a1,a2⟩:=a;simp only at h1 h2 hl1 hl2;obtain ⟨p1,c1,rfl⟩:=h1.form;obtain ⟨p2,c2,rfl⟩:=h2.form;have hbA:=Ac (heap_alloc_new w (.cells #[.slice p1 a1.length c1,.slice p2 a2.length c2] 26)) (Aa _ (.cells #[.slice none 0 0,.slice none 0 0,.int .i64 0,.int .i64 0] 113));have hbR:=heap_alloc_new (w.alloc (.cells #[.slice p1 a1.length c1,.slice p2 a2.length c2] 26)) (.cells #[.slice none 0 0,.slice none 0 0,.int .i64 0,.int .i64 0] 113);rw [World.size_alloc] at hbR;have hB0:Below w.heap.size w ((w.alloc (.cells #[.slice p1 a1.length c1,.slice p2 a2.length c2] 26)).alloc (.cells #[.slice none 0 0,.slice none 0 0,.int .i64 0,.int .i64 0] 113)):=Bl;obtain ⟨w0,hw0⟩:=Ey ((w.alloc (.cells #[.slice p1 a1.length c1,.slice p2 a2.length c2] 26)).alloc (.cells #[.slice none 0 0,.slice none 0 0,.int .i64 0,.int .i64 0] 113));rw [← hw0] at hbA hbR hB0;have HW:=Ad hw0;have H0:=Ad (An (An hbA hbR) (An hB0 (An (h1.keep hB0) (h2.keep hB0))));clear hbA hbR hB0 hw0 h1 h2;obtain ⟨T,hT⟩:=Ex (Ak (a1,a2));have hT6:T < 65536:=by rw [← hT];exact Bw _
 have hf:AU (a1,a2) x m=if AN T x=true then (D2 (T ||| m)).map fun n=>(Cb (a1,a2) x n,n) else some ((a1,a2),x):=by rw [← hT];rfl
 have HT:=Ad (An hT hT6);obtain ⟨b,hb⟩:=Ex (AN T x);rw [hb] at hf;have HB:=Ad hb;clear hT hT6 hb;go_enter Tryz.func69,Tryz.ntmps69
 go_wp2_with fail
 rw [← HW.o];refine (B6 _ _ (a1,a2) _ H0.o.2.2.1 H0.o.2.2.2).mono ?_;rw [HT.o.1];rintro e w1 ⟨rfl,hb1⟩;have H1:=Ad (An (An (Ac H0.o.1.1 hb1) (Ac H0.o.1.2 hb1)) (An (bt H0.o.2.1 hb1) (An (H0.o.2.2.1.keep hb1) (H0.o.2.2.2.keep hb1))));obtain ⟨a0,a1',al⟩:=B3 H1.o.1.1;clear hb1;have HF:=Ad hf;clear hf;cases b with
 | false =>
   have hf:=HF.o;rw [if_neg (by decide)] at hf;have HR:=Ad hf;clear hf HF;(go_wp2_with fail);refine (CX _ HT.o.2 HB.o).mono ?_;rintro e w2 ⟨rfl,rfl⟩;(go_wp2_with fail);refine (BG _ _ (a1,a2) _ H1.o.2.2.1 H1.o.2.2.2 (by simp only;omega) (by simp only;omega)).mono ?_;rintro e w2 ⟨x1,x2,rfl,ho,hb2⟩;have q1:=ho.one;have q2:=ho.two;obtain ⟨d1,e1,rfl⟩:=q1.form;obtain ⟨d2,e2,rfl⟩:=q2.form;have hR:=Ac H1.o.1.2 hb2;have hRl:=Ae hR;obtain ⟨⟨r0,r1,r2,r3⟩,rz⟩:=D7 hR;have h4:=D7 (Hm (.slice d1 a1.length e1) (.slice d2 a2.length e2) (.int .i64 x) (.int .i64 x) hR);obtain ⟨⟨s0,s1,s2,s3⟩,_⟩:=h4;have hz1:=H1.o.2.1.size;have HE:=Ad (An (An (q1.kept (Rf w2 (w.heap.size+1) (.slice d1 a1.length e1) (.slice d2 a2.length e2) (.int .i64 x) (.int .i64 x)) (fun k _ hk e=>by have h2:w1.heap.size≤k:=hk;have e2:k=w.heap.size+1:=e;have:=Ae H1.o.1.2;omega)) (q2.kept (Rf w2 (w.heap.size+1) (.slice d1 a1.length e1) (.slice d2 a2.length e2) (.int .i64 x) (.int .i64 x)) (fun k _ hk e=>by have h2:w1.heap.size≤k:=hk;have e2:k=w.heap.size+1:=e;have:=Ae H1.o.1.2;omega))) (Hn (b:=w.heap.size+1) (bt H1.o.2.1 hb2) Om (.slice d1 a1.length e1) (.slice d2 a2.length e2) (.int .i64 x) (.int .i64 x)));clear ho q1 q2 hR hb2;go_wp2;refine bodyPost_ret (v:=.tuple #[.agg #[.slice d1 a1.length e1,.slice d2 a2.length e2,.int .i64 x,.int .i64 x],.bool true]) (by simp [results,Tryz.results69,go_sem,s0,s1,s2,s3]) rfl ?_;rw [HR.o];exact ⟨_,_,rfl,⟨HE.o.1.1.more fun k _ hk=>Nat.le_trans hz1 hk,HE.o.1.2.more fun k _ hk=>Nat.le_trans hz1 hk⟩,HE.o.2⟩
 | true =>
   have hf:=HF.o;rw [if_pos rfl] at hf;obtain ⟨N,hN⟩:=Ex (D2 (T ||| m));rw [hN] at hf;have HR:=Ad hf;have HN:=Ad hN;clear hf HF hN;(go_wp2_with fail);refine (CX _ HT.o.2 HB.o).mono ?_;rintro e w2 ⟨rfl,rfl⟩;have hTe:=F4 (S1:=S1) (S2:=S2) (.slice p1 a1.length c1) (.slice p2 a2.length c2) (a1,a2) m w1 H1.o.2.2.1 H1.o.2.2.2 hm;rw [HT.o.1,HN.o] at hTe;have HTE:=Ad hTe;clear hTe;(go_wp2_with fail);refine HTE.o.mono ?_;rintro e w2 ⟨rfl,hb2⟩;have H2:=Ad (An (An (Ac H1.o.1.1 hb2) (Ac H1.o.1.2 hb2)) (An (bt H1.o.2.1 hb2) (An (H1.o.2.2.1.keep hb2) (H1.o.2.2.2.keep hb2))));have hz2:=H2.o.2.1.size;clear hb2 a0 a1' al H1 HTE;obtain ⟨a0,a1',al⟩:=B3 H2.o.1.1;cases N with
   | none =>
     have hRl:=Ae H2.o.1.2;obtain ⟨⟨r0,r1,r2,r3⟩,rz⟩:=D7 H2.o.1.2;have h4:=D7 (Hm (.slice none 0 0) (.slice none 0 0) (.int .i64 0) (.int .i64 0) H2.o.1.2);obtain ⟨⟨s0,s1,s2,s3⟩,_⟩:=h4;have HE:=Ad (Hn (b:=w.heap.size+1) H2.o.2.1 Om (.slice none 0 0) (.slice none 0 0) (.int .i64 0) (.int .i64 0));go_wp2;refine bodyPost_ret (v:=.tuple #[.agg #[.slice none 0 0,.slice none 0 0,.int .i64 0,.int .i64 0],.bool false]) (by simp [results,Tryz.results69,go_sem,s0,s1,s2,s3]) rfl ?_;rw [HR.o];exact ⟨_,_,rfl,⟨RL.nil _ _,RL.nil _ _⟩,HE.o⟩
   | some n =>
     rw [show Uo (some n)=.int .i64 n from rfl];(go_wp2_with fail);refine (G7 _ _ (a1,a2) x n _ H2.o.2.2.1 H2.o.2.2.2 hl1 hl2).mono ?_;rintro e w3 ⟨x1,x2,rfl,⟨q1,q2⟩,hb3⟩;obtain ⟨d1,e1,rfl⟩:=q1.form;obtain ⟨d2,e2,rfl⟩:=q2.form;have hR:=Ac H2.o.1.2 hb3;have hRl:=Ae hR;obtain ⟨⟨r0,r1,r2,r3⟩,rz⟩:=D7 hR;obtain ⟨n1,hn1⟩:=Ex ((Cb (a1,a2) x n).1.length);obtain ⟨n2,hn2⟩:=Ex ((Cb (a1,a2) x n).2.length);rw [hn1] at q1;rw [hn2] at q2;rw [hn1,hn2];have h4:=D7 (Hm (.slice d1 n1 e1) (.slice d2 n2 e2) (.int .i64 x) (.int .i64 n) hR);obtain ⟨⟨s0,s1,s2,s3⟩,_⟩:=h4;have HE:=Ad (An (An (q1.kept (Rf w3 (w.heap.size+1) (.slice d1 n1 e1) (.slice d2 n2 e2) (.int .i64 x) (.int .i64 n)) (fun k _ hk e=>by have h2:w2.heap.size≤k:=hk;have e2:k=w.heap.size+1:=e;have:=Ae H2.o.1.2;omega)) (q2.kept (Rf w3 (w.heap.size+1) (.slice d1 n1 e1) (.slice d2 n2 e2) (.int .i64 x) (.int .i64 n)) (fun k _ hk e=>by have h2:w2.heap.size≤k:=hk;have e2:k=w.heap.size+1:=e;have:=Ae H2.o.1.2;omega))) (Hn (b:=w.heap.size+1) (bt H2.o.2.1 hb3) Om (.slice d1 n1 e1) (.slice d2 n2 e2) (.int .i64 x) (.int .i64 n)));clear q1 q2 hR hb3 hn1 hn2;go_wp2;refine bodyPost_ret (v:=.tuple #[.agg #[.slice d1 n1 e1,.slice d2 n2 e2,.int .i64 x,.int .i64 n],.bool true]) (by simp [results,Tryz.results69,go_sem,s0,s1,s2,s3]) rfl ?_;rw [HR.o];exact ⟨_,_,rfl,⟨HE.o.1.1.more fun k _ hk=>Nat.le_trans hz2 hk,HE.o.1.2.more fun k _ hk=>Nat.le_trans hz2 hk⟩,HE.o.2⟩
def WV (r:Option Nat):Value:=.int .i64 ((r.getD 0:Nat):Int)
theorem Ot (i:Nat):WV (some i)=.int .i64 (i:Int):=rfl
theorem Qd {a:Aj} {k t:Int} {j:Nat} (hj:j < a.2.length) (h0:(List.range j).find? (O7 a k t)=none) (h1:O7 a k t j=true):atomAt a k t=some j:=Io hj h0 h1
theorem JK {S1 S2:Nat→Prop} (v1 v2:Value) (a:Aj) (k t:Int) (w:World) (h1:RL w S1 v1 a.1) (h2:RL w S2 v2 a.2) :
 Calls Tryz.prog 303 #[.agg #[v1,v2],.int .i64 k,.int .i64 t] w fun e w'=>e=.returned (.tuple #[WV (atomAt a k t),.bool (atomAt a k t).isSome])∧Below w.heap.size w w':=by
 obtain ⟨a1,l⟩:=a;simp only at h1 h2;obtain ⟨xa1,xc1,rfl⟩:=h1.form;have hm:=h2.len;unfold maxLen at hm;have hR:=Ad h2;obtain ⟨xa2,xc2,rfl,_,_,hf⟩:=h2.atomAt;have F1:=Ad hf;clear hf h2;have c0:(w.alloc (.cells #[.slice xa1 a1.length xc1,.slice xa2 l.length xc2] 26)).cell? ⟨w.heap.size,0,none⟩=some (.slice xa1 a1.length xc1):=by simp [go_sem]
 have c1:(w.alloc (.cells #[.slice xa1 a1.length xc1,.slice xa2 l.length xc2] 26)).cell? ⟨w.heap.size,1,none⟩=some (.slice xa2 l.length xc2):=by simp [go_sem]
 have hW:Below w.heap.size w (w.alloc (.cells #[.slice xa1 a1.length xc1,.slice xa2 l.length xc2] 26)):=Bl;have HX:=Ad (An (An c0 c1) hW);clear c0 c1 hW;go_enter Tryz.func303,Tryz.ntmps303
 go_wp2;generalize (w.alloc (.cells #[.slice xa1 a1.length xc1,.slice xa2 l.length xc2] 26))=w0 at HX ⊢;go_loopg [13] l.length (fun q i wr=>∃ j:Nat,j+q=l.length∧i=.int .i64 j∧(List.range j).find? (O7 (a1,l) k t)=none∧(wr.cell? ⟨w.heap.size,0,none⟩=some (.slice xa1 a1.length xc1)∧wr.cell? ⟨w.heap.size,1,none⟩=some (.slice xa2 l.length xc2))∧Below w.heap.size w wr)
 case atStart=>exact ⟨0,by omega,rfl,rfl,HX.o⟩
 case round =>
  obtain ⟨j,hj,rfl,ht,⟨c0,c1⟩,hW⟩:=hrel;have HK:=Ad hj;have HT:=Ad ht;clear hj ht;have hzs:w.heap.size < wr.heap.size:=World.block_lt_of_cell? wr _ c0;by_cases hj8:j < l.length
  · obtain ⟨b1,o1,rfl,_,hbl1,hp1,hp2,hp3⟩:=F1.o j hj8
    obtain ⟨X,hX⟩:=Ex (gd l j);obtain ⟨X1,X2,X3⟩:=X;rw [hX] at hp1 hp2 hp3;simp only at hp1 hp2 hp3;replace hp1:=Ab hW hp1;replace hp2:=Ab hW hp2;replace hp3:=Ab hW hp3;have hs0:=hW.size;(have i1:(j:Int) < (l.length:Int):=by omega);(have hzb:b1 < wr.heap.size:=by omega);obtain ⟨s,hs⟩:=Ex ((X1 == k));obtain ⟨r,hr⟩:=Ex (D4 (a1,l) (true,X2,t));(have hat:O7 (a1,l) k t j=(s && r):=by rw [O7,hX,hs,hr]);have HP:=Ad hr;have HF:=Ad (show (s && r)=true→atomAt (a1,l) k t=some j by intro h;exact Qd hj8 HT.o (hat.trans h));have HG:=Ad (show (s && r)=false→(List.range (j+1)).find? (O7 (a1,l) k t)=none by intro h;exact Ep HT.o (hat.trans h));clear hr hat hX;cases s with
    | false =>
      go_wp2;go_roundg (gk - 1)
      case rel=>exact ⟨j+1,by have:=HK.o;omega,by go_num,HG.o rfl,⟨Ab Bl c0,Ab Bl c1⟩,bt hW Bl⟩
      case measure=>have:=HK.o;omega
    | true =>
      (go_wp2_with fail);refine (cb (MU _ _ (a1,l) (true,X2,t) _ (h1.keep (bt hW Bl)) (hR.out.keep (bt hW Bl))) HP.o).mono ?_;rintro e w5 ⟨rfl,hb5⟩;replace hb5:Below wr.heap.size wr w5:=bt Bl hb5;have d8:=World.block_lt_of_cell? w5 _ (Ab hb5 c0);replace c0:=Ab hb5 c0;replace c1:=Ab hb5 c1;replace hW:=bt hW hb5;clear hb5;cases r with
      | false =>
        go_wp2;go_roundg (gk - 1)
        case rel=>exact ⟨j+1,by have:=HK.o;omega,by go_num,HG.o rfl,⟨c0,c1⟩,hW⟩
        case measure=>have:=HK.o;omega
      | true =>
        go_wp2;go_returns;exact ⟨by rw [HF.o rfl];rfl,hW⟩
  · obtain rfl:j=l.length:=by have:=HK.o;omega
    have HE:=Ad (show atomAt (a1,l) k t=none from HT.o);clear HT;go_wp2;go_returns;exact ⟨by rw [HE.o];rfl,hW⟩
theorem RL.tak {α:Type} [Dat α] {w:World} {S:Nat→Prop} {a:Option Addr} {n c k:Nat} {l:List α} (h:RL w S (.slice a n c) l) (hk:k≤l.length):RL w S (.slice a k c) (l.take k):=by
 rcases h with ⟨a',c',e,h1,h2,h3⟩ | ⟨b,o,c',e,h1,h2,h3,h4⟩
 · subst h1
   (obtain rfl:k=0:=by simpa using hk);injection e with e1 e2 e3
   subst e1;subst e3;exact .inl ⟨_,_,rfl,rfl,h2,h3⟩
 · injection e with e1 e2 e3
   subst e1;subst e3;(have hl:(l.take k).length=k:=by rw [List.length_take];omega);refine .inr ⟨b,o,c,by rw [hl],by omega,h2,fun hp=>h3 Om,fun i hi=>?_⟩;rw [hl] at hi;obtain ⟨cs,hrd,hc⟩:=h4 i Om;exact ⟨cs,by rw [Us hi];exact hrd,hc⟩
theorem UY {α:Type} [Inhabited α] (l:List α) (k i:Nat):gd (l.drop k) i=gd l (k+i):=by
 rw [gd,gd,List.getD_eq_getElem?_getD,List.getD_eq_getElem?_getD,List.getElem?_drop]
theorem RL.drp {α:Type} [Dat α] {w:World} {S:Nat→Prop} {a:Option Addr} {n c k:Nat} {l:List α} (h:RL w S (.slice a n c) l) (hk:k≤l.length) :
 RL w S (.slice (if c=k then a else Option.map (fun x=>x.add (k * Dat.sz α)) a) (n - k) (c - k)) (l.drop k):=by
 rcases h with ⟨a',c',e,h1,h2,h3⟩ | ⟨b,o,c',e,h1,h2,h3,h4⟩
 · subst h1
   (obtain rfl:k=0:=by simpa using hk);injection e with e1 e2 e3
   subst e1;subst e2;subst e3;refine .inl ⟨_,_,by rw [Nat.zero_sub,Nat.sub_zero],rfl,h2,fun e=>?_⟩;split at e
   · assumption
   · exact h3 (by simpa using e)
 · injection e with e1 e2 e3
   subst e1;subst e2;subst e3;have hl:(l.drop k).length=l.length - k:=List.length_drop ..;by_cases hc:c=k
   · rw [if_pos hc]
     (have hk2:k=l.length:=by omega);refine .inl ⟨_,_,by rw [hk2,Nat.sub_self],List.drop_eq_nil_of_le Om,by omega,fun e=>by cases e⟩
   · rw [if_neg hc]
     (have e:(⟨b,o,none⟩:Addr).add (k * Dat.sz α)=⟨b,o+k * Dat.sz α,none⟩:=by unfold Addr.add;split <;> simp_all);refine .inr ⟨b,o+k * Dat.sz α,c - k,by rw [Option.map_some,e,hl],by omega,by omega,fun hp=>h3 Om,fun i hi=>?_⟩;obtain ⟨cs,hrd,hcc⟩:=h4 (k+i) Om;refine ⟨cs,by rw [UY];exact hrd,fun j u hj=>?_⟩;have:=hcc j u hj;rwa [Nat.add_mul,Nat.add_assoc (k * Dat.sz α),← Nat.add_assoc o] at this
theorem Ed {S1 S2:Nat→Prop} (v1 v2:Value) (a:Aj) (i:Nat) (w:World) (h1:RL w S1 v1 a.1) (h2:RL w S2 v2 a.2) (hi:i < a.2.length) (hl:a.2.length≤6) :
 Calls Tryz.prog 306 #[.agg #[v1,v2],.int .i64 (i:Int)] w fun e w'=>∃ v,e=.returned v∧OO w' w.heap.size v (Br a.2 i)∧Below w.heap.size w w':=by
 obtain ⟨a1,l⟩:=a;simp only at h1 h2 hi hl;obtain ⟨xa1,xc1,rfl⟩:=h1.form;obtain ⟨xa2,xc2,he,hc1,hc2,hf⟩:=h2.cells;subst he;have c0:(w.alloc (.cells #[.slice xa1 a1.length xc1,.slice xa2 l.length xc2] 26)).cell? ⟨w.heap.size,1,none⟩=some (.slice xa2 l.length xc2):=by simp [go_sem]
 have hW:Below w.heap.size w (w.alloc (.cells #[.slice xa1 a1.length xc1,.slice xa2 l.length xc2] 26)):=Bl;have HX:=Ad (An (h2.keep hW) hW);have k1:(i:Int)≤(xc2:Int):=by omega
 have k2:(i:Int)+1≤(l.length:Int):=by omega
 have k3:(l.length:Int)≤(xc2:Int):=by omega
 have k4:(i:Int)+1≤6:=by omega
 have kw:IntKind.i64.wrap ((i:Int)+1)=(i:Int)+1:=by rw [IntKind.wrap_i64];omega
 have k0:(0:Int)≤(i:Int)+1:=by omega
 have k5:((i:Int)+1).toNat=i+1:=by omega
 have HI:=Ad (An hi hl);have HE:=Ad (h2.drp (k:=i+1) Om);have HT:=Ad (show RL w S2 (.slice xa2 i xc2) (l.take i) from h2.tak Om);clear hW hf h2 hi hl hc1 hc2;go_enter Tryz.func306,Tryz.ntmps306
 go_upto_region 1 with fail
 generalize (w.alloc (.cells #[.slice xa1 a1.length xc1,.slice xa2 l.length xc2] 26))=w0 at HX c0 ⊢;have hz:w.heap.size < w0.heap.size:=World.block_lt_of_cell? w0 _ c0;by_cases hcap:xc2=i+1
 · have HD:=Ad (show RL w S2 (.slice xa2 (l.length - (i+1)) (xc2 - (i+1))) (l.drop (i+1)) by have:=HE.o;rwa [if_pos hcap] at this)
   have hcT:(xc2=i+1)=True:=eq_true hcap;clear hcap;go_region_held3 (fun w'=>w'.cell? ⟨w.heap.size,1,none⟩=some (.slice xa2 l.length xc2))
    (exact (Ck c0))
    ((go_at_call 70;go_must (refine (Bx _ _ (l.take i) (l.drop (i+1)) _ (HT.o.keep (bt HX.o.2 Bl)) (HD.o.keep (bt HX.o.2 Bl)) (by have:=HI.o;simp;omega)).mono ?_;rintro e w5 ⟨v5,rfl,o5,hb5'⟩;have hb5:Below w0.heap.size w0 w5:=bt Bl hb5';have o6:=o5.mono (B':=w0.heap.size) (Below.size (w:=w0) (B:=w0.heap.size) Bl);have hz5:=hb5.size;obtain ⟨p5,n5,q5,rfl⟩:∃ a n c,v5=.slice a n c:=by obtain ⟨a,c,h⟩:=o6.form;exact ⟨a,_,c,h⟩)))
   all_goals
    have HO:=Ad (An (o6.mono (B':=w.heap.size) Om) (bt HX.o.2 hb5));clear o5 o6 hb5';go_wp2;go_returns;exact ⟨_,rfl,HO.o.1,HO.o.2⟩
 · have HD:=Ad (show RL w S2 (.slice (Option.map (fun x=>x.add ((i+1) * 3)) xa2) (l.length - (i+1)) (xc2 - (i+1))) (l.drop (i+1)) by have:=HE.o;rwa [if_neg hcap] at this)
   have hcT:(xc2=i+1)=False:=eq_false hcap;clear hcap;go_region_held3 (fun w'=>w'.cell? ⟨w.heap.size,1,none⟩=some (.slice xa2 l.length xc2))
    (exact (Ck c0))
    ((go_at_call 70;go_must (refine (Bx _ _ (l.take i) (l.drop (i+1)) _ (HT.o.keep (bt HX.o.2 Bl)) (HD.o.keep (bt HX.o.2 Bl)) (by have:=HI.o;simp;omega)).mono ?_;rintro e w5 ⟨v5,rfl,o5,hb5'⟩;have hb5:Below w0.heap.size w0 w5:=bt Bl hb5';have o6:=o5.mono (B':=w0.heap.size) (Below.size (w:=w0) (B:=w0.heap.size) Bl);have hz5:=hb5.size;obtain ⟨p5,n5,q5,rfl⟩:∃ a n c,v5=.slice a n c:=by obtain ⟨a,c,h⟩:=o6.form;exact ⟨a,_,c,h⟩)))
   all_goals
    have HO:=Ad (An (o6.mono (B':=w.heap.size) Om) (bt HX.o.2 hb5));clear o5 o6 hb5';go_wp2;go_returns;exact ⟨_,rfl,HO.o.1,HO.o.2⟩
end Go.Proofs.YtkbbmjcfgcfejaaGreat
