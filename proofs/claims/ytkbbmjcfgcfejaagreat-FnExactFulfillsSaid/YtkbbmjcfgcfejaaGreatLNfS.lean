/- Walks: the first fact that says what a variable is (l10Known, firstSubstitution). -/
import Derived.Test.YtkbbmjcfgcfejaaGreatLConV
set_option linter.unusedVariables false
set_option linter.unusedSimpArgs false
set_option maxRecDepth 100000
set_option maxHeartbeats 12800000
namespace Go.Proofs.YtkbbmjcfgcfejaaGreat
open Go.RowKit
def kX (r:Option (Int × Int)):Int:=(r.getD (0,0)).1
def kT (r:Option (Int × Int)):Int:=(r.getD (0,0)).2
def P7 {α:Type} (r:Option α):Bool:=r.isSome
def Gy (t:Int):Bool:=decide (4 < t) && decide (t≤8)
theorem KY {m i:Nat} (h:i≤8):G5 m (i:Int)=(decide (4 < (i:Int)) && !m.testBit i):=by
 rw [G5,AN,show Al (i:Int)=true by simp [Al];omega];simp
theorem Ok {m i j:Nat} (h:((i:Int) == (j:Int))=true):Cn m (true,(i:Int),(j:Int))=none:=by
 rw [Cn,if_pos rfl,if_pos (by simpa using h)]
theorem L7 {m i j:Nat} (hi:i≤8) (h:((i:Int) == (j:Int))=false) (h4:4 < (i:Int)) (hb:m.testBit i=false):Cn m (true,(i:Int),(j:Int))=some ((i:Int),(j:Int)):=by
 rw [Cn,if_pos rfl,if_neg (by simpa using h),if_pos (by rw [KY hi,hb,decide_eq_true h4];rfl)]
theorem MY {m i:Nat} (hi:i≤8) (h:¬ 4 < (i:Int)∨(4 < (i:Int)∧m.testBit i=true)):¬ G5 m (i:Int)=true:=by
 rw [KY hi];rcases h with h | ⟨_,h⟩
 · rw [decide_eq_false h];simp
 · rw [h];simp
theorem L8 {m i j:Nat} (hi:i≤8) (hj:j≤8) (h:((i:Int) == (j:Int))=false) (h1:¬ 4 < (i:Int)∨(4 < (i:Int)∧m.testBit i=true)) (h4:4 < (j:Int)) (hb:m.testBit j=false):Cn m (true,(i:Int),(j:Int))=some ((j:Int),(i:Int)):=by
 rw [Cn,if_pos rfl,if_neg (by simpa using h),if_neg (MY hi h1),if_pos (by rw [KY hj,hb,decide_eq_true h4];rfl)]
theorem Ol {m i j:Nat} (hi:i≤8) (hj:j≤8) (h:((i:Int) == (j:Int))=false) (h1:¬ 4 < (i:Int)∨(4 < (i:Int)∧m.testBit i=true)) (h2:¬ 4 < (j:Int)∨(4 < (j:Int)∧m.testBit j=true)):Cn m (true,(i:Int),(j:Int))=none:=by
 rw [Cn,if_pos rfl,if_neg (by simpa using h),if_neg (MY hi h1),if_neg (MY hj h2)]
theorem KZ {α β:Type} [Inhabited α] {f:α→Option β} {l:List α} {k:Nat} (h:k < l.length) (h0:(l.take k).findSome? f=none) (h1:f (gd l k)=none):(l.take (k+1)).findSome? f=none:=by
 rw [AT h,List.findSome?_append,h0,List.findSome?_cons,h1];rfl
theorem L9 {α β:Type} [Inhabited α] {f:α→Option β} {l:List α} {k:Nat} {y:β} (h:k < l.length) (h0:(l.take k).findSome? f=none) (h1:f (gd l k)=some y):l.findSome? f=some y:=by
 rw [← List.take_append_drop (k+1) l,List.findSome?_append,AT h,List.findSome?_append,h0,List.findSome?_cons,h1];rfl
theorem K0 (b:Bool) (i:Int) (p:Bool) (hp:p=b):¬ 4 < i∨(4 < i∧b=true)∨(4 < i∧b=false):=by
 by_cases h:4 < i
 · cases b
   · exact .inr (.inr ⟨h,rfl⟩)
   · exact .inr (.inl ⟨h,rfl⟩)
 · exact .inl h
theorem Hl (t:Int) (w:World):Calls Tryz.prog 180 #[.int .i64 t] w fun e w'=>e=.returned (.bool (Gy t))∧w=w':=by
 have hl:Gy t=(decide (4 < t) && decide (t≤8)):=rfl;have HL:=Ad hl;clear hl;by_cases h1:4 < t
 · by_cases h2:t≤8
   · have HD:=Ad (show Gy t=true by rw [HL.o,decide_eq_true h1,decide_eq_true h2];rfl)
     go_enter Tryz.func180,Tryz.ntmps180
     go_wp2;go_ret;exact ⟨by rw [HD.o];rfl,rfl⟩
   · have HD:=Ad (show Gy t=false by rw [HL.o,decide_eq_false h2];simp)
     go_enter Tryz.func180,Tryz.ntmps180
     go_wp2;go_ret;exact ⟨by rw [HD.o];rfl,rfl⟩
 · have HD:=Ad (show Gy t=false by rw [HL.o,decide_eq_false h1];simp)
   go_enter Tryz.func180,Tryz.ntmps180
   go_wp2;go_ret;exact ⟨by rw [HD.o];rfl,rfl⟩
theorem IA {S1 S2:Nat→Prop} (v1 v2 bv:Value) (a:Aj) (m B:Nat) (r:Option (Int × Int)) (w:World) (h1:RL w S1 v1 a.1) (h2:RL w S2 v2 a.2) (ho:w.ownsRow B 4 1 bv 9 (Av m)) (ha:∀ f ∈ a.1,AH f=true) (hr:C7 m a.1=r) :
 Calls Tryz.prog 217 #[.agg #[v1,v2],bv] w fun e w'=>e=.returned (.tuple #[.int .i64 (kX r),.int .i64 (kT r),.bool (P7 r)])∧Below w.heap.size w w':=by
 obtain ⟨a1,a2⟩:=a;simp only at h1 h2 ha hr;obtain ⟨p1,c1,rfl⟩:=h1.form;obtain ⟨p2,c2,rfl⟩:=h2.form;obtain ⟨g,cap,rfl⟩:=B8 ho;have hln:=h1.len;unfold maxLen at hln;have hbA:=heap_alloc_new w (.cells #[.slice p1 a1.length c1,.slice p2 a2.length c2] 26);have hb0:Below w.heap.size w (w.alloc (.cells #[.slice p1 a1.length c1,.slice p2 a2.length c2] 26)):=Aa _ _;have H1:=Ad (An hbA (An hb0 (An ho h1)));have HR:=Ad (An hr ha);clear hbA hb0 ho h1 h2 hr ha;go_enter Tryz.func217,Tryz.ntmps217
 go_wp2;go_loopg [7] a1.length (fun q i wr=>∃ k:Nat,k+q=a1.length∧i=.int .i64 k∧(a1.take k).findSome? (Cn m)=none∧wr.heap[w.heap.size]?=some (.cells #[.slice p1 a1.length c1,.slice p2 a2.length c2] 26 (0,0))∧Below w.heap.size w wr)
 case atStart=>exact ⟨0,by omega,rfl,rfl,H1.o.1,H1.o.2.1⟩
 case round =>
  obtain ⟨k,hk,rfl,hf,hA,hW⟩:=hrel;have HK:=Ad (An hk hf);clear hk hf;have x0:=Bd hA;have xl:=Ae hA;by_cases hk8:k < a1.length
  · have hki:(k:Int) < (a1.length:Int):=by omega
    obtain ⟨qa,qc,hqe,_,_,hqf⟩:=(H1.o.2.2.2.keep hW).factAt;simp only [Value.slice.injEq] at hqe;obtain ⟨rfl,_,rfl⟩:=hqe;obtain ⟨b1,o1,rfl,_,hz1,hp1,hp2,hp3⟩:=hqf k hk8;obtain ⟨X,hX⟩:=Ex (gd a1 k);obtain ⟨X1,X2,X3⟩:=X;have hv:=Cw.1 (HR.o.2 _ (Be hk8));rw [hX] at hp1 hp2 hp3 hv;simp only at hp1 hp2 hp3 hv;obtain ⟨i2,rfl⟩:=Int.eq_ofNat_of_zero_le hv.1.1;obtain ⟨i3,rfl⟩:=Int.eq_ofNat_of_zero_le hv.2.1;(have u2:i2≤8:=by omega);(have u3:i3≤8:=by omega);(have t2:(i2:Int) < 9:=by omega);(have t3:(i3:Int) < 9:=by omega);have y2:∃ b,m.testBit i2=b∧wr.cell? ⟨g,i2,none⟩=some (.bool b):=⟨_,rfl,by have:=(Ag H1.o.2.2.1 hW).cellAt i2 Om;rw [AP m i2 (by omega)] at this;exact this⟩;have y3:∃ b,m.testBit i3=b∧wr.cell? ⟨g,i3,none⟩=some (.bool b):=⟨_,rfl,by have:=(Ag H1.o.2.2.1 hW).cellAt i3 Om;rw [AP m i3 (by omega)] at this;exact this⟩;obtain ⟨b2,hb2,y2⟩:=y2;obtain ⟨b3,hb3,y3⟩:=y3;have z2:=World.block_lt_of_cell? wr _ y2;simp only at z2;have HX:=Ad (An hX (An (An u2 u3) (An hb2 hb3)));have HA:=Ad (An (Ac hA (Aa wr (.cells #[.bool X1,.int .i64 i2,.int .i64 i3] 61))) (bt hW (Aa wr (.cells #[.bool X1,.int .i64 i2,.int .i64 i3] 61))));clear hqf hX hv u2 u3 hb2 hb3 hA hW;have stay:Cn m (X1,(i2:Int),(i3:Int))=none→(a1.take (k+1)).findSome? (Cn m)=none:=fun e=>KZ hk8 HK.o.2 (by rw [HX.o.1];exact e);have hit:∀ y,Cn m (X1,(i2:Int),(i3:Int))=some y→r=some y:=fun y e=>HR.o.1.symm.trans (L9 hk8 HK.o.2 (by rw [HX.o.1];exact e));have HS:=Ad (An stay hit);clear stay hit;cases X1 with
    | false =>
      have HV:=Ad (HS.o.1 (by simp [Cn]));go_wp2;go_roundg (gk - 1)
      case rel=>exact ⟨k+1,by have:=HK.o.1;omega,by go_num,HV.o,HA.o⟩
      case measure=>have:=HK.o.1;omega
    | true =>
      cases he:((i2:Int) == (i3:Int)) with
      | true =>
        have HV:=Ad (HS.o.1 (Ok he));go_wp2;go_roundg (gk - 1)
        case rel=>exact ⟨k+1,by have:=HK.o.1;omega,by go_num,HV.o,HA.o⟩
        case measure=>have:=HK.o.1;omega
      | false =>
        have HE:=Ad he;have w2:(¬ 4 < (i2:Int)∨(4 < (i2:Int)∧b2=true))∨(4 < (i2:Int)∧b2=false):=by
         rcases K0 b2 (i2:Int) b2 rfl with h | h | h
         · exact .inl (.inl h)
         · exact .inl (.inr h)
         · exact .inr h
        rcases w2 with w2 | ⟨w2,rfl⟩
        · have w3:(¬ 4 < (i3:Int)∨(4 < (i3:Int)∧b3=true))∨(4 < (i3:Int)∧b3=false):=by
           rcases K0 b3 (i3:Int) b3 rfl with h | h | h
           · exact .inl (.inl h)
           · exact .inl (.inr h)
           · exact .inr h
          have HW2:=Ad (show ¬ 4 < (i2:Int)∨(4 < (i2:Int)∧m.testBit i2=true) by rw [HX.o.2.2.1];exact w2);rcases w3 with w3 | ⟨w3,rfl⟩
          · have HV:=Ad (HS.o.1 (Ol HX.o.2.1.1 HX.o.2.1.2 HE.o HW2.o (by rw [HX.o.2.2.2];exact w3)))
            rcases w2 with w2 | ⟨w2,rfl⟩ <;> rcases w3 with w3 | ⟨w3,rfl⟩
            all_goals
             go_wp2;go_roundg (gk - 1)
             case rel=>exact ⟨k+1,by have:=HK.o.1;omega,by go_num,HV.o,HA.o⟩
             case measure=>have:=HK.o.1;omega
          · have HV:=Ad (HS.o.2 _ (L8 HX.o.2.1.1 HX.o.2.1.2 HE.o HW2.o w3 HX.o.2.2.2))
            rcases w2 with w2 | ⟨w2,rfl⟩
            all_goals
             go_wp2;go_region
             go_wp2;refine bodyPost_ret (v:=.tuple #[.int .i64 i3,.int .i64 i2,.bool true]) (by simp [results,Tryz.results217,go_sem]) rfl ?_;exact ⟨by rw [HV.o];rfl,bt HA.o.2 Bl⟩
        · have HV:=Ad (HS.o.2 _ (L7 HX.o.2.1.1 HE.o w2 HX.o.2.2.1))
          go_wp2;go_region
          go_wp2;refine bodyPost_ret (v:=.tuple #[.int .i64 i2,.int .i64 i3,.bool true]) (by simp [results,Tryz.results217,go_sem]) rfl ?_;exact ⟨by rw [HV.o];rfl,bt HA.o.2 Bl⟩
  · obtain rfl:k=a1.length:=by have:=HK.o.1;omega
    have HV:=Ad (show r=none by rw [← HR.o.1,C7];have:=HK.o.2;rw [List.take_length] at this;exact this);have HB:=Ad hW;clear hW hA;go_wp2;refine bodyPost_ret (v:=.tuple #[.int .i64 0,.int .i64 0,.bool false]) (by simp [results,Tryz.results217,go_sem]) rfl ?_;exact ⟨by rw [HV.o];rfl,HB.o⟩
theorem MZ {i:Nat} (h:i≤8):Gy (i:Int)=decide (4 < (i:Int)):=by
 rw [Gy,decide_eq_true (show (i:Int)≤8 by omega),Bool.and_true]
theorem FN {m i:Nat} (h:i≤8):AN m (i:Int)=m.testBit i:=by
 rw [AN,show Al (i:Int)=true by simp [Al];omega];simp
theorem M5 {S1:Nat→Prop} (v1:Value) (a1:List Ap) (m:Nat) (r:Option (Int × Int)) (w:World) (h1:RL w S1 v1 a1) (hm:m < 65536) (ha:∀ f ∈ a1,AH f=true) (hr:C7 m a1=r) :
 Calls Tryz.prog 226 #[v1,.int .u16 m] w fun e w'=>e=.returned (.tuple #[.agg #[.int .i64 (kX r),.int .i64 (kT r)],.bool (P7 r)])∧Below w.heap.size w w':=by
 obtain ⟨p1,c1,rfl⟩:=h1.form;have hln:=h1.len;unfold maxLen at hln;have hbA:=heap_alloc_new w (.cells #[.int .i64 0,.int .i64 0] 253);have hb0:Below w.heap.size w (w.alloc (.cells #[.int .i64 0,.int .i64 0] 253)):=Aa _ _;have H1:=Ad (An hbA (An hb0 h1));have HR:=Ad (An hr ha);clear hbA hb0 h1 hr ha;go_enter Tryz.func226,Tryz.ntmps226
 go_wp2;go_loopg [10] a1.length (fun q i wr=>∃ k:Nat,k+q=a1.length∧i=.int .i64 k∧(a1.take k).findSome? (Cn m)=none∧wr.heap[w.heap.size]?=some (.cells #[.int .i64 0,.int .i64 0] 253 (0,0))∧Below w.heap.size w wr)
 case atStart=>exact ⟨0,by omega,rfl,rfl,H1.o.1,H1.o.2.1⟩
 case round =>
  obtain ⟨k,hk,rfl,hf,hA,hW⟩:=hrel;have HK:=Ad (An hk hf);clear hk hf;have xl:=Ae hA;by_cases hk8:k < a1.length
  · have hki:(k:Int) < (a1.length:Int):=by omega
    obtain ⟨qa,qc,hqe,_,_,hqf⟩:=(H1.o.2.2.keep hW).factAt;simp only [Value.slice.injEq] at hqe;obtain ⟨rfl,_,rfl⟩:=hqe;obtain ⟨b1,o1,rfl,_,hz1,hp1,hp2,hp3⟩:=hqf k hk8;obtain ⟨X,hX⟩:=Ex (gd a1 k);obtain ⟨X1,X2,X3⟩:=X;have hv:=Cw.1 (HR.o.2 _ (Be hk8));rw [hX] at hp1 hp2 hp3 hv;simp only at hp1 hp2 hp3 hv;obtain ⟨i2,rfl⟩:=Int.eq_ofNat_of_zero_le hv.1.1;obtain ⟨i3,rfl⟩:=Int.eq_ofNat_of_zero_le hv.2.1;(have u2:i2≤8:=by omega);(have u3:i3≤8:=by omega);obtain ⟨b2,hb2⟩:∃ b,m.testBit i2=b:=⟨_,rfl⟩;obtain ⟨b3,hb3⟩:∃ b,m.testBit i3=b:=⟨_,rfl⟩;have HX:=Ad (An hX (An (An u2 u3) (An hb2 hb3)));have hA':=Ac hA (Aa wr (.cells #[.bool X1,.int .i64 i2,.int .i64 i3] 61));have r0:=Bd hA;have r1:=AY hA;have rz:=BI hA;have rr:=Au (.int .i64 (i2:Int)) (.int .i64 (i3:Int)) r0 r1;have rs:=Au (.int .i64 (i3:Int)) (.int .i64 (i2:Int)) r0 r1;have rr0:=Ab (Aa _ (.cells #[.bool X1,.int .i64 i2,.int .i64 i3] 61)) rr.1;have rr1:=Ab (Aa _ (.cells #[.bool X1,.int .i64 i2,.int .i64 i3] 61)) rr.2;have rs0:=Ab (Aa _ (.cells #[.bool X1,.int .i64 i2,.int .i64 i3] 61)) rs.1;have rs1:=Ab (Aa _ (.cells #[.bool X1,.int .i64 i2,.int .i64 i3] 61)) rs.2;have HQ:=Ad (An hW (An (An rr0 rr1) (An rs0 rs1)));clear rr rs rr0 rr1 rs0 rs1;have HA:=Ad (An hA' (bt hW (Aa wr (.cells #[.bool X1,.int .i64 i2,.int .i64 i3] 61))));clear hqf hX hv u2 u3 hb2 hb3 hA hA' hW;have stay:Cn m (X1,(i2:Int),(i3:Int))=none→(a1.take (k+1)).findSome? (Cn m)=none:=fun e=>KZ hk8 HK.o.2 (by rw [HX.o.1];exact e);have hit:∀ y,Cn m (X1,(i2:Int),(i3:Int))=some y→r=some y:=fun y e=>HR.o.1.symm.trans (L9 hk8 HK.o.2 (by rw [HX.o.1];exact e));have HS:=Ad (An stay hit);clear stay hit;cases X1 with
    | false =>
      have HV:=Ad (HS.o.1 (by simp [Cn]));clear r0 r1 rz;go_wp2;go_roundg (gk - 1)
      case rel=>exact ⟨k+1,by have:=HK.o.1;omega,by go_num,HV.o,HA.o⟩
      case measure=>have:=HK.o.1;omega
    | true =>
      cases he:((i2:Int) == (i3:Int)) with
      | true =>
        have HV:=Ad (HS.o.1 (Ok he));clear r0 r1 rz;go_wp2;go_roundg (gk - 1)
        case rel=>exact ⟨k+1,by have:=HK.o.1;omega,by go_num,HV.o,HA.o⟩
        case measure=>have:=HK.o.1;omega
      | false =>
        have HE:=Ad he;(have hT2:AN m (i2:Int)=b2:=by rw [FN HX.o.2.1.1,HX.o.2.2.1]);(have hT3:AN m (i3:Int)=b3:=by rw [FN HX.o.2.1.2,HX.o.2.2.2]);have w2:(Gy (i2:Int)=false∨(Gy (i2:Int)=true∧b2=true))∨(Gy (i2:Int)=true∧b2=false):=by
         cases Gy (i2:Int) <;> cases b2 <;> simp
        have w3:(Gy (i3:Int)=false∨(Gy (i3:Int)=true∧b3=true))∨(Gy (i3:Int)=true∧b3=false):=by
         cases Gy (i3:Int) <;> cases b3 <;> simp
        have tr:∀ i b,i≤8→m.testBit i=b→(Gy (i:Int)=false∨(Gy (i:Int)=true∧b=true))→(¬ 4 < (i:Int)∨(4 < (i:Int)∧m.testBit i=true)):=fun i b hi hb h=>by
         rw [MZ hi] at h;rcases h with h | ⟨h,rfl⟩
         · exact .inl (by simpa using h)
         · exact .inr ⟨by simpa using h,hb⟩
        have HTR:=Ad tr;clear tr;rcases w2 with w2 | ⟨w2,rfl⟩
        · have HW2:=Ad (HTR.o i2 b2 HX.o.2.1.1 HX.o.2.2.1 w2)
          rcases w3 with w3 | ⟨w3,rfl⟩
          · have HV:=Ad (HS.o.1 (Ol HX.o.2.1.1 HX.o.2.1.2 HE.o HW2.o (HTR.o i3 b3 HX.o.2.1.2 HX.o.2.2.2 w3)))
            clear r0 r1 rz;rcases w2 with w2 | ⟨w2,rfl⟩ <;> rcases w3 with w3 | ⟨w3,rfl⟩
            all_goals
             go_wp2_with (first
              | (go_at_call 180;refine (Hl _ _).mono ?_;rintro e w' ⟨rfl,rfl⟩)
              | (go_at_call 148;refine (Gh _ _ _ hm).mono ?_;rintro e w' ⟨rfl,rfl⟩))
             go_roundg (gk - 1)
             case rel=>exact ⟨k+1,by have:=HK.o.1;omega,by go_num,HV.o,HA.o⟩
             case measure=>have:=HK.o.1;omega
          · have HV:=Ad (HS.o.2 _ (L8 HX.o.2.1.1 HX.o.2.1.2 HE.o HW2.o (by rw [MZ HX.o.2.1.2] at w3;simpa using w3) HX.o.2.2.2))
            rcases w2 with w2 | ⟨w2,rfl⟩
            all_goals
             go_wp2_with (first
              | (go_at_call 180;refine (Hl _ _).mono ?_;rintro e w' ⟨rfl,rfl⟩)
              | (go_at_call 148;refine (Gh _ _ _ hm).mono ?_;rintro e w' ⟨rfl,rfl⟩))
             refine bodyPost_ret (v:=.tuple #[.agg #[.int .i64 i3,.int .i64 i2],.bool true]) (by simp [results,Tryz.results226,go_sem,HQ.o.2.2.1,HQ.o.2.2.2]) rfl ?_;exact ⟨by rw [HV.o];rfl,ba ((HQ.o.1.setCell Sp _).setCell Sp _) _⟩
        · have HV:=Ad (HS.o.2 _ (L7 HX.o.2.1.1 HE.o (by rw [MZ HX.o.2.1.1] at w2;simpa using w2) HX.o.2.2.1))
          go_wp2_with (first
           | (go_at_call 180;refine (Hl _ _).mono ?_;rintro e w' ⟨rfl,rfl⟩)
           | (go_at_call 148;refine (Gh _ _ _ hm).mono ?_;rintro e w' ⟨rfl,rfl⟩))
          refine bodyPost_ret (v:=.tuple #[.agg #[.int .i64 i2,.int .i64 i3],.bool true]) (by simp [results,Tryz.results226,go_sem,HQ.o.2.1.1,HQ.o.2.1.2]) rfl ?_;exact ⟨by rw [HV.o];rfl,ba ((HQ.o.1.setCell Sp _).setCell Sp _) _⟩
  · obtain rfl:k=a1.length:=by have:=HK.o.1;omega
    have HV:=Ad (show r=none by rw [← HR.o.1,C7];have:=HK.o.2;rw [List.take_length] at this;exact this);have r0:=Bd hA;have r1:=AY hA;have rz:=BI hA;have rr:=Au (.int .i64 0) (.int .i64 0) r0 r1;have HB:=Ad hW;clear hW hA;go_wp2;refine bodyPost_ret (v:=.tuple #[.agg #[.int .i64 0,.int .i64 0],.bool false]) (by simp [results,Tryz.results226,go_sem,rr.1,rr.2]) rfl ?_;exact ⟨by rw [HV.o];rfl,(HB.o.setCell Sp _).setCell Sp _⟩
theorem RY {S1 S2:Nat→Prop} (v1 v2:Value) (a:Aj) (w:World) (h1:RL w S1 v1 a.1) (h2:RL w S2 v2 a.2) (ha:Ah a=true) :
 Calls Tryz.prog 218 #[.agg #[v1,v2]] w fun e w'=>∃ x1 x2,e=.returned (.tuple #[.agg #[x1,x2],.bool true])∧(FE w' w.heap.size x1 (Ss a).1∧FE w' w.heap.size x2 (Ss a).2)∧Below w.heap.size w w':=by
 have hsz:=DY ha;obtain ⟨a1,a2⟩:=a;simp only at h1 h2 hsz;obtain ⟨p1,c1,rfl⟩:=h1.form;obtain ⟨p2,c2,rfl⟩:=h2.form;have hl1:(a1.length:Int)≤12:=by omega
 have hl2:(a2.length:Int)≤8:=by omega
 have hbA:=Ac (heap_alloc_new w (.cells #[.slice p1 a1.length c1,.slice p2 a2.length c2] 26)) (Aa _ (.cells #[.slice none 0 0,.slice none 0 0] 26));have hbR:=heap_alloc_new (w.alloc (.cells #[.slice p1 a1.length c1,.slice p2 a2.length c2] 26)) (.cells #[.slice none 0 0,.slice none 0 0] 26);rw [World.size_alloc] at hbR;have hB0:Below w.heap.size w ((w.alloc (.cells #[.slice p1 a1.length c1,.slice p2 a2.length c2] 26)).alloc (.cells #[.slice none 0 0,.slice none 0 0] 26)):=Bl;have H0:=Ad (An (An hbA hbR) (An hB0 ha));have HH:=Ad (An h1 h2);clear hbA hbR hB0 ha h1 h2 hsz;go_enter Tryz.func218,Tryz.ntmps218
 go_wp2_with fail
 refine (cb (Ar _ _ (a1,a2) _ (HH.o.1.keep H0.o.2.1) (HH.o.2.keep H0.o.2.1)) H0.o.2.2).mono ?_;rintro e w1 ⟨rfl,hb1⟩;have hX1:=Ac H0.o.1.1 hb1;have hR1:=Ac H0.o.1.2 hb1;have hW1:=bt H0.o.2.1 hb1;have H1:=Ad (An (An hX1 hR1) hW1);have z1:=hW1.size;have x0:=Bd hX1;have x1:=AY hX1;have hzl:=Ae hR1;clear hX1 hR1 hW1 hb1 H0;go_wp2;go_loopg [5] a1.length (fun q i wr=>∃ (k:Nat) (y1:Value),k+q=a1.length∧i=.int .i64 k∧DB w wr (w.heap.size+1) w1.heap.size y1 (.slice none 0 0) (NS (a1.take k)) []∧wr.heap[w.heap.size]?=some (.cells #[.slice p1 a1.length c1,.slice p2 a2.length c2] 26 (0,0)))
 case atStart=>exact ⟨0,_,by omega,rfl,DB.mkA (FE.nil _ _ _) (FE.nil _ _ _) H1.o.1.2 H1.o.2 rfl,Ac H1.o.1.1 (Aa _ _)⟩
 case round =>
  obtain ⟨wo,rfl⟩:∃ wo:World,wo=wr:=⟨_,rfl⟩;obtain ⟨gm,hgm⟩:=Ey (gk - 1);obtain ⟨k,y1,hk,rfl,D,hBX⟩:=hrel;clear x0 x1;obtain ⟨L,hL⟩:=Ex (NS (a1.take k));have hLk:=NU a1 k;rw [hL] at D hLk;obtain ⟨ua1,uc1,rfl⟩:=D.f.form;obtain ⟨x0,x1,xl⟩:=B3 hBX;have hwz:=D.fr.size;have hbo:=Ae D.boxA;by_cases hk8:k < a1.length
  · have hki:(k:Int) < (a1.length:Int):=by omega
    (have hLi:(L.length:Int)≤12:=by omega);have hst:=NT hk8;obtain ⟨qa,qc,hqe,_,_,hqf⟩:=(HH.o.1.keep D.fr).factAt;simp only [Value.slice.injEq] at hqe;obtain ⟨rfl,_,rfl⟩:=hqe;obtain ⟨b1,o1,rfl,_,hz1,hp1,hp2,hp3⟩:=hqf k hk8;obtain ⟨X,hX⟩:=Ex (gd a1 k);obtain ⟨X1,X2,X3⟩:=X;rw [hX] at hp1 hp2 hp3 hst;rw [hL] at hst;simp only at hp1 hp2 hp3;have HK:=Ad (An hk (An hst hLk));clear hqf hX hL hk hst hLk;have HD:=Ad (An D hBX);clear D hBX;cases hidf:VY (X1,X2,X3) with
    | true =>
      (have hn:NS (a1.take (k+1))=L:=by rw [HK.o.2.1,Do,if_pos hidf]);simp only [VY,Bool.and_eq_true] at hidf;obtain ⟨rfl,hxe⟩:=hidf;have HN:=Ad hn;clear hn;go_wp2;go_roundg (gk - 1)
      case rel=>exact ⟨k+1,_,by have:=HK.o.1;omega,by go_num,by rw [HN.o];exact HD.o.1.keep (Aa _ _),Ac HD.o.2 (Aa _ _)⟩
      case measure=>have:=HK.o.1;omega
    | false =>
      obtain ⟨Z,hZ⟩:=Ex (KE (X1,X2,X3));(have hn:NS (a1.take (k+1))=if L.any (· == Z)=true then L else L ++ [Z]:=by rw [HK.o.2.1,Do,if_neg (by rw [hidf];decide),hZ]);have hord:(X3 < X2∧Z=(X1,X3,X2))∨(¬ X3 < X2∧Z=(X1,X2,X3)):=by
       rw [KE] at hZ;by_cases h:X3 < X2
       · rw [if_pos h] at hZ;exact .inl ⟨h,hZ.symm⟩
       · rw [if_neg h] at hZ;exact .inr ⟨h,hZ.symm⟩
      obtain ⟨Z1,Z2,Z3⟩:=Z;simp only [Prod.mk.injEq] at hord;have HN:=Ad (An hn hord);clear hn hord hZ;have hcase:X1=false∨(X1=true∧(X2 == X3)=false):=by
       simp only [VY] at hidf;cases X1 with
       | false=>exact .inl rfl
       | true=>exact .inr ⟨rfl,hidf⟩
      clear hidf;rcases hcase with rfl | ⟨rfl,hxe⟩
      all_goals
       go_upto_if 40 with fail
       go_cut [] from 15 to 72 (fun wc=>wc.heap[wo.heap.size]?=some (.cells #[.bool Z1,.int .i64 Z2,.int .i64 Z3] 61 (0,0))∧Below wo.heap.size wo wc)
       case first =>
        rcases HN.o.2 with ⟨hlt,rfl,rfl,rfl⟩ | ⟨hlt,rfl,rfl,rfl⟩
        · go_wp2
          go_meet
          case rel=>exact ⟨heap_alloc_new _ _,Aa _ _⟩
        · go_wp2
          go_meet
          case rel=>exact ⟨heap_alloc_new _ _,Aa _ _⟩
       case rest =>
        obtain ⟨hZc,hbc⟩:=hcut;have HD2:=Ad (An (HD.o.1.keep hbc) (Ac HD.o.2 hbc));have g0:=Lp hZc;have g1:=JZ hZc;have g2:=J0 hZc;have gz:=Ae hZc;have hbo2:=Ae HD2.o.1.boxA;have d0:=Bd HD2.o.1.boxA;have HZ:=Ad hZc;clear hZc hbc x0 x1 hp1 hp2 hp3;go_wp2;go_loopg [7,8] L.length (fun q x i wi=>∃ (j:Nat) (o:Bool),j+q=L.length∧i=.int .i64 j∧x=.bool o∧o=(L.take j).any (· == (Z1,Z2,Z3))∧Below wc.heap.size wc wi)
        case atStart=>exact ⟨0,false,by omega,rfl,rfl,by simp,Below.refl _ _⟩
        case round =>
         obtain ⟨j,o,hj,rfl,rfl,ho,hbi⟩:=hrel;have HJ:=Ad (An hj ho);have HD3:=Ad (An (HD2.o.1.keep hbi) (Ac HD2.o.2 hbi));replace g0:=Ab hbi g0;replace g1:=Ab hbi g1;replace g2:=Ab hbi g2;have gz:=Ae (Ac HZ.o hbi);have hbo3:=Ae HD3.o.1.boxA;have e0:=Bd HD3.o.1.boxA;clear hj ho d0;by_cases hj8:j < L.length
         · have hji:(j:Int) < (L.length:Int):=by omega
           obtain ⟨qa,qc,hqe,_,_,hqf⟩:=HD3.o.1.f.rl.factAt;simp only [Value.slice.injEq] at hqe;obtain ⟨rfl,_,rfl⟩:=hqe;obtain ⟨b2,o2,rfl,_,hz2,hq1,hq2,hq3⟩:=hqf j hj8;have hnx:=LV (p:=fun y=>y == (Z1,Z2,Z3)) hj8;rw [← HJ.o.2] at hnx;obtain ⟨Y,hY⟩:=Ex (gd L j);obtain ⟨Y1,Y2,Y3⟩:=Y;rw [hY] at hq1 hq2 hq3 hnx;simp only [NX] at hq1 hq2 hq3 hnx;have HX:=Ad hnx;clear hqf hY hnx;(have hstp:∀ b:Bool,b=(Y1 == Z1 && (Y2 == Z2 && Y3 == Z3))→(L.take (j+1)).any (fun y=>y == (Z1,Z2,Z3))=(o || b):=fun b e=>by rw [e];exact HX.o);have HS:=Ad hstp;clear hstp;cases o with
           | true =>
             go_wp2;refine Af Kr Kr ?_;repeat (go_big_quiet_step ((fail)))
             refine wpQuiet_nil ?_;intro w9 hb9;have HB9:=Ad (bt hbi hb9);clear hb9;go_wp2;go_roundg (gk - 1)
             case rel=>exact ⟨j+1,true,by have:=HJ.o.1;omega,by go_num,rfl,(HS.o _ rfl).symm,HB9.o⟩
             case measure=>have:=HJ.o.1;omega
           | false =>
             have hc4:(Y1 == Z1)=false∨((Y1 == Z1)=true∧(Y2 == Z2)=false)∨((Y1 == Z1)=true∧(Y2 == Z2)=true∧(Y3 == Z3)=false)∨((Y1 == Z1)=true∧(Y2 == Z2)=true∧(Y3 == Z3)=true):=by
              cases (Y1 == Z1) <;> cases (Y2 == Z2) <;> cases (Y3 == Z3) <;> simp
             rcases hc4 with e1 | ⟨e1,e2⟩ | ⟨e1,e2,e3⟩ | ⟨e1,e2,e3⟩
             · have HV:=Ad (HS.o false (by rw [e1];rfl))
               go_wp2;refine Af Kr Kr ?_;repeat (go_big_quiet_step ((fail)))
               refine wpQuiet_nil ?_;intro w9 hb9;have HB9:=Ad (bt hbi hb9);clear hb9;go_wp2;go_roundg (gk - 1)
               case rel=>exact ⟨j+1,false,by have:=HJ.o.1;omega,by go_num,rfl,HV.o.symm,HB9.o⟩
               case measure=>have:=HJ.o.1;omega
             · have HV:=Ad (HS.o false (by rw [e1,e2];rfl))
               go_wp2;refine Af Kr Kr ?_;repeat (go_big_quiet_step ((fail)))
               refine wpQuiet_nil ?_;intro w9 hb9;have HB9:=Ad (bt hbi hb9);clear hb9;go_wp2;go_roundg (gk - 1)
               case rel=>exact ⟨j+1,false,by have:=HJ.o.1;omega,by go_num,rfl,HV.o.symm,HB9.o⟩
               case measure=>have:=HJ.o.1;omega
             · have HV:=Ad (HS.o false (by rw [e1,e2,e3];rfl))
               go_wp2;refine Af Kr Kr ?_;repeat (go_big_quiet_step ((fail)))
               refine wpQuiet_nil ?_;intro w9 hb9;have HB9:=Ad (bt hbi hb9);clear hb9;go_wp2;go_roundg (gk - 1)
               case rel=>exact ⟨j+1,false,by have:=HJ.o.1;omega,by go_num,rfl,HV.o.symm,HB9.o⟩
               case measure=>have:=HJ.o.1;omega
             · have HV:=Ad (HS.o true (by rw [e1,e2,e3];rfl))
               go_wp2;refine Af Kr Kr ?_;repeat (go_big_quiet_step ((fail)))
               refine wpQuiet_nil ?_;intro w9 hb9;have HB9:=Ad (bt hbi hb9);clear hb9;go_wp2;go_roundg (gk - 1)
               case rel=>exact ⟨j+1,true,by have:=HJ.o.1;omega,by go_num,rfl,HV.o.symm,HB9.o⟩
               case measure=>have:=HJ.o.1;omega
         · obtain rfl:j=L.length:=by have:=HJ.o.1;omega
           (have hany:L.any (fun y=>y == (Z1,Z2,Z3))=o:=by have:=HJ.o.2;rw [List.take_length] at this;exact this.symm);have hn2:=HN.o.1;rw [hany] at hn2;have HM:=Ad (An hn2 HK.o.2.2);clear hany hn2;cases o with
           | true =>
             go_wp2;go_roundg gm
             case rel=>exact ⟨k+1,_,by have:=HK.o.1;omega,by go_num,by rw [HM.o.1];exact HD3.o.1,HD3.o.2⟩
             case measure=>have:=HK.o.1;omega
           | false =>
             have hlk:=HM.o.2;go_wp2_with (at_builtin;go_must (refine Ez (l:=L) (m:=[((Z1,Z2,Z3):Ap)]) (B:=w.heap.size) (by rfl) (.tmp 68) (.tmp 70) _ (by rfl) A0 (by rfl) (HD3.o.1.f.keep (Aa _ _)) (by rfl) (Bm _ _ _ _ _) (by simp;omega) (by simp;omega) ?_;intro v' w7 o7 hf7;obtain ⟨a7,n7,c7,rfl⟩:=o7.forms;have hA7:=AM (Ac HD3.o.1.boxA (Aa wr (.cells #[.bool Z1,.int .i64 Z2,.int .i64 Z3] 61))) hf7 Dc;have hb0:=Bd hA7;have hbz:=BI hA7 0;have hbl7:=Ae hA7;clear hA7))
             have hkp:=Aa wr (.cells #[.bool Z1,.int .i64 Z2,.int .i64 Z3] 61);have D9:=(HD3.o.1.keep hkp).app1 Om Om o7 hf7;have hB9:=Ax (AM (Ac HD3.o.2 hkp) hf7 Dc) ⟨w1.heap.size,0,none⟩ (.slice a7 n7 c7) (by show ¬ w.heap.size=w1.heap.size;omega);have H9:=Ad (An D9 hB9);clear D9 hB9 o7 hf7 hkp;go_wp2;go_roundg gm
             case rel=>exact ⟨k+1,_,by have:=HK.o.1;omega,by go_num,by rw [HM.o.1];exact H9.o.1,H9.o.2⟩
             case measure=>have:=HK.o.1;omega
  · obtain rfl:k=a1.length:=by omega
    rw [List.take_length] at hL;(have hLl:L.length≤12:=by omega);obtain ⟨wm,rfl⟩:∃ wm:World,wm=wo:=⟨_,rfl⟩;have HD0:=Ad (An D hBX);have HL:=Ad hL;clear D hBX hL hk;go_wp2;clear x0 x1 xl;go_loopg [9] a2.length (fun q i wr=>∃ (n:Nat) (y2:Value),n+q=a2.length∧i=.int .i64 n∧DB w wr (w.heap.size+1) w1.heap.size (.slice ua1 L.length uc1) y2 L (O5 (a2.take n))∧wr.heap[w.heap.size]?=some (.cells #[.slice p1 a1.length c1,.slice p2 a2.length c2] 26 (0,0)))
    case atStart=>exact ⟨0,_,by omega,rfl,HD0.o.1,HD0.o.2⟩
    case round =>
     obtain ⟨n,y2,hn,rfl,D,hBX⟩:=hrel;obtain ⟨M,hM⟩:=Ex (O5 (a2.take n));have hMn:=NW a2 n;rw [hM] at D hMn;obtain ⟨ua2,uc2,rfl⟩:=D.a.form;by_cases hn8:n < a2.length
     · have hni:(n:Int) < (a2.length:Int):=by omega
       obtain ⟨x0,x1,xl⟩:=B3 hBX;have hwz:=D.fr.size;have hbo:=Ae D.boxA;have hst:=NV hn8;obtain ⟨qa,qc,hqe,_,_,hqf⟩:=(HH.o.2.keep D.fr).atomAt;simp only [Value.slice.injEq] at hqe;obtain ⟨rfl,_,rfl⟩:=hqe;obtain ⟨b1,o1,rfl,_,hz1,hp1,hp2,hp3⟩:=hqf n hn8;obtain ⟨X,hX⟩:=Ex (gd a2 n);obtain ⟨X1,X2,X3⟩:=X;rw [hX] at hp1 hp2 hp3 hst;rw [hM] at hst;simp only at hp1 hp2 hp3 hst;have HN:=Ad (An hn (An hst hMn));have HD:=Ad (An D hBX);have HP:=Ad (An hp1 (An hp2 hp3));clear hqf hX hM hn hst hMn D hBX;have hcase:((X1 == 1)=false∧(X2 != X3)=false)∨(X1 == 1)=true∨((X1 == 1)=false∧(X2 != X3)=true):=by
        cases (X1 == 1) <;> cases (X2 != X3) <;> simp
       rcases hcase with ⟨e1,e2⟩ | e1 | ⟨e1,e2⟩
       · have hnx:O5 (a2.take (n+1))=M:=by rw [HN.o.2.1,e1,e2];simp
         have HX:=Ad hnx;clear hnx;go_wp2;refine Af Kr Kr ?_;repeat (go_big_quiet_step ((fail)))
         refine wpQuiet_nil ?_;intro w9 hb9;have HB:=Ad (An (HD.o.1.keep hb9) (Ac HD.o.2 hb9));clear hb9;go_wp2;go_roundg (gk - 1)
         case rel=>exact ⟨n+1,_,by have:=HN.o.1;omega,by go_num,by rw [HX.o];exact HB.o.1,HB.o.2⟩
         case measure=>have:=HN.o.1;omega
       all_goals
        (have hnx:O5 (a2.take (n+1))=M ++ [(X1,X2,X3)]:=by rw [HN.o.2.1];first | (rw [e1,e2];simp;done) | (rw [e1];simp));have HX:=Ad hnx;clear hnx;go_wp2;refine Af Kr Kr ?_;repeat (go_big_quiet_step ((fail)))
        refine wpQuiet_nil ?_;intro w9 hb9;clear hp1 hp2 hp3 x0 x1 xl;have HB:=Ad (An (HD.o.1.keep hb9) (Ac HD.o.2 hb9));have hp1:=Ab hb9 HP.o.1;have hp2:=Ab hb9 HP.o.2.1;have hp3:=Ab hb9 HP.o.2.2;obtain ⟨x0,x1,xl⟩:=B3 HB.o.2;have hz9:=hb9.size;have d1:=AY HB.o.1.boxA;have dz:=BI HB.o.1.boxA 1;have dl:=Ae HB.o.1.boxA;have hlk:=HN.o.2.2;clear hb9;go_wp2;go_region_law (first
         | (refine DH (l:=M) (m:=[((X1,X2,X3):Am)]) (B:=w.heap.size) (by rfl) (.tmp 103) (.tmp 109) _ (by rfl) A3 (by rfl) (HB.o.1.a.keep Bl) (by rfl) (BB _ _ _ _ _) (by simp;omega) (by simp;omega) ?_;intro v' w7 o7 hf7;obtain ⟨a7,n7,c7,rfl⟩:=o7.forms;have hA7:=AM (Ac HB.o.1.boxA (w':=w9.drew.alloc (.cells #[.int .i64 X1,.int .i64 X2,.int .i64 X3] 118)) Bl) hf7 Dc;have hb0:=AY hA7;have hbz:=BI hA7 1;have hbl7:=Ae hA7;clear hA7)
         | fail)
        all_goals
         have hkp:Below w9.heap.size w9 (w9.drew.alloc (.cells #[.int .i64 X1,.int .i64 X2,.int .i64 X3] 118)):=Bl;have D9:=(HB.o.1.keep hkp).app2 Om Om o7 hf7;have hB9:=Ax (AM (Ac HB.o.2 hkp) hf7 Dc) ⟨w1.heap.size,1,none⟩ (.slice a7 n7 c7) (by show ¬ w.heap.size=w1.heap.size;omega);have H9:=Ad (An D9 hB9);clear D9 hB9 o7 hf7 hkp;go_wp2;go_roundg (gk - 1)
         case rel=>exact ⟨n+1,_,by have:=HN.o.1;omega,by go_num,by rw [HX.o];exact H9.o.1,H9.o.2⟩
         case measure=>have:=HN.o.1;omega
     · obtain rfl:n=a2.length:=by omega
       rw [List.take_length] at hM;have x0:=Bd hBX;have x1:=AY hBX;obtain ⟨b0,b1,bz,bl⟩:=B4 D.boxA;obtain ⟨r0,r1,rz,rl⟩:=B4 D.boxR;have r:=Au (.slice ua1 L.length uc1) (.slice ua2 M.length uc2) r0 r1;have HO:=Ad (An hM (D.done Om (.slice ua1 L.length uc1) (.slice ua2 M.length uc2)));clear D hBX hM hn;go_wp2;refine bodyPost_ret (v:=.tuple #[.agg #[.slice ua1 L.length uc1,.slice ua2 M.length uc2],.bool true]) (by simp [results,Tryz.results218,go_sem,r.1,r.2]) rfl ?_;exact ⟨_,_,rfl,by rw [Ss,HL.o,HO.o.1];exact HO.o.2.1,HO.o.2.2⟩
end Go.Proofs.YtkbbmjcfgcfejaaGreat
