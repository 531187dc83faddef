/- Walks: which programs are valid (the program's ProgramValid). (Printed by gen_vali.py.) -/
import Derived.Test.YtkbbmjcfgcfejaaGreatLMu8
set_option linter.unusedVariables false
set_option linter.unusedSimpArgs false
set_option maxRecDepth 100000
set_option maxHeartbeats 12800000
namespace Go.Proofs.YtkbbmjcfgcfejaaGreat
open Go.RowKit
theorem GC (n:Int) (w:World) :
 Calls Tryz.prog 146 #[.int .i64 n] w fun e w'=>e=.returned (.bool (BP n))∧w=w':=by
 by_cases h1:1≤n
 · by_cases h2:n≤4
   all_goals
    go_enter Tryz.func146,Tryz.ntmps146
    go_wp2;go_ret;simp [BP,h1,h2]
 · go_enter Tryz.func146,Tryz.ntmps146
   go_wp2;go_ret;simp [BP];omega
def Fs (K:Int):Bool:=decide (1≤K) && decide (K≤5)
theorem Nh (K A B t2 t3:Int) (t1:Bool) (a1 a2 a3 a4:Option Addr) (n1 n2 nb ne c1 c2 c3 c4:Nat) (w:World) :
 Calls Tryz.prog 253 #[.agg #[.int .i64 K,.int .i64 A,.int .i64 B,.bool t1,.int .i64 t2,.int .i64 t3,.slice a1 n1 c1,.slice a2 n2 c2,.slice a3 nb c3,.slice a4 ne c4]] w fun e w'=>e=.returned (.bool (Fs K))∧Below w.heap.size w w':=by
 by_cases h1:1≤K
 · by_cases h2:K≤5
   all_goals
    go_enter Tryz.func253,Tryz.ntmps253
    go_wp2;go_ret;exact ⟨by first | (simp [Fs,h1,h2];done) | (simp [Fs];omega),Aa _ _⟩
 · go_enter Tryz.func253,Tryz.ntmps253
   go_wp2;go_ret;exact ⟨by first | (simp [Fs,h1];done) | (simp [Fs];omega),Aa _ _⟩
theorem Lf {S1 S2:Nat→Prop} (v1 v2:Value) (a:Pr) (w:World) (h1:RL w S1 v1 a.1) (h2:RL w S2 v2 a.2) :
 Calls Tryz.prog 254 #[.agg #[v1,v2]] w fun e w'=>e=.returned (.bool (C3 a))∧Below w.heap.size w w':=by
 obtain ⟨a1,c1,rfl⟩:=h1.form;obtain ⟨a2,c2,rfl⟩:=h2.form;have hm1:a.1.length≤maxLen:=by have:=h1.len;omega
 have hm2:a.2.length≤maxLen:=by have:=h2.len;omega
 by_cases e1:a.1.length=0
 · by_cases e2:a.2.length=0
   all_goals
    go_enter Tryz.func254,Tryz.ntmps254
    go_wp2;go_ret;exact ⟨by simp [C3,e1,e2],Aa _ _⟩
 · go_enter Tryz.func254,Tryz.ntmps254
   go_wp2;go_ret;exact ⟨by simp [C3,e1],Aa _ _⟩
def Dw (t:Ap) (i:Pr) (nb ne:Nat):Bool:=Ib t && (C3 i && (decide (nb=0) && decide (ne=0)))
theorem Qq {d:Nat} {c:Cm (d+1)} (hk:Fs c.kind=true) (hp:Dw c.test c.inv c.body.length c.els.length=false):AI c=false:=by
 have h1:1≤c.kind∧c.kind≤5:=by simpa [Fs] using hk
 rw [AI,if_neg Om,if_neg Om,Bs];unfold Dw at hp;cases e1:Ib c.test
 · rfl
 · cases e2:C3 c.inv
   · rfl
   · rw [e1,e2] at hp
     simp only [Bool.true_and,Bool.and_eq_false_iff] at hp ⊢;rcases hp with h | h
     · exact .inl h
     · exact .inr (.inl h)
theorem Dx {d:Nat} {c:Cm (d+1)} (hk:Fs c.kind=true) (hp:Dw c.test c.inv c.body.length c.els.length=true) :
 AI c=(((decide (c.kind=1) || decide (c.kind=2)) && (BP c.a && Al c.b)) || ((decide (c.kind=3) && (Al c.a && Al c.b)) || ((decide (c.kind=4) && (BP c.a && decide (c.b=0))) || (decide (c.kind=5) && (Al c.a && decide (c.b=0)))))):=by
 have h1:1≤c.kind∧c.kind≤5:=by simpa [Fs] using hk
 rw [AI,if_neg Om,if_neg Om,Bs];simp only [Dw,Bool.and_eq_true] at hp;rw [hp.1,hp.2.1,hp.2.2.1,hp.2.2.2];simp only [Bool.true_and]
theorem OT {d:Nat} {S1 S2:Nat→Prop} (c:Cm (d+1)) (f1 f2 x y:Value) (w:World) (h1:RL w S1 f1 c.inv.1) (h2:RL w S2 f2 c.inv.2) (hx:∃ a k,x=.slice a c.body.length k) (hy:∃ a k,y=.slice a c.els.length k) (hlb:c.body.length≤maxLen) (hle:c.els.length≤maxLen) :
 Calls Tryz.prog 210 #[.agg #[.int .i64 c.kind,.int .i64 c.a,.int .i64 c.b,.bool c.test.1,.int .i64 c.test.2.1,.int .i64 c.test.2.2,f1,f2,x,y]] w fun e w'=>e=.returned (.bool (AI c))∧Below w.heap.size w w':=by
 obtain ⟨a1,c1,rfl⟩:=h1.form;obtain ⟨a2,c2,rfl⟩:=h2.form;obtain ⟨a3,c3,rfl⟩:=hx;obtain ⟨a4,c4,rfl⟩:=hy;unfold maxLen at hlb hle;obtain ⟨R,hR⟩:=Ex (AI c);have HH:=Ad hR;rw [hR];obtain ⟨K,hK⟩:∃ z,c.kind=z:=⟨_,rfl⟩;obtain ⟨A,hA⟩:∃ z,c.a=z:=⟨_,rfl⟩;obtain ⟨B,hB⟩:∃ z,c.b=z:=⟨_,rfl⟩;obtain ⟨t1,ht1⟩:∃ z,c.test.1=z:=⟨_,rfl⟩;obtain ⟨t2,ht2⟩:∃ z,c.test.2.1=z:=⟨_,rfl⟩;obtain ⟨t3,ht3⟩:∃ z,c.test.2.2=z:=⟨_,rfl⟩;obtain ⟨n1,hn1⟩:∃ z,c.inv.1.length=z:=⟨_,rfl⟩;obtain ⟨n2,hn2⟩:∃ z,c.inv.2.length=z:=⟨_,rfl⟩;obtain ⟨nb,hnb⟩:∃ z,c.body.length=z:=⟨_,rfl⟩;obtain ⟨ne,hne⟩:∃ z,c.els.length=z:=⟨_,rfl⟩;have htt:c.test=(t1,t2,t3):=by rw [← ht1,← ht2,← ht3]
 have HL:=Ad (An (An hK (An hA hB)) (An htt (An hnb hne)));have hbA:=Aa w (.cells #[.int .i64 K,.int .i64 A,.int .i64 B,.bool t1,.int .i64 t2,.int .i64 t3,.slice a1 n1 c1,.slice a2 n2 c2,.slice a3 nb c3,.slice a4 ne c4] 63);have hC:=heap_alloc_new w (.cells #[.int .i64 K,.int .i64 A,.int .i64 B,.bool t1,.int .i64 t2,.int .i64 t3,.slice a1 n1 c1,.slice a2 n2 c2,.slice a3 nb c3,.slice a4 ne c4] 63);rw [hn1] at h1;rw [hn2] at h2;have HR:=Ad (An h1 h2);have HC:=Ad (An hC hbA);rw [hnb] at hlb;rw [hne] at hle;rw [hK,hA,hB,ht1,ht2,ht3,hn1,hn2,hnb,hne];clear h1 h2 hK hA hB ht1 ht2 ht3 htt hn1 hn2 hnb hne hR hC hbA;go_enter Tryz.func210,Tryz.ntmps210
 go_upto_region 1 with fail
 go_cut [28] from 3 to 27 (fun s wc=>s=.bool (Fs K && !Dw (t1,t2,t3) c.inv nb ne)∧wc.heap[w.heap.size]?=some (.cells #[.int .i64 K,.int .i64 A,.int .i64 B,.bool t1,.int .i64 t2,.int .i64 t3,.slice a1 n1 c1,.slice a2 n2 c2,.slice a3 nb c3,.slice a4 ne c4] 63 (0,0))∧Below w.heap.size w wc)
 case first =>
  go_wp2_with fail
  refine (Nh _ _ _ _ _ _ _ _ _ _ _ _ _ _ _ _ _ _ _).mono ?_;rintro e w2 ⟨rfl,hb2⟩;have hC2:=Ac HC.o.1 hb2;have HC2:=Ad (An hC2 (bt HC.o.2 hb2));obtain ⟨q0,q1,q2,q3,q4,q5,q6,q7,q8,q9⟩:=Dk hC2;have hCz:=Ae hC2;clear hC2 hb2;cases ek:Fs K
  · have EK:=Ad ek
    go_wp2;go_meet
    case rel=>exact ⟨by rw [EK.o];rfl,HC2.o.1,HC2.o.2⟩
  · have EK:=Ad ek
    cases t1
    · by_cases z2:t2=0
      · have y2:(t2 == 0)=true:=by simp [z2]
        by_cases z3:t3=0
        · have y3:(t3 == 0)=true:=by simp [z3]
          subst z2 z3;(go_wp2_with fail);refine (Lf _ _ c.inv _ (HR.o.1.keep HC2.o.2) (HR.o.2.keep HC2.o.2)).mono ?_;rintro e w3 ⟨rfl,hb3⟩;have hC3:=Ac HC2.o.1 hb3;have HC3:=Ad (An hC3 (bt HC2.o.2 hb3));obtain ⟨r0,r1,r2,r3,r4,r5,r6,r7,r8,r9⟩:=Dk hC3;clear hC3 hb3;clear q0 q1 q2 q3 q4 q5 q6 q7 q8 q9;(have hnf:Ib (false,0,0)=true:=by decide);cases ei:C3 c.inv
          · have HE:=Ad ei
            go_wp2;go_meet
            case rel=>exact ⟨by simp [Dw,HE.o,EK.o],HC3.o.1,HC3.o.2⟩
          · have HE:=Ad ei
            by_cases zb:nb=0
            · have ZB:=Ad zb
              (have kb:decide (0 < nb)=false:=by simp [zb]);clear zb;by_cases ze:ne=0
              · have ZE:=Ad ze
                (have ke:decide (0 < ne)=false:=by simp [ze]);clear ze;go_wp2;go_meet
                case rel=>exact ⟨by simp [Dw,HE.o,ZB.o,ZE.out,Ib,EK.o],HC3.o.1,HC3.o.2⟩
              · have ZE:=Ad ze
                (have ke:decide (0 < ne)=true:=by simp;omega);clear ze;go_wp2;go_meet
                case rel=>exact ⟨by simp [Dw,HE.o,ZB.o,ZE.out,Ib,EK.o],HC3.o.1,HC3.o.2⟩
            · have ZB:=Ad zb
              (have kb:decide (0 < nb)=true:=by simp;omega);clear zb;go_wp2;go_meet
              case rel=>exact ⟨by simp [Dw,HE.o,ZB.o,Ib,EK.o],HC3.o.1,HC3.o.2⟩
        · have y3:(t3 == 0)=false:=by simp [z3]
          have Z3:=Ad z3;clear z3;subst z2;go_wp2;go_meet
          case rel=>exact ⟨by simp [Dw,Ib,Z3.o,EK.o],HC2.o.1,HC2.o.2⟩
      · have y2:(t2 == 0)=false:=by simp [z2]
        have Z2:=Ad z2;clear z2;go_wp2;go_meet
        case rel=>exact ⟨by simp [Dw,Ib,Z2.o,EK.o],HC2.o.1,HC2.o.2⟩
    · go_wp2
      go_meet
      case rel=>exact ⟨by simp [Dw,Ib,EK.o],HC2.o.1,HC2.o.2⟩
 case rest =>
  obtain ⟨rfl,hC,hb⟩:=hcut;have HC2:=Ad (An hC hb);have hCz:=Ae hC;obtain ⟨q0,q1,q2,q3,q4,q5,q6,q7,q8,q9⟩:=Dk hC;clear hC hb;cases ep:(Fs K && !Dw (t1,t2,t3) c.inv nb ne)
  · have HP:=Ad (show Fs c.kind=true→Dw c.test c.inv c.body.length c.els.length=true by
     intro h;rw [HL.o.1.1] at h;rw [HL.o.2.1,HL.o.2.2.1,HL.o.2.2.2];rw [h] at ep;simpa using ep)
    clear ep;by_cases z1:K=1
    · have y1:(K == 1)=true:=by simp [z1]
      have Z1:=Ad z1;have HX:=Ad (Dx (c:=c) (by rw [HL.o.1.1,Z1.o];decide) (HP.o (by rw [HL.o.1.1,Z1.o];decide)));clear z1;(go_wp2_with fail);refine (GC A _).mono ?_;rintro e w3 ⟨rfl,rfl⟩;cases e3:BP A
      · have H3:=Ad e3
        go_wp2;go_ret;exact ⟨by rw [← HH.o,HX.o,HL.o.1.1,HL.o.1.2.1,HL.o.1.2.2];simp [Z1.o,H3.o],HC2.o.2⟩
      · have H3:=Ad e3
        (go_wp2_with fail);refine (Bc B _).mono ?_;rintro e w4 ⟨rfl,rfl⟩;go_wp2;go_ret;exact ⟨by rw [← HH.o,HX.o,HL.o.1.1,HL.o.1.2.1,HL.o.1.2.2];simp [Z1.o,H3.o],HC2.o.2⟩
    have Z1:=Ad z1;(have y1:(K == 1)=false:=by simp [z1]);clear z1;by_cases z2:K=2
    · have y2:(K == 2)=true:=by simp [z2]
      have Z2:=Ad z2;have HX:=Ad (Dx (c:=c) (by rw [HL.o.1.1,Z2.o];decide) (HP.o (by rw [HL.o.1.1,Z2.o];decide)));clear z2;(go_wp2_with fail);refine (GC A _).mono ?_;rintro e w3 ⟨rfl,rfl⟩;cases e3:BP A
      · have H3:=Ad e3
        go_wp2;go_ret;exact ⟨by rw [← HH.o,HX.o,HL.o.1.1,HL.o.1.2.1,HL.o.1.2.2];simp [Z2.o,H3.o],HC2.o.2⟩
      · have H3:=Ad e3
        (go_wp2_with fail);refine (Bc B _).mono ?_;rintro e w4 ⟨rfl,rfl⟩;go_wp2;go_ret;exact ⟨by rw [← HH.o,HX.o,HL.o.1.1,HL.o.1.2.1,HL.o.1.2.2];simp [Z2.o,H3.o],HC2.o.2⟩
    have Z2:=Ad z2;(have y2:(K == 2)=false:=by simp [z2]);clear z2;by_cases z3:K=3
    · have y3:(K == 3)=true:=by simp [z3]
      have Z3:=Ad z3;have HX:=Ad (Dx (c:=c) (by rw [HL.o.1.1,Z3.o];decide) (HP.o (by rw [HL.o.1.1,Z3.o];decide)));clear z3;(go_wp2_with fail);refine (Bc A _).mono ?_;rintro e w3 ⟨rfl,rfl⟩;cases e3:Al A
      · have H3:=Ad e3
        go_wp2;go_ret;exact ⟨by rw [← HH.o,HX.o,HL.o.1.1,HL.o.1.2.1,HL.o.1.2.2];simp [Z3.o,H3.o],HC2.o.2⟩
      · have H3:=Ad e3
        (go_wp2_with fail);refine (Bc B _).mono ?_;rintro e w4 ⟨rfl,rfl⟩;go_wp2;go_ret;exact ⟨by rw [← HH.o,HX.o,HL.o.1.1,HL.o.1.2.1,HL.o.1.2.2];simp [Z3.o,H3.o],HC2.o.2⟩
    have Z3:=Ad z3;(have y3:(K == 3)=false:=by simp [z3]);clear z3;by_cases z4:K=4
    · have y4:(K == 4)=true:=by simp [z4]
      have Z4:=Ad z4;have HX:=Ad (Dx (c:=c) (by rw [HL.o.1.1,Z4.o];decide) (HP.o (by rw [HL.o.1.1,Z4.o];decide)));clear z4;(go_wp2_with fail);refine (GC A _).mono ?_;rintro e w3 ⟨rfl,rfl⟩;cases e3:BP A
      · have H3:=Ad e3
        go_wp2;go_ret;exact ⟨by rw [← HH.o,HX.o,HL.o.1.1,HL.o.1.2.1,HL.o.1.2.2];simp [Z4.o,H3.o],HC2.o.2⟩
      · have H3:=Ad e3
        by_cases zb:B=0
        · have yb:(B == 0)=true:=by simp [zb]
          have ZB:=Ad zb;clear zb;go_wp2;go_ret;exact ⟨by rw [← HH.o,HX.o,HL.o.1.1,HL.o.1.2.1,HL.o.1.2.2];simp [Z4.o,H3.o,ZB.o],HC2.o.2⟩
        · have yb:(B == 0)=false:=by simp [zb]
          have ZB:=Ad zb;clear zb;go_wp2;go_ret;exact ⟨by rw [← HH.o,HX.o,HL.o.1.1,HL.o.1.2.1,HL.o.1.2.2];simp [Z4.o,H3.o,ZB.o],HC2.o.2⟩
    have Z4:=Ad z4;(have y4:(K == 4)=false:=by simp [z4]);clear z4;by_cases z5:K=5
    · have y5:(K == 5)=true:=by simp [z5]
      have Z5:=Ad z5;have HX:=Ad (Dx (c:=c) (by rw [HL.o.1.1,Z5.o];decide) (HP.o (by rw [HL.o.1.1,Z5.o];decide)));clear z5;(go_wp2_with fail);refine (Bc A _).mono ?_;rintro e w3 ⟨rfl,rfl⟩;cases e3:Al A
      · have H3:=Ad e3
        go_wp2;go_ret;exact ⟨by rw [← HH.o,HX.o,HL.o.1.1,HL.o.1.2.1,HL.o.1.2.2];simp [Z5.o,H3.o],HC2.o.2⟩
      · have H3:=Ad e3
        by_cases zb:B=0
        · have yb:(B == 0)=true:=by simp [zb]
          have ZB:=Ad zb;clear zb;go_wp2;go_ret;exact ⟨by rw [← HH.o,HX.o,HL.o.1.1,HL.o.1.2.1,HL.o.1.2.2];simp [Z5.o,H3.o,ZB.o],HC2.o.2⟩
        · have yb:(B == 0)=false:=by simp [zb]
          have ZB:=Ad zb;clear zb;go_wp2;go_ret;exact ⟨by rw [← HH.o,HX.o,HL.o.1.1,HL.o.1.2.1,HL.o.1.2.2];simp [Z5.o,H3.o,ZB.o],HC2.o.2⟩
    have Z5:=Ad z5;(have y5:(K == 5)=false:=by simp [z5]);clear z5;by_cases z6:K=6
    · have y6:(K == 6)=true:=by simp [z6]
      have Z6:=Ad z6;clear z6;have HX:=Ad (show AI c=(decide (A=0) && (decide (B=0) && (AH (t1,t2,t3) && C3 c.inv))) by
       rw [AI,HL.o.1.1,Z6.o,HL.o.1.2.1,HL.o.1.2.2,HL.o.2.1];rfl)
      by_cases za:A=0
      · have ya:(A == 0)=true:=by simp [za]
        subst za;by_cases zb:B=0
        · have yb:(B == 0)=true:=by simp [zb]
          subst zb;(go_wp2_with fail);refine (Cg (t1,t2,t3) _).mono ?_;rintro e w3 ⟨rfl,hb3⟩;have hC3:=Ac HC2.o.1 hb3;have HC3:=Ad (An hC3 (bt HC2.o.2 hb3));obtain ⟨r0,r1,r2,r3,r4,r5,r6,r7,r8,r9⟩:=Dk hC3;clear hC3 hb3;clear q0 q1 q2 q3 q4 q5 q6 q7 q8 q9;cases e3:AH (t1,t2,t3)
          · have H3:=Ad e3
            go_wp2;go_ret;exact ⟨by rw [← HH.o,HX.o];simp [H3.o],HC3.o.2⟩
          · have H3:=Ad e3
            (go_wp2_with fail);refine (Lf _ _ c.inv _ (HR.o.1.keep HC3.o.2) (HR.o.2.keep HC3.o.2)).mono ?_;rintro e w4 ⟨rfl,hb4⟩;have hC4:=Ac HC3.o.1 hb4;have HC4:=Ad (An hC4 (bt HC3.o.2 hb4));obtain ⟨s0,s1,s2,s3,s4,s5,s6,s7,s8,s9⟩:=Dk hC4;clear hC4 hb4;clear r0 r1 r2 r3 r4 r5 r6 r7 r8 r9;go_wp2;go_ret;exact ⟨by rw [← HH.o,HX.o];simp [H3.o],HC4.o.2⟩
        · have yb:(B == 0)=false:=by simp [zb]
          have ZB:=Ad zb;clear zb;go_wp2;go_ret;exact ⟨by rw [← HH.o,HX.o];simp [ZB.o],HC2.o.2⟩
      · have ya:(A == 0)=false:=by simp [za]
        have ZA:=Ad za;clear za;go_wp2;go_ret;exact ⟨by rw [← HH.o,HX.o];simp [ZA.out],HC2.o.2⟩
    have Z6:=Ad z6;(have y6:(K == 6)=false:=by simp [z6]);clear z6;by_cases z7:K=7
    · have y7:(K == 7)=true:=by simp [z7]
      have Z7:=Ad z7;clear z7;have HX:=Ad (show AI c=(decide (A=0) && (decide (B=0) && (AH (t1,t2,t3) && (Ah c.inv && decide (ne=0))))) by
       rw [AI,HL.o.1.1,Z7.o,HL.o.1.2.1,HL.o.1.2.2,HL.o.2.1,HL.o.2.2.2];rfl)
      by_cases za:A=0
      · have ya:(A == 0)=true:=by simp [za]
        subst za;by_cases zb:B=0
        · have yb:(B == 0)=true:=by simp [zb]
          subst zb;(go_wp2_with fail);refine (Cg (t1,t2,t3) _).mono ?_;rintro e w3 ⟨rfl,hb3⟩;have hC3:=Ac HC2.o.1 hb3;have HC3:=Ad (An hC3 (bt HC2.o.2 hb3));obtain ⟨r0,r1,r2,r3,r4,r5,r6,r7,r8,r9⟩:=Dk hC3;clear hC3 hb3;clear q0 q1 q2 q3 q4 q5 q6 q7 q8 q9;cases e3:AH (t1,t2,t3)
          · have H3:=Ad e3
            go_wp2;go_ret;exact ⟨by rw [← HH.o,HX.o];simp [H3.o],HC3.o.2⟩
          · have H3:=Ad e3
            (go_wp2_with fail);refine (Aq _ _ c.inv _ (HR.o.1.keep HC3.o.2) (HR.o.2.keep HC3.o.2)).mono ?_;rintro e w4 ⟨rfl,hb4⟩;have hC4:=Ac HC3.o.1 hb4;have HC4:=Ad (An hC4 (bt HC3.o.2 hb4));obtain ⟨s0,s1,s2,s3,s4,s5,s6,s7,s8,s9⟩:=Dk hC4;clear hC4 hb4;clear r0 r1 r2 r3 r4 r5 r6 r7 r8 r9;cases e4:Ah c.inv
            · have H4:=Ad e4
              go_wp2;go_ret;exact ⟨by rw [← HH.o,HX.o];simp [H3.o,H4.o],HC4.o.2⟩
            · have H4:=Ad e4
              by_cases ze:ne=0;all_goals
               have ZE:=Ad ze;go_wp2;go_ret;exact ⟨by rw [← HH.o,HX.o];simp [H3.o,H4.o,ZE.out],HC4.o.2⟩
        · have yb:(B == 0)=false:=by simp [zb]
          have ZB:=Ad zb;clear zb;go_wp2;go_ret;exact ⟨by rw [← HH.o,HX.o];simp [ZB.o],HC2.o.2⟩
      · have ya:(A == 0)=false:=by simp [za]
        have ZA:=Ad za;clear za;go_wp2;go_ret;exact ⟨by rw [← HH.o,HX.o];simp [ZA.out],HC2.o.2⟩
    have Z7:=Ad z7;(have y7:(K == 7)=false:=by simp [z7]);clear z7;go_wp2;go_ret;exact ⟨by
     rw [← HH.o];cases hh:AI c with
     | false=>rfl
     | true =>
       have:=Pv (Eh hh (by rw [HL.o.1.1];exact Z6.o) (by rw [HL.o.1.1];exact Z7.o));rw [HL.o.1.1] at this;have:=Z1.o;have:=Z2.o;have:=Z3.o;have:=Z4.o;have:=Z5.o;omega,HC2.o.2⟩
  · have HX:=Ad (show AI c=false by
     simp only [Bool.and_eq_true,Bool.not_eq_true'] at ep;exact Qq (by rw [HL.o.1.1];exact ep.1) (by rw [HL.o.2.1,HL.o.2.2.1,HL.o.2.2.2];exact ep.2))
    go_wp2;go_ret;exact ⟨by rw [← HH.o,HX.o];rfl,HC2.o.2⟩
end Go.Proofs.YtkbbmjcfgcfejaaGreat
namespace Go.Proofs.YtkbbmjcfgcfejaaGreat
open Go.RowKit
def Up {d:Nat} (l:List (Cm (d+1))) (k:Nat):Nat:=((l.take k).map fun c=>C4 d (Cm.body c)+C4 d (Cm.els c)).sum
theorem Lg {d:Nat} {l:List (Cm (d+1))} {k:Nat} (h:k < l.length):Up l (k+1)=Up l k+(C4 d (gd l k).body+C4 d (gd l k).els):=by
 rw [Up,AT h,List.map_append,List.sum_append,Up];simp
theorem Rm {d:Nat} (l:List (Cm (d+1))):C4 (d+1) l=l.length+Up l l.length:=by
 rw [Up,List.take_length];induction l with
 | nil=>rfl
 | cons c r ih=>rw [VT,ih];simp only [List.map_cons,List.sum_cons,List.length_cons];omega
theorem OU {d:Nat} {l:List (Cm (d+1))}:∀ {k m:Nat},k≤m→m≤l.length→Up l k≤Up l m
 | k,0,h,_=>by rw [Nat.le_zero.1 h];exact Nat.le_refl _
 | k,m+1,h,hm=>by
   rcases Nat.lt_or_ge k (m+1) with h1 | h1
   · rw [Lg (show m < l.length by omega)]
     have:=OU (l:=l) (show k≤m by omega) Om;omega
   · rw [show k=m+1 by omega];exact Nat.le_refl _
theorem Wf {d:Nat} {l:List (Cm (d+1))} {k:Nat} (h:k < l.length):l.length+Up l k+(C4 d (gd l k).body+C4 d (gd l k).els)≤C4 (d+1) l:=by
 rw [Rm];have:=OU (l:=l) (k:=k+1) (m:=l.length) Om (Nat.le_refl _);rw [Lg h] at this;omega
def EU (d:Nat) (l:List (Cm d)) (N:Int) (M:Nat):Bool:=AZ d l (5 - N) && decide (C4 d l≤M)
def Sh (d:Nat) (l:List (Cm d)) (N:Int) (M:Nat):Nat:=if EU d l N M=true then C4 d l else 0
theorem IN {d:Nat} {l:List (Cm d)} {N:Int} {M:Nat} (h:EU d l N M=true):Sh d l N M=C4 d l:=if_pos h
theorem Vb {d:Nat} {l:List (Cm d)} {N:Int} {M:Nat} (h:EU d l N M=false):Sh d l N M=0:=if_neg (by rw [h];decide)
theorem Vc (x y:Value) (w:World):Sem.run Tryz.prog (Instr.index 242 (.agg #[x,y]) (.int .i64 0)) w=.ok x w:=by kernel_rfl
theorem Vd (x y:Value) (w:World):Sem.run Tryz.prog (Instr.index 242 (.agg #[x,y]) (.int .i64 1)) w=.ok y w:=by kernel_rfl
attribute [local go_sem] Vc Vd
theorem Qr:∀ (d:Nat) {S:Nat→Prop} (v:Value) (l:List (Cm d)) (N:Int) (M:Nat) (w:World) (_h:RL w S v l) (_hN:1≤N∧N≤5) (_hM:M≤1000000),
 Calls Tryz.prog 140 #[v,.int .i64 N,.int .i64 (M:Int)] w fun e w'=>e=.returned (.tuple #[.int .i64 (Sh d l N M:Nat),.bool (EU d l N M)])∧Below w.heap.size w w':=by
 intro d;induction d with
 | zero =>
   intro S v l N M w h hN hM;obtain rfl:=h.cm0;obtain ⟨a,c,rfl⟩:=h.form;clear h;go_enter Tryz.func140,Tryz.ntmps140
   go_wp2;go_loopg [8,32] 1 (fun q n i wr=>n=.int .i64 0∧i=.int .i64 0∧wr=w)
   case atStart=>exact ⟨rfl,rfl,rfl⟩
   case round =>
    obtain ⟨rfl,rfl,rfl⟩:=hrel;go_wp2;refine bodyPost_ret (v:=.tuple #[.int .i64 0,.bool true]) (by simp [results,Tryz.results140,go_sem]) rfl ?_;exact ⟨rfl,Bl⟩
 | succ d ih =>
   intro S v l N M w h hN hM;obtain ⟨a,cap,rfl,_,_,hc⟩:=h.cmAt;have hlm:=h.len;unfold maxLen at hlm;have F:=Ad hc;have IH:=Ad (fun (S:Nat→Prop) (v:Value) (l:List (Cm d)) (N:Int) (M:Nat) (w:World) (h:RL w S v l) (hN:1≤N∧N≤5) (hM:M≤1000000)=>ih (S:=S) v l N M w h hN hM);have N1:=hN.1;have N2:=hN.2;have HD:=Ad (An trivial hM);(have hdN:N+1≤1000:=by omega);obtain ⟨T,hT⟩:∃ b,EU (d+1) l N M=b:=⟨_,rfl⟩;obtain ⟨Tn,hTn⟩:∃ n,Sh (d+1) l N M=n:=⟨_,rfl⟩;have HT:=Ad (An hT hTn);rw [hT,hTn];have hsl:=Rm l;have HSL:=Ad hsl;have NO:=Ad (fun (h:EU (d+1) l N M=false)=>(show T=false∧Tn=0 from ⟨by rw [← hT,h],by rw [← hTn,Vb h]⟩));clear h hc ih hN hsl hT hTn;by_cases h1:l.length≤M
   · by_cases h2:N≤4∨l.length=0
     · by_cases h0:l.length=0
       · have HX:=Ad (show T=true∧Tn=0 by
          have hl:=List.eq_nil_of_length_eq_zero h0;(have h1:EU (d+1) l N M=true:=by subst hl;rw [EU,SX];simp [AZ]);exact ⟨by rw [← HT.o.1,h1],by rw [← HT.o.2,IN h1,hl,SX]⟩)
         clear h2;go_enter Tryz.func140,Tryz.ntmps140
         go_wp2;go_loopg [8,32] 1 (fun q n i wr=>n=.int .i64 0∧i=.int .i64 0∧wr=w)
         case atStart=>exact ⟨rfl,rfl,rfl⟩
         case round =>
          obtain ⟨rfl,rfl,rfl⟩:=hrel;go_wp2;refine bodyPost_ret (v:=.tuple #[.int .i64 0,.bool true]) (by simp [results,Tryz.results140,go_sem]) rfl ?_;exact ⟨by rw [HX.o.1,HX.o.2];rfl,Bl⟩
       · have hN4:N≤4:=h2.elim id (fun e=>absurd e h0)
         (have i1:¬ (M:Int) < (l.length:Int):=by omega);(have i2:¬ (4:Int) < N:=by omega);(have i3:0 < l.length:=by omega);have HN4:=Ad hN4;clear h2 h0;go_enter Tryz.func140,Tryz.ntmps140
         go_wp2;go_loopg [8,32] l.length (fun q ct i wr=>∃ k n:Nat,k+q=l.length∧i=.int .i64 (k:Int)∧ct=.int .i64 (n:Int)∧n=l.length+Up l k∧n≤M∧(∀ j,j < k→(AI (gd l j)=true∧AZ d (gd l j).body (5 - N - 1)=true∧AZ d (gd l j).els (5 - N - 1)=true))∧Below w.heap.size w wr)
         case atStart=>exact ⟨0,l.length,by omega,rfl,rfl,rfl,h1,fun j hj=>absurd hj (Nat.not_lt_zero j),Bl⟩
         case round =>
          obtain ⟨k,n,hk,rfl,rfl,hn,hnM,hall,hb⟩:=hrel;have HK:=Ad (An hk hn);have HALL:=Ad hall;have hs:=hb.size;clear hk hn hall;by_cases hk8:k < l.length
          · obtain ⟨b,o,f1,f2,x,y,rfl,_,hbl,hcc,⟨g1,g2⟩,g3,g4⟩:=F.o k hk8
            obtain ⟨fa1,fn1,rfl⟩:=g1.form;obtain ⟨fa2,fn2,rfl⟩:=g2.form;obtain ⟨xa,xn,rfl⟩:=g3.form;obtain ⟨ya,yn,rfl⟩:=g4.form;have lb:=g3.len;have le:=g4.len;obtain ⟨c,hck⟩:=Ex (gd l k);have hle:=Wf hk8;have hst:=Lg hk8;rw [hck] at hcc g1 g2 g3 g4 lb le hle hst;have BAD:=Ad (fun (h:(AI c && (AZ d c.body (5 - N - 1) && AZ d c.els (5 - N - 1)))=false)=>NO.out (by rw [EU,LO (D:=5 - N) hk8 (by rw [hck];exact h),Bool.false_and]));have BIG:=Ad (fun (h:¬ C4 (d+1) l≤M)=>NO.out (by rw [EU,decide_eq_false h,Bool.and_false]));have HLE:=Ad (An hle hst);have hcc':∀ j u,(Cq c.kind c.a c.b c.test (.slice fa1 c.inv.1.length fn1) (.slice fa2 c.inv.2.length fn2) (.slice xa c.body.length xn) (.slice ya c.els.length yn))[j]?=some u→wr.cell? ⟨b,o+k * 10+j,none⟩=some u:=fun j u hj=>Ab hb (hcc j u hj);have c0:wr.cell? ⟨b,o+k * 10,none⟩=some (.int .i64 c.kind):=hcc' 0 _ rfl;have c1:=hcc' 1 _ rfl;have c2:=hcc' 2 _ rfl;have c3:=hcc' 3 _ rfl;have c4:=hcc' 4 _ rfl;have c5:=hcc' 5 _ rfl;have c6:=hcc' 6 _ rfl;have c7:=hcc' 7 _ rfl;have c8:=hcc' 8 _ rfl;have c9:=hcc' 9 _ rfl;have hbA:=Aa wr (.cells #[.int .i64 c.kind,.int .i64 c.a,.int .i64 c.b,.bool c.test.1,.int .i64 c.test.2.1,.int .i64 c.test.2.2,.slice fa1 c.inv.1.length fn1,.slice fa2 c.inv.2.length fn2,.slice xa c.body.length xn,.slice ya c.els.length yn] 63);have hC:=heap_alloc_new wr (.cells #[.int .i64 c.kind,.int .i64 c.a,.int .i64 c.b,.bool c.test.1,.int .i64 c.test.2.1,.int .i64 c.test.2.2,.slice fa1 c.inv.1.length fn1,.slice fa2 c.inv.2.length fn2,.slice xa c.body.length xn,.slice ya c.els.length yn] 63);(have j1:(k:Int) < (l.length:Int):=by omega);(have hzb:b < wr.heap.size:=by omega);have HC:=Ad (An hC hbA);have HG:=Ad (An (An ((g1.keep hb).keep hbA) ((g2.keep hb).keep hbA)) (An ((g3.keep hb).keep hbA) ((g4.keep hb).keep hbA)));have HCK:=Ad hck;clear hcc hcc' hck g1 g2 g3 g4 hC hbA hle hst;(go_wp2_with fail);refine (OT c _ _ _ _ _ HG.o.1.1 HG.o.1.2 ⟨_,_,rfl⟩ ⟨_,_,rfl⟩ lb le).mono ?_;rintro e w2 ⟨rfl,hb2⟩;have hC2:=Ac HC.o.1 hb2;have q8:=cr 8 hC2;have q9:=cr 9 hC2;have hCz:=Ae hC2;have HG2:=Ad (An (HG.o.2.1.keep hb2) (HG.o.2.2.keep hb2));have HB2:=Ad (hb.trans ((bt HC.o.2 hb2).mono hs));have hs2:=HB2.o.size;clear hC2 hb2 c0 c1 c2 c3 c4 c5 c6 c7 c8 c9;cases eh:AI c
            · have HE:=Ad (BAD.o (by rw [eh];rfl))
              go_wp2;refine bodyPost_ret (v:=.tuple #[.int .i64 0,.bool false]) (by simp [results,Tryz.results140,go_sem]) rfl ?_;exact ⟨by rw [HE.o.1,HE.o.2];rfl,HB2.o⟩
            · have HEH:=Ad eh
              obtain ⟨gO,hgO⟩:∃ g,g=gk:=⟨_,rfl⟩;have HGO:=Ad hgO;clear hgO;go_wp2;go_loopg [8,44] 2 (fun q ct ix wv=>∃ (j m:Nat),j+q=2∧ix=.int .i64 (j:Int)∧ct=.int .i64 (m:Int)∧m≤M∧((j=0∧m=n)∨(j=1∧m=n+C4 d c.body∧AZ d c.body (5 - N - 1)=true)∨(j=2∧m=n+C4 d c.body+C4 d c.els∧AZ d c.body (5 - N - 1)=true∧AZ d c.els (5 - N - 1)=true))∧Below w2.heap.size w2 wv)
              case atStart=>exact ⟨0,n,by omega,rfl,rfl,hnM,.inl ⟨rfl,rfl⟩,Below.refl _ _⟩
              case round =>
               obtain ⟨j,m,hj,rfl,rfl,hmM,hjj,hbv⟩:=hrel;have HMM:=Ad hmM;(have hmw:(M:Int) - (m:Int)=((M - m:Nat):Int):=by omega);have hM6:=HD.o.2;have hsv:=hbv.size;rcases hjj with ⟨rfl,hm⟩ | ⟨rfl,hm,sb⟩ | ⟨rfl,hm,sb,se⟩
               · have HMN:=Ad (An hm hj)
                 clear hm hj;(go_wp2_with fail);refine (IH.o S _ c.body (N+1) (M - m) _ (HG2.o.1.keep hbv) Om Om).mono ?_;rintro e w3 ⟨rfl,hb3⟩;obtain ⟨B1,hB1⟩:∃ b,EU d c.body (N+1) (M - m)=b:=⟨_,rfl⟩;obtain ⟨n1,hn1⟩:∃ n,Sh d c.body (N+1) (M - m)=n:=⟨_,rfl⟩;rw [hB1,hn1];have HB3:=Ad (hbv.trans (hb3.mono hsv));cases B1
                 · have HE:=Ad (show T=false∧Tn=0 by
                    rw [EU,show 5 - (N+1)=5 - N - 1 by omega] at hB1;cases h:AZ d c.body (5 - N - 1) with
                    | false=>exact BAD.o (by rw [HEH.o,h,Bool.false_and];rfl)
                    | true =>
                      rw [h,Bool.true_and,decide_eq_false_iff_not] at hB1;refine BIG.out ?_;have h1:=HLE.o.1;have h2:=HK.o.2;have h3:=HMN.o.1;omega)
                   clear hB1 hn1 hb3;go_wp2;refine bodyPost_ret (v:=.tuple #[.int .i64 0,.bool false]) (by simp [results,Tryz.results140,go_sem]) rfl ?_;exact ⟨by rw [HE.o.1,HE.o.2];rfl,HB2.o.trans (HB3.o.mono hs2)⟩
                 · have H1:=Ad (show AZ d c.body (5 - N - 1)=true∧n1=C4 d c.body∧C4 d c.body≤M - m by
                    have h1:=IN hB1;rw [hn1] at h1;rw [EU,show 5 - (N+1)=5 - N - 1 by omega,Bool.and_eq_true,decide_eq_true_eq] at hB1;exact ⟨hB1.1,h1,hB1.2⟩)
                   (have hn1M:n1≤M - m:=by rw [H1.o.2.1];exact H1.o.2.2);clear hB1 hn1 hb3;go_wp2;go_roundg (gk - 1)
                   case rel=>exact ⟨1,m+n1,by have:=HMN.o.2;omega,rfl,by go_num,by omega,by rw [H1.o.2.1];exact .inr (.inl ⟨rfl,by rw [HMN.o.1],H1.o.1⟩),HB3.o⟩
                   case measure=>have:=HMN.o.2;omega
               · have HMN:=Ad (An hm (An sb hj))
                 clear hm hj sb;(go_wp2_with fail);refine (IH.o S _ c.els (N+1) (M - m) _ (HG2.o.2.keep hbv) Om Om).mono ?_;rintro e w3 ⟨rfl,hb3⟩;obtain ⟨B1,hB1⟩:∃ b,EU d c.els (N+1) (M - m)=b:=⟨_,rfl⟩;obtain ⟨n1,hn1⟩:∃ n,Sh d c.els (N+1) (M - m)=n:=⟨_,rfl⟩;rw [hB1,hn1];have HB3:=Ad (hbv.trans (hb3.mono hsv));cases B1
                 · have HE:=Ad (show T=false∧Tn=0 by
                    rw [EU,show 5 - (N+1)=5 - N - 1 by omega] at hB1;cases h:AZ d c.els (5 - N - 1) with
                    | false=>exact BAD.o (by rw [HEH.o,h,Bool.and_false];rfl)
                    | true =>
                      rw [h,Bool.true_and,decide_eq_false_iff_not] at hB1;refine BIG.out ?_;have h1:=HLE.o.1;have h2:=HK.o.2;have h3:=HMN.o.1;omega)
                   clear hB1 hn1 hb3;go_wp2;refine bodyPost_ret (v:=.tuple #[.int .i64 0,.bool false]) (by simp [results,Tryz.results140,go_sem]) rfl ?_;exact ⟨by rw [HE.o.1,HE.o.2];rfl,HB2.o.trans (HB3.o.mono hs2)⟩
                 · have H1:=Ad (show AZ d c.els (5 - N - 1)=true∧n1=C4 d c.els∧C4 d c.els≤M - m by
                    have h1:=IN hB1;rw [hn1] at h1;rw [EU,show 5 - (N+1)=5 - N - 1 by omega,Bool.and_eq_true,decide_eq_true_eq] at hB1;exact ⟨hB1.1,h1,hB1.2⟩)
                   (have hn1M:n1≤M - m:=by rw [H1.o.2.1];exact H1.o.2.2);clear hB1 hn1 hb3;go_wp2;go_roundg (gk - 1)
                   case rel=>exact ⟨2,m+n1,by have:=HMN.o.2.2;omega,rfl,by go_num,by omega,by rw [H1.o.2.1];exact .inr (.inr ⟨rfl,by rw [HMN.o.1],HMN.o.2.1,H1.o.1⟩),HB3.o⟩
                   case measure=>have:=HMN.o.2.2;omega
               · have HMN:=Ad (An (An hm hj) (An sb se))
                 clear hm hj sb se;go_wp2;go_roundg (gO - 1)
                 case rel=>exact ⟨k+1,m,by have:=HK.o.1;have:=HGO.o;omega,by go_num,rfl,by have h1:=HMN.o.1.1;have h2:=HK.o.2;have h3:=HLE.o.2;omega,HMM.o,fun j hj=>by
                  by_cases e:j=k
                  · rw [e,HCK.o];exact ⟨HEH.o,HMN.o.2.1,HMN.o.2.2⟩
                  · exact HALL.o j Om,HB2.o.trans (hbv.mono hs2)⟩
                 case measure=>have:=HK.o.1;have:=HGO.o;omega
          · have hkn:k=l.length:=by have:=HK.o.1;omega
            have HX:=Ad (show T=true∧Tn=n by
             (have hz:C4 (d+1) l=n:=by rw [HSL.o,HK.o.2,hkn]);have hsh:AZ (d+1) l (5 - N)=true:=by
              rw [AZ,decide_eq_true (show 1≤5 - N by have:=HN4.o;omega),List.all_eq_true.2 fun c hc=>?_]
              · rfl
              · obtain ⟨i,hi,rfl⟩:=List.getElem_of_mem hc
                have:=HALL.o i Om;rw [BT hi] at this;rw [this.1,this.2.1,this.2.2];rfl
             (have h1:EU (d+1) l N M=true:=by rw [EU,hsh,decide_eq_true (show C4 (d+1) l≤M by rw [hz];exact hnM)];rfl);exact ⟨by rw [← HT.o.1,h1],by rw [← HT.o.2,IN h1,hz]⟩)
            (have j1:¬ (k:Int) < (l.length:Int):=by omega);clear hkn;go_wp2;refine bodyPost_ret (v:=.tuple #[.int .i64 (n:Int),.bool true]) (by simp [results,Tryz.results140,go_sem]) rfl ?_;exact ⟨by rw [HX.o.1,HX.o.2],hb⟩
     · have HX:=Ad (NO.out (by rw [EU,AZ,decide_eq_false (show ¬ 1≤5 - N by omega),decide_eq_false (show ¬ l.length=0 from fun e=>h2 (.inr e))];rfl))
       (have i1:¬ (M:Int) < (l.length:Int):=by omega);(have i2:(4:Int) < N:=by omega);(have i3:0 < l.length:=by omega);clear h2;go_enter Tryz.func140,Tryz.ntmps140
       go_wp2;refine bodyPost_ret (v:=.tuple #[.int .i64 0,.bool false]) (by simp [results,Tryz.results140,go_sem]) rfl ?_;exact ⟨by rw [HX.o.1,HX.o.2];rfl,Bl⟩
   · have HX:=Ad (NO.out (by rw [EU,decide_eq_false (show ¬ C4 (d+1) l≤M by have:=HSL.o;omega),Bool.and_false]))
     (have i1:(M:Int) < (l.length:Int):=by omega);go_enter Tryz.func140,Tryz.ntmps140
     go_wp2;refine bodyPost_ret (v:=.tuple #[.int .i64 0,.bool false]) (by simp [results,Tryz.results140,go_sem]) rfl ?_;exact ⟨by rw [HX.o.1,HX.o.2];rfl,Bl⟩
theorem Lh (d:Nat) {S:Nat→Prop} (v:Value) (l:List (Cm d)) (w:World) (h:RL w S v l) :
 Calls Tryz.prog 122 #[v] w fun e w'=>e=.returned (.bool (BY l))∧Below w.heap.size w w':=by
 obtain ⟨a,cap,rfl⟩:=h.form;have HR:=Ad h;clear h;go_enter Tryz.func122,Tryz.ntmps122
 go_wp2_with fail
 refine (Qr d _ l 1 16 _ HR.o Dc Dc).mono ?_;rintro e w2 ⟨rfl,hb⟩;have HX:=Ad (show EU d l 1 16=BY l by
  rw [EU,BY];show (AZ d l 4 && _)=_
  cases h:AZ d l 4 with
  | false=>rfl
  | true=>rw [EW d l 4 h])
 go_wp2;go_ret;exact ⟨by rw [HX.o];rfl,hb⟩
end Go.Proofs.YtkbbmjcfgcfejaaGreat
