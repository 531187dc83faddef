/- Walks: which programs are valid (reference: l8Shape, l8Count, ProgramValid). -/
import Derived.Test.YtkbbmjcfgcfejaaGreatLHold1
import Derived.Deep.Cut
import Derived.Deep.CutBlock
import Derived.Deep.CutRange
set_option linter.unusedVariables false
set_option linter.unusedSimpArgs false
set_option maxRecDepth 100000
set_option maxHeartbeats 12800000
namespace Go.Proofs.YtkbbmjcfgcfejaaGreat
open Go.RowKit
theorem Dk {w:World} {b:Nat} {c0 c1 c2 c3 c4 c5 c6 c7 c8 c9:Value} {T:TypeId} (h:w.heap[b]?=some (.cells #[c0,c1,c2,c3,c4,c5,c6,c7,c8,c9] T (0,0))):w.cell? ⟨b,0,none⟩=some c0∧w.cell? ⟨b,1,none⟩=some c1∧w.cell? ⟨b,2,none⟩=some c2∧w.cell? ⟨b,3,none⟩=some c3∧w.cell? ⟨b,4,none⟩=some c4∧w.cell? ⟨b,5,none⟩=some c5∧w.cell? ⟨b,6,none⟩=some c6∧w.cell? ⟨b,7,none⟩=some c7∧w.cell? ⟨b,8,none⟩=some c8∧w.cell? ⟨b,9,none⟩=some c9:=⟨cell_of_row _ _ 0 _ _ _ h,cell_of_row _ _ 1 _ _ _ h,cell_of_row _ _ 2 _ _ _ h,cell_of_row _ _ 3 _ _ _ h,cell_of_row _ _ 4 _ _ _ h,cell_of_row _ _ 5 _ _ _ h,cell_of_row _ _ 6 _ _ _ h,cell_of_row _ _ 7 _ _ _ h,cell_of_row _ _ 8 _ _ _ h,cell_of_row _ _ 9 _ _ _ h⟩
def AI {d:Nat} (c:Cm (d+1)):Bool :=
 if c.kind=6 then decide (c.a=0) && (decide (c.b=0) && (AH c.test && C3 c.inv))
 else if c.kind=7 then decide (c.a=0) && (decide (c.b=0) && (AH c.test && (Ah c.inv && decide (c.els.length=0))))
 else Bs c
def AZ:(d:Nat)→List (Cm d)→Int→Bool
 | 0,_,_=>true
 | d+1,l,D=>(decide (1≤D) || decide (l.length=0)) && l.all fun c=>AI c && (AZ d (Cm.body c) (D - 1) && AZ d (Cm.els c) (D - 1))
def A9:(d:Nat)→List (Cm d)→Int→Nat
 | 0,_,_=>0
 | d+1,l,D=>if 1≤D then (l.map fun c=>1+A9 d (Cm.body c) (D - 1)+A9 d (Cm.els c) (D - 1)).sum else 0
def C4:(d:Nat)→List (Cm d)→Nat
 | 0,_=>0
 | d+1,l=>(l.map fun c=>1+C4 d (Cm.body c)+C4 d (Cm.els c)).sum
theorem Ps {α:Type} {f g:α→Nat}:∀ {l:List α},(∀ c ∈ l,f c≤g c)→(l.map f).sum≤(l.map g).sum
 | [],_=>Nat.le_refl _
 | c :: r,h=>by
   have h1:=Ps (l:=r) fun x hx=>h x (List.mem_cons_of_mem _ hx);have h2:=h c Sp;simp only [List.map_cons,List.sum_cons];omega
theorem QR {α:Type} {f:α→Nat}:∀ {l:List α} {c:α},c ∈ l→f c≤(l.map f).sum
 | c :: r,x,h=>by
   simp only [List.map_cons,List.sum_cons];rcases List.mem_cons.1 h with rfl | h
   · omega
   · have:=QR (f:=f) h;omega
theorem Ic:∀ (d:Nat) (l:List (Cm d)) (D:Int),A9 d l D≤C4 d l
 | 0,_,_=>Nat.le_refl _
 | d+1,l,D=>by
   rw [A9,C4];split
   · exact Ps fun c _=>by
      have h1:=Ic d (Cm.body c) (D - 1);have h2:=Ic d (Cm.els c) (D - 1);omega
   · exact Nat.zero_le _
theorem SM {d:Nat} {l:List (Cm (d+1))} {c:Cm (d+1)} (h:c ∈ l):1+C4 d c.body+C4 d c.els≤C4 (d+1) l :=
 QR (f:=fun c:Cm (d+1)=>1+C4 d c.body+C4 d c.els) h
def BY {d:Nat} (l:List (Cm d)):Bool:=AZ d l 4 && decide (A9 d l 4≤16)
theorem Lr {α:Type} [Inhabited α] {l:List α} {p:α→Bool} {k:Nat} (h:k < l.length) (h0:(l.take k).all p=true) (h1:p (gd l k)=true):(l.take (k+1)).all p=true:=by
 rw [AT h,List.all_append,h0];simp [h1]
theorem Pu {α:Type} [Inhabited α] {l:List α} {p:α→Bool} {k:Nat} (h:k < l.length) (h1:p (gd l k)=false):l.all p=false:=by
 cases e:l.all p with
 | false=>rfl
 | true=>rw [List.all_eq_true.1 e _ (Be h)] at h1;cases h1
theorem LO {d:Nat} {l:List (Cm (d+1))} {D:Int} {k:Nat} (hk:k < l.length) (h:(AI (gd l k) && (AZ d (Cm.body (gd l k)) (D - 1) && AZ d (Cm.els (gd l k)) (D - 1)))=false):AZ (d+1) l D=false:=by
 rw [AZ,Pu hk h,Bool.and_false]
theorem NA:∀ (d:Nat) {S:Nat→Prop} (v:Value) (l:List (Cm d)) (D:Int) (w:World) (_h:RL w S v l) (_hD:0≤D∧D≤100),
 Calls Tryz.prog 165 #[v,.int .i64 D] w fun e w'=>e=.returned (.bool (AZ d l D))∧Below w.heap.size w w':=by
 intro d;induction d with
 | zero =>
   intro S v l D w h hD;obtain rfl:=h.cm0;obtain ⟨a,c,rfl⟩:=h.form;clear h;by_cases h1:D < 1;all_goals
    go_enter Tryz.func165,Tryz.ntmps165
    go_wp2;go_loopg [5] 1 (fun q i wr=>i=.int .i64 0∧wr=w)
    case atStart=>exact ⟨rfl,rfl⟩
    case round =>
     obtain ⟨rfl,rfl⟩:=hrel;go_wp2;go_ret;exact ⟨rfl,Bl⟩
 | succ d ih =>
   intro S v l D w h hD;obtain ⟨a,cap,rfl,_,_,hc⟩:=h.cmAt;have hlm:=h.len;unfold maxLen at hlm;have F:=Ad hc;have IH:=Ad (fun (S:Nat→Prop) (v:Value) (l:List (Cm d)) (D:Int) (w:World) (h:RL w S v l) (hD:0≤D∧D≤100)=>ih (S:=S) v l D w h hD);have hD1:0≤D:=hD.1;have hD2:D≤100:=hD.2;clear h hc ih hD;by_cases h1:D < 1
   · by_cases h0:l.length=0
     · have HX:=Ad (show AZ (d+1) l D=true by rw [List.eq_nil_of_length_eq_zero h0,AZ];simp)
       go_enter Tryz.func165,Tryz.ntmps165
       go_wp2;go_loopg [5] 1 (fun q i wr=>i=.int .i64 0∧wr=w)
       case atStart=>exact ⟨rfl,rfl⟩
       case round =>
        obtain ⟨rfl,rfl⟩:=hrel;go_wp2;go_ret;exact ⟨by rw [HX.o];rfl,Bl⟩
     · have HX:=Ad (show AZ (d+1) l D=false by rw [AZ,decide_eq_false (show ¬ 1≤D by omega),decide_eq_false h0];rfl)
       go_enter Tryz.func165,Tryz.ntmps165
       go_wp2;go_ret;exact ⟨by rw [HX.o];rfl,Bl⟩
   · have HD1:=Ad h1
     go_enter Tryz.func165,Tryz.ntmps165
     go_wp2;go_loopg [5] l.length (fun q i wr=>∃ k:Nat,k+q=l.length∧i=.int .i64 k∧((l.take k).all fun c=>AI c && (AZ d (Cm.body c) (D - 1) && AZ d (Cm.els c) (D - 1)))=true∧Below w.heap.size w wr)
     case atStart=>exact ⟨0,by omega,rfl,rfl,Bl⟩
     case round =>
      obtain ⟨k,hk,rfl,hall,hb⟩:=hrel;have HK:=Ad hk;have HALL:=Ad hall;have hs:=hb.size;clear hk hall;by_cases hk8:k < l.length
      · obtain ⟨b,o,f1,f2,x,y,rfl,_,hbl,hcc,⟨g1,g2⟩,g3,g4⟩:=F.o k hk8
        obtain ⟨fa1,fn1,rfl⟩:=g1.form;obtain ⟨fa2,fn2,rfl⟩:=g2.form;obtain ⟨xa,xn,rfl⟩:=g3.form;obtain ⟨ya,yn,rfl⟩:=g4.form;have lb:=g3.len;have le:=g4.len;obtain ⟨c,hck⟩:=Ex (gd l k);have BAD:=Ad (fun (h:(AI c && (AZ d (Cm.body c) (D - 1) && AZ d (Cm.els c) (D - 1)))=false)=>LO (D:=D) hk8 (by rw [hck];exact h));have GOOD:=Ad (fun (h:(AI c && (AZ d (Cm.body c) (D - 1) && AZ d (Cm.els c) (D - 1)))=true)=>Lr (p:=fun c=>AI c && (AZ d (Cm.body c) (D - 1) && AZ d (Cm.els c) (D - 1))) hk8 HALL.o (by rw [hck];exact h));rw [hck] at hcc g1 g2 g3 g4 lb le;have hcc':∀ j u,(Cq c.kind c.a c.b c.test (.slice fa1 c.inv.1.length fn1) (.slice fa2 c.inv.2.length fn2) (.slice xa c.body.length xn) (.slice ya c.els.length yn))[j]?=some u→wr.cell? ⟨b,o+k * 10+j,none⟩=some u:=fun j u hj=>Ab hb (hcc j u hj);have p0:wr.cell? ⟨b,o+k * 10,none⟩=some (.int .i64 c.kind):=hcc' 0 _ rfl;have p1:=hcc' 1 _ rfl;have p2:=hcc' 2 _ rfl;have p3:=hcc' 3 _ rfl;have p4:=hcc' 4 _ rfl;have p5:=hcc' 5 _ rfl;have p6:=hcc' 6 _ rfl;have p7:=hcc' 7 _ rfl;have p8:=hcc' 8 _ rfl;have p9:=hcc' 9 _ rfl;have hbA:=Aa wr (.cells #[.int .i64 c.kind,.int .i64 c.a,.int .i64 c.b,.bool c.test.1,.int .i64 c.test.2.1,.int .i64 c.test.2.2,.slice fa1 c.inv.1.length fn1,.slice fa2 c.inv.2.length fn2,.slice xa c.body.length xn,.slice ya c.els.length yn] 63);have hC:=heap_alloc_new wr (.cells #[.int .i64 c.kind,.int .i64 c.a,.int .i64 c.b,.bool c.test.1,.int .i64 c.test.2.1,.int .i64 c.test.2.2,.slice fa1 c.inv.1.length fn1,.slice fa2 c.inv.2.length fn2,.slice xa c.body.length xn,.slice ya c.els.length yn] 63);have HG:=Ad (An (An (g1.keep hb) (g2.keep hb)) (An (g3.keep hb) (g4.keep hb)));(have i1:(k:Int) < (l.length:Int):=by omega);(have hzb:b < wr.heap.size:=by omega);have HC:=Ad (An hC hbA);clear hcc hcc' hck g1 g2 g3 g4 hC hbA;go_upto_block 2 with fail
        go_cut [] from 14 to 92 (fun wc=>AI c=true∧wc.heap[wr.heap.size]?=some (.cells #[.int .i64 c.kind,.int .i64 c.a,.int .i64 c.b,.bool c.test.1,.int .i64 c.test.2.1,.int .i64 c.test.2.2,.slice fa1 c.inv.1.length fn1,.slice fa2 c.inv.2.length fn2,.slice xa c.body.length xn,.slice ya c.els.length yn] 63 (0,0))∧Below wr.heap.size wr wc)
        case first =>
         by_cases z6:c.kind=6
         · have y6:(c.kind == 6)=true:=by simp [z6]
           have HZ:=Ad z6;clear z6;by_cases za:c.a=0
           · have ya:(c.a == 0)=true:=by simp [za]
             have HZA:=Ad za;clear za;by_cases zb:c.b=0
             · have yb:(c.b == 0)=true:=by simp [zb]
               have HZB:=Ad zb;clear zb;have hCz:=HC.o;rw [HZA.o,HZB.o] at hCz;have HCZ:=Ad hCz;clear hCz;(go_wp2_with fail);refine (Ch c.test _).mono ?_;rintro e w2 ⟨rfl,hb2⟩;have hC2:=Ac HCZ.o.1 hb2;obtain ⟨q0,q1,q2,q3,q4,q5,q6,q7,q8,q9⟩:=Dk hC2;have hC2L:=Ae hC2;have HC2:=Ad hC2;clear hC2;cases e3:AH c.test
               · have HE3:=Ad e3
                 go_wp2;go_ret;exact ⟨by rw [BAD.o (by simp [AI,HZ.o,HE3.o])];rfl,(hb.trans ((show Below wr.heap.size wr _ from (bt HCZ.o.2 hb2)).mono hs))⟩
               · have HE3:=Ad e3
                 (go_wp2_with fail);refine (Js _ _ c.inv _ ((HG.o.1.1.keep HCZ.o.2).keep hb2) ((HG.o.1.2.keep HCZ.o.2).keep hb2)).mono ?_;rintro e w3 ⟨rfl,hb3⟩;have hC3:=Ac HC2.o hb3;obtain ⟨r0,r1,r2,r3,r4,r5,r6,r7,r8,r9⟩:=Dk hC3;have HC3:=Ad hC3;clear hC3;clear q0 q1 q2 q3 q4 q5 q6 q7 q8 q9;cases e4:C3 c.inv
                 · have HE4:=Ad e4
                   go_wp2;go_ret;exact ⟨by rw [BAD.o (by simp [AI,HZ.o,HE4.o])];rfl,(hb.trans ((show Below wr.heap.size wr _ from (bt HCZ.o.2 (bt hb2 hb3))).mono hs))⟩
                 · have HE4:=Ad e4
                   go_wp2;go_meet
                   case rel=>exact ⟨by simp [AI,HZ.o,HZA.o,HZB.o,HE3.o,HE4.o],by rw [HZA.o,HZB.o];exact HC3.o,bt HCZ.o.2 (bt hb2 hb3)⟩
             · have yb:(c.b == 0)=false:=by simp [zb]
               have HZB:=Ad zb;clear zb;go_wp2;go_ret;exact ⟨by rw [BAD.o (by simp [AI,HZ.o,HZB.o])];rfl,(hb.trans ((show Below wr.heap.size wr _ by have h:=HC.o.2;rw [HZA.o] at h;exact h).mono hs))⟩
           · have ya:(c.a == 0)=false:=by simp [za]
             have HZA:=Ad za;clear za;go_wp2;go_ret;exact ⟨by rw [BAD.o (by simp [AI,HZ.o,HZA.o])];rfl,(hb.trans ((show Below wr.heap.size wr _ from HC.o.2).mono hs))⟩
         (have y6:(c.kind == 6)=false:=by simp [z6]);have HZ6:=Ad z6;clear z6;by_cases z7:c.kind=7
         · have y7:(c.kind == 7)=true:=by simp [z7]
           have HZ:=Ad z7;clear z7;by_cases za:c.a=0
           · have ya:(c.a == 0)=true:=by simp [za]
             have HZA:=Ad za;clear za;by_cases zb:c.b=0
             · have yb:(c.b == 0)=true:=by simp [zb]
               have HZB:=Ad zb;clear zb;have hCz:=HC.o;rw [HZA.o,HZB.o] at hCz;have HCZ:=Ad hCz;clear hCz;(go_wp2_with fail);refine (Ch c.test _).mono ?_;rintro e w2 ⟨rfl,hb2⟩;have hC2:=Ac HCZ.o.1 hb2;obtain ⟨q0,q1,q2,q3,q4,q5,q6,q7,q8,q9⟩:=Dk hC2;have hC2L:=Ae hC2;have HC2:=Ad hC2;clear hC2;cases e3:AH c.test
               · have HE3:=Ad e3
                 go_wp2;go_ret;exact ⟨by rw [BAD.o (by simp [AI,HZ.o,HE3.o])];rfl,(hb.trans ((show Below wr.heap.size wr _ from (bt HCZ.o.2 hb2)).mono hs))⟩
               · have HE3:=Ad e3
                 (go_wp2_with fail);refine (Ar _ _ c.inv _ ((HG.o.1.1.keep HCZ.o.2).keep hb2) ((HG.o.1.2.keep HCZ.o.2).keep hb2)).mono ?_;rintro e w3 ⟨rfl,hb3⟩;have hC3:=Ac HC2.o hb3;obtain ⟨r0,r1,r2,r3,r4,r5,r6,r7,r8,r9⟩:=Dk hC3;have HC3:=Ad hC3;clear hC3;clear q0 q1 q2 q3 q4 q5 q6 q7 q8 q9;cases e4:Ah c.inv
                 · have HE4:=Ad e4
                   go_wp2;go_ret;exact ⟨by rw [BAD.o (by simp [AI,HZ.o,HE4.o])];rfl,(hb.trans ((show Below wr.heap.size wr _ from (bt HCZ.o.2 (bt hb2 hb3))).mono hs))⟩
                 · have HE4:=Ad e4
                   by_cases ze:c.els.length=0
                   · have HZE:=Ad (List.eq_nil_of_length_eq_zero ze)
                     go_wp2;go_meet
                     case rel=>exact ⟨by simp [AI,HZ.o,HZA.o,HZB.o,HE3.o,HE4.o,HZE.o],by rw [HZA.o,HZB.o];exact HC3.o,bt HCZ.o.2 (bt hb2 hb3)⟩
                   · have HZE:=Ad ze
                     go_wp2;go_ret;exact ⟨by rw [BAD.o (by rw [AI,if_neg (by rw [HZ.o];decide),if_pos HZ.o,decide_eq_false HZE.o];simp)];rfl,(hb.trans ((show Below wr.heap.size wr _ from (bt HCZ.o.2 (bt hb2 hb3))).mono hs))⟩
             · have yb:(c.b == 0)=false:=by simp [zb]
               have HZB:=Ad zb;clear zb;go_wp2;go_ret;exact ⟨by rw [BAD.o (by simp [AI,HZ.o,HZB.o])];rfl,(hb.trans ((show Below wr.heap.size wr _ by have h:=HC.o.2;rw [HZA.o] at h;exact h).mono hs))⟩
           · have ya:(c.a == 0)=false:=by simp [za]
             have HZA:=Ad za;clear za;go_wp2;go_ret;exact ⟨by rw [BAD.o (by simp [AI,HZ.o,HZA.o])];rfl,(hb.trans ((show Below wr.heap.size wr _ from HC.o.2).mono hs))⟩
         (have y7:(c.kind == 7)=false:=by simp [z7]);have HZ7:=Ad z7;clear z7;(go_wp2_with fail);refine (Jt c _ _ _ _ _ (HG.o.1.1.keep HC.o.2) (HG.o.1.2.keep HC.o.2) (HG.o.2.1.keep HC.o.2) (HG.o.2.2.keep HC.o.2)).mono ?_;rintro e w2 ⟨rfl,hb2⟩;have hC2:=Ac HC.o.1 hb2;have HC2:=Ad hC2;clear hC2;have HH:=Ad (show AI c=Bs c by rw [AI,if_neg HZ6.o,if_neg HZ7.o]);cases e3:Bs c
         · have HE3:=Ad e3
           go_wp2;go_ret;exact ⟨by rw [BAD.o (by rw [HH.o,HE3.o];rfl)];rfl,(hb.trans ((show Below wr.heap.size wr _ from (bt HC.o.2 hb2)).mono hs))⟩
         · have HE3:=Ad e3
           go_wp2;go_meet
           case rel=>exact ⟨by rw [HH.o,HE3.o],HC2.o,bt HC.o.2 hb2⟩
        case rest =>
         obtain ⟨hh,hC,hB⟩:=hcut;have HH:=Ad hh;have hCL:=Ae hC;obtain ⟨q0,q1,q2,q3,q4,q5,q6,q7,q8,q9⟩:=Dk hC;have HCc:=Ad hC;clear hh hC;(go_wp2_with fail);refine (IH.o _ _ c.body (D - 1) _ (HG.o.2.1.keep hB) (by have:=HD1.o;omega)).mono ?_;rintro e w2 ⟨rfl,hb2⟩;have hC2:=Ac HCc.o hb2;obtain ⟨r0,r1,r2,r3,r4,r5,r6,r7,r8,r9⟩:=Dk hC2;have HC2:=Ad hC2;clear hC2;clear q0 q1 q2 q3 q4 q5 q6 q7 q8 q9;cases e3:AZ d c.body (D - 1)
         · have HE3:=Ad e3
           go_wp2;go_ret;exact ⟨by rw [BAD.o (by rw [HE3.o];simp)];rfl,hb.trans ((bt hB hb2).mono hs)⟩
         · have HE3:=Ad e3
           (go_wp2_with fail);refine (IH.o _ _ c.els (D - 1) _ ((HG.o.2.2.keep hB).keep hb2) (by have:=HD1.o;omega)).mono ?_;rintro e w3 ⟨rfl,hb3⟩;cases e4:AZ d c.els (D - 1)
           · have HE4:=Ad e4
             go_wp2;go_ret;exact ⟨by rw [BAD.o (by rw [HE4.o];simp)];rfl,hb.trans ((bt hB (bt hb2 hb3)).mono hs)⟩
           · have HE4:=Ad e4
             go_wp2;go_roundg (gk - 1)
             case rel=>exact ⟨k+1,by have:=HK.o;omega,by go_num,GOOD.out (by rw [HH.o,HE3.o,HE4.o];rfl),hb.trans ((bt hB (bt hb2 hb3)).mono hs)⟩
             case measure=>have:=HK.o;omega
      · have hkn:k=l.length:=by have:=HK.o;omega
        have HX:=Ad (show AZ (d+1) l D=true by rw [AZ,decide_eq_true (show 1≤D by omega),← List.take_length (l:=l),← hkn,HALL.o];rfl);clear hkn;go_wp2;go_ret;exact ⟨by rw [HX.o];rfl,hb⟩
theorem NB {d:Nat} {l:List (Cm (d+1))} {k:Nat} (hk:k < l.length) (D:Int) :
 ((l.take (k+1)).map fun c=>1+A9 d c.body D+A9 d c.els D).sum=((l.take k).map fun c=>1+A9 d c.body D+A9 d c.els D).sum+(1+A9 d (gd l k).body D+A9 d (gd l k).els D):=by
 rw [AT hk,List.map_append,List.sum_append];simp
theorem NC {d:Nat} {l:List (Cm (d+1))} {k:Nat} (D:Int):((l.take k).map fun c=>1+A9 d c.body D+A9 d c.els D).sum≤C4 (d+1) l:=by
 have h1:((l.take k).map fun c=>1+A9 d c.body D+A9 d c.els D).sum≤((l.take k).map fun c=>1+C4 d c.body+C4 d c.els).sum:=Ps fun c _=>by
  have h1:=Ic d (Cm.body c) D;have h2:=Ic d (Cm.els c) D;omega
 have h2:((l.take k).map fun c=>1+C4 d c.body+C4 d c.els).sum+((l.drop k).map fun c=>1+C4 d c.body+C4 d c.els).sum=C4 (d+1) l:=by
  rw [← List.sum_append,← List.map_append,List.take_append_drop];rfl
 omega
def VJ (d:Nat) (w:World) (D:Int) (v:Value) (n:Nat):Prop:=∃ (S:Nat→Prop) (m:List (Cm d)),RL w S v m∧C4 d m≤1000000000000000000∧A9 d m D=n
theorem ND:∀ (d:Nat) {S:Nat→Prop} (v:Value) (l:List (Cm d)) (D:Int) (w:World) (_h:RL w S v l) (_hs:C4 d l≤1000000000000000000) (_hD:0≤D∧D≤100),
 Calls Tryz.prog 166 #[v,.int .i64 D] w fun e w'=>e=.returned (.int .i64 (A9 d l D))∧Below w.heap.size w w':=by
 intro d;induction d with
 | zero =>
   intro S v l D w h _ hD;obtain rfl:=h.cm0;obtain ⟨a,c,rfl⟩:=h.form;clear h;go_enter Tryz.func166,Tryz.ntmps166
   go_wp2;go_loopg [5,6] 1 (fun q n i wr=>n=.int .i64 0∧i=.int .i64 0∧wr=w)
   case atStart=>exact ⟨rfl,rfl,rfl⟩
   case round =>
    obtain ⟨rfl,rfl,rfl⟩:=hrel;go_wp2;go_ret;exact ⟨rfl,Bl⟩
 | succ d ih =>
   intro S v l D w h hs hD;obtain ⟨a,cap,rfl,_,_,hc⟩:=h.cmAt;have hlm:=h.len;unfold maxLen at hlm;have F:=Ad hc;have IH:=Ad (fun (S:Nat→Prop) (v:Value) (l:List (Cm d)) (D:Int) (w:World) (h:RL w S v l) (hs:C4 d l≤1000000000000000000) (hD:0≤D∧D≤100)=>ih (S:=S) v l D w h hs hD);have hD1:0≤D:=hD.1;have hD2:D≤100:=hD.2;have HDd:=Ad (An trivial hs);clear h hc ih hD hs;by_cases h1:1≤D
   · have HD1:=Ad h1
     have HX:=Ad (show A9 (d+1) l D=(l.map fun c=>1+A9 d (Cm.body c) (D - 1)+A9 d (Cm.els c) (D - 1)).sum from if_pos h1);(have h0D:0 < D:=by omega);go_enter Tryz.func166,Tryz.ntmps166
     go_wp2;go_loopg [5,6] l.length (fun q n i wr=>∃ k N:Nat,k+q=l.length∧i=.int .i64 k∧n=.int .i64 N∧N=((l.take k).map fun c=>1+A9 d (Cm.body c) (D - 1)+A9 d (Cm.els c) (D - 1)).sum∧Below w.heap.size w wr)
     case atStart=>exact ⟨0,0,by omega,rfl,rfl,rfl,Bl⟩
     case round =>
      obtain ⟨k,N,hk,rfl,rfl,hN,hb⟩:=hrel;have HK:=Ad hk;have HN:=Ad hN;have hs:=hb.size;clear hk hN;by_cases hk8:k < l.length
      · obtain ⟨b,o,f1,f2,x,y,rfl,_,hbl,hcc,_,g3,g4⟩:=F.o k hk8
        obtain ⟨xa,xn,rfl⟩:=g3.form;obtain ⟨ya,yn,rfl⟩:=g4.form;obtain ⟨c,hck⟩:=Ex (gd l k);have hst:=NB hk8 (D - 1);have hpt:=NC (l:=l) (k:=k+1) (D - 1);have hm:=SM (Be hk8);rw [← HN.o] at hst;rw [hck] at hcc g3 g4 hst hm;have HST:=Ad hst;(have hbd:N+(1+A9 d c.body (D - 1)+A9 d c.els (D - 1))≤1000000000000000000:=by have:=HDd.o.2;omega);(have hsb:C4 d c.body≤1000000000000000000∧C4 d c.els≤1000000000000000000:=by have:=HDd.o.2;omega);have HSB:=Ad hsb;have p8:=Ab hb (hcc 8 _ rfl);have p9:=Ab hb (hcc 9 _ rfl);replace g3:=g3.keep hb;replace g4:=g4.keep hb;(have i1:(k:Int) < (l.length:Int):=by omega);(have hzb:b < wr.heap.size:=by omega);obtain ⟨m1,hm1⟩:∃ m,A9 d c.body (D - 1)=m:=⟨_,rfl⟩;obtain ⟨m2,hm2⟩:∃ m,A9 d c.els (D - 1)=m:=⟨_,rfl⟩;rw [hm1,hm2] at hbd HST;have CNT:=Ad (fun (v:Value) (n:Nat) (x:Ext wr) (h:VJ d wr (D - 1) v n)=>(show Calls Tryz.prog 166 #[v,.int .i64 (D - 1)] (ext wr x) fun e w'=>e=.returned (.int .i64 n)∧Below (ext wr x).heap.size (ext wr x) w' from by
         obtain ⟨S,m,h1,h2,h3⟩:=h;rw [← h3];exact IH.o S v m (D - 1) _ (h1.keep (AV _ _)) h2 Om))
        have c1:VJ d wr (D - 1) (.slice xa c.body.length xn) m1:=⟨_,_,g3,HSB.o.1,hm1⟩;have c2:VJ d wr (D - 1) (.slice ya c.els.length yn) m2:=⟨_,_,g4,HSB.o.2,hm2⟩;clear hcc hck hst hpt hm hsb hm1 hm2;(go_upto_region 5 with fail);refine Af Kr Kr ?_;repeat (go_big_quiet_step ((go_at_call 166;exact Eu (CNT.out _ _ _ (by assumption)))))
        refine wpQuiet_nil ?_;intro w6 hb6;go_wp2;go_roundg (gk - 1)
        case rel=>exact ⟨k+1,N+(1+m1+m2),by have:=HK.o;omega,by go_num,by go_num,HST.o.symm,hb.trans (hb6.mono hs)⟩
        case measure=>have:=HK.o;omega
      · have hkn:k=l.length:=by have:=HK.o;omega
        have HX:=Ad (show (N:Int)=(A9 (d+1) l D:Nat) by rw [HX.o,HN.o,hkn,List.take_length]);clear hkn;go_wp2;go_ret;exact ⟨by rw [← HX.o];rfl,hb⟩
   · have HX:=Ad (show A9 (d+1) l D=0 from if_neg h1)
     (have h0D:¬ 0 < D:=by omega);go_enter Tryz.func166,Tryz.ntmps166
     go_wp2;go_loopg [5,6] 1 (fun q n i wr=>n=.int .i64 0∧i=.int .i64 0∧wr=w)
     case atStart=>exact ⟨rfl,rfl,rfl⟩
     case round =>
      obtain ⟨rfl,rfl,rfl⟩:=hrel;go_wp2;all_goals
       go_ret;exact ⟨by rw [HX.o];rfl,Bl⟩
end Go.Proofs.YtkbbmjcfgcfejaaGreat
