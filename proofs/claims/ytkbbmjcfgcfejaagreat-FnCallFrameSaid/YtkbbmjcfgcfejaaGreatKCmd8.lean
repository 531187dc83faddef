/- Walks: which programs are valid (reference: l8Shape, l8Count, ProgramValid). -/
import Derived.Test.YtkbbmjcfgcfejaaGreatKHold1
import Derived.Handy
import Derived.Deep.DeepMust
import Derived.Deep.Cut
import Derived.Deep.CutBlock
import Derived.Deep.CutRange
set_option linter.unusedVariables false
set_option linter.unusedSimpArgs false
namespace Go.Proofs.YtkbbmjcfgcfejaaGreat
open Go.RowKit
def headOk {d:Nat} (c:Cm (d+1)):Bool :=
 if c.kind=6 then decide (c.a=0) && (decide (c.b=0) && (factB c.test && noinvB c.inv))
 else if c.kind=7 then decide (c.a=0) && (decide (c.b=0) && (factB c.test && (asnB c.inv && decide (c.els.length=0))))
 else basicB c
def shpB:(d:Nat)→List (Cm d)→Int→Bool
 | 0,_,_=>true
 | d+1,l,D=>(decide (1≤D) || decide (l.length=0)) && l.all fun c=>headOk c && (shpB d (Cm.body c) (D - 1) && shpB d (Cm.els c) (D - 1))
def countC:(d:Nat)→List (Cm d)→Int→Nat
 | 0,_,_=>0
 | d+1,l,D=>if 1≤D then (l.map fun c=>1+countC d (Cm.body c) (D - 1)+countC d (Cm.els c) (D - 1)).sum else 0
def szC:(d:Nat)→List (Cm d)→Nat
 | 0,_=>0
 | d+1,l=>(l.map fun c=>1+szC d (Cm.body c)+szC d (Cm.els c)).sum
theorem sum_le {α:Type} {f g:α→Nat}:∀ {l:List α},(∀ c ∈ l,f c≤g c)→(l.map f).sum≤(l.map g).sum
 | [],_=>Nat.le_refl _
 | c :: r,h=>by
   have h1:=sum_le (l:=r) fun x hx=>h x (List.mem_cons_of_mem _ hx)
   have h2:=h c (by simp)
   simp only [List.map_cons,List.sum_cons];omega
theorem sum_const {α:Type} {f:α→Nat} {b:Nat}:∀ {l:List α},(∀ c ∈ l,f c≤b)→(l.map f).sum≤l.length * b
 | [],_=>by simp
 | c :: r,h=>by
   have h1:=sum_const (l:=r) fun x hx=>h x (List.mem_cons_of_mem _ hx)
   have h2:=h c (by simp)
   simp only [List.map_cons,List.sum_cons,List.length_cons,Nat.succ_mul];omega
theorem sum_mem {α:Type} {f:α→Nat}:∀ {l:List α} {c:α},c ∈ l→f c≤(l.map f).sum
 | c :: r,x,h=>by
   simp only [List.map_cons,List.sum_cons]
   rcases List.mem_cons.1 h with rfl | h
   · omega
   · have:=sum_mem (f:=f) h;omega
theorem count_le:∀ (d:Nat) (l:List (Cm d)) (D:Int),countC d l D≤szC d l
 | 0,_,_=>Nat.le_refl _
 | d+1,l,D=>by
   rw [countC,szC]
   split
   · exact sum_le fun c _=>by
      have h1:=count_le d (Cm.body c) (D - 1)
      have h2:=count_le d (Cm.els c) (D - 1)
      omega
   · exact Nat.zero_le _
theorem size_mem {d:Nat} {l:List (Cm (d+1))} {c:Cm (d+1)} (h:c ∈ l):1+szC d c.body+szC d c.els≤szC (d+1) l :=
 sum_mem (f:=fun c:Cm (d+1)=>1+szC d c.body+szC d c.els) h
def progOkB {d:Nat} (l:List (Cm d)):Bool:=shpB d l 4 && decide (countC d l 4≤16)
theorem all_take_step {α:Type} [Inhabited α] {l:List α} {p:α→Bool} {k:Nat} (h:k < l.length) (h0:(l.take k).all p=true) (h1:p (gd l k)=true):(l.take (k+1)).all p=true:=by
 rw [take_gd h,List.all_append,h0];simp [h1]
theorem all_of_bad {α:Type} [Inhabited α] {l:List α} {p:α→Bool} {k:Nat} (h:k < l.length) (h1:p (gd l k)=false):l.all p=false:=by
 cases e:l.all p with
 | false=>rfl
 | true=>rw [List.all_eq_true.1 e _ (gd_mem h)] at h1;cases h1
theorem shape_bad {d:Nat} {l:List (Cm (d+1))} {D:Int} {k:Nat} (hk:k < l.length) (h:(headOk (gd l k) && (shpB d (Cm.body (gd l k)) (D - 1) && shpB d (Cm.els (gd l k)) (D - 1)))=false):shpB (d+1) l D=false:=by
 rw [shpB,all_of_bad hk h,Bool.and_false]
set_option maxRecDepth 100000 in
set_option maxHeartbeats 6400000 in
theorem l8Shape_any:∀ (d:Nat) {S:Nat→Prop} (v:Value) (l:List (Cm d)) (D:Int) (w:World) (_h:RL w S v l) (_hD:-100≤D∧D≤100) (_hd:(d:Int)≤D+100),
 Calls Tryz.prog 165 #[v,.int .i64 D] w fun e w'=>e=.returned (.bool (shpB d l D))∧Below w.heap.size w w':=by
 intro d
 induction d with
 | zero =>
   intro S v l D w h hD hd
   obtain rfl:=h.cm0
   obtain ⟨a,c,rfl⟩:=h.form
   clear h
   by_cases h1:D < 1
   all_goals
    go_enter Tryz.func165,Tryz.ntmps165
    go_wp2
    go_loopg [5] 1 (fun q i wr=>i=.int .i64 0∧wr=w)
    case atStart=>exact ⟨rfl,rfl⟩
    case round =>
     obtain ⟨rfl,rfl⟩:=hrel
     go_wp2
     go_ret
     exact ⟨rfl,Bl⟩
 | succ d ih =>
   intro S v l D w h hD hd
   obtain ⟨a,cap,rfl,_,_,hc⟩:=h.cmAt
   have hlm:=h.len
   unfold maxLen at hlm
   have F:=Lib.hid hc
   have IH:=Lib.hid (fun (S:Nat→Prop) (v:Value) (l:List (Cm d)) (D:Int) (w:World) (h:RL w S v l) (hD:-100≤D∧D≤100) (hd:(d:Int)≤D+100)=>ih (S:=S) v l D w h hD hd)
   have hD1:-100≤D:=hD.1
   have hD2:D≤100:=hD.2
   have HDd:=Lib.hid hd
   clear h hc ih hD hd
   by_cases h1:D < 1
   · by_cases h0:l.length=0
     · have HX:=Lib.hid (show shpB (d+1) l D=true by rw [List.eq_nil_of_length_eq_zero h0,shpB];simp)
       go_enter Tryz.func165,Tryz.ntmps165
       go_wp2
       go_loopg [5] 1 (fun q i wr=>i=.int .i64 0∧wr=w)
       case atStart=>exact ⟨rfl,rfl⟩
       case round =>
        obtain ⟨rfl,rfl⟩:=hrel
        go_wp2
        go_ret
        exact ⟨by rw [HX.out];rfl,Bl⟩
     · have HX:=Lib.hid (show shpB (d+1) l D=false by rw [shpB,decide_eq_false (show ¬ 1≤D by omega),decide_eq_false h0];rfl)
       go_enter Tryz.func165,Tryz.ntmps165
       go_wp2
       go_ret
       exact ⟨by rw [HX.out];rfl,Bl⟩
   · have HD1:=Lib.hid h1
     go_enter Tryz.func165,Tryz.ntmps165
     go_wp2
     go_loopg [5] l.length (fun q i wr=>∃ k:Nat,k+q=l.length∧i=.int .i64 k∧((l.take k).all fun c=>headOk c && (shpB d (Cm.body c) (D - 1) && shpB d (Cm.els c) (D - 1)))=true∧Below w.heap.size w wr)
     case atStart=>exact ⟨0,by omega,rfl,rfl,Bl⟩
     case round =>
      obtain ⟨k,hk,rfl,hall,hb⟩:=hrel
      have HK:=Lib.hid hk
      have HALL:=Lib.hid hall
      have hs:=hb.size
      clear hk hall
      by_cases hk8:k < l.length
      · obtain ⟨b,o,f1,f2,x,y,rfl,_,hbl,hcc,⟨g1,g2⟩,g3,g4⟩:=F.out k hk8
        obtain ⟨fa1,fn1,rfl⟩:=g1.form
        obtain ⟨fa2,fn2,rfl⟩:=g2.form
        obtain ⟨xa,xn,rfl⟩:=g3.form
        obtain ⟨ya,yn,rfl⟩:=g4.form
        have lb:=g3.len
        have le:=g4.len
        obtain ⟨c,hck⟩:∃ c,gd l k=c:=⟨_,rfl⟩
        have BAD:=Lib.hid (fun (h:(headOk c && (shpB d (Cm.body c) (D - 1) && shpB d (Cm.els c) (D - 1)))=false)=>shape_bad (D:=D) hk8 (by rw [hck];exact h))
        have GOOD:=Lib.hid (fun (h:(headOk c && (shpB d (Cm.body c) (D - 1) && shpB d (Cm.els c) (D - 1)))=true)=>all_take_step (p:=fun c=>headOk c && (shpB d (Cm.body c) (D - 1) && shpB d (Cm.els c) (D - 1))) hk8 HALL.out (by rw [hck];exact h))
        rw [hck] at hcc g1 g2 g3 g4 lb le
        have hcc':∀ j u,(cmCells c.kind c.a c.b c.test (.slice fa1 c.inv.1.length fn1) (.slice fa2 c.inv.2.length fn2) (.slice xa c.body.length xn) (.slice ya c.els.length yn))[j]?=some u→wr.cell? ⟨b,o+k * 10+j,none⟩=some u:=fun j u hj=>cell_keep hb (hcc j u hj)
        have p0:wr.cell? ⟨b,o+k * 10,none⟩=some (.int .i64 c.kind):=hcc' 0 _ rfl
        have p1:=hcc' 1 _ rfl
        have p2:=hcc' 2 _ rfl
        have p3:=hcc' 3 _ rfl
        have p4:=hcc' 4 _ rfl
        have p5:=hcc' 5 _ rfl
        have p6:=hcc' 6 _ rfl
        have p7:=hcc' 7 _ rfl
        have p8:=hcc' 8 _ rfl
        have p9:=hcc' 9 _ rfl
        have hbA:=below_alloc wr (.cells #[.int .i64 c.kind,.int .i64 c.a,.int .i64 c.b,.bool c.test.1,.int .i64 c.test.2.1,.int .i64 c.test.2.2,.slice fa1 c.inv.1.length fn1,.slice fa2 c.inv.2.length fn2,.slice xa c.body.length xn,.slice ya c.els.length yn] 63)
        have hC:=heap_alloc_new wr (.cells #[.int .i64 c.kind,.int .i64 c.a,.int .i64 c.b,.bool c.test.1,.int .i64 c.test.2.1,.int .i64 c.test.2.2,.slice fa1 c.inv.1.length fn1,.slice fa2 c.inv.2.length fn2,.slice xa c.body.length xn,.slice ya c.els.length yn] 63)
        have HG:=Lib.hid (And.intro (And.intro (g1.keep hb) (g2.keep hb)) (And.intro (g3.keep hb) (g4.keep hb)))
        have i1:(k:Int) < (l.length:Int):=by omega
        have hzb:b < wr.heap.size:=by omega
        have HC:=Lib.hid (And.intro hC hbA)
        clear hcc hcc' hck g1 g2 g3 g4 hC hbA
        go_upto_block 2 with fail
        go_cut [] from 14 to 92 (fun wc=>headOk c=true∧wc.heap[wr.heap.size]?=some (.cells #[.int .i64 c.kind,.int .i64 c.a,.int .i64 c.b,.bool c.test.1,.int .i64 c.test.2.1,.int .i64 c.test.2.2,.slice fa1 c.inv.1.length fn1,.slice fa2 c.inv.2.length fn2,.slice xa c.body.length xn,.slice ya c.els.length yn] 63 (0,0))∧Below wr.heap.size wr wc)
        case first =>
         by_cases z6:c.kind=6
         · have y6:(c.kind == 6)=true:=by simp [z6]
           have HZ:=Lib.hid z6
           clear z6
           by_cases za:c.a=0
           · have ya:(c.a == 0)=true:=by simp [za]
             have HZA:=Lib.hid za
             clear za
             by_cases zb:c.b=0
             · have yb:(c.b == 0)=true:=by simp [zb]
               have HZB:=Lib.hid zb
               clear zb
               have hCz:=HC.out
               rw [HZA.out,HZB.out] at hCz
               have HCZ:=Lib.hid hCz
               clear hCz
               go_wp2_with fail
               refine (factValidS_any c.test _).mono ?_
               rintro e w2 ⟨rfl,hb2⟩
               have hC2:=box_keep HCZ.out.1 hb2
               have q0:=cell_of_row _ _ 0 _ _ _ hC2;have q1:=cell_of_row _ _ 1 _ _ _ hC2;have q2:=cell_of_row _ _ 2 _ _ _ hC2;have q3:=cell_of_row _ _ 3 _ _ _ hC2;have q4:=cell_of_row _ _ 4 _ _ _ hC2;have q5:=cell_of_row _ _ 5 _ _ _ hC2;have q6:=cell_of_row _ _ 6 _ _ _ hC2;have q7:=cell_of_row _ _ 7 _ _ _ hC2;have q8:=cell_of_row _ _ 8 _ _ _ hC2;have q9:=cell_of_row _ _ 9 _ _ _ hC2
               have hC2L:=box_lt hC2
               have HC2:=Lib.hid hC2
               clear hC2
               cases e3:factB c.test
               · have HE3:=Lib.hid e3
                 go_wp2
                 go_ret
                 exact ⟨by rw [BAD.out (by simp [headOk,HZ.out,HE3.out])];rfl,(hb.trans ((show Below wr.heap.size wr _ from (bt HCZ.out.2 hb2)).mono hs))⟩
               · have HE3:=Lib.hid e3
                 go_wp2_with fail
                 refine (l8NoInv_any _ _ c.inv _ ((HG.out.1.1.keep HCZ.out.2).keep hb2) ((HG.out.1.2.keep HCZ.out.2).keep hb2)).mono ?_
                 rintro e w3 ⟨rfl,hb3⟩
                 have hC3:=box_keep HC2.out hb3
                 have r0:=cell_of_row _ _ 0 _ _ _ hC3;have r1:=cell_of_row _ _ 1 _ _ _ hC3;have r2:=cell_of_row _ _ 2 _ _ _ hC3;have r3:=cell_of_row _ _ 3 _ _ _ hC3;have r4:=cell_of_row _ _ 4 _ _ _ hC3;have r5:=cell_of_row _ _ 5 _ _ _ hC3;have r6:=cell_of_row _ _ 6 _ _ _ hC3;have r7:=cell_of_row _ _ 7 _ _ _ hC3;have r8:=cell_of_row _ _ 8 _ _ _ hC3;have r9:=cell_of_row _ _ 9 _ _ _ hC3
                 have HC3:=Lib.hid hC3
                 clear hC3
                 clear q0 q1 q2 q3 q4 q5 q6 q7 q8 q9
                 cases e4:noinvB c.inv
                 · have HE4:=Lib.hid e4
                   go_wp2
                   go_ret
                   exact ⟨by rw [BAD.out (by simp [headOk,HZ.out,HE4.out])];rfl,(hb.trans ((show Below wr.heap.size wr _ from (bt HCZ.out.2 (bt hb2 hb3))).mono hs))⟩
                 · have HE4:=Lib.hid e4
                   go_wp2
                   go_meet
                   case rel=>exact ⟨by simp [headOk,HZ.out,HZA.out,HZB.out,HE3.out,HE4.out],by rw [HZA.out,HZB.out];exact HC3.out,bt HCZ.out.2 (bt hb2 hb3)⟩
             · have yb:(c.b == 0)=false:=by simp [zb]
               have HZB:=Lib.hid zb
               clear zb
               go_wp2
               go_ret
               exact ⟨by rw [BAD.out (by simp [headOk,HZ.out,HZB.out])];rfl,(hb.trans ((show Below wr.heap.size wr _ by have h:=HC.out.2;rw [HZA.out] at h;exact h).mono hs))⟩
           · have ya:(c.a == 0)=false:=by simp [za]
             have HZA:=Lib.hid za
             clear za
             go_wp2
             go_ret
             exact ⟨by rw [BAD.out (by simp [headOk,HZ.out,HZA.out])];rfl,(hb.trans ((show Below wr.heap.size wr _ from HC.out.2).mono hs))⟩
         have y6:(c.kind == 6)=false:=by simp [z6]
         have HZ6:=Lib.hid z6
         clear z6
         by_cases z7:c.kind=7
         · have y7:(c.kind == 7)=true:=by simp [z7]
           have HZ:=Lib.hid z7
           clear z7
           by_cases za:c.a=0
           · have ya:(c.a == 0)=true:=by simp [za]
             have HZA:=Lib.hid za
             clear za
             by_cases zb:c.b=0
             · have yb:(c.b == 0)=true:=by simp [zb]
               have HZB:=Lib.hid zb
               clear zb
               have hCz:=HC.out
               rw [HZA.out,HZB.out] at hCz
               have HCZ:=Lib.hid hCz
               clear hCz
               go_wp2_with fail
               refine (factValidS_any c.test _).mono ?_
               rintro e w2 ⟨rfl,hb2⟩
               have hC2:=box_keep HCZ.out.1 hb2
               have q0:=cell_of_row _ _ 0 _ _ _ hC2;have q1:=cell_of_row _ _ 1 _ _ _ hC2;have q2:=cell_of_row _ _ 2 _ _ _ hC2;have q3:=cell_of_row _ _ 3 _ _ _ hC2;have q4:=cell_of_row _ _ 4 _ _ _ hC2;have q5:=cell_of_row _ _ 5 _ _ _ hC2;have q6:=cell_of_row _ _ 6 _ _ _ hC2;have q7:=cell_of_row _ _ 7 _ _ _ hC2;have q8:=cell_of_row _ _ 8 _ _ _ hC2;have q9:=cell_of_row _ _ 9 _ _ _ hC2
               have hC2L:=box_lt hC2
               have HC2:=Lib.hid hC2
               clear hC2
               cases e3:factB c.test
               · have HE3:=Lib.hid e3
                 go_wp2
                 go_ret
                 exact ⟨by rw [BAD.out (by simp [headOk,HZ.out,HE3.out])];rfl,(hb.trans ((show Below wr.heap.size wr _ from (bt HCZ.out.2 hb2)).mono hs))⟩
               · have HE3:=Lib.hid e3
                 go_wp2_with fail
                 refine (asnValidS_any _ _ c.inv _ ((HG.out.1.1.keep HCZ.out.2).keep hb2) ((HG.out.1.2.keep HCZ.out.2).keep hb2)).mono ?_
                 rintro e w3 ⟨rfl,hb3⟩
                 have hC3:=box_keep HC2.out hb3
                 have r0:=cell_of_row _ _ 0 _ _ _ hC3;have r1:=cell_of_row _ _ 1 _ _ _ hC3;have r2:=cell_of_row _ _ 2 _ _ _ hC3;have r3:=cell_of_row _ _ 3 _ _ _ hC3;have r4:=cell_of_row _ _ 4 _ _ _ hC3;have r5:=cell_of_row _ _ 5 _ _ _ hC3;have r6:=cell_of_row _ _ 6 _ _ _ hC3;have r7:=cell_of_row _ _ 7 _ _ _ hC3;have r8:=cell_of_row _ _ 8 _ _ _ hC3;have r9:=cell_of_row _ _ 9 _ _ _ hC3
                 have HC3:=Lib.hid hC3
                 clear hC3
                 clear q0 q1 q2 q3 q4 q5 q6 q7 q8 q9
                 cases e4:asnB c.inv
                 · have HE4:=Lib.hid e4
                   go_wp2
                   go_ret
                   exact ⟨by rw [BAD.out (by simp [headOk,HZ.out,HE4.out])];rfl,(hb.trans ((show Below wr.heap.size wr _ from (bt HCZ.out.2 (bt hb2 hb3))).mono hs))⟩
                 · have HE4:=Lib.hid e4
                   by_cases ze:c.els.length=0
                   · have HZE:=Lib.hid (List.eq_nil_of_length_eq_zero ze)
                     go_wp2
                     go_meet
                     case rel=>exact ⟨by simp [headOk,HZ.out,HZA.out,HZB.out,HE3.out,HE4.out,HZE.out],by rw [HZA.out,HZB.out];exact HC3.out,bt HCZ.out.2 (bt hb2 hb3)⟩
                   · have HZE:=Lib.hid ze
                     go_wp2
                     go_ret
                     exact ⟨by rw [BAD.out (by rw [headOk,if_neg (by rw [HZ.out];decide),if_pos HZ.out,decide_eq_false HZE.out];simp)];rfl,(hb.trans ((show Below wr.heap.size wr _ from (bt HCZ.out.2 (bt hb2 hb3))).mono hs))⟩
             · have yb:(c.b == 0)=false:=by simp [zb]
               have HZB:=Lib.hid zb
               clear zb
               go_wp2
               go_ret
               exact ⟨by rw [BAD.out (by simp [headOk,HZ.out,HZB.out])];rfl,(hb.trans ((show Below wr.heap.size wr _ by have h:=HC.out.2;rw [HZA.out] at h;exact h).mono hs))⟩
           · have ya:(c.a == 0)=false:=by simp [za]
             have HZA:=Lib.hid za
             clear za
             go_wp2
             go_ret
             exact ⟨by rw [BAD.out (by simp [headOk,HZ.out,HZA.out])];rfl,(hb.trans ((show Below wr.heap.size wr _ from HC.out.2).mono hs))⟩
         have y7:(c.kind == 7)=false:=by simp [z7]
         have HZ7:=Lib.hid z7
         clear z7
         go_wp2_with fail
         refine (l8Basic_any c _ _ _ _ _ (HG.out.1.1.keep HC.out.2) (HG.out.1.2.keep HC.out.2) (HG.out.2.1.keep HC.out.2) (HG.out.2.2.keep HC.out.2)).mono ?_
         rintro e w2 ⟨rfl,hb2⟩
         have hC2:=box_keep HC.out.1 hb2
         have HC2:=Lib.hid hC2
         clear hC2
         have HH:=Lib.hid (show headOk c=basicB c by rw [headOk,if_neg HZ6.out,if_neg HZ7.out])
         cases e3:basicB c
         · have HE3:=Lib.hid e3
           go_wp2
           go_ret
           exact ⟨by rw [BAD.out (by rw [HH.out,HE3.out];rfl)];rfl,(hb.trans ((show Below wr.heap.size wr _ from (bt HC.out.2 hb2)).mono hs))⟩
         · have HE3:=Lib.hid e3
           go_wp2
           go_meet
           case rel=>exact ⟨by rw [HH.out,HE3.out],HC2.out,bt HC.out.2 hb2⟩
        case rest =>
         obtain ⟨hh,hC,hB⟩:=hcut
         have HH:=Lib.hid hh
         have hCL:=box_lt hC
         have q0:=cell_of_row _ _ 0 _ _ _ hC;have q1:=cell_of_row _ _ 1 _ _ _ hC;have q2:=cell_of_row _ _ 2 _ _ _ hC;have q3:=cell_of_row _ _ 3 _ _ _ hC;have q4:=cell_of_row _ _ 4 _ _ _ hC;have q5:=cell_of_row _ _ 5 _ _ _ hC;have q6:=cell_of_row _ _ 6 _ _ _ hC;have q7:=cell_of_row _ _ 7 _ _ _ hC;have q8:=cell_of_row _ _ 8 _ _ _ hC;have q9:=cell_of_row _ _ 9 _ _ _ hC
         have HCc:=Lib.hid hC
         clear hh hC
         go_wp2_with fail
         refine (IH.out _ _ c.body (D - 1) _ (HG.out.2.1.keep hB) (by have:=HD1.out;omega) (by have:=HDd.out;have:=HD1.out;omega)).mono ?_
         rintro e w2 ⟨rfl,hb2⟩
         have hC2:=box_keep HCc.out hb2
         have r0:=cell_of_row _ _ 0 _ _ _ hC2;have r1:=cell_of_row _ _ 1 _ _ _ hC2;have r2:=cell_of_row _ _ 2 _ _ _ hC2;have r3:=cell_of_row _ _ 3 _ _ _ hC2;have r4:=cell_of_row _ _ 4 _ _ _ hC2;have r5:=cell_of_row _ _ 5 _ _ _ hC2;have r6:=cell_of_row _ _ 6 _ _ _ hC2;have r7:=cell_of_row _ _ 7 _ _ _ hC2;have r8:=cell_of_row _ _ 8 _ _ _ hC2;have r9:=cell_of_row _ _ 9 _ _ _ hC2
         have HC2:=Lib.hid hC2
         clear hC2
         clear q0 q1 q2 q3 q4 q5 q6 q7 q8 q9
         cases e3:shpB d c.body (D - 1)
         · have HE3:=Lib.hid e3
           go_wp2
           go_ret
           exact ⟨by rw [BAD.out (by rw [HE3.out];simp)];rfl,hb.trans ((bt hB hb2).mono hs)⟩
         · have HE3:=Lib.hid e3
           go_wp2_with fail
           refine (IH.out _ _ c.els (D - 1) _ ((HG.out.2.2.keep hB).keep hb2) (by have:=HD1.out;omega) (by have:=HDd.out;have:=HD1.out;omega)).mono ?_
           rintro e w3 ⟨rfl,hb3⟩
           cases e4:shpB d c.els (D - 1)
           · have HE4:=Lib.hid e4
             go_wp2
             go_ret
             exact ⟨by rw [BAD.out (by rw [HE4.out];simp)];rfl,hb.trans ((bt hB (bt hb2 hb3)).mono hs)⟩
           · have HE4:=Lib.hid e4
             go_wp2
             go_roundg (gk - 1)
             case rel=>exact ⟨k+1,by have:=HK.out;omega,by go_num,GOOD.out (by rw [HH.out,HE3.out,HE4.out];rfl),hb.trans ((bt hB (bt hb2 hb3)).mono hs)⟩
             case measure=>have:=HK.out;omega
      · have hkn:k=l.length:=by have:=HK.out;omega
        have HX:=Lib.hid (show shpB (d+1) l D=true by rw [shpB,decide_eq_true (show 1≤D by omega),← List.take_length (l:=l),← hkn,HALL.out];rfl)
        clear hkn
        go_wp2
        go_ret
        exact ⟨by rw [HX.out];rfl,hb⟩
theorem countC_take {d:Nat} {l:List (Cm (d+1))} {k:Nat} (hk:k < l.length) (D:Int) :
 ((l.take (k+1)).map fun c=>1+countC d c.body D+countC d c.els D).sum=((l.take k).map fun c=>1+countC d c.body D+countC d c.els D).sum+(1+countC d (gd l k).body D+countC d (gd l k).els D):=by
 rw [take_gd hk,List.map_append,List.sum_append];simp
theorem countC_part {d:Nat} {l:List (Cm (d+1))} {k:Nat} (D:Int):((l.take k).map fun c=>1+countC d c.body D+countC d c.els D).sum≤szC (d+1) l:=by
 have h1:((l.take k).map fun c=>1+countC d c.body D+countC d c.els D).sum≤((l.take k).map fun c=>1+szC d c.body+szC d c.els).sum:=sum_le fun c _=>by
  have h1:=count_le d (Cm.body c) D
  have h2:=count_le d (Cm.els c) D
  omega
 have h2:((l.take k).map fun c=>1+szC d c.body+szC d c.els).sum+((l.drop k).map fun c=>1+szC d c.body+szC d c.els).sum=szC (d+1) l:=by
  rw [← List.sum_append,← List.map_append,List.take_append_drop];rfl
 omega
def CntB (d:Nat) (w:World) (D:Int) (v:Value) (n:Nat):Prop:=∃ (S:Nat→Prop) (m:List (Cm d)),RL w S v m∧szC d m≤1000000000000000000∧countC d m D=n
set_option maxRecDepth 100000 in
set_option maxHeartbeats 3200000 in
theorem l8Count_any:∀ (d:Nat) {S:Nat→Prop} (v:Value) (l:List (Cm d)) (D:Int) (w:World) (_h:RL w S v l) (_hs:szC d l≤1000000000000000000) (_hD:-100≤D∧D≤100) (_hd:(d:Int)≤D+100),
 Calls Tryz.prog 166 #[v,.int .i64 D] w fun e w'=>e=.returned (.int .i64 (countC d l D))∧Below w.heap.size w w':=by
 intro d
 induction d with
 | zero =>
   intro S v l D w h _ hD hd
   obtain rfl:=h.cm0
   obtain ⟨a,c,rfl⟩:=h.form
   clear h
   go_enter Tryz.func166,Tryz.ntmps166
   go_wp2
   go_loopg [5,6] 1 (fun q n i wr=>n=.int .i64 0∧i=.int .i64 0∧wr=w)
   case atStart=>exact ⟨rfl,rfl,rfl⟩
   case round =>
    obtain ⟨rfl,rfl,rfl⟩:=hrel
    go_wp2
    go_ret
    exact ⟨rfl,Bl⟩
 | succ d ih =>
   intro S v l D w h hs hD hd
   obtain ⟨a,cap,rfl,_,_,hc⟩:=h.cmAt
   have hlm:=h.len
   unfold maxLen at hlm
   have F:=Lib.hid hc
   have IH:=Lib.hid (fun (S:Nat→Prop) (v:Value) (l:List (Cm d)) (D:Int) (w:World) (h:RL w S v l) (hs:szC d l≤1000000000000000000) (hD:-100≤D∧D≤100) (hd:(d:Int)≤D+100)=>ih (S:=S) v l D w h hs hD hd)
   have hD1:-100≤D:=hD.1
   have hD2:D≤100:=hD.2
   have HDd:=Lib.hid (And.intro hd hs)
   clear h hc ih hD hd hs
   by_cases h1:1≤D
   · have HD1:=Lib.hid h1
     have HX:=Lib.hid (show countC (d+1) l D=(l.map fun c=>1+countC d (Cm.body c) (D - 1)+countC d (Cm.els c) (D - 1)).sum from if_pos h1)
     have h0D:0 < D:=by omega
     go_enter Tryz.func166,Tryz.ntmps166
     go_wp2
     go_loopg [5,6] l.length (fun q n i wr=>∃ k N:Nat,k+q=l.length∧i=.int .i64 k∧n=.int .i64 N∧N=((l.take k).map fun c=>1+countC d (Cm.body c) (D - 1)+countC d (Cm.els c) (D - 1)).sum∧Below w.heap.size w wr)
     case atStart=>exact ⟨0,0,by omega,rfl,rfl,rfl,Bl⟩
     case round =>
      obtain ⟨k,N,hk,rfl,rfl,hN,hb⟩:=hrel
      have HK:=Lib.hid hk
      have HN:=Lib.hid hN
      have hs:=hb.size
      clear hk hN
      by_cases hk8:k < l.length
      · obtain ⟨b,o,f1,f2,x,y,rfl,_,hbl,hcc,_,g3,g4⟩:=F.out k hk8
        obtain ⟨xa,xn,rfl⟩:=g3.form
        obtain ⟨ya,yn,rfl⟩:=g4.form
        obtain ⟨c,hck⟩:∃ c,gd l k=c:=⟨_,rfl⟩
        have hst:=countC_take hk8 (D - 1)
        have hpt:=countC_part (l:=l) (k:=k+1) (D - 1)
        have hm:=size_mem (gd_mem hk8)
        rw [← HN.out] at hst
        rw [hck] at hcc g3 g4 hst hm
        have HST:=Lib.hid hst
        have hbd:N+(1+countC d c.body (D - 1)+countC d c.els (D - 1))≤1000000000000000000:=by have:=HDd.out.2;omega
        have hsb:szC d c.body≤1000000000000000000∧szC d c.els≤1000000000000000000:=by have:=HDd.out.2;omega
        have HSB:=Lib.hid hsb
        have p8:=cell_keep hb (hcc 8 _ rfl)
        have p9:=cell_keep hb (hcc 9 _ rfl)
        replace g3:=g3.keep hb
        replace g4:=g4.keep hb
        have i1:(k:Int) < (l.length:Int):=by omega
        have hzb:b < wr.heap.size:=by omega
        obtain ⟨m1,hm1⟩:∃ m,countC d c.body (D - 1)=m:=⟨_,rfl⟩
        obtain ⟨m2,hm2⟩:∃ m,countC d c.els (D - 1)=m:=⟨_,rfl⟩
        rw [hm1,hm2] at hbd HST
        have CNT:=Lib.hid (fun (v:Value) (n:Nat) (x:Ext wr) (h:CntB d wr (D - 1) v n)=>(show Calls Tryz.prog 166 #[v,.int .i64 (D - 1)] (ext wr x) fun e w'=>e=.returned (.int .i64 n)∧Below (ext wr x).heap.size (ext wr x) w' from by
         obtain ⟨S,m,h1,h2,h3⟩:=h
         rw [← h3]
         exact IH.out S v m (D - 1) _ (h1.keep (ext_below _ _)) h2 (by omega) (by have:=HDd.out.1;omega)))
        have c1:CntB d wr (D - 1) (.slice xa c.body.length xn) m1:=⟨_,_,g3,HSB.out.1,hm1⟩
        have c2:CntB d wr (D - 1) (.slice ya c.els.length yn) m2:=⟨_,_,g4,HSB.out.2,hm2⟩
        clear hcc hck hst hpt hm hsb hm1 hm2
        go_upto_region 5 with fail
        refine wp_region_ext (by kernel_rfl) (by kernel_rfl) ?_
        repeat (go_big_quiet_step ((go_at_call 166;exact ext_c (CNT.out _ _ _ (by assumption)))))
        refine wpQuiet_nil ?_
        intro w6 hb6
        go_wp2
        go_roundg (gk - 1)
        case rel=>exact ⟨k+1,N+(1+m1+m2),by have:=HK.out;omega,by go_num,by go_num,HST.out.symm,hb.trans (hb6.mono hs)⟩
        case measure=>have:=HK.out;omega
      · have hkn:k=l.length:=by have:=HK.out;omega
        have HX:=Lib.hid (show (N:Int)=(countC (d+1) l D:Nat) by rw [HX.out,HN.out,hkn,List.take_length])
        clear hkn
        go_wp2
        go_ret
        exact ⟨by rw [← HX.out];rfl,hb⟩
   · have HX:=Lib.hid (show countC (d+1) l D=0 from if_neg h1)
     have h0D:¬ 0 < D:=by omega
     go_enter Tryz.func166,Tryz.ntmps166
     go_wp2
     go_loopg [5,6] 1 (fun q n i wr=>n=.int .i64 0∧i=.int .i64 0∧wr=w)
     case atStart=>exact ⟨rfl,rfl,rfl⟩
     case round =>
      obtain ⟨rfl,rfl,rfl⟩:=hrel
      go_wp2
      all_goals
       go_ret
       exact ⟨by rw [HX.out];rfl,Bl⟩
end Go.Proofs.YtkbbmjcfgcfejaaGreat
