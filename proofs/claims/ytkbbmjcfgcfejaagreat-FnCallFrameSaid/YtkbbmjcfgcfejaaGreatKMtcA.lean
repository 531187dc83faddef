/- MtcA: texts Mtc1, Mtc2 in one. -/
import Derived.Test.YtkbbmjcfgcfejaaGreatKCase14
import Derived.Test.YtkbbmjcfgcfejaaGreatKPgr
import Derived.Deep.Cut
import Derived.Deep.RegionHeld3
import Derived.Handy
import Derived.Laws.StructEq
import Derived.Test.YtkbbmjcfgcfejaaGreatKBtxA
namespace Go.Proofs.YtkbbmjcfgcfejaaGreat
open Go.RowKit
def cmR (v:Value) (m:Nat) (c:Int):Array Value:=(v :: (boolsN 6 m ++ [.int .i64 c])).toArray
def CM (w:World) (b:Nat) (v:Value) (m:Nat) (c:Int):Prop:=w.heap[b]?=some (.cells (cmR v m c) 277 (0,0))
section
variable {w w':World} {b:Nat} {v:Value} {m:Nat} {c:Int}
theorem CM.c0 (h:CM w b v m c):w.cell? ⟨b,0,none⟩=some v:=by rw [cell_of_row _ _ 0 _ _ _ h];rfl
theorem CM.cb (h:CM w b v m c) {i:Nat} (hi:i < 6):w.cell? ⟨b,1+i,none⟩=some (.bool (m.testBit i)):=by
 rw [cell_of_row _ _ _ _ _ _ h]
 have:=bools_at (n:=6) (m:=m) hi
 simp only [cmR,List.getElem?_toArray,Nat.add_comm 1 i,List.getElem?_cons_succ]
 rw [List.getElem?_append_left (by rw [bools_len];exact hi)]
 exact this
theorem CM.c7 (h:CM w b v m c):w.cell? ⟨b,7,none⟩=some (.int .i64 c):=by
 rw [cell_of_row _ _ 7 _ _ _ h]
 simp only [cmR,List.getElem?_toArray,List.getElem?_cons_succ]
 rw [List.getElem?_append_right (by rw [bools_len];omega),bools_len]
 rfl
theorem CM.fz (h:CM w b v m c) (i:Nat):w.frozen? ⟨b,i,none⟩=false:=frozen_of_row _ _ i _ _ h
theorem CM.lt (h:CM w b v m c):b < w.heap.size:=box_lt h
theorem CM.keep (h:CM w b v m c) (hb:Below w.heap.size w w'):CM w' b v m c:=box_keep h hb
theorem CM.setb (h:CM w b v m c) {i:Nat} (hi:i < 6):CM (w.setCell ⟨b,1+i,none⟩ (.bool true)) b v (m ||| 2 ^ i) c:=by
 unfold CM
 rw [heap_setCell_same w b (1+i) _ _ _ h]
 congr 2
 simp only [cmR,List.setIfInBounds_toArray,Nat.add_comm 1 i,List.set_cons_succ]
 rw [List.set_append_left _ _ (by rw [bools_len];exact hi),bools_set hi]
theorem CM.set7 (h:CM w b v m c) (c':Int):CM (w.setCell ⟨b,7,none⟩ (.int .i64 c')) b v m c':=by
 unfold CM
 rw [heap_setCell_same w b 7 _ _ _ h]
 rfl
end
set_option maxRecDepth 100000 in
set_option maxHeartbeats 1600000 in
theorem take_any (b:Nat) (v:Value) (m i:Nat) (c:Int) (w:World) (h:CM w b v m c) (hi:i < 6) (h0:0≤c) (h6:c≤6) :
 Calls Tryz.prog 276 #[.pointer (some ⟨b,0,none⟩),.int .i64 i] w fun e w'=>(∃ u,e=.returned u)∧CM w' b v (m ||| 2 ^ i) (c+1)∧Fr (fun k=>k=b) w w':=by
 have hi6:(i:Int) < 6:=by omega
 have hb:=h.cb hi
 have hz:=h.fz
 have h1:=h.setb hi
 have h7:=h1.c7
 have H2:=Lib.hid (h1.set7 (c+1))
 clear h h1
 go_enter Tryz.func276,Tryz.ntmps276
 go_wp2
 go_end0
 exact ⟨⟨_,rfl⟩,H2.out,(fr_set w ⟨b,1+i,none⟩ (.bool true)).trans (fr_set _ ⟨b,7,none⟩ _)⟩
def retU:Option Nat→Value
 | some i=>.tuple #[.int .i64 (i:Int),.bool true]
 | none=>.tuple #[.int .i64 0,.bool false]
set_option maxRecDepth 100000 in
set_option maxHeartbeats 1600000 in
theorem unusedAt_any {S:Nat→Prop} (b:Nat) (v:Value) (left:List Atom) (m:Nat) (c cls:Int) (r:Option Nat) (w:World) (h:CM w b v m c) (hv:RL w S v left) (h6:left.length≤6) (hr:findU left m cls=r) :
 Calls Tryz.prog 275 #[.pointer (some ⟨b,0,none⟩),.int .i64 cls] w fun e w'=>e=.returned (retU r)∧Below w.heap.size w w':=by
 obtain ⟨a,cp,rfl,_,_,hf1⟩:=hv.atomAt
 have F1:=Lib.hid hf1
 have h0:=h.c0
 have hlt:=h.lt
 have HC:=Lib.hid h
 have HR:=Lib.hid hr
 clear hf1 hv hr h
 go_enter Tryz.func275,Tryz.ntmps275
 go_wp2
 go_loopg [13] left.length (fun q i wr=>∃ k:Nat,k+q=left.length∧i=.int .i64 k∧(∀ j,j < k→(((gd left j).2.1 == cls) && !m.testBit j)=false)∧Below w.heap.size w wr)
 case atStart=>exact ⟨0,by omega,rfl,fun j hj=>absurd hj (by omega),Below.refl _ _⟩
 case round =>
  obtain ⟨k,hk,rfl,hno,hb⟩:=hrel
  have HK:=Lib.hid hk
  have HNO:=Lib.hid hno
  clear hk hno
  by_cases hk8:k < left.length
  · obtain ⟨b1,o1,rfl,_,hbl1,hp1,hp2,hp3⟩:=F1.out k hk8
    replace hp1:=cell_keep hb hp1;replace hp2:=cell_keep hb hp2;replace hp3:=cell_keep hb hp3
    have hs:=hb.size
    have i1:(k:Int) < (left.length:Int):=by omega
    have k6:(k:Int) < 6:=by omega
    have hzb:b1 < wr.heap.size:=by omega
    have hbit:=(HC.out.keep hb).cb (i:=k) (by omega)
    have hzm:b < wr.heap.size:=by omega
    by_cases hp:(gd left k).2.1=cls
    · have hpb:((gd left k).2.1 == cls)=true:=by simp [hp]
      cases hq:m.testBit k with
      | false =>
        rw [hq] at hbit
        have hf:=find_step (p:=fun i=>((gd left i).2.1 == cls) && !m.testBit i) hk8 HNO.out (by show (((gd left k).2.1 == cls) && !m.testBit k)=true;rw [hpb,hq];rfl)
        have HF:=Lib.hid (show r=some k by rw [← HR.out];exact hf)
        clear hp hq hf
        go_wp2
        go_returns
        exact ⟨by rw [HF.out];rfl,bt hb Bl⟩
      | true =>
        rw [hq] at hbit
        have HN:=Lib.hid (show (((gd left k).2.1 == cls) && !m.testBit k)=false by rw [hq];simp)
        clear hp hq
        go_wp2
        go_roundg (gk - 1)
        case rel=>exact ⟨k+1,by have:=HK.out;omega,by go_num,fun j hj=>by rcases Nat.lt_succ_iff_lt_or_eq.1 hj with h | h;exact HNO.out j h;subst h;exact HN.out,bt hb Bl⟩
        case measure=>have:=HK.out;omega
    · have hpb:((gd left k).2.1 == cls)=false:=by simp [hp]
      have HN:=Lib.hid (show (((gd left k).2.1 == cls) && !m.testBit k)=false by rw [hpb];rfl)
      clear hp hbit
      go_wp2
      go_roundg (gk - 1)
      case rel=>exact ⟨k+1,by have:=HK.out;omega,by go_num,fun j hj=>by rcases Nat.lt_succ_iff_lt_or_eq.1 hj with h | h;exact HNO.out j h;subst h;exact HN.out,bt hb Bl⟩
      case measure=>have:=HK.out;omega
  · obtain rfl:k=left.length:=by have:=HK.out;omega
    have HF:=Lib.hid (show r=none by rw [← HR.out];exact find_end HNO.out)
    go_wp2
    go_returns
    exact ⟨by rw [HF.out];rfl,hb⟩
set_option maxRecDepth 100000 in
set_option maxHeartbeats 3200000 in
theorem useCell_any {S:Nat→Prop} (b:Nat) (v:Value) (left:List Atom) (m:Nat) (x:Atom) (r:Option (Nat × List Int)) (w:World) (h:CM w b v m (cntM left.length m)) (hv:RL w S v left) (h6:left.length≤6) (hr:cellU left m x=r) :
 Calls Tryz.prog 250 #[.pointer (some ⟨b,0,none⟩),.agg #[.int .i64 x.1,.int .i64 x.2.1,.int .i64 x.2.2]] w fun e w'=>∃ v',e=.returned (.tuple #[v',.bool r.isSome]) ∧
  (∀ m' us,r=some (m',us)→CM w' b v m' (cntM left.length m')∧OO w' w.heap.size v' us)∧Fr (fun k=>k=b) w w':=by
 obtain ⟨x1,x2,x3⟩:=x
 simp only
 obtain ⟨va,vc,rfl,_,_,hf1⟩:=hv.atomAt
 have F1:=Lib.hid hf1
 have h0:=h.c0
 have hlt:=h.lt
 have HR:=Lib.hid hr
 clear hf1 hr
 cases hf:findU left m x2 with
 | none =>
   have HF:=Lib.hid hf
   have HRN:=Lib.hid (show r=none by rw [← HR.out,cellU,hf])
   clear hf
   go_enter Tryz.func250,Tryz.ntmps250
   go_wp2_with fail
   refine (unusedAt_any b _ left m (cntM left.length m) x2 none _ (h.keep (below_alloc _ _)) (hv.keep (below_alloc _ _)) h6 HF.out).mono ?_
   rintro e w5 ⟨rfl,hb5⟩
   simp only [retU]
   have HB5:=Lib.hid (bt (below_alloc _ _) hb5)
   clear hb5
   go_wp2
   refine wp_region_ext (by kernel_rfl) (by kernel_rfl) ?_
   repeat (go_big_quiet_step ((fail)))
   refine wpQuiet_nil ?_
   intro w6 hb6
   go_wp2
   go_returns
   exact ⟨.slice none 0 0,by rw [HRN.out];rfl,fun m' us e=>(by rw [HRN.out] at e;cases e),(Below.fr (bt HB5.out hb6)).mono fun _ _ h=>h.elim⟩
 | some i =>
   obtain ⟨hil,hic,hbm⟩:=findU_some hf
   have hi6:(i:Int) < (left.length:Int):=by omega
   obtain ⟨b1,o1,rfl,_,hbl1,hp1,hp2,hp3⟩:=F1.out i hil
   have hzb:=World.block_lt_of_cell? w _ hp1
   have HF:=Lib.hid hf
   clear hf hic
   by_cases e0:(gd left i).1=x1
   rotate_left
   · have hb0:((gd left i).1 == x1)=false:=by simp [e0]
     have HEQ:=Lib.hid (show r=none by rw [← HR.out,cellU,HF.out];show (if gd left i=(x1,x2,x3) then _ else _)=none;rw [if_neg (by simp [Prod.ext_iff,e0])])
     clear e0
     go_enter Tryz.func250,Tryz.ntmps250
     go_wp2_with fail
     refine (unusedAt_any b _ left m (cntM left.length m) x2 (some i) _ (h.keep (below_alloc _ _)) (hv.keep (below_alloc _ _)) h6 HF.out).mono ?_
     rintro e w5 ⟨rfl,hb5⟩
     simp only [retU]
     have c0:=cell_keep (bt (below_alloc _ _) hb5) h0
     have a1:=cell_keep (bt (below_alloc _ _) hb5) hp1;have a2:=cell_keep (bt (below_alloc _ _) hb5) hp2;have a3:=cell_keep (bt (below_alloc _ _) hb5) hp3
     have d0:=cell_keep hb5 (p:=⟨w.heap.size,0,none⟩) (v:=.int .i64 x1) (by simp [go_sem]);have d1:=cell_keep hb5 (p:=⟨w.heap.size,1,none⟩) (v:=.int .i64 x2) (by simp [go_sem]);have d2:=cell_keep hb5 (p:=⟨w.heap.size,2,none⟩) (v:=.int .i64 x3) (by simp [go_sem]);have q0:=World.block_lt_of_cell? w5 _ c0;have q1:=World.block_lt_of_cell? w5 _ a1;have q2:=World.block_lt_of_cell? w5 _ d0;simp only at q0 q1 q2
     have HB5:=Lib.hid (bt (below_alloc _ _) hb5)
     clear hb5
     go_wp2
     refine wp_region_ext (by kernel_rfl) (by kernel_rfl) ?_
     repeat (go_big_quiet_step ((fail)))
     refine wpQuiet_nil ?_
     intro w6 hb6
     go_wp2
     go_returns
     exact ⟨.slice none 0 0,by rw [HEQ.out];rfl,fun m' us e=>(by rw [HEQ.out] at e;cases e),(Below.fr (bt HB5.out hb6)).mono fun _ _ h=>h.elim⟩
   have hb0:((gd left i).1 == x1)=true:=by simp [e0]
   by_cases e1:(gd left i).2.1=x2
   rotate_left
   · have hb1:((gd left i).2.1 == x2)=false:=by simp [e1]
     have HEQ:=Lib.hid (show r=none by rw [← HR.out,cellU,HF.out];show (if gd left i=(x1,x2,x3) then _ else _)=none;rw [if_neg (by simp [Prod.ext_iff,e1])])
     clear e0 e1
     go_enter Tryz.func250,Tryz.ntmps250
     go_wp2_with fail
     refine (unusedAt_any b _ left m (cntM left.length m) x2 (some i) _ (h.keep (below_alloc _ _)) (hv.keep (below_alloc _ _)) h6 HF.out).mono ?_
     rintro e w5 ⟨rfl,hb5⟩
     simp only [retU]
     have c0:=cell_keep (bt (below_alloc _ _) hb5) h0
     have a1:=cell_keep (bt (below_alloc _ _) hb5) hp1;have a2:=cell_keep (bt (below_alloc _ _) hb5) hp2;have a3:=cell_keep (bt (below_alloc _ _) hb5) hp3
     have d0:=cell_keep hb5 (p:=⟨w.heap.size,0,none⟩) (v:=.int .i64 x1) (by simp [go_sem]);have d1:=cell_keep hb5 (p:=⟨w.heap.size,1,none⟩) (v:=.int .i64 x2) (by simp [go_sem]);have d2:=cell_keep hb5 (p:=⟨w.heap.size,2,none⟩) (v:=.int .i64 x3) (by simp [go_sem]);have q0:=World.block_lt_of_cell? w5 _ c0;have q1:=World.block_lt_of_cell? w5 _ a1;have q2:=World.block_lt_of_cell? w5 _ d0;simp only at q0 q1 q2
     have HB5:=Lib.hid (bt (below_alloc _ _) hb5)
     clear hb5
     go_wp2
     refine wp_region_ext (by kernel_rfl) (by kernel_rfl) ?_
     repeat (go_big_quiet_step ((fail)))
     refine wpQuiet_nil ?_
     intro w6 hb6
     go_wp2
     go_returns
     exact ⟨.slice none 0 0,by rw [HEQ.out];rfl,fun m' us e=>(by rw [HEQ.out] at e;cases e),(Below.fr (bt HB5.out hb6)).mono fun _ _ h=>h.elim⟩
   have hb1:((gd left i).2.1 == x2)=true:=by simp [e1]
   by_cases e2:(gd left i).2.2=x3
   rotate_left
   · have hb2:((gd left i).2.2 == x3)=false:=by simp [e2]
     have HEQ:=Lib.hid (show r=none by rw [← HR.out,cellU,HF.out];show (if gd left i=(x1,x2,x3) then _ else _)=none;rw [if_neg (by simp [Prod.ext_iff,e2])])
     clear e0 e1 e2
     go_enter Tryz.func250,Tryz.ntmps250
     go_wp2_with fail
     refine (unusedAt_any b _ left m (cntM left.length m) x2 (some i) _ (h.keep (below_alloc _ _)) (hv.keep (below_alloc _ _)) h6 HF.out).mono ?_
     rintro e w5 ⟨rfl,hb5⟩
     simp only [retU]
     have c0:=cell_keep (bt (below_alloc _ _) hb5) h0
     have a1:=cell_keep (bt (below_alloc _ _) hb5) hp1;have a2:=cell_keep (bt (below_alloc _ _) hb5) hp2;have a3:=cell_keep (bt (below_alloc _ _) hb5) hp3
     have d0:=cell_keep hb5 (p:=⟨w.heap.size,0,none⟩) (v:=.int .i64 x1) (by simp [go_sem]);have d1:=cell_keep hb5 (p:=⟨w.heap.size,1,none⟩) (v:=.int .i64 x2) (by simp [go_sem]);have d2:=cell_keep hb5 (p:=⟨w.heap.size,2,none⟩) (v:=.int .i64 x3) (by simp [go_sem]);have q0:=World.block_lt_of_cell? w5 _ c0;have q1:=World.block_lt_of_cell? w5 _ a1;have q2:=World.block_lt_of_cell? w5 _ d0;simp only at q0 q1 q2
     have HB5:=Lib.hid (bt (below_alloc _ _) hb5)
     clear hb5
     go_wp2
     refine wp_region_ext (by kernel_rfl) (by kernel_rfl) ?_
     repeat (go_big_quiet_step ((fail)))
     refine wpQuiet_nil ?_
     intro w6 hb6
     go_wp2
     go_returns
     exact ⟨.slice none 0 0,by rw [HEQ.out];rfl,fun m' us e=>(by rw [HEQ.out] at e;cases e),(Below.fr (bt HB5.out hb6)).mono fun _ _ h=>h.elim⟩
   have hb2:((gd left i).2.2 == x3)=true:=by simp [e2]
   have HEQ:=Lib.hid (show r=some (m ||| 2 ^ i,[(i:Int)]) by rw [← HR.out,cellU,HF.out];show (if gd left i=(x1,x2,x3) then _ else _)=_;rw [if_pos (by simp [Prod.ext_iff,e0,e1,e2])])
   clear e0 e1 e2
   go_enter Tryz.func250,Tryz.ntmps250
   go_wp2_with fail
   refine (unusedAt_any b _ left m (cntM left.length m) x2 (some i) _ (h.keep (below_alloc _ _)) (hv.keep (below_alloc _ _)) h6 HF.out).mono ?_
   rintro e w5 ⟨rfl,hb5⟩
   simp only [retU]
   have c0:=cell_keep (bt (below_alloc _ _) hb5) h0
   have a1:=cell_keep (bt (below_alloc _ _) hb5) hp1;have a2:=cell_keep (bt (below_alloc _ _) hb5) hp2;have a3:=cell_keep (bt (below_alloc _ _) hb5) hp3
   have d0:=cell_keep hb5 (p:=⟨w.heap.size,0,none⟩) (v:=.int .i64 x1) (by simp [go_sem]);have d1:=cell_keep hb5 (p:=⟨w.heap.size,1,none⟩) (v:=.int .i64 x2) (by simp [go_sem]);have d2:=cell_keep hb5 (p:=⟨w.heap.size,2,none⟩) (v:=.int .i64 x3) (by simp [go_sem]);have q0:=World.block_lt_of_cell? w5 _ c0;have q1:=World.block_lt_of_cell? w5 _ a1;have q2:=World.block_lt_of_cell? w5 _ d0;simp only at q0 q1 q2
   have HB5:=Lib.hid (bt (below_alloc _ _) hb5)
   clear hb5
   go_wp2
   refine wp_region_ext (by kernel_rfl) (by kernel_rfl) ?_
   repeat (go_big_quiet_step ((fail)))
   refine wpQuiet_nil ?_
   intro w6 hb6
   have HB6:=Lib.hid hb6
   have hC6:=h.keep (bt HB5.out hb6)
   have hcs:=cntM_set hil hbm
   have hle:=cnt_leM left.length m
   go_wp2_with fail
   refine (take_any b _ m i (cntM left.length m) _ hC6 (by omega) (by omega) (by omega)).mono ?_
   rintro e w7 ⟨⟨u,rfl⟩,hC7,hf7⟩
   have HF7:=Lib.hid (And.intro hC7 hf7)
   clear hC6 hC7 hf7 hb6
   go_wp2
   go_returns
   refine ⟨_,by rw [HEQ.out];rfl,fun m' us e=>?_,((Below.fr (bt HB5.out HB6.out)).mono fun _ _ h=>h.elim).trans (HF7.out.2.trans ((Below.fr (below_alloc _ _)).mono fun _ _ h=>h.elim))⟩
   rw [HEQ.out] at e
   simp only [Option.some.injEq,Prod.mk.injEq] at e
   obtain ⟨rfl,rfl⟩:=e
   refine ⟨?_,OO.ints (World.ownsRow_lit (size:=1) w7 #[.int .i64 (i:Int)] 1 (by have:=HF7.out.2.size;have:=HB6.out.size;have:=HB5.out.size;omega) (by unfold maxLen;omega) rfl)⟩
   have:=HF7.out.1.keep (below_alloc _ (.cells #[.int .i64 (i:Int)] 3))
   rw [hcs];exact this
theorem chain_none {left:List Atom} {B A:Int} {cl:Bool} {f m:Nat} (h:findU left m A=none):chainU left B cl f m A=none:=by
 cases f with
 | zero=>rfl
 | succ f=>rw [chainU,h]
theorem chain_some {left:List Atom} {B A:Int} {cl:Bool} {m i:Nat} (h:findU left m A=some i):chainU left B cl (left.length - cntM left.length m) m A=if (gd left i).2.2=B then some (m ||| 2 ^ i,[(i:Int)]) else
 if (gd left i).1=2∧cl=false then none else (chainU left B cl (left.length - cntM left.length (m ||| 2 ^ i)) (m ||| 2 ^ i) (gd left i).2.2).map fun r=>(r.1,(i:Int) :: r.2):=by
 obtain ⟨h1,_,h3⟩:=findU_some h
 have h4:=cntM_set h1 h3
 have h5:=cnt_leM left.length (m ||| 2 ^ i)
 rw [show left.length - cntM left.length m=(left.length - cntM left.length (m ||| 2 ^ i))+1 by omega,chainU,h]
set_option maxRecDepth 100000 in
set_option maxHeartbeats 6400000 in
theorem useChain_any {S:Nat→Prop} (b:Nat) (v:Value) (left:List Atom) (m:Nat) (x:Atom) (r:Option (Nat × List Int)) (w:World) (h:CM w b v m (cntM left.length m)) (hv:RL w S v left) (hS:∀ k,S k→¬ k=b) (h6:left.length≤6)
 (hr:chainU left x.2.2 (clsdB left x.2.2) (left.length - cntM left.length m) m x.2.1=r) :
 Calls Tryz.prog 251 #[.pointer (some ⟨b,0,none⟩),.agg #[.int .i64 x.1,.int .i64 x.2.1,.int .i64 x.2.2]] w fun e w'=>∃ v',e=.returned (.tuple #[v',.bool r.isSome]) ∧
  (∀ m' us,r=some (m',us)→CM w' b v m' (cntM left.length m')∧OO w' w.heap.size v' us)∧Fr (fun k=>k=b) w w':=by
 obtain ⟨x1,x2,x3⟩:=x
 simp only at hr ⊢
 obtain ⟨va,vc,rfl,_,_,hf1⟩:=hv.atomAt
 have F1:=Lib.hid hf1
 have h0:=h.c0
 have hlt:=h.lt
 obtain ⟨cl,hcl⟩:∃ c,clsdB left x3=c:=⟨_,rfl⟩
 rw [hcl] at hr
 have HCL:=Lib.hid hcl
 have HR:=Lib.hid hr
 clear hf1 hr hcl
 go_enter Tryz.func251,Tryz.ntmps251
 go_upto_region 1 with fail
 go_cut [6] from 11 (fun c wc=>c=.bool cl∧Below w.heap.size w wc∧wc.cell? ⟨w.heap.size,1,none⟩=some (.int .i64 x2)∧wc.cell? ⟨w.heap.size,2,none⟩=some (.int .i64 x3))
 case first =>
  have d1:(w.alloc (.cells #[.int .i64 x1,.int .i64 x2,.int .i64 x3] 118)).cell? ⟨w.heap.size,1,none⟩=some (.int .i64 x2):=by simp [go_sem]
  have d2:(w.alloc (.cells #[.int .i64 x1,.int .i64 x2,.int .i64 x3] 118)).cell? ⟨w.heap.size,2,none⟩=some (.int .i64 x3):=by simp [go_sem]
  have hb0:=below_alloc w (.cells #[.int .i64 x1,.int .i64 x2,.int .i64 x3] 118)
  have HB:=Lib.hid (And.intro hb0 (And.intro d1 d2))
  by_cases hx0:x3=0
  · have hxb:(x3 == 0)=true:=by simp [hx0]
    have HT:=Lib.hid (show true=cl by rw [← HCL.out,clsdB,hxb];rfl)
    clear hx0
    refine wp_region_ext (by kernel_rfl) (by kernel_rfl) ?_
    repeat (go_big_quiet_step ((fail)))
    refine wpQuiet_nil ?_
    intro w6 hb6
    go_wp2
    go_meet
    case rel=>exact ⟨by rw [HT.out],bt HB.out.1 hb6,cell_keep hb6 HB.out.2.1,cell_keep hb6 HB.out.2.2⟩
  · have hxb:(x3 == 0)=false:=by simp [hx0]
    have HT:=Lib.hid (show (left.any fun y=>y.2.1 == x3)=cl by rw [← HCL.out,clsdB,hxb];rfl)
    clear hx0
    have hq:=hv.keep HB.out.1
    have hc0:=cell_keep HB.out.1 h0
    clear d1 d2 hb0 h0
    generalize (w.alloc (.cells #[.int .i64 x1,.int .i64 x2,.int .i64 x3] 118))=w0 at *
    have d2:=HB.out.2.2
    have z1:=World.block_lt_of_cell? w0 _ d2
    have z2:=World.block_lt_of_cell? w0 _ hc0
    simp only at z1 z2
    refine wp_region_ext (by kernel_rfl) (by kernel_rfl) ?_
    repeat (go_big_quiet_step ((go_at_call 277;first
     | with_reducible exact ext_c (cb (beginsAt_any (.slice va left.length vc) left x3 _ (hq.keep (ext_below _ _))) HT.out))))
    refine wpQuiet_nil ?_
    intro w6 hb6
    go_wp2
    go_meet
    case rel=>exact ⟨rfl,bt HB.out.1 hb6,cell_keep hb6 HB.out.2.1,cell_keep hb6 HB.out.2.2⟩
 case rest =>
  obtain ⟨rfl,hb0,d1,d2⟩:=hcut
  have hC0:=h.keep hb0
  have HC0:=Lib.hid hC0
  clear hC0 h h0
  have hq:=hv.keep hb0
  have hz0:b < wc.heap.size:=Nat.lt_of_lt_of_le hlt hb0.size
  have z1:w.heap.size < wc.heap.size:=World.block_lt_of_cell? wc _ d2
  have HW:=Lib.hid (show Fr (fun k=>k=b) w wc from (Below.fr hb0).mono fun _ _ h=>h.elim)
  clear hb0
  go_wp2
  go_loopg [7,8] (left.length - cntM left.length m) (fun q us at_ wr=>∃ (m':Nat) (pre:List Int) (A:Int),q=left.length - cntM left.length m'∧pre.length+q≤6∧at_=.int .i64 A∧wr.ownsRow (w.heap.size+1) 3 1 us pre.length (ints pre) ∧
   r=(chainU left x3 cl q m' A).map (fun p=>(p.1,pre ++ p.2))∧CM wr b (.slice va left.length vc) m' (cntM left.length m')∧wr.cell? ⟨w.heap.size,2,none⟩=some (.int .i64 x3)∧Fr (fun k=>k=b) w wr)
  case atStart=>exact ⟨m,[],x2,rfl,by have:=cnt_leM left.length m;simp;omega,rfl,World.ownsRow_nil _ _ _ _,by rw [HR.out];cases r <;> rfl,HC0.out,d2,HW.out⟩
  case round =>
   clear d1 d2 hz0 z1 hq
   obtain ⟨m',pre,A,hgk,hpl,rfl,hown,hch,hC,hd2,hf⟩:=hrel
   have hq:=hv.kept hf (fun k _ hs h=>hS k hs h)
   have HGK:=Lib.hid hgk
   have HPL:=Lib.hid hpl
   have HOWN:=Lib.hid hown
   have hle:=cnt_leM left.length m'
   have hpl6:pre.length≤6:=by omega
   rw [hgk] at hch
   clear hgk hpl hown
   cases hfu:findU left m' A with
   | none =>
     have HN:=Lib.hid (show r=none by rw [hch,chain_none hfu];rfl)
     have HF:=Lib.hid hfu
     clear hfu hch
     go_wp2_with fail
     refine (unusedAt_any b _ left m' _ A none wr hC hq h6 HF.out).mono ?_
     rintro e w5 ⟨rfl,hb5⟩
     simp only [retU]
     go_wp2
     go_returns
     exact ⟨.slice none 0 0,by rw [HN.out];rfl,fun m' us e=>(by rw [HN.out] at e;cases e),hf.thenB hb5⟩
   | some i =>
     obtain ⟨hil,hic,hbm⟩:=findU_some hfu
     have hi6:(i:Int) < (left.length:Int):=by omega
     have hcs:=cntM_set hil hbm
     have HCS:=Lib.hid (show (cntM left.length (m' ||| 2 ^ i):Int)=(cntM left.length m':Int)+1 by omega)
     obtain ⟨b1,o1,hve,hsb,hbl1,hp1,hp2,hp3⟩:=F1.out i hil
     subst hve
     have hb1b:¬ b1=b:=hS b1 hsb
     replace hp1:=hf.cell hb1b hp1
     replace hp3:=hf.cell hb1b hp3
     have HNB:=Lib.hid hb1b
     have HLE:=Lib.hid (cnt_leM left.length (m' ||| 2 ^ i))
     have hst:=chain_some (cl:=cl) (B:=x3) hfu
     rw [hst] at hch
     have HF:=Lib.hid hfu
     obtain ⟨K1,hK1⟩:∃ x,(gd left i).1=x:=⟨_,rfl⟩
     obtain ⟨B1,hB1⟩:∃ x,(gd left i).2.2=x:=⟨_,rfl⟩
     rw [hK1] at hp1 hch
     rw [hB1] at hp3 hch
     clear hst hfu hic hbm hcs hp2 hK1 hB1 hb1b
     by_cases hB:B1=x3
     · have hbb:(B1 == x3)=true:=by simp [hB]
       have HN:=Lib.hid (show r=some (m' ||| 2 ^ i,pre ++ [(i:Int)]) by rw [hch,if_pos hB];rfl)
       clear hB hch
       go_wp2_with fail
       refine (unusedAt_any b _ left m' _ A (some i) wr hC hq h6 HF.out).mono ?_
       rintro e w5 ⟨rfl,hb5⟩
       simp only [retU]
       go_wp2_with fail
       refine (take_any b _ m' i _ w5 (hC.keep hb5) (by omega) (by omega) (by omega)).mono ?_
       rintro e w6 ⟨⟨u,rfl⟩,hC6,hf6⟩
       rw [← HCS.out] at hC6
       have own6:=own_kept (own_keep HOWN.out hb5) hf6 (fun k hk e=>by have:=(own_lt HOWN.out hk).1;omega)
       have e3:=hf6.cell (fun e=>HNB.out e) (cell_keep hb5 hp3)
       have e1:=hf6.cell (fun e=>HNB.out e) (cell_keep hb5 hp1)
       have e2:=hf6.cell (by show ¬ w.heap.size=b;omega) (cell_keep hb5 hd2)
       have F6:=Lib.hid ((hf.thenB hb5).trans hf6)
       have hz6:w.heap.size+1≤w6.heap.size:=World.block_lt_of_cell? w6 _ e2
       have HC6:=Lib.hid hC6
       clear hb5 hf6 hC6 hd2 hp1 hp3
       go_wp2_with (at_builtin;go_must (refine app_int _ rfl _ _ rfl (w.heap.size+1) _ _ rfl (own_keep own6 (below_alloc _ _)) ⟨w6.heap.size,0,none⟩ _ rfl (cell_new1 _ _ _) (by omega) (by simp;omega) ?_;intro v' w7 own7 hf7;have hn7:=fun k (hk:k≤w.heap.size) (e:some k=_)=>Nat.not_le.2 (own_lt own6 e).1 hk;have g1:=hf7.cell (hn7 _ (Nat.le_of_lt hbl1)) (cell_keep (below_alloc _ (.cells #[.int .i64 (i:Int)] 3)) e1);have g3:=hf7.cell (hn7 _ (Nat.le_of_lt hbl1)) (cell_keep (below_alloc _ (.cells #[.int .i64 (i:Int)] 3)) e3);have g2:=hf7.cell (hn7 _ (Nat.le_refl _)) (cell_keep (below_alloc _ (.cells #[.int .i64 (i:Int)] 3)) e2);have hC7:CM w7 b _ _ _:=box_kept (HC6.out.keep (below_alloc _ (.cells #[.int .i64 (i:Int)] 3))) hf7 (hn7 _ (by omega));have g0:=hC7.c0;have F7:=Lib.hid ((F6.out.thenB (below_alloc _ (.cells #[.int .i64 (i:Int)] 3))).then hf7 (fun k hk e=>absurd e (hn7 k (by omega))))))
       go_wp2
       go_returns
       exact ⟨v',by rw [HN.out];rfl,fun mm us e=>(by rw [HN.out] at e;simp only [Option.some.injEq,Prod.mk.injEq] at e;obtain ⟨rfl,rfl⟩:=e;exact ⟨hC7,(OO.ints own7).mono (by omega)⟩),F7.out⟩
     have hbb:(B1 == x3)=false:=by simp [hB]
     rw [if_neg hB] at hch
     clear hB
     by_cases hK:K1=2
     · have hkk:(K1 == 2)=true:=by simp [hK]
       cases cl with
       | true =>
         have HN:=Lib.hid (show r=(chainU left x3 true (left.length - cntM left.length (m' ||| 2 ^ i)) (m' ||| 2 ^ i) B1).map fun p=>(p.1,(pre ++ [(i:Int)]) ++ p.2) by
          rw [hch,if_neg (by simp)]
          cases chainU left x3 true (left.length - cntM left.length (m' ||| 2 ^ i)) (m' ||| 2 ^ i) B1 <;> simp)
         clear hK hch
         go_wp2_with fail
         refine (unusedAt_any b _ left m' _ A (some i) wr hC hq h6 HF.out).mono ?_
         rintro e w5 ⟨rfl,hb5⟩
         simp only [retU]
         go_wp2_with fail
         refine (take_any b _ m' i _ w5 (hC.keep hb5) (by omega) (by omega) (by omega)).mono ?_
         rintro e w6 ⟨⟨u,rfl⟩,hC6,hf6⟩
         rw [← HCS.out] at hC6
         have own6:=own_kept (own_keep HOWN.out hb5) hf6 (fun k hk e=>by have:=(own_lt HOWN.out hk).1;omega)
         have e3:=hf6.cell (fun e=>HNB.out e) (cell_keep hb5 hp3)
         have e1:=hf6.cell (fun e=>HNB.out e) (cell_keep hb5 hp1)
         have e2:=hf6.cell (by show ¬ w.heap.size=b;omega) (cell_keep hb5 hd2)
         have F6:=Lib.hid ((hf.thenB hb5).trans hf6)
         have hz6:w.heap.size+1≤w6.heap.size:=World.block_lt_of_cell? w6 _ e2
         have HC6:=Lib.hid hC6
         clear hb5 hf6 hC6 hd2 hp1 hp3
         go_wp2_with (at_builtin;go_must (refine app_int _ rfl _ _ rfl (w.heap.size+1) _ _ rfl (own_keep own6 (below_alloc _ _)) ⟨w6.heap.size,0,none⟩ _ rfl (cell_new1 _ _ _) (by omega) (by simp;omega) ?_;intro v' w7 own7 hf7;have hn7:=fun k (hk:k≤w.heap.size) (e:some k=_)=>Nat.not_le.2 (own_lt own6 e).1 hk;have g1:=hf7.cell (hn7 _ (Nat.le_of_lt hbl1)) (cell_keep (below_alloc _ (.cells #[.int .i64 (i:Int)] 3)) e1);have g3:=hf7.cell (hn7 _ (Nat.le_of_lt hbl1)) (cell_keep (below_alloc _ (.cells #[.int .i64 (i:Int)] 3)) e3);have g2:=hf7.cell (hn7 _ (Nat.le_refl _)) (cell_keep (below_alloc _ (.cells #[.int .i64 (i:Int)] 3)) e2);have hC7:CM w7 b _ _ _:=box_kept (HC6.out.keep (below_alloc _ (.cells #[.int .i64 (i:Int)] 3))) hf7 (hn7 _ (by omega));have g0:=hC7.c0;have F7:=Lib.hid ((F6.out.thenB (below_alloc _ (.cells #[.int .i64 (i:Int)] 3))).then hf7 (fun k hk e=>absurd e (hn7 k (by omega))))))
         go_wp2
         go_roundg (left.length - cntM left.length (m' ||| 2 ^ i))
         case rel=>exact ⟨m' ||| 2 ^ i,pre ++ [(i:Int)],B1,rfl,by have:=HPL.out;have:=HGK.out;have:=HCS.out;have:=HLE.out;simp;omega,rfl,own7,HN.out,hC7,g2,F7.out⟩
         case measure=>have:=HGK.out;have:=HCS.out;have:=HLE.out;omega
       | false =>
         have HN:=Lib.hid (show r=none by rw [hch,if_pos ⟨hK,rfl⟩];rfl)
         clear hK hch
         go_wp2_with fail
         refine (unusedAt_any b _ left m' _ A (some i) wr hC hq h6 HF.out).mono ?_
         rintro e w5 ⟨rfl,hb5⟩
         simp only [retU]
         go_wp2_with fail
         refine (take_any b _ m' i _ w5 (hC.keep hb5) (by omega) (by omega) (by omega)).mono ?_
         rintro e w6 ⟨⟨u,rfl⟩,hC6,hf6⟩
         rw [← HCS.out] at hC6
         have own6:=own_kept (own_keep HOWN.out hb5) hf6 (fun k hk e=>by have:=(own_lt HOWN.out hk).1;omega)
         have e3:=hf6.cell (fun e=>HNB.out e) (cell_keep hb5 hp3)
         have e1:=hf6.cell (fun e=>HNB.out e) (cell_keep hb5 hp1)
         have e2:=hf6.cell (by show ¬ w.heap.size=b;omega) (cell_keep hb5 hd2)
         have F6:=Lib.hid ((hf.thenB hb5).trans hf6)
         have hz6:w.heap.size+1≤w6.heap.size:=World.block_lt_of_cell? w6 _ e2
         have HC6:=Lib.hid hC6
         clear hb5 hf6 hC6 hd2 hp1 hp3
         go_wp2_with (at_builtin;go_must (refine app_int _ rfl _ _ rfl (w.heap.size+1) _ _ rfl (own_keep own6 (below_alloc _ _)) ⟨w6.heap.size,0,none⟩ _ rfl (cell_new1 _ _ _) (by omega) (by simp;omega) ?_;intro v' w7 own7 hf7;have hn7:=fun k (hk:k≤w.heap.size) (e:some k=_)=>Nat.not_le.2 (own_lt own6 e).1 hk;have g1:=hf7.cell (hn7 _ (Nat.le_of_lt hbl1)) (cell_keep (below_alloc _ (.cells #[.int .i64 (i:Int)] 3)) e1);have g3:=hf7.cell (hn7 _ (Nat.le_of_lt hbl1)) (cell_keep (below_alloc _ (.cells #[.int .i64 (i:Int)] 3)) e3);have g2:=hf7.cell (hn7 _ (Nat.le_refl _)) (cell_keep (below_alloc _ (.cells #[.int .i64 (i:Int)] 3)) e2);have hC7:CM w7 b _ _ _:=box_kept (HC6.out.keep (below_alloc _ (.cells #[.int .i64 (i:Int)] 3))) hf7 (hn7 _ (by omega));have g0:=hC7.c0;have F7:=Lib.hid ((F6.out.thenB (below_alloc _ (.cells #[.int .i64 (i:Int)] 3))).then hf7 (fun k hk e=>absurd e (hn7 k (by omega))))))
         go_wp2
         go_returns
         exact ⟨.slice none 0 0,by rw [HN.out];rfl,fun m' us e=>(by rw [HN.out] at e;cases e),F7.out⟩
     · have hkk:(K1 == 2)=false:=by simp [hK]
       have HN:=Lib.hid (show r=(chainU left x3 cl (left.length - cntM left.length (m' ||| 2 ^ i)) (m' ||| 2 ^ i) B1).map fun p=>(p.1,(pre ++ [(i:Int)]) ++ p.2) by
        rw [hch,if_neg (by simp [hK])]
        cases chainU left x3 cl (left.length - cntM left.length (m' ||| 2 ^ i)) (m' ||| 2 ^ i) B1 <;> simp)
       clear hK hch
       go_wp2_with fail
       refine (unusedAt_any b _ left m' _ A (some i) wr hC hq h6 HF.out).mono ?_
       rintro e w5 ⟨rfl,hb5⟩
       simp only [retU]
       go_wp2_with fail
       refine (take_any b _ m' i _ w5 (hC.keep hb5) (by omega) (by omega) (by omega)).mono ?_
       rintro e w6 ⟨⟨u,rfl⟩,hC6,hf6⟩
       rw [← HCS.out] at hC6
       have own6:=own_kept (own_keep HOWN.out hb5) hf6 (fun k hk e=>by have:=(own_lt HOWN.out hk).1;omega)
       have e3:=hf6.cell (fun e=>HNB.out e) (cell_keep hb5 hp3)
       have e1:=hf6.cell (fun e=>HNB.out e) (cell_keep hb5 hp1)
       have e2:=hf6.cell (by show ¬ w.heap.size=b;omega) (cell_keep hb5 hd2)
       have F6:=Lib.hid ((hf.thenB hb5).trans hf6)
       have hz6:w.heap.size+1≤w6.heap.size:=World.block_lt_of_cell? w6 _ e2
       have HC6:=Lib.hid hC6
       clear hb5 hf6 hC6 hd2 hp1 hp3
       go_wp2_with (at_builtin;go_must (refine app_int _ rfl _ _ rfl (w.heap.size+1) _ _ rfl (own_keep own6 (below_alloc _ _)) ⟨w6.heap.size,0,none⟩ _ rfl (cell_new1 _ _ _) (by omega) (by simp;omega) ?_;intro v' w7 own7 hf7;have hn7:=fun k (hk:k≤w.heap.size) (e:some k=_)=>Nat.not_le.2 (own_lt own6 e).1 hk;have g1:=hf7.cell (hn7 _ (Nat.le_of_lt hbl1)) (cell_keep (below_alloc _ (.cells #[.int .i64 (i:Int)] 3)) e1);have g3:=hf7.cell (hn7 _ (Nat.le_of_lt hbl1)) (cell_keep (below_alloc _ (.cells #[.int .i64 (i:Int)] 3)) e3);have g2:=hf7.cell (hn7 _ (Nat.le_refl _)) (cell_keep (below_alloc _ (.cells #[.int .i64 (i:Int)] 3)) e2);have hC7:CM w7 b _ _ _:=box_kept (HC6.out.keep (below_alloc _ (.cells #[.int .i64 (i:Int)] 3))) hf7 (hn7 _ (by omega));have g0:=hC7.c0;have F7:=Lib.hid ((F6.out.thenB (below_alloc _ (.cells #[.int .i64 (i:Int)] 3))).then hf7 (fun k hk e=>absurd e (hn7 k (by omega))))))
       go_wp2
       go_roundg (left.length - cntM left.length (m' ||| 2 ^ i))
       case rel=>exact ⟨m' ||| 2 ^ i,pre ++ [(i:Int)],B1,rfl,by have:=HPL.out;have:=HGK.out;have:=HCS.out;have:=HLE.out;simp;omega,rfl,own7,HN.out,hC7,g2,F7.out⟩
       case measure=>have:=HGK.out;have:=HCS.out;have:=HLE.out;omega
end Go.Proofs.YtkbbmjcfgcfejaaGreat
namespace Go.Proofs.YtkbbmjcfgcfejaaGreat
open Go.RowKit
theorem asn_all' {a:Asn} (h:asnB a=true):(a.1.all factB=true∧a.2.all atomB=true)∧a.2.length≤6:=by
 simp only [asnB,factsB,Bool.and_eq_true,decide_eq_true_eq] at h
 exact ⟨⟨h.1.2,h.2.2⟩,h.2.1⟩
theorem rarr_row' {W:World} {g:Nat} {q:List Int} {T:TypeId} (h:W.heap[g]?=some (.cells (iarr q) T (0,0))) (hq:q.length=9):RArr W g q :=
 ⟨hq,box_lt h,fun i hi=>iarr_at h i (by omega)⟩
theorem cm_new (w:World) (v:Value) (n:Nat):CM (w.alloc (.cells #[v,.bool false,.bool false,.bool false,.bool false,.bool false,.bool false,.int .i64 0] 277)) w.heap.size v 0 (cntM n 0):=by
 unfold CM
 rw [cntM_zero,heap_alloc_new]
 rfl
theorem goal_shape {left:List Atom} {m:Nat} {x:Atom}:goalU left m x=if x.1=1 then cellU left m x else chainU left x.2.2 (clsdB left x.2.2) (left.length - cntM left.length m) m x.2.1:=rfl
set_option maxRecDepth 100000 in
set_option maxHeartbeats 6400000 in
theorem matchCase_any {S1 S2 S3 S4:Nat→Prop} (v1 v2 u1 u2:Value) (a b:Asn) (cl:List Int) (r:Option (List (List Int))) (w:World) (h1:RL w S1 v1 a.1) (h2:RL w S2 v2 a.2) (k1:RL w S3 u1 b.1) (k2:RL w S4 u2 b.2)
 (ha:asnB a=true) (hb:asnB b=true) (hc:cl.length=9) (hr:matchC a b cl=r) :
 Calls Tryz.prog 206 #[.agg #[v1,v2],.agg #[u1,u2],.agg (iarr cl)] w fun e w'=>∃ v',e=.returned (.tuple #[v',.bool r.isSome])∧(∀ us,r=some us→OO w' w.heap.size v' us)∧Below w.heap.size w w':=by
 obtain ⟨xa1,xc1,rfl⟩:=h1.form
 obtain ⟨xa2,xc2,rfl⟩:=h2.form
 obtain ⟨ya1,yc1,rfl⟩:=k1.form
 obtain ⟨ya2,yc2,rfl⟩:=k2.form
 have fa:=asn_all' ha
 have fb:=asn_all' hb
 obtain ⟨fbb,hfb⟩:∃ r,b.1.all (factC cl)=r:=⟨_,rfl⟩
 obtain ⟨left,hleft⟩:∃ l,filledL cl a.2=l:=⟨_,rfl⟩
 obtain ⟨right,hright⟩:∃ l,filledL cl b.2=l:=⟨_,rfl⟩
 have hr2:r=if fbb=true then mtchF left right else none:=by rw [← hr,matchC,hfb,hleft,hright]
 have h6:left.length≤6:=by rw [← hleft];exact Nat.le_trans (filledL_len _ _) fa.2
 have hr6:right.length≤6:=by rw [← hright];exact Nat.le_trans (filledL_len _ _) fb.2
 have HR:=Lib.hid hr2
 have HFB:=Lib.hid hfb
 have HL:=Lib.hid (And.intro hleft hright)
 have HC:=Lib.hid hc
 have FA:=Lib.hid fa
 have FB:=Lib.hid fb
 clear hr hr2 hfb hleft hright hc ha hb fa fb
 have hrow:=heap_alloc_new ((w.alloc (.cells #[.slice xa1 a.1.length xc1,.slice xa2 a.2.length xc2] 26)).alloc (.cells #[.slice ya1 b.1.length yc1,.slice ya2 b.2.length yc2] 26)) (.cells (iarr cl) 161)
 simp only [World.size_alloc] at hrow
 have hc1:(((w.alloc (.cells #[.slice xa1 a.1.length xc1,.slice xa2 a.2.length xc2] 26)).alloc (.cells #[.slice ya1 b.1.length yc1,.slice ya2 b.2.length yc2] 26)).alloc (.cells (iarr cl) 161)).cell? ⟨w.heap.size,1,none⟩=some (.slice xa2 a.2.length xc2):=by simp [go_sem]
 have hd0:(((w.alloc (.cells #[.slice xa1 a.1.length xc1,.slice xa2 a.2.length xc2] 26)).alloc (.cells #[.slice ya1 b.1.length yc1,.slice ya2 b.2.length yc2] 26)).alloc (.cells (iarr cl) 161)).cell? ⟨w.heap.size+1,0,none⟩=some (.slice ya1 b.1.length yc1):=by simp [go_sem]
 have hd1:(((w.alloc (.cells #[.slice xa1 a.1.length xc1,.slice xa2 a.2.length xc2] 26)).alloc (.cells #[.slice ya1 b.1.length yc1,.slice ya2 b.2.length yc2] 26)).alloc (.cells (iarr cl) 161)).cell? ⟨w.heap.size+1,1,none⟩=some (.slice ya2 b.2.length yc2):=by simp [go_sem]
 have hW:Below w.heap.size w (((w.alloc (.cells #[.slice xa1 a.1.length xc1,.slice xa2 a.2.length xc2] 26)).alloc (.cells #[.slice ya1 b.1.length yc1,.slice ya2 b.2.length yc2] 26)).alloc (.cells (iarr cl) 161)):=ba (ba (below_alloc _ _) _) _
 have HX:=Lib.hid (And.intro hrow (And.intro hc1 (And.intro (And.intro hd0 hd1) hW)))
 clear hrow hc1 hd0 hd1 hW
 go_enter Tryz.func206,Tryz.ntmps206
 go_wp2_with fail
 generalize ((w.alloc (.cells #[.slice xa1 a.1.length xc1,.slice xa2 a.2.length xc2] 26)).alloc (.cells #[.slice ya1 b.1.length yc1,.slice ya2 b.2.length yc2] 26)).alloc (.cells (iarr cl) 161)=w0 at HX ⊢
 have hA:=rarr_row' HX.out.1 HC.out
 have hc1:=HX.out.2.1
 have hd1:=HX.out.2.2.1.2
 have hW:=HX.out.2.2.2
 refine (cb (factsHoldC_any (w.heap.size+1+1) cl _ b.1 _ hA (k1.keep hW) FB.out.1.1) HFB.out).mono ?_
 rintro e w1 ⟨rfl,hb1⟩
 replace hA:=hA.keep hb1
 replace hc1:=cell_keep hb1 hc1;replace hd1:=cell_keep hb1 hd1;replace hW:=bt hW hb1;clear hb1
 cases fbb with
 | false =>
   have HN:=Lib.hid (show r=none by rw [HR.out];rfl)
   go_wp2
   go_returns
   exact ⟨.slice none 0 0,by rw [HN.out];rfl,fun us e=>(by rw [HN.out] at e;cases e),hW⟩
 | true =>
   have HM:=Lib.hid (show r=mtchF left right by rw [HR.out];rfl)
   go_wp2_with fail
   refine (filledC_any (w.heap.size+1+1) cl _ a.2 _ hA (h2.keep hW) FA.out.1.2 (by have:=FA.out.2;omega)).mono ?_
   rintro e w2 ⟨vL,rfl,hL,hb2⟩
   rw [HL.out.1] at hL
   have hLr:=hL.rl
   obtain ⟨la,lc,rfl⟩:=hLr.form
   replace hA:=hA.keep hb2
   have hz1:=hW.size
   replace hc1:=cell_keep hb2 hc1;replace hd1:=cell_keep hb2 hd1;replace hW:=bt hW hb2;clear hb2
   have hCM:=cm_new w2 (.slice la left.length lc) left.length
   have HCM:=Lib.hid hCM
   have hz2:=hW.size
   have hzd:w.heap.size+1 < w2.heap.size:=World.block_lt_of_cell? w2 _ hd1
   have HZ:=Lib.hid hz2
   have HL2:=Lib.hid (And.intro hLr hA)
   have hb3:=below_alloc w2 (.cells #[.slice la left.length lc,.bool false,.bool false,.bool false,.bool false,.bool false,.bool false,.int .i64 0] 277)
   have HB3:=Lib.hid hb3
   clear hCM hL hLr hA hb3
   go_wp2_with fail
   refine (filledC_any (w.heap.size+1+1) cl _ b.2 _ (HL2.out.2.keep (below_alloc _ _)) (k2.keep (bt hW (below_alloc _ _))) FB.out.1.2 (by have:=FB.out.2;omega)).mono ?_
   rintro e w3 ⟨vR,rfl,hR,hb4⟩
   rw [HL.out.2] at hR
   have hRr:=hR.rl
   obtain ⟨ra,rc,rfl⟩:=hRr.form
   have HW3:=Lib.hid (bt (bt hW HB3.out) hb4)
   have hC3:=HCM.out.keep hb4
   have HL3:=Lib.hid (HL2.out.1.lt.keep (bt HB3.out hb4))
   have hz4:=hb4.size
   simp only [World.size_alloc] at hz4
   have HR3:=Lib.hid (And.intro (hRr.more (S':=fun j=>w2.heap.size+1≤j) fun j _ hj=>by have hj':_≤j:=hj;simpa using hj') hC3)
   clear hR hRr hb4 hc1 hd1 hW hC3
   go_wp2
   go_loopg [9,26] right.length (fun q res i wr=>∃ (k m:Nat) (us:List (List Int)),k+q=right.length∧i=.int .i64 k∧goalsU left (right.take k) 0=some (m,us)∧us.length=k∧PL wr w3.heap.size res us.length us us.length∧CM wr w2.heap.size (.slice la left.length lc) m (cntM left.length m)∧Fr (fun k=>k=w2.heap.size) w3 wr)
   case atStart=>exact ⟨0,0,[],by omega,rfl,rfl,rfl,(OO.nil _ _).pl,HR3.out.2,Fr.refl _ _⟩
   case round =>
    obtain ⟨k,m,us,hk,rfl,hgo,hlk,hP,hC,hf⟩:=hrel
    have HK:=Lib.hid hk
    have HP:=Lib.hid hP
    have HF:=Lib.hid hf
    have HLK:=Lib.hid hlk
    have HZ3:=Lib.hid hz4
    have hq:=HL3.out.kept hf (fun j _ hj e=>by have:j < w2.heap.size:=hj;omega)
    have HC:=Lib.hid hC
    clear hk hP
    by_cases hk8:k < right.length
    · have hki:(k:Int) < (right.length:Int):=by omega
      have hus6:us.length≤6:=by omega
      obtain ⟨ra',rc',hre,_,_,hrf⟩:=(HR3.out.1.kept hf (fun j _ hj e=>by have hj':w2.heap.size+1≤j:=hj;omega)).atomAt
      simp only [Value.slice.injEq] at hre
      obtain ⟨rfl,_,rfl⟩:=hre
      obtain ⟨b1,o1,rfl,_,hzc,hp1,hp2,hp3⟩:=hrf k hk8
      have hgt:=goals_take hk8 hgo
      obtain ⟨x,hxe⟩:∃ x,gd right k=x:=⟨_,rfl⟩
      obtain ⟨x1,x2,x3⟩:=x
      rw [hxe] at hp1 hp2 hp3 hgt
      obtain ⟨rU,hrU⟩:∃ r,goalU left m (x1,x2,x3)=r:=⟨_,rfl⟩
      rw [hrU] at hgt
      have HGT:=Lib.hid hgt
      rw [goal_shape] at hrU
      simp only at hrU hp1 hp2 hp3
      clear hrf hgo hgt hxe hC hlk hf
      have hz4':=HZ3.out
      have hzw:=HF.out.size
      clear hz4
      by_cases hx1:x1=1
      · have hxb:(x1 == 1)=true:=by simp [hx1]
        rw [if_pos hx1] at hrU
        have HGO:=Lib.hid hrU
        clear hx1 hrU
        cases rU with
        | none =>
          have HN:=Lib.hid (show r=none by rw [HM.out,mtchF,goals_stop (k:=k+1) (by rw [HGT.out];rfl)])
          go_wp2_with fail
          refine (useCell_any w2.heap.size _ left m (x1,x2,x3) none _ (HC.out.keep (below_alloc _ _)) (hq.keep (below_alloc _ _)) h6 HGO.out).mono ?_
          rintro e w5 ⟨vu,rfl,hU,hf5⟩
          have HU:=Lib.hid (And.intro hU (((Below.fr (below_alloc wr (.cells #[.int .i64 x1,.int .i64 x2,.int .i64 x3] 118))).mono (S':=fun k=>k=w2.heap.size) fun _ _ h=>h.elim).trans hf5))
          clear hU hf5
          go_wp2
          go_returns
          exact ⟨.slice none 0 0,by rw [HN.out];rfl,fun us e=>(by rw [HN.out] at e;cases e),HW3.out.trans ((HF.out.trans HU.out.2).below HW3.out.size fun j hj e=>by have:=HZ.out;omega)⟩
        | some p =>
          obtain ⟨m',us'⟩:=p
          have HN:=Lib.hid (show goalsU left (right.take (k+1)) 0=some (m',us ++ [us']) by rw [HGT.out];rfl)
          go_wp2_with fail
          refine (useCell_any w2.heap.size _ left m (x1,x2,x3) (some (m',us')) _ (HC.out.keep (below_alloc _ _)) (hq.keep (below_alloc _ _)) h6 HGO.out).mono ?_
          rintro e w5 ⟨vu,rfl,hU,hf5⟩
          have HU:=Lib.hid (And.intro hU (((Below.fr (below_alloc wr (.cells #[.int .i64 x1,.int .i64 x2,.int .i64 x3] 118))).mono (S':=fun k=>k=w2.heap.size) fun _ _ h=>h.elim).trans hf5))
          clear hU hf5
          obtain ⟨hC5,hO5⟩:=HU.out.1 m' us' rfl
          obtain ⟨ua,uc,rfl⟩:=hO5.form
          obtain ⟨fx,hOL,hfx⟩:=hO5
          have hx:Own.own (w5.alloc (.cells #[.slice ua us'.length uc] 27)) wr.heap.size us' [.slice ua us'.length uc] fx:=⟨_,rfl,(hOL.keep (below_alloc _ _)).mono (by simp)⟩
          obtain ⟨xs,hown,hgrow⟩:=HP.out.grow (HU.out.2.thenB (below_alloc w5 (.cells #[.slice ua us'.length uc] 27))) (fun j hj _ e=>by have:=HZ3.out;omega) HF.out.size
          have HG:=Lib.hid (fun v' w7 hf7 hr7 hl7=>hgrow us' _ fx v' w7 hx hfx hf7 hr7 hl7)
          have HC5:=Lib.hid hC5
          have hz5:=Nat.le_trans HF.out.size HU.out.2.size
          clear hx hgrow hOL hfx hC5
          go_wp2_with (at_builtin;go_must (refine app_cells (n:=us.length) (m:=1) (news:=[.slice ua us'.length uc]) rfl (.tmp 45) (.tmp 47) _ rfl (B:=w3.heap.size) ti_ints rfl hown rfl rfl (news1 _ _ _) (one1 _ _ _) (by omega) (by simp;omega) ?_;intro v' w7 hr7 hf7 hl7))
          have hP7:=HG.out v' w7 hf7 hr7 hl7
          have hn7:=fun (j:Nat) (hj:j < w3.heap.size) (e:some j=_)=>Nat.not_le.2 hj (own_lt hown e).1
          have hC7:CM w7 w2.heap.size _ _ _:=box_kept (HC5.out.keep (below_alloc w5 (.cells #[.slice ua us'.length uc] 27))) hf7 (hn7 _ (by have:=HZ3.out;omega))
          have F7:=Lib.hid (((HF.out.trans HU.out.2).thenB (below_alloc w5 (.cells #[.slice ua us'.length uc] 27))).then hf7 (fun j hj e=>absurd e (hn7 j hj)))
          go_wp2
          go_roundg (gk - 1)
          case rel=>exact ⟨k+1,m',us ++ [us'],by have:=HK.out;omega,by go_num,HN.out,by rw [List.length_append,HLK.out];rfl,hP7,hC7,F7.out⟩
          case measure=>have:=HK.out;omega
      · have hxb:(x1 == 1)=false:=by simp [hx1]
        rw [if_neg hx1] at hrU
        have HGO:=Lib.hid hrU
        clear hx1 hrU
        cases rU with
        | none =>
          have HN:=Lib.hid (show r=none by rw [HM.out,mtchF,goals_stop (k:=k+1) (by rw [HGT.out];rfl)])
          go_wp2_with fail
          refine (useChain_any w2.heap.size _ left m (x1,x2,x3) none _ (HC.out.keep (below_alloc _ _)) (hq.keep (below_alloc _ _)) (fun j hj e=>by have:j < w2.heap.size:=hj;omega) h6 HGO.out).mono ?_
          rintro e w5 ⟨vu,rfl,hU,hf5⟩
          have HU:=Lib.hid (And.intro hU (((Below.fr (below_alloc wr (.cells #[.int .i64 x1,.int .i64 x2,.int .i64 x3] 118))).mono (S':=fun k=>k=w2.heap.size) fun _ _ h=>h.elim).trans hf5))
          clear hU hf5
          go_wp2
          go_returns
          exact ⟨.slice none 0 0,by rw [HN.out];rfl,fun us e=>(by rw [HN.out] at e;cases e),HW3.out.trans ((HF.out.trans HU.out.2).below HW3.out.size fun j hj e=>by have:=HZ.out;omega)⟩
        | some p =>
          obtain ⟨m',us'⟩:=p
          have HN:=Lib.hid (show goalsU left (right.take (k+1)) 0=some (m',us ++ [us']) by rw [HGT.out];rfl)
          go_wp2_with fail
          refine (useChain_any w2.heap.size _ left m (x1,x2,x3) (some (m',us')) _ (HC.out.keep (below_alloc _ _)) (hq.keep (below_alloc _ _)) (fun j hj e=>by have:j < w2.heap.size:=hj;omega) h6 HGO.out).mono ?_
          rintro e w5 ⟨vu,rfl,hU,hf5⟩
          have HU:=Lib.hid (And.intro hU (((Below.fr (below_alloc wr (.cells #[.int .i64 x1,.int .i64 x2,.int .i64 x3] 118))).mono (S':=fun k=>k=w2.heap.size) fun _ _ h=>h.elim).trans hf5))
          clear hU hf5
          obtain ⟨hC5,hO5⟩:=HU.out.1 m' us' rfl
          obtain ⟨ua,uc,rfl⟩:=hO5.form
          obtain ⟨fx,hOL,hfx⟩:=hO5
          have hx:Own.own (w5.alloc (.cells #[.slice ua us'.length uc] 27)) wr.heap.size us' [.slice ua us'.length uc] fx:=⟨_,rfl,(hOL.keep (below_alloc _ _)).mono (by simp)⟩
          obtain ⟨xs,hown,hgrow⟩:=HP.out.grow (HU.out.2.thenB (below_alloc w5 (.cells #[.slice ua us'.length uc] 27))) (fun j hj _ e=>by have:=HZ3.out;omega) HF.out.size
          have HG:=Lib.hid (fun v' w7 hf7 hr7 hl7=>hgrow us' _ fx v' w7 hx hfx hf7 hr7 hl7)
          have HC5:=Lib.hid hC5
          have hz5:=Nat.le_trans HF.out.size HU.out.2.size
          clear hx hgrow hOL hfx hC5
          go_wp2_with (at_builtin;go_must (refine app_cells (n:=us.length) (m:=1) (news:=[.slice ua us'.length uc]) rfl (.tmp 45) (.tmp 47) _ rfl (B:=w3.heap.size) ti_ints rfl hown rfl rfl (news1 _ _ _) (one1 _ _ _) (by omega) (by simp;omega) ?_;intro v' w7 hr7 hf7 hl7))
          have hP7:=HG.out v' w7 hf7 hr7 hl7
          have hn7:=fun (j:Nat) (hj:j < w3.heap.size) (e:some j=_)=>Nat.not_le.2 hj (own_lt hown e).1
          have hC7:CM w7 w2.heap.size _ _ _:=box_kept (HC5.out.keep (below_alloc w5 (.cells #[.slice ua us'.length uc] 27))) hf7 (hn7 _ (by have:=HZ3.out;omega))
          have F7:=Lib.hid (((HF.out.trans HU.out.2).thenB (below_alloc w5 (.cells #[.slice ua us'.length uc] 27))).then hf7 (fun j hj e=>absurd e (hn7 j hj)))
          go_wp2
          go_roundg (gk - 1)
          case rel=>exact ⟨k+1,m',us ++ [us'],by have:=HK.out;omega,by go_num,HN.out,by rw [List.length_append,HLK.out];rfl,hP7,hC7,F7.out⟩
          case measure=>have:=HK.out;omega
    · obtain rfl:k=right.length:=by have:=HK.out;omega
      rw [List.take_length] at hgo
      have hc0:=hC.c0
      have hc7:=hC.c7
      obtain ⟨cb,hcb⟩:∃ q,(cntM left.length m == left.length)=q:=⟨_,rfl⟩
      have hE:r=if cb=true then some us else none:=by rw [HM.out,mtchF,hgo,← hcb,← all_bits_cnt]
      have HE:=Lib.hid hE
      have HFF:=Lib.hid hf
      clear hgo hE hC hf hlk
      cases cb with
      | true =>
        have hnb:((cntM left.length m:Int) != (left.length:Int))=false:=by rw [beq_iff_eq] at hcb;simp [hcb]
        clear hcb
        go_wp2
        go_returns
        refine ⟨_,by rw [HE.out];rfl,fun us' e=>?_,HW3.out.trans (HFF.out.below HW3.out.size fun j hj e=>by have:=HZ.out;omega)⟩
        rw [HE.out] at e
        simp only [if_true,Option.some.injEq] at e
        subst e
        exact HP.out.done.mono HW3.out.size
      | false =>
        have hnb:((cntM left.length m:Int) != (left.length:Int))=true:=by rw [beq_eq_false_iff_ne] at hcb;simp;omega
        clear hcb
        go_wp2
        go_returns
        exact ⟨.slice none 0 0,by rw [HE.out];rfl,fun us e=>(by rw [HE.out] at e;cases e),HW3.out.trans (HFF.out.below HW3.out.size fun j hj e=>by have:=HZ.out;omega)⟩
end Go.Proofs.YtkbbmjcfgcfejaaGreat
