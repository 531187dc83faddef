/- Walks: the cell of a term exposed (program: exposeCellAt). -/
import Derived.Test.YtkbbmjcfgcfejaaGreatLExpB
import Derived.Deep.DeepCutAuto
set_option linter.unusedVariables false
set_option linter.unusedSimpArgs false
set_option maxRecDepth 100000
set_option maxHeartbeats 12800000
namespace Go.Proofs.YtkbbmjcfgcfejaaGreat
open Go.RowKit
theorem FE.of {α:Type} [Flat α] [Tid α] {w:World} {B:Nat} {v:Value} {l:List α} (h:OO w B v l):FE w B v l:=by
 obtain ⟨f,⟨xs,fps,h1,h2,h3,h4⟩,hn⟩:=h;exact ⟨xs,.inr h1,fun i hi=>GF (Own.read (h4 i hi))⟩
theorem J8 {w:World} {B:Nat} {v:Value} {l:List Ap} (h:OO w B v l):FE w B v l:=FE.of h
theorem J9 {w:World} {B:Nat} {v:Value} {l:List Am} (h:OO w B v l):FE w B v l:=FE.of h
def TJ (w wd:World) (B:Nat) (C:Aj) (s:Value):Prop:=∃ (t:Nat) (x1 x2:Value),s=.pointer (some ⟨t,0,none⟩)∧wd.heap[t]?=some (.cells #[x1,x2] 26 (0,0))∧(FE wd B x1 C.1∧FE wd B x2 C.2)∧Below w.heap.size w wd∧w.heap.size≤t
section
variable {w w6:World} {B t:Nat} {x1 x2 y1 y2:Value} {C:Aj}
theorem K3 (h1:FE w6 B x1 C.1) (h2:FE w6 B x2 C.2) (hT:w6.heap[t]?=some (.cells #[y1,y2] 26 (0,0))) (hb:Below w.heap.size w w6) (h0:w.heap.size≤t) :
 TJ w ((w6.setCell ⟨t,0,none⟩ x1).setCell ⟨t,1,none⟩ x2) B C (.pointer (some ⟨t,0,none⟩)) :=
 ⟨t,x1,x2,rfl,BX (BL hT _) _,⟨h1.set2 hT Dc,h2.set2 hT Dc⟩,(hb.setCell (p:=⟨t,0,none⟩) h0 _).setCell (p:=⟨t,1,none⟩) h0 _,h0⟩
theorem Ho (h1:FE w6 B x1 C.1) (h2:FE w6 B x2 C.2) (hb:Below w.heap.size w w6):TJ w (w6.alloc (.cells #[x1,x2] 26)) B C (.pointer (some ⟨w6.heap.size,0,none⟩)) :=
 ⟨_,x1,x2,rfl,heap_alloc_new _ _,⟨h1.keep (Aa _ _),h2.keep (Aa _ _)⟩,ba hb _,hb.size⟩
end
theorem A5 {w w5:World} (hb:Below (w.alloc (.cells #[.slice none 0 0,.slice none 0 0] 26)).heap.size (w.alloc (.cells #[.slice none 0 0,.slice none 0 0] 26)) w5):w5.heap[w.heap.size]?=some (.cells #[.slice none 0 0,.slice none 0 0] 26 (0,0)):=Ac (heap_alloc_new w _) hb
theorem A7 {w w5:World} (hb:Below (w.alloc (.cells #[.slice none 0 0,.slice none 0 0] 26)).drew.heap.size (w.alloc (.cells #[.slice none 0 0,.slice none 0 0] 26)).drew w5):w5.heap[w.heap.size]?=some (.cells #[.slice none 0 0,.slice none 0 0] 26 (0,0)):=Ac (Ac (heap_alloc_new w _) (Ai _)) hb
theorem DO (l:List Am) (i:Nat):(Br l i).length≤l.length:=by
 rw [Br,List.length_append,List.length_take,List.length_drop];omega
theorem R4 {w w':World} {B b:Nat} {o:Obj} (h:w.heap[b]?=some o) (hb:Below B w w') (hlt:b < B):w'.heap[b]?=some o:=AA h (Below.chg hb) Om
theorem Jl {S1 S2:Nat→Prop} (v1 v2:Value) (a:Aj) (i:Nat) (t:Int) (w:World) (h1:RL w S1 v1 a.1) (h2:RL w S2 v2 a.2) (hi:i < a.2.length) (hl1:a.1.length≤12) (hl:a.2.length≤6) :
 Calls Tryz.prog 304 #[.agg #[v1,v2],.int .i64 (i:Int),.int .i64 t] w fun e w'=>∃ x1 x2,e=.returned (.tuple #[.agg #[x1,x2],.bool (Ah (BS a i t))])∧(FE w' w.heap.size x1 (BS a i t).1∧FE w' w.heap.size x2 (BS a i t).2)∧Below w.heap.size w w':=by
 obtain ⟨a1,l⟩:=a;simp only at h1 h2 hi hl hl1;obtain ⟨xa1,xc1,rfl⟩:=h1.form;obtain ⟨xa2,xc2,he,hc1,hc2,hf⟩:=h2.atomAt;subst he;obtain ⟨X,hX⟩:=Ex (gd l i);obtain ⟨X1,X2,X3⟩:=X;obtain ⟨bb,oo,rfl,_,hz1,hp1,hp2,hp3⟩:=hf i hi;rw [hX] at hp1 hp2 hp3;simp only at hp1 hp2 hp3;obtain ⟨w0,hw0⟩:=Ey ((w.alloc (.cells #[.slice xa1 a1.length xc1,.slice (some ⟨bb,oo,none⟩) l.length xc2] 26)).alloc (.cells #[.slice none 0 0,.slice none 0 0] 26));have hA:w0.heap[w.heap.size]?=some (.cells #[.slice xa1 a1.length xc1,.slice (some ⟨bb,oo,none⟩) l.length xc2] 26 (0,0)):=by rw [hw0];exact Ac (heap_alloc_new w _) (Aa _ _)
 have hR:w0.heap[w.heap.size+1]?=some (.cells #[.slice none 0 0,.slice none 0 0] 26 (0,0)):=by
  rw [hw0];have:=heap_alloc_new (w.alloc (.cells #[.slice xa1 a1.length xc1,.slice (some ⟨bb,oo,none⟩) l.length xc2] 26)) (.cells #[.slice none 0 0,.slice none 0 0] 26);rw [World.size_alloc] at this;exact this
 have hb0:Below w.heap.size w w0:=by rw [hw0];exact ba (Aa _ _) _
 have hz0:w0.heap.size=w.heap.size+2:=by rw [hw0];simp
 have HW0:=Ad hw0;obtain ⟨W,hW⟩:=Ey ((w0.alloc (.cells #[.int .i64 X1,.int .i64 X2,.int .i64 X3] 118)).alloc (.cells #[.int .i64 1,.int .i64 t,.int .i64 X3] 118));have hbW:Below w0.heap.size w0 W:=by rw [hW];exact ba (Aa _ _) _
 have hzW:W.heap.size=w.heap.size+4:=by rw [hW];simp [hz0]
 have hXB:W.heap[w.heap.size+2]?=some (.cells #[.int .i64 X1,.int .i64 X2,.int .i64 X3] 118 (0,0)):=by rw [hW,← hz0];exact Ac (heap_alloc_new w0 _) (Aa _ _)
 have hL:RL W (fun k=>k=w.heap.size+3) (.slice (some ⟨w.heap.size+3,0,none⟩) 1 1) [((1,t,X3):Am)]:=by
  rw [hW];have:=BB (w0.alloc (.cells #[.int .i64 X1,.int .i64 X2,.int .i64 X3] 118)) 1 t X3 118;rw [World.size_alloc,hz0] at this;exact this
 have HWW:=Ad hW;have H:=Ad (An (An (h1.keep (bt hb0 hbW)) (h2.keep (bt hb0 hbW))) (An hL (An (bt hb0 hbW) (An (Ac hR hbW) hXB))));have HI:=Ad (An hi (An hl1 hl));have HX:=Ad hX;have i1:(i:Int) < (l.length:Int):=by omega
 obtain ⟨a0,a1',al⟩:=B3 hA;have p1:=Ab hb0 hp1;have p2:=Ab hb0 hp2;have p3:=Ab hb0 hp3;have pl:bb < w0.heap.size:=by omega
 have hA2:=Ac hA hbW;have HZ:=Ad (An hzW hz0);clear hp1 hp2 hp3 hA hR hb0 hw0 hbW hW hzW hL hXB h1 h2 hf hX hz0 hz1 hi hl hl1;go_enter Tryz.func304,Tryz.ntmps304
 go_upto_region 1 with fail
 rw [← HW0.o];go_upto_region 3 with fail
 simp only [HZ.o.2];rw [← HWW.o];clear a0 a1' al p1 p2 p3 pl HW0 HWW;obtain ⟨a0,a1',al⟩:=B3 hA2;clear hA2;go_cut [10] (fun s10 wd=>TJ W wd W.heap.size (a1,(1,t,X3) :: Br l i) s10)
 case first =>
  go_region_held3 (fun w'=>w'.cell? ⟨w.heap.size,0,none⟩=some (.slice xa1 a1.length xc1)∧w'.cell? ⟨w.heap.size,1,none⟩=some (.slice (some ⟨bb,oo,none⟩) l.length xc2))
   (exact ⟨(Ck a0),(Ck a1')⟩)
   (first
     | (go_at_call 68;go_must (refine (Bj (S2:=fun _=>True) _ _ a1 [] _ (H.o.1.1.keep Bl) (RL.nil _ _) (by have:=HI.o.2.1;simp;omega)).mono ?_;rw [List.append_nil];rintro e w5 ⟨x1,rfl,o5',hb5'⟩;have o5:=J8 (o5'.mono (B':=W.heap.size) (Below.size (w:=W) (B:=W.heap.size) Bl));obtain ⟨d1,m1,k1,rfl⟩:=o5.forms;have hb5:Below W.heap.size W w5:=bt Bl hb5';have hz5:=hb5.size;(first | (have hT:=A5 hb5') | (have hT:=A7 hb5') | skip);(try simp only [World.size_alloc,World.size_drew] at hT);clear o5' hb5'))
     | (go_at_call 306;go_must (refine (Ed _ _ (a1,l) i _ (H.o.1.1.keep Bl) (H.o.1.2.keep Bl) HI.o.1 HI.o.2.2).mono ?_;rintro e w6 ⟨x2,rfl,o6',hb6'⟩;have o6:=o6'.read.any;obtain ⟨d2,m2,k2,rfl⟩:∃ a n c,x2=.slice a n c:=(by obtain ⟨a,c,h⟩:=o6.form;exact ⟨a,_,c,h⟩);have hb6:Below W.heap.size W w6:=bt Bl hb6';have hb56:Below w5.heap.size w5 w6:=bt Bl hb6';have hz6:=hb56.size;(first | (replace hT:=Ac hT hb56;have _h:=hT) | (have hT:=A5 hb6') | (have hT:=A7 hb6') | skip);(try simp only [World.size_alloc,World.size_drew] at hT);clear o6' hb6'))
     | (go_at_call 70;go_must (refine (Bx _ _ [((1,t,X3):Am)] (Br l i) _ (H.o.2.1.keep Bl) (o6.keep Bl) (by have:=DO l i;have:=HI.o.2.2;simp;omega)).mono ?_;rintro e w7 ⟨x3,rfl,o7',hb7'⟩;have o7:=J9 (o7'.mono (B':=W.heap.size) (Below.size (w:=W) (B:=W.heap.size) Bl));obtain ⟨d3,m3,k3,rfl⟩:=o7.forms;have hb7:Below W.heap.size W w7:=bt Bl hb7';have hb67:Below w6.heap.size w6 w7:=bt Bl hb7';have hz7:=hb67.size;(first | (replace hT:=Ac hT hb67;have _h:=hT) | (have hT:=A5 hb7') | (have hT:=A7 hb7') | skip);(try simp only [World.size_alloc,World.size_drew] at hT);(first | (have V9:=B4 hT;obtain ⟨ht0,ht1,htz,htl⟩:=V9) | skip);clear o7' hb7'))
     | fail)
  all_goals
   have HQ:=Ad (An (o5.keep (bt hb56 hb67)) (An o7 hb7));clear o5 o6 o7;go_wp2;go_meet
   case rel =>
    first
      | exact Ho HQ.o.1 HQ.o.2.1 HQ.o.2.2
      | exact K3 HQ.o.1 HQ.o.2.1 hT HQ.o.2.2 Om
      | fail
 case rest =>
  rename World=>wd
  obtain ⟨tB,y1,y2,rfl,hT,⟨r1,r2⟩,hbd,htz⟩:=hcut;obtain ⟨c1,n1,e1,rfl⟩:=r1.forms;obtain ⟨c2,n2,e2,rfl⟩:=r2.forms;obtain ⟨C,hC⟩:=Ex (BS (a1,l) i t);have hC2:C.2=(1,t,X3) :: Br l i:=by rw [← hC];show (1,t,(gd l i).2.2) :: Br l i=_;rw [HX.o]
  have hC1:C.1=if X2=t then a1 else a1 ++ [(true,X2,t)]:=by rw [← hC];show (if (gd l i).2.1=t then a1 else a1 ++ [(true,(gd l i).2.1,t)])=_;rw [HX.o]
  have HC:=Ad (An hC (An hC1 hC2));have hzW:=HZ.o.1;have hb9:Below w.heap.size w wd:=bt H.o.2.2.1 hbd;have hX:=Ac H.o.2.2.2.2 hbd;have x1':=cr 1 hX;have xl:=Ae hX;have hR:=Ac H.o.2.2.2.1 hbd;obtain ⟨t0,t1,tz,tl⟩:=B4 hT;have HT:=Ad (An hT (An (An r1 r2) (An hb9 (An hR (show w.heap.size+4≤tB by omega)))));have hdz:=hbd.size;have htB:w.heap.size+4≤tB:=by omega
  clear hT r1 r2 hb9 hX hR htz hbd hC hC1 hC2 a0 a1' al H;go_upto_if 33 with fail
  go_cut [] (fun we=>∃ z1 z2,we.heap[tB]?=some (.cells #[z1,z2] 26 (0,0))∧(FE we W.heap.size z1 C.1∧FE we W.heap.size z2 C.2)∧Below w.heap.size w we∧we.heap[w.heap.size+1]?=some (.cells #[.slice none 0 0,.slice none 0 0] 26 (0,0)))
  case first =>
   by_cases hXt:X2=t
   · have hs:(X2 != t)=false:=by simp [hXt]
     have HE:=Ad (show C.1=a1 by rw [HC.o.2.1,if_pos hXt]);clear hXt;go_wp2;go_meet
     case rel=>exact ⟨_,_,HT.o.1,⟨by rw [HE.o];exact HT.o.2.1.1,by rw [HC.o.2.2];exact HT.o.2.1.2⟩,HT.o.2.2.1,HT.o.2.2.2.1⟩
   · have hs:(X2 != t)=true:=by simp [hXt]
     have HE:=Ad (show C.1=a1 ++ [(true,X2,t)] by rw [HC.o.2.1,if_neg hXt]);clear hXt;have hl1:=HI.o.2.1;have HLI:=Ad hl1;clear hl1;go_wp2_with (at_builtin;go_must (refine Ez (l:=a1) (m:=[((true,X2,t):Ap)]) (B:=W.heap.size) rfl (.tmp 35) (.tmp 40) _ rfl A0 rfl (HT.o.2.1.1.keep (Aa _ _)) rfl (Bm _ _ _ _ _) (by have:=HLI.o;simp;omega) (by simp;omega) ?_;intro v8 w8 o8 hf8;obtain ⟨a8,n8,c8,rfl⟩:=o8.forms;have hA8:=AM (Ac HT.o.1 (Aa wd (.cells #[.bool true,.int .i64 X2,.int .i64 t] 61))) hf8 Dc;have e0:=Bd hA8;have e1':=AY hA8;have ez:=BI hA8 0;have el:=Ae hA8;clear e1'))
     have hb8:=AG hf8 (show W.heap.size≤_ by simp;omega);have hkp:=Aa wd (.cells #[.bool true,.int .i64 X2,.int .i64 t] 61);have hS:∀ {e:TypeId},26 ≠ e→¬ TF w8 W.heap.size e tB:=fun hne=>Ge hA8 hne;have fF:FE (w8.setCell ⟨tB,0,none⟩ (.slice a8 n8 c8)) W.heap.size (.slice a8 n8 c8) (a1 ++ [((true,X2,t):Ap)]):=o8.setB (hS (e:=61) Dc);have fA:FE (w8.setCell ⟨tB,0,none⟩ (.slice a8 n8 c8)) W.heap.size (.slice c2 n2 e2) ((1,t,X3) :: Br l i):=((HT.o.2.1.2.keep hkp).tf hf8 Dc).setB (hS (e:=118) Dc);have HG:=Ad (An (BL hA8 (.slice a8 n8 c8)) (An (An fF fA) (An (((bt HT.o.2.2.1 hkp).trans (hb8.mono Om)).setCell (p:=⟨tB,0,none⟩) (by have:=HT.o.2.2.2.2;show w.heap.size≤tB;omega) (.slice a8 n8 c8)) (Ax (R4 (Ac HT.o.2.2.2.1 hkp) hb8 Om) ⟨tB,0,none⟩ (.slice a8 n8 c8) (by have:=HT.o.2.2.2.2;show ¬ w.heap.size+1=tB;omega)))));clear hA8 hb8 hkp o8 hf8;go_meet
     case rel=>exact ⟨_,_,HG.o.1,⟨by rw [HE.o];exact HG.o.2.1.1,by rw [HC.o.2.2];exact HG.o.2.1.2⟩,HG.o.2.2.1,HG.o.2.2.2⟩
  case rest =>
   rename World=>we
   obtain ⟨z1,z2,hT,⟨r1,r2⟩,hb9,hR⟩:=hcut;obtain ⟨c1,n1,e1,rfl⟩:=r1.forms;obtain ⟨c2,n2,e2,rfl⟩:=r2.forms;obtain ⟨u0,u1,ul⟩:=B3 hT;have HV:=Ad (show ∃ b,Ah C=b from ⟨_,rfl⟩);obtain ⟨b,hb⟩:=HV.o;have HB:=Ad hb;have HU:=Ad (An (An r1 r2) (An hb9 hR));clear hT r1 r2 hb9 hR hb t0 t1 tz tl HT;(go_upto_region 6 with fail);go_region_held3 (fun w'=>w'.cell? ⟨tB,0,none⟩=some (.slice c1 n1 e1)∧w'.cell? ⟨tB,1,none⟩=some (.slice c2 n2 e2))
    (exact ⟨(Ck u0),(Ck u1)⟩)
    ((go_at_call 64;go_must (refine (cb (Aq _ _ C _ (HU.o.1.1.rl.keep Bl) (HU.o.1.2.rl.keep Bl)) HB.o).mono ?_;rintro e w5 ⟨rfl,hb5'⟩;have hb5:Below we.heap.size we w5:=bt Bl hb5';have hz5:=hb5.size;have hR5:=Ac HU.o.2.2 hb5;obtain ⟨q0,q1,qz,ql⟩:=B4 hR5;clear hb5')))
   all_goals
    have hs6:=El w5 (w.heap.size+1) (.slice c1 n1 e1) (.slice c2 n2 e2);have HO:=Ad (An (An ((FE.set2 (x:=.slice c1 n1 e1) (y:=.slice c2 n2 e2) (HU.o.1.1.keep hb5) hR5 Dc).mono (B':=w.heap.size) Om) ((FE.set2 (x:=.slice c1 n1 e1) (y:=.slice c2 n2 e2) (HU.o.1.2.keep hb5) hR5 Dc).mono (B':=w.heap.size) Om)) ((bt HU.o.2.1 hb5).trans (hs6.below (bt HU.o.2.1 hb5).size fun k hk e=>by have e2:k=w.heap.size+1:=e;omega)));have rr:=Au (.slice c1 n1 e1) (.slice c2 n2 e2) q0 q1;clear hs6 hR5;go_wp2;refine bodyPost_ret (v:=.tuple #[.agg #[.slice c1 n1 e1,.slice c2 n2 e2],.bool b]) (by simp [results,Tryz.results304,go_sem,rr.1,rr.2]) rfl ?_;exact ⟨_,_,by rw [HC.o.1,HB.o],by rw [HC.o.1];exact HO.o.1,HO.o.2⟩
theorem K4 {w:World} {B e sz n:Nat} {v:Value} {xs:List Value} (h:RowE w B e sz v n xs):(n=0∧xs=[]∧∃ a,v=.slice a 0 0)∨(w.ownsRow B e sz v n xs∧¬ ∃ a,v=.slice a 0 0):=by
 by_cases he:∃ a,v=.slice a 0 0
 · refine .inl ?_
   obtain ⟨a,rfl⟩:=he;rcases h with h | h
   · exact ⟨h.1,h.2.1,a,rfl⟩
   · have hl:=h.1
     have hn:n=0:=by
      rcases h.2 with ⟨_,h0⟩ | ⟨g,cap,cur,h0,_⟩
      · exact h0
      · injection h0 with _ h0 _
        exact h0.symm
     subst hn;exact ⟨rfl,List.eq_nil_of_length_eq_zero (by simpa using hl),a,rfl⟩
 · rcases h with h | h
   · exact absurd h.2.2 he
   · exact .inr ⟨h,he⟩
theorem Qe {w:World} {B:Nat} {t e:TypeId} {sz:Nat} (ti:TI t e sz) (ty:TypeId) {v:Value} {n:Nat} {xs:List Value} (hown:RowE w B e sz v n xs) {A:Option Addr} {m c:Nat} {news:List Value} (hl:news.length=m * sz)
 (hnews:0 < m→∃ b o,A=some ⟨b,o,none⟩∧∀ j u,news[j]?=some u→w.cell? ⟨b,o+j,none⟩=some u) (h1:∀ u ∈ news,u.oneCell'=true) (hn:n+m≤1099511627776) (hB:B≤w.heap.size) :
 ∃ v' w',(Builtin.append_ #[t,t] ty #[v,.slice A m c]).run Tryz.prog w=.ok v' w'∧RowE w' B e sz v' (n+m) (xs ++ news)∧Fr (fun k=>some k=v.ownBlock∧¬ ∃ a,v=.slice a 0 0) w w'∧((m=0∧v'=v)∨((¬ ∃ a,v=.slice a 0 0)∧v'.ownBlock=v.ownBlock)∨v'.ownBlock=none∨v'.ownBlock=some w.heap.size):=by
 rcases K4 hown with ⟨rfl,rfl,a,rfl⟩ | ⟨hown,hne⟩
 · by_cases hm:m=0
   · subst hm
     obtain ⟨i,z,t1,t2,_⟩:=ti;obtain rfl:news=[]:=List.eq_nil_of_length_eq_zero (by simpa using hl);exact ⟨_,w,Ki t1 t2 a A c,.inl ⟨rfl,rfl,a,rfl⟩,Fr.refl _ _,.inl ⟨rfl,rfl⟩⟩
   · cases a with
     | none =>
       obtain ⟨v',w',hrun,ho,hf,hv⟩:=DF ti ty (World.ownsRow_nil w B e sz) hl hnews h1 hn hB (c:=c);exact ⟨v',w',hrun,.inr ho,hf.mono fun k _ hk=>by simp [Value.ownBlock] at hk,by rcases hv with hv | hv;exact .inr (.inr (.inl hv));exact .inr (.inr (.inr hv))⟩
     | some ad =>
       obtain ⟨i,z,t1,t2,t3,t4,t5,t6,t7⟩:=ti;obtain ⟨b,o,rfl,hc⟩:=hnews Om;have hc':∀ j u,news[j]?=some u→w.cell? ((⟨b,o,none⟩:Addr).add j)=some u:=fun j u hj=>by
        (have e:(⟨b,o,none⟩:Addr).add j=⟨b,o+j,none⟩:=by unfold Addr.add;split <;> simp_all);rw [e];exact hc j u hj
       have hbytes:(0+m) * i.bytes≤140737488355328:=by
        have:(0+m) * i.bytes≤1099511627776 * 128:=Nat.mul_le_mul hn t5;omega
       subst t4;have hr:=run_append_grow (P:=Tryz.prog) w t ty e i z t1 t2 t3 ad 0 0 [] Sp (fun j u hj=>by simp at hj) ⟨b,o,none⟩ m c news hl hc' Om Om (growslice_fits Om hbytes);refine ⟨_,_,hr,.inr ?_,?_,.inr (.inr (.inr ?_))⟩
       · have hge:=grownCap_ge w (0+m) 0 e
         have hcm:grownCap w (0+m) 0 e≤maxLen:=grownCap_le_maxLen w (0+m) 0 e (by unfold maxLen;omega);refine ⟨by rw [List.nil_append,hl,Nat.zero_add],.inr ⟨w.heap.size,_,_,rfl,hB,heap_alloc_new w.drew _,hge,hcm,?_,?_⟩⟩
         · simp only [Array.size_append,List.size_toArray,size_zeroCells,t6,hl,List.length_nil,Nat.zero_add,← Nat.add_mul]
           simp only [Nat.zero_add] at hge;rw [Nat.add_sub_cancel' hge]
         · simp only [Array.toList_append,List.nil_append,Nat.zero_add]
           rw [← hl];exact List.take_left
       · exact (Below.fr (Ai w |>.trans ((Aa w.drew _).mono (Nat.le_refl _)))).mono fun _ _ h=>h.elim
       · rfl
 · obtain ⟨v',w',hrun,ho,hf,hv⟩:=DF ti ty hown hl hnews h1 hn hB (c:=c)
   exact ⟨v',w',hrun,.inr ho,hf.mono fun k _ hk=>⟨hk,hne⟩,by rcases hv with hv | hv;exact .inr (.inl ⟨hne,hv⟩);exact .inr (.inr (.inr hv))⟩
def GX {α:Type} [Dat α] [Tid α] (w:World) (B:Nat) (R:Nat→Prop) (v:Value) (l:List α):Prop :=
 ∃ xs,RowE w B (Tid.tid α) (Dat.sz α) v l.length xs∧∀ i,i < l.length→Dat.rd w (fun k=>R k∧¬ some k=v.ownBlock) (gd l i) (Bz (Dat.sz α) xs i)
section
variable {α:Type} [Dat α] [Tid α] {w w':World} {B B':Nat} {v x:Value} {l m:List α} {R R' S T:Nat→Prop}
theorem GX.nil (w:World) (B:Nat) (R:Nat→Prop) (a:Option Addr):GX w B R (.slice a 0 0) ([]:List α):=⟨[],Hc _ _ _ _ a,fun i hi=>absurd hi Sp⟩
theorem GX.rl (h:GX w B R v l):RL w (fun k=>R k∨B≤k) v l:=by
 obtain ⟨xs,h1,h2⟩:=h;exact (RowE.rl h1 h2).more fun k _ hk=>hk.elim (fun h=>.inl h.1) .inr
theorem GX.kept (h:GX w B R v l) (hf:Fr T w w') (hs:∀ k,k < w.heap.size→R k∨B≤k→¬ T k):GX w' B R v l:=by
 obtain ⟨xs,h1,h2⟩:=h;refine ⟨xs,?_,fun i hi=>Dat.kept (h2 i hi) hf fun k hk ho=>hs k hk (.inl ho.1)⟩;rcases h1 with h1 | h1
 · exact .inl h1
 · exact .inr (BR h1 hf fun k hk=>hs k (AD h1 hk).2 (.inr (AD h1 hk).1))
theorem GX.keep (h:GX w B R v l) (hb:Below w.heap.size w w'):GX w' B R v l:=h.kept (Below.fr hb) fun _ _ _ h=>h
theorem GX.mono (h:GX w B R v l) (hB:B'≤B) (hR:∀ k,k < w.heap.size→R k→R' k):GX w B' R' v l:=by
 obtain ⟨xs,h1,h2⟩:=h;exact ⟨xs,h1.mono hB,fun i hi=>Dat.more (h2 i hi) fun k hk ho=>⟨hR k hk ho.1,ho.2⟩⟩
theorem GX.forms (h:GX w B R v l):∃ a n c,v=.slice a n c:=by obtain ⟨a,c,h⟩:=h.rl.form;exact ⟨a,_,c,h⟩
theorem GX.form (h:GX w B R v l):∃ a c,v=.slice a l.length c:=h.rl.form
theorem GX.inside (h:GX w B R v l):(∃ a,v=.slice a 0 0)∨∀ k,some k=v.ownBlock→B≤k∧k < w.heap.size:=by
 obtain ⟨xs,h1,h2⟩:=h;rcases K4 h1 with h1 | ⟨h1,_⟩
 · exact .inl h1.2.2
 · exact .inr fun k hk=>AD h1 hk
theorem TK {t:TypeId} (ti:TI t (Tid.tid α) (Dat.sz α)) (ty:TypeId) (h:GX w B R v l) (hr:RL w S x m) (hS:∀ k,k < w.heap.size→S k→R k∧((¬ ∃ a,v=.slice a 0 0)→¬ some k=v.ownBlock)) (hn:l.length+m.length≤1099511627776) (hB:B≤w.heap.size) :
 ∃ v' w',(Builtin.append_ #[t,t] ty #[v,x]).run Tryz.prog w=.ok v' w'∧GX w' B R v' (l ++ m)∧Fr (fun k=>some k=v.ownBlock∧¬ ∃ a,v=.slice a 0 0) w w':=by
 obtain ⟨xs,hown,hx⟩:=h;obtain ⟨a,c,rfl⟩:=hr.form;obtain ⟨_,news,hrd,hone,hnth⟩:=hr.reads;obtain ⟨v',w',hrun,h1,h2,h3⟩:=Qe ti ty hown hrd.1 (A:=a) (c:=c) (fun hm=>by
  rcases hr with ⟨a',cap,e,rfl,_⟩ | ⟨b,o,cap,e,_⟩
  · simp at hm
  · injection e with e
    subst e;obtain ⟨ad,e2,_,hc⟩:=hrd.2 hm;injection e2 with e2
    subst e2;exact ⟨b,o,rfl,fun j u hj=>by
     (have e:(⟨b,o,none⟩:Addr).add j=⟨b,o+j,none⟩:=by unfold Addr.add;split <;> simp_all);rw [← e];exact hc j u hj⟩) hone hn hB
 have sep:∀ k,k < w.heap.size→((¬ ∃ a,v=.slice a 0 0)→¬ some k=v.ownBlock)→(m.length ≠ 0∨¬ ∃ a,v=.slice a 0 0)→¬ some k=v'.ownBlock:=by
  intro k hk h4 h5 e;rcases h3 with ⟨h6,h7⟩ | ⟨h6,h7⟩ | h6 | h6
  · rcases h5 with h5 | h5
    · exact h5 h6
    · rw [h7] at e;exact h4 h5 e
  · rw [h7] at e;exact h4 h6 e
  · rw [h6] at e;cases e
  · rw [h6] at e
    injection e with e
    omega
 have old:∀ {a:α} {cs:List Value} {S:Nat→Prop},(m.length ≠ 0∨¬ ∃ a,v=.slice a 0 0)→(∀ k,k < w.heap.size→S k→R k∧((¬ ∃ a,v=.slice a 0 0)→¬ some k=v.ownBlock))→Dat.rd w S a cs→Dat.rd w' (fun k=>R k∧¬ some k=v'.ownBlock) a cs:=fun h5 hS hd =>
  Dat.more (Dat.kept (Dat.more (S':=fun k=>(R k∧((¬ ∃ a,v=.slice a 0 0)→¬ some k=v.ownBlock))∧k < w.heap.size) hd fun k hk ho=>⟨hS k hk ho,hk⟩) h2 fun k hk ho ht=>ho.1.2 ht.2 ht.1) fun k _ ho=>⟨ho.1.1,sep k ho.2 ho.1.2 h5⟩
 refine ⟨v',w',hrun,⟨xs ++ news,by rw [List.length_append];exact h1,fun i hi=>?_⟩,h2⟩;rw [List.length_append] at hi;have hxl:=hown.len;by_cases hlt:i < l.length
 · have hne:¬ ∃ a,v=.slice a 0 0:=by
    rcases K4 hown with h | h
    · omega
    · exact h.2
   rw [Dj hlt,Fb hxl hlt];exact old (.inr hne) (fun k _ ho=>⟨ho.1,fun _=>ho.2⟩) (hx i hlt)
 · obtain ⟨j,rfl⟩:∃ j,i=l.length+j:=⟨i - l.length,by omega⟩
   rw [Fx Om,Gd hxl,Nat.add_sub_cancel_left];exact old (.inl Om) hS (hnth j Om)
theorem UZ {o:Oper} {a:Act} {K:Act→World→Prop} {Q:Exit→Act→World→Prop} (s y:Operand) (t:TypeId)
 (ho:o.op=.call { callee:=.builtin .append,args:=#[s,y],argTypes:=#[t,t] }) (ti:TI t (Tid.tid α) (Dat.sz α)) {vx:Value} (hs:a.eval s=v) (hown:GX w B R v l)
 (hx:a.eval y=vx) (hr:RL w S vx m) (hS:∀ k,k < w.heap.size→S k→R k∧((¬ ∃ a,v=.slice a 0 0)→¬ some k=v.ownBlock)) (hn:l.length+m.length≤1099511627776) (hB:B≤w.heap.size)
 (h:∀ v' w',GX w' B R v' (l ++ m)→Fr (fun k=>some k=v.ownBlock∧¬ ∃ a,v=.slice a 0 0) w w'→K (a.put o.dst v') w'):o.wp Tryz.prog a w K Q:=by
 obtain ⟨v',w',hrun,h1,h2⟩:=TK ti o.type hown hr hS hn hB;unfold Oper.wp execOp;simp only [ho,resolve,invoke,builtin,Sem.run_bind,Sem.run_pure,Result.andThen_ok,List.map_toArray,List.map_cons,List.map_nil,hs,hx,hrun];exact h v' w' h1 h2
theorem D8 {ops:Array Oper} {rest:List Oper} {o:Oper} {a:Act} {Q:Exit→Act→World→Prop} (hgd:o.guard=none) (s y:Operand) (t:TypeId)
 (ho:o.op=.call { callee:=.builtin .append,args:=#[s,y],argTypes:=#[t,t] }) (ti:TI t (Tid.tid α) (Dat.sz α)) {vx:Value} (hs:a.eval s=v) (hown:GX w B R v l)
 (hx:a.eval y=vx) (hr:RL w S vx m) (hS:∀ k,k < w.heap.size→S k→R k∧((¬ ∃ a,v=.slice a 0 0)→¬ some k=v.ownBlock)) (hn:l.length+m.length≤1099511627776) (hB:B≤w.heap.size)
 (h:∀ v' w',GX w' B R v' (l ++ m)→Fr (fun k=>some k=v.ownBlock∧¬ ∃ a,v=.slice a 0 0) w w'→wpList Tryz.prog ops Q rest (a.put o.dst v') w'):wpList Tryz.prog ops Q (o :: rest) a w :=
 wpList_plain hgd fun _ hK=>UZ s y t ho ti hs hown hx hr hS hn hB fun v' w' h1 h2=>hK _ _ (h v' w' h1 h2)
theorem GX.below (h:GX w B R v l) {w0:World} {B0:Nat} (hb:Below B0 w0 w) (hB:B0≤B) (hB0:B0≤w.heap.size) (hf:Fr (fun k=>some k=v.ownBlock∧¬ ∃ a,v=.slice a 0 0) w w'):Below B0 w0 w' :=
 hb.trans (hf.below hB0 fun k hk e=>by
  rcases h.inside with ⟨a,ha⟩ | h2
  · exact e.2 ⟨a,ha⟩
  · have:=(h2 k e.1).1;omega)
end
theorem GX.fresh {w:World} {B:Nat} {v:Value} (R:Nat→Prop) (h:w.ownsRow B 26 2 v 0 []):GX w B R v ([]:List Aj):=⟨[],.inr h,fun i hi=>absurd hi Sp⟩
theorem M9 {S1 S2:Nat→Prop} (v1 v2:Value) (l1 l2:List Aj) (w:World) (h1:RL w S1 v1 l1) (h2:RL w S2 v2 l2) (hn:l1.length+l2.length≤16777216) :
 Calls Tryz.prog 315 #[v1,v2] w fun e w'=>∃ v,e=.returned v∧GX w' w.heap.size (fun k=>(S1 k∨S2 k)∧k < w.heap.size) v (l1 ++ l2)∧Below w.heap.size w w':=by
 obtain ⟨a1,c1,rfl⟩:=h1.form;obtain ⟨a2,c2,rfl⟩:=h2.form;have q1:RL w (fun k=>S1 k∧k < w.heap.size) (.slice a1 l1.length c1) l1:=h1.more fun k hk h=>⟨h,hk⟩;have q2:RL w (fun k=>S2 k∧k < w.heap.size) (.slice a2 l2.length c2) l2:=h2.more fun k hk h=>⟨h,hk⟩;obtain ⟨i0,hi,hz0,hz1,hz2⟩:=info_parts Kn;clear h1 h2;go_enter Tryz.func315,Tryz.ntmps315
 go_wp2_with (first
  | (at_make;refine wpList_make_own _ rfl _ _ 170 rfl w.heap.size 26 i0 (.agg #[.slice none 0 0,.slice none 0 0]) 2 Tryz.underlying170 hi hz0 hz1 _ _ _ (l1.length+l2.length) rfl rfl Om (by rw [hz2];omega) (by unfold maxLen;omega) (Nat.le_refl _) ?_;intro w1 hown hgr;have hb1:=(AF hgr).below (B:=w.heap.size) (Nat.le_refl _) (by intro k _ e;cases e);have hg:=GX.fresh (fun k=>(S1 k∨S2 k)∧k < w.heap.size) hown)
  | (at_builtin;(fail_if_success have _q:=hb2);go_must (refine D8 (l:=([]:List Aj)) (m:=l1) rfl (.tmp 12) (.tmp 13) _ rfl (B:=w.heap.size) Cy rfl hg rfl (q1.keep hb1) (fun k _ h=>⟨⟨.inl h.1,h.2⟩,fun hne e=>by rcases hg.inside with h4 | h4;exact hne h4;have:=(h4 k e).1;have:=h.2;omega⟩) (by simp;omega) hb1.size ?_;intro v2 w2 p1 f1;rw [List.nil_append] at p1;have hb2:=hg.below hb1 (Nat.le_refl _) hb1.size f1;obtain ⟨d2,n2,k2,rfl⟩:=p1.forms))
  | (at_builtin;go_must (refine D8 (l:=l1) (m:=l2) rfl (.tmp 14) (.tmp 15) _ rfl (B:=w.heap.size) Cy rfl p1 rfl (q2.keep hb2) (fun k _ h=>⟨⟨.inr h.1,h.2⟩,fun hne e=>by rcases p1.inside with h4 | h4;exact hne h4;have:=(h4 k e).1;have:=h.2;omega⟩) Om hb2.size ?_;intro v3 w3 p2 f2;have hb3:=p1.below hb2 (Nat.le_refl _) hb2.size f2;obtain ⟨d3,n3,k3,rfl⟩:=p2.forms)))
 go_ret;exact ⟨_,rfl,p2,hb3⟩
def U0 (m:Nat) (t:Int) (a:Aj) (i:Nat):Option (List Aj):=(D2 (Ak a ||| m)).bind fun n=>(Ec m t (CN a i)).bind fun x=>(Ec m t (Bp a i n)).map fun y=>x ++ y
theorem U1 {m:Nat} {t:Int} {a:Aj} (ha:Ah a=true) (hl:a.2.length≤6):Ec m t a=if Cl a=true then
 (match atomAt a 1 t with
  | some i=>(Es (BS a i t)).map fun b=>[b]
  | none=>match atomAt a 2 t with
    | some i=>U0 m t a i
    | none=>none)
 else some []:=V6 ha hl
def TL (O:Option (List Aj)) (w:World) (e:Ending) (w':World):Prop:=∃ v,e=.returned (.tuple #[v,.bool O.isSome])∧RL w' (fun k=>w.heap.size≤k) v (O.getD [])∧Below w.heap.size w w'
theorem DP {w w':World} (hb:Below w.heap.size w w'):TL none w (.returned (.tuple #[.slice none 0 0,.bool false])) w':=⟨_,rfl,RL.nil _ _,hb⟩
theorem TN {w w':World} (hb:Below w.heap.size w w'):TL (some []) w (.returned (.tuple #[.slice none 0 0,.bool true])) w':=⟨_,rfl,RL.nil _ _,hb⟩
theorem Du {α:Type} [Dat α] {w:World} {S:Nat→Prop} {v:Value} {l:List α} {o:Obj} (h:RL w S v l):RL (w.alloc o) S v l:=h.keep (Aa _ _)
theorem Cr {w:World} {S:Nat→Prop} {x1 x2:Value} {a:Aj} (h1:RL w S x1 a.1) (h2:RL w S x2 a.2) (hS:S w.heap.size) :
 RL (w.alloc (.cells #[x1,x2] 26)) S (.slice (some ⟨w.heap.size,0,none⟩) 1 1) [a]:=by
 refine .inr ⟨w.heap.size,0,1,rfl,by simp,by unfold maxLen;omega,fun _=>⟨hS,by simp⟩,fun i hi=>⟨[x1,x2],?_,fun j u hj=>?_⟩⟩
 · have:i=0:=by simpa using hi
   subst this;exact GE (h1.keep (Aa _ _)) (h2.keep (Aa _ _))
 · have:i=0:=by simpa using hi
   subst this;rw [cell_of_row _ _ _ _ _ _ (heap_alloc_new w _)];simp [hj]
theorem En {a:Aj} (h:Ah a=true):a.1.length≤12∧a.2.length≤6:=by
 simp only [Ah,Bv,Bool.and_eq_true,decide_eq_true_eq] at h;exact ⟨h.1.1,h.2.1⟩
def R5 (m:Nat) (t:Int) (a:Aj):Prop:=∀ (S1 S2:Nat→Prop) (v1 v2:Value) (w:World),RL w S1 v1 a.1→RL w S2 v2 a.2→Calls Tryz.prog 287 #[.agg #[v1,v2],.int .i64 t,.int .u16 m] w (TL (Ec m t a) w)
def V7 (m:Nat) (t:Int) (a:Aj) (i:Nat):Prop:=∀ (S1 S2:Nat→Prop) (v1 v2:Value) (w:World),RL w S1 v1 a.1→RL w S2 v2 a.2→Calls Tryz.prog 305 #[.agg #[v1,v2],.int .i64 (i:Int),.int .i64 t,.int .u16 m] w (TL (U0 m t a i) w)
theorem GA {m:Nat} {t:Int} {a:Aj} (ha:Ah a=true) (H:∀ i,atomAt a 1 t=none→atomAt a 2 t=some i→V7 m t a i):R5 m t a:=by
 intro S1 S2 v1 v2 w h1 h2;have hsz:=En ha;have he:=U1 (m:=m) (t:=t) ha hsz.2;obtain ⟨O,hO⟩:=Ex (Ec m t a);rw [hO] at he ⊢;obtain ⟨xa1,xc1,rfl⟩:=h1.form;obtain ⟨xa2,xc2,rfl⟩:=h2.form;obtain ⟨w0,hw0⟩:=Ey (w.alloc (.cells #[.slice xa1 a.1.length xc1,.slice xa2 a.2.length xc2] 26));have hb0:Below w.heap.size w w0:=by rw [hw0];exact Aa _ _
 have hA:w0.heap[w.heap.size]?=some (.cells #[.slice xa1 a.1.length xc1,.slice xa2 a.2.length xc2] 26 (0,0)):=by rw [hw0];exact heap_alloc_new _ _
 obtain ⟨a0,a1,al⟩:=B3 hA;obtain ⟨b,hb⟩:=Ex (Cl a);rw [hb] at he;have HW0:=Ad hw0;have HB:=Ad hb;have HE:=Ad he;have HR:=Ad (An (h1.keep hb0) (An (h2.keep hb0) hb0));have HH:=Ad H;have HZ:=Ad hsz;clear hb he h1 h2 hb0 hw0 hA H hsz;go_enter Tryz.func287,Tryz.ntmps287
 go_upto_region 1 with fail
 rw [← HW0.o];go_wp2_with fail
 refine (cb (C1 _ _ a _ HR.o.1 HR.o.2.1) HB.o).mono ?_;rintro e w1 ⟨rfl,hb1⟩;have HR1:=Ad (An (HR.o.1.keep hb1) (An (HR.o.2.1.keep hb1) (bt HR.o.2.2 hb1)));replace a0:=Ab hb1 a0;replace a1:=Ab hb1 a1;clear hb1;have al1:w.heap.size < w1.heap.size:=World.block_lt_of_cell? w1 _ a0;cases b with
 | false =>
   have hO2:O=some []:=HE.o;subst hO2;go_wp2;go_returns;exact TN HR1.o.2.2
 | true =>
   have HE2:=Ad (show O=(match atomAt a 1 t with
    | some i=>(Es (BS a i t)).map fun b=>[b]
    | none=>match atomAt a 2 t with
      | some i=>U0 m t a i
      | none=>none) from HE.o)
   clear HE;(go_wp2_with fail);refine (JK _ _ a 1 t _ HR1.o.1 HR1.o.2.1).mono ?_;rintro e w2 ⟨rfl,hb2⟩;have HR2:=Ad (An (HR1.o.1.keep hb2) (An (HR1.o.2.1.keep hb2) (bt HR1.o.2.2 hb2)));replace a0:=Ab hb2 a0;replace a1:=Ab hb2 a1;clear hb2;have al2:w.heap.size < w2.heap.size:=World.block_lt_of_cell? w2 _ a0;clear HR1 HR;obtain ⟨F,hF⟩:=Ex (atomAt a 1 t);have hE3:=HE2.o;rw [hF] at hE3 ⊢;cases F with
   | some i =>
     have hi:=(E2 hF).1;have hE4:O=(Es (BS a i t)).map fun b=>[b]:=hE3;have HE4:=Ad hE4;have HI:=Ad hi;obtain ⟨ok,hok⟩:=Ex (Ah (BS a i t));have HOK:=Ad hok;clear hF hE3 hE4 hi HE2 hok;rw [Ot];(go_wp2_with fail);refine (Jl _ _ a i t _ HR2.o.1 HR2.o.2.1 HI.o HZ.o.1 HZ.o.2).mono ?_;rw [HOK.o];rintro e w3 ⟨x1,x2,rfl,⟨r1,r2⟩,hb3⟩;obtain ⟨p1,n1,c1,rfl⟩:=r1.forms;obtain ⟨p2,n2,c2,rfl⟩:=r2.forms;have HR3:=Ad (An (r1.rl.more (S':=fun k=>w.heap.size≤k) fun k _ h=>by have h2:w2.heap.size≤k:=h;show w.heap.size≤k;omega) (An (r2.rl.more (S':=fun k=>w.heap.size≤k) fun k _ h=>by have h2:w2.heap.size≤k:=h;show w.heap.size≤k;omega) (bt HR2.o.2.2 hb3)));have hz3:=(bt HR2.o.2.2 hb3).size;clear r1 r2 hb3;cases ok with
     | false =>
       have HO:=Ad (show O=none by rw [HE4.o,Es,HOK.o];rfl);go_wp2;go_returns;rw [HO.o];exact DP (ba HR3.o.2.2 _)
     | true =>
       have HO:=Ad (show O=some [BS a i t] by rw [HE4.o,Es,HOK.o];rfl);go_wp2;go_returns;rw [HO.o];have hL:RL ((w3.alloc (.cells #[.slice p1 n1 c1,.slice p2 n2 c2] 26)).alloc (.cells #[.slice p1 n1 c1,.slice p2 n2 c2] 26)) (fun k=>w.heap.size≤k) (.slice (some ⟨w3.heap.size+1,0,none⟩) 1 1) [BS a i t]:=by
        have h:=Cr (w:=w3.alloc (.cells #[.slice p1 n1 c1,.slice p2 n2 c2] 26)) (a:=BS a i t) (Du HR3.o.1) (Du HR3.o.2.1) (by simp;omega);rw [World.size_alloc] at h;exact h
       exact ⟨_,rfl,hL,ba (ba HR3.o.2.2 _) _⟩
   | none =>
     have HF1:=Ad hF;have HE4:=Ad (show O=(match atomAt a 2 t with
      | some i=>U0 m t a i
      | none=>none) from hE3)
     clear hF hE3 HE2;(go_wp2_with fail);refine (JK _ _ a 2 t _ HR2.o.1 HR2.o.2.1).mono ?_;rintro e w3 ⟨rfl,hb3⟩;have HR3:=Ad (An (HR2.o.1.keep hb3) (An (HR2.o.2.1.keep hb3) (bt HR2.o.2.2 hb3)));replace a0:=Ab hb3 a0;replace a1:=Ab hb3 a1;clear hb3;have al3:w.heap.size < w3.heap.size:=World.block_lt_of_cell? w3 _ a0;obtain ⟨F,hF⟩:=Ex (atomAt a 2 t);have hE5:=HE4.o;rw [hF] at hE5 ⊢;cases F with
     | none =>
       have HO:=Ad (show O=none from hE5);clear hE5 hF HE4;go_wp2;go_returns;rw [HO.o];exact DP HR3.o.2.2
     | some i =>
       have HO:=Ad (show O=U0 m t a i from hE5);have HL:=Ad (show V7 m t a i from HH.o i HF1.o hF);clear hE5 hF HE4;rw [Ot];(go_wp2_with fail);refine (HL.o _ _ _ _ _ HR3.o.1 HR3.o.2.1).mono ?_;rw [← HO.o];rintro e w4 ⟨v,rfl,hv,hb4⟩;obtain ⟨va,vn,vc,rfl⟩:=hv.forms;have HF:=Ad (An (hv.more (S':=fun k=>w.heap.size≤k) fun k _ h=>by have h2:w3.heap.size≤k:=h;show w.heap.size≤k;omega) (bt HR3.o.2.2 hb4));clear hv hb4;go_wp2;go_returns;exact ⟨_,rfl,HF.o.1,HF.o.2⟩
end Go.Proofs.YtkbbmjcfgcfejaaGreat
