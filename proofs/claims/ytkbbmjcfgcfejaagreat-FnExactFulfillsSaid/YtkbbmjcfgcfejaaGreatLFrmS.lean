/- Walk: an assertion with one atom in the place of two, with what it holds (l6Without). -/
import Derived.Test.YtkbbmjcfgcfejaaGreatLSkW
import Derived.Test.YtkbbmjcfgcfejaaGreatLFrmI
import Derived.Test.YtkbbmjcfgcfejaaGreatLExpB
set_option linter.unusedVariables false
set_option linter.unusedSimpArgs false
set_option maxRecDepth 100000
set_option maxHeartbeats 12800000
namespace Go.Proofs.YtkbbmjcfgcfejaaGreat
open Go.RowKit
def Sk (l:List Am) (i k n:Nat):List Am:=((List.range n).filter fun j=>(j != i) && (j != k)).map (gd l)
theorem Vf (l:List Am) (i k n:Nat):(Sk l i k n).length≤n:=by
 rw [Sk,List.length_map];have:=List.length_filter_le (fun j=>(j != i) && (j != k)) (List.range n);rwa [List.length_range] at this
theorem T8 {l:List Am} {i k n:Nat} (h:n=i∨n=k):Sk l i k (n+1)=Sk l i k n:=by
 have:((n != i) && (n != k))=false:=by rcases h with rfl | rfl <;> simp
 rw [Sk,List.range_succ,List.filter_append,List.filter_cons,if_neg (by rw [this];decide),List.filter_nil,List.append_nil];rfl
theorem Vg {l:List Am} {i k n:Nat} (h1:¬ n=i) (h2:¬ n=k):Sk l i k (n+1)=Sk l i k n ++ [gd l n]:=by
 rw [Sk,List.range_succ,List.filter_append,List.filter_cons,if_pos (by simp [h1,h2]),List.filter_nil,List.map_append];rfl
theorem Ft {w w0 wc:World} {bO:Nat} {y1 y2:Value} {a1:List Ap} {x:Am} (hlo:w.heap.size+3≤bO) (D:DB w wc (w.heap.size+2) bO y1 y2 a1 [x]) (hb:Below w0.heap.size w0 wc) :
 ∃ (bO':Nat) (z1 z2:Value),Value.pointer (some ⟨bO,0,none⟩)=.pointer (some ⟨bO',0,none⟩)∧w.heap.size+3≤bO'∧DB w wc (w.heap.size+2) bO' z1 z2 a1 [x]∧Below w0.heap.size w0 wc :=
 ⟨_,_,_,rfl,hlo,D,hb⟩
theorem Ll {S1 S2:Nat→Prop} (v1 v2:Value) (a:Aj) (i k:Nat) (K A B:Int) (w:World) (h1:RL w S1 v1 a.1) (h2:RL w S2 v2 a.2) (n1:a.1.length≤1048576) (n2:a.2.length≤1048576) :
 Calls Tryz.prog 220 #[.agg #[v1,v2],.int .i64 (i:Int),.int .i64 (k:Int),.agg #[.int .i64 K,.int .i64 A,.int .i64 B]] w fun e w'=>∃ (x1 x2:Value),e=.returned (.agg #[x1,x2])∧(FE w' w.heap.size x1 a.1∧FE w' w.heap.size x2 ((K,A,B) :: Gr a.2 i k))∧Below w.heap.size w w':=by
 obtain ⟨a1,a2⟩:=a;simp only at h1 h2 n1 n2;obtain ⟨p1,c1,rfl⟩:=h1.form;obtain ⟨p2,c2,rfl⟩:=h2.form;go_enter Tryz.func220,Tryz.ntmps220
 go_upto_region 1 with fail
 generalize hw0:(((w.alloc (.cells #[.slice p1 a1.length c1,.slice p2 a2.length c2] 26)).alloc (.cells #[.int .i64 K,.int .i64 A,.int .i64 B] 118)).alloc (.cells #[.slice none 0 0,.slice none 0 0] 26))=w0;have hc0:w0.cell? ⟨w.heap.size,0,none⟩=some (.slice p1 a1.length c1):=by rw [← hw0];simp [go_sem]
 have hc1:w0.cell? ⟨w.heap.size,1,none⟩=some (.slice p2 a2.length c2):=by rw [← hw0];simp [go_sem]
 have hx:w0.heap[w.heap.size+1]?=some (.cells #[.int .i64 K,.int .i64 A,.int .i64 B] 118 (0,0)):=by
  rw [← hw0];have:=heap_alloc_new (w.alloc (.cells #[.slice p1 a1.length c1,.slice p2 a2.length c2] 26)) (.cells #[.int .i64 K,.int .i64 A,.int .i64 B] 118);simp only [World.size_alloc] at this;exact Ac this (Aa _ _)
 have hBX:w0.heap[w.heap.size]?=some (.cells #[.slice p1 a1.length c1,.slice p2 a2.length c2] 26 (0,0)):=by
  rw [← hw0];exact Ac (Ac (heap_alloc_new w _) (Aa _ _)) (Aa _ _)
 have hR:w0.heap[w.heap.size+2]?=some (.cells #[.slice none 0 0,.slice none 0 0] 26 (0,0)):=by
  rw [← hw0];have:=heap_alloc_new ((w.alloc (.cells #[.slice p1 a1.length c1,.slice p2 a2.length c2] 26)).alloc (.cells #[.int .i64 K,.int .i64 A,.int .i64 B] 118)) (.cells #[.slice none 0 0,.slice none 0 0] 26);simpa using this
 have hz:w0.heap.size=w.heap.size+3:=by rw [← hw0];simp
 have hW:Below w.heap.size w w0:=by rw [← hw0];exact ba (ba (Aa _ _) _) _
 clear hw0;have q1:=h1.keep hW;have q2:=h2.keep hW;have x0:=Lp hx;have x1:=JZ hx;have x2:=J0 hx;have HZ:=Ad (An hz hR);have HBX:=Ad hBX;clear hBX;have zz0:=World.block_lt_of_cell? w0 _ hc0;have zz1:=World.block_lt_of_cell? w0 _ x0;simp only at zz0 zz1;have za0:w.heap.size < w0.heap.size+1:=by omega
 have za1:w.heap.size < w0.heap.size+1+1:=by omega
 have za2:w.heap.size+1 < w0.heap.size+1:=by omega
 have za3:w.heap.size+1 < w0.heap.size+1+1:=by omega
 have HH2:=Ad h2;clear hz hR h1 h2;go_cut [9] from 10 (fun s9 wc=>∃ (bO:Nat) (y1 y2:Value),s9=.pointer (some ⟨bO,0,none⟩)∧w.heap.size+3≤bO∧DB w wc (w.heap.size+2) bO y1 y2 a1 [(K,A,B)]∧Below w0.heap.size w0 wc)
 case first =>
  go_region_held3 (fun w'=>w'.cell? ⟨w.heap.size,0,none⟩=some (.slice p1 a1.length c1)∧(w'.cell? ⟨w.heap.size+1,0,none⟩=some (.int .i64 K)∧w'.cell? ⟨w.heap.size+1,1,none⟩=some (.int .i64 A)∧w'.cell? ⟨w.heap.size+1,2,none⟩=some (.int .i64 B)))
   (exact ⟨Ab Bl hc0,Ab Bl x0,Ab Bl x1,Ab Bl x2⟩)
   (first
     | (refine DH (l:=([]:List Ap)) (m:=a1) (B:=w0.heap.size) (by rfl) (.tmp 11) (.tmp 13) _ (by rfl) A0 (by rfl) (FE.nil _ _ _) (by rfl) (q1.keep Bl) (by simp;omega) (Below.size (w:=w0) (B:=w0.heap.size) Bl) ?_;intro v5 w5 o5 hb5';rw [List.nil_append] at o5;obtain ⟨d5,m5,k5,rfl⟩:=o5.forms;have hb5:Below w0.heap.size w0 w5:=Below.trans Bl (AG hb5' (Below.size (w:=w0) (B:=w0.heap.size) Bl));have y0:=Ab hb5 x0;have y1:=Ab hb5 x1;have y2:=Ab hb5 x2;have yh:=Ab hb5 hc0;have yz:=World.block_lt_of_cell? w5 _ y0;simp only at yz;(first | (have hA5:=AM (heap_alloc_new ((w0.drew.alloc _).alloc _) (.cells #[.slice none 0 0,.slice none 0 0] 26)) hb5' Dc;(try simp only [World.size_alloc,World.size_drew] at hA5);obtain ⟨ht0,ht1,htz,htl⟩:=B4 hA5;have HA5:=Ad hA5;clear hA5) | (have hA5:=AM (heap_alloc_new (w0.drew.alloc _) (.cells #[.slice none 0 0,.slice none 0 0] 26)) hb5' Dc;(try simp only [World.size_alloc,World.size_drew] at hA5);obtain ⟨ht0,ht1,htz,htl⟩:=B4 hA5;have HA5:=Ad hA5;clear hA5) | (have hA5:=AM (Ac (heap_alloc_new (w0.drew.alloc _) (.cells #[.slice none 0 0,.slice none 0 0] 26)) (Aa _ _)) hb5' Dc;(try simp only [World.size_alloc,World.size_drew] at hA5);obtain ⟨ht0,ht1,htz,htl⟩:=B4 hA5;have HA5:=Ad hA5;clear hA5) | (have hA5:=AM (Ac (Ac (heap_alloc_new w0.drew (.cells #[.slice none 0 0,.slice none 0 0] 26)) (Aa _ _)) (Aa _ _)) hb5' Dc;(try simp only [World.size_alloc,World.size_drew] at hA5);obtain ⟨ht0,ht1,htz,htl⟩:=B4 hA5;have HA5:=Ad hA5;clear hA5) | (have hA5:=AM (Ac (heap_alloc_new w0.drew (.cells #[.slice none 0 0,.slice none 0 0] 26)) (Aa _ _)) hb5' Dc;(try simp only [World.size_alloc,World.size_drew] at hA5);obtain ⟨ht0,ht1,htz,htl⟩:=B4 hA5;have HA5:=Ad hA5;clear hA5) | skip);(first | (have hL5:=AM (heap_alloc_new ((w0.drew.alloc _).alloc _) (.cells #[.int .i64 K,.int .i64 A,.int .i64 B] 118)) hb5' Dc;(try simp only [World.size_alloc,World.size_drew] at hL5);have HL5:=Ad hL5;clear hL5) | (have hL5:=AM (heap_alloc_new (w0.drew.alloc _) (.cells #[.int .i64 K,.int .i64 A,.int .i64 B] 118)) hb5' Dc;(try simp only [World.size_alloc,World.size_drew] at hL5);have HL5:=Ad hL5;clear hL5) | (have hL5:=AM (Ac (heap_alloc_new (w0.drew.alloc _) (.cells #[.int .i64 K,.int .i64 A,.int .i64 B] 118)) (Aa _ _)) hb5' Dc;(try simp only [World.size_alloc,World.size_drew] at hL5);have HL5:=Ad hL5;clear hL5) | (have hL5:=AM (Ac (Ac (heap_alloc_new w0.drew (.cells #[.int .i64 K,.int .i64 A,.int .i64 B] 118)) (Aa _ _)) (Aa _ _)) hb5' Dc;(try simp only [World.size_alloc,World.size_drew] at hL5);have HL5:=Ad hL5;clear hL5) | (have hL5:=AM (Ac (heap_alloc_new w0.drew (.cells #[.int .i64 K,.int .i64 A,.int .i64 B] 118)) (Aa _ _)) hb5' Dc;(try simp only [World.size_alloc,World.size_drew] at hL5);have HL5:=Ad hL5;clear hL5) | skip);clear hb5')
     | fail)
  all_goals
   have hz0:=HZ.o.1;have hs5:=hb5.size;have HR5:=Ad (Ac HZ.o.2 hb5);have HO:=Ad (An (o5.mono (B':=w.heap.size) Om) (An (bt hW hb5) hb5));clear o5 hb5 q1 q2;go_wp2;go_meet
   case rel =>
    first
      | exact Ft Om (DB.mkA HO.o.1 (FE.litA HL5.o Om) HR5.o HO.o.2.1 rfl) (ba HO.o.2.2 _)
      | exact Ft Om (DB.mkA (HO.o.1.alloc _) (FE.litA (heap_alloc_new w5 _) Om) (Ac HR5.o (Aa _ _)) (ba HO.o.2.1 _) Sp) (ba (ba HO.o.2.2 _) _)
      | exact Ft Om (DB.mkB HO.o.1 (FE.litA HL5.o Om) HR5.o HO.o.2.1 HA5.o Om Om) ((HO.o.2.2.setCell (by simp;try omega) _).setCell (by simp;try omega) _)
      | exact Ft Om (DB.mkB (HO.o.1.alloc _) (FE.litA (heap_alloc_new w5 _) Om) (Ac HR5.o (Aa _ _)) (ba HO.o.2.1 _) (Ac HA5.o (Aa _ _)) Om Om) (((ba HO.o.2.2 _).setCell (by simp;try omega) _).setCell (by simp;try omega) _)
      | exact Ft Om (DB.mkC HO.o.1 HR5.o HO.o.2.1 rfl) (ba (ba HO.o.2.2 _) _)
      | exact Ft Om (DB.mkD HO.o.1 HR5.o HO.o.2.1 HA5.o Om Om rfl) (ba ((HO.o.2.2.setCell (by simp;try omega) _).setCell (by simp;try omega) _) _)
 case rest =>
  obtain ⟨bO,y1,y2,rfl,hbO,D,hbb⟩:=hcut;have hz0:=HZ.o.1;have hBX:=Ac HBX.o hbb;clear hW hbb q1 q2 x0 x1 x2 hc0 hc1 HBX;have H0:=Ad (An D hBX);clear D hBX;go_wp2;go_loopg [10] a2.length (fun q i' wr=>∃ (k':Nat) (y1 y2:Value),k'+q=a2.length∧i'=.int .i64 k'∧DB w wr (w.heap.size+2) bO y1 y2 a1 ((K,A,B) :: Sk a2 i k k')∧wr.heap[w.heap.size]?=some (.cells #[.slice p1 a1.length c1,.slice p2 a2.length c2] 26 (0,0)))
  case atStart=>exact ⟨0,y1,y2,by omega,rfl,H0.o.1,H0.o.2⟩
  case round =>
   clear H0;obtain ⟨n,y1,y2,hn,rfl,D,hBX⟩:=hrel;have HN:=Ad hn;clear hn;obtain ⟨M,hM⟩:∃ M,(K,A,B) :: Sk a2 i k n=M:=⟨_,rfl⟩;(have hMl:M.length≤n+1:=by rw [← hM];have:=Vf a2 i k n;simp;omega);rw [hM] at D;have HM:=Ad (An hM hMl);clear hM hMl;obtain ⟨ua1,uc1,rfl⟩:=D.f.form;obtain ⟨ua2,uc2,rfl⟩:=D.a.form;have hc1:=AY hBX;have zc:=World.block_lt_of_cell? wr _ hc1;simp only at zc;by_cases hn8:n < a2.length
   · have hni:(n:Int) < (a2.length:Int):=by omega
     have hcase:((n:Int) != (i:Int))=false∨(((n:Int) != (i:Int))=true∧((n:Int) != (k:Int))=false)∨(((n:Int) != (i:Int))=true∧((n:Int) != (k:Int))=true):=by
      cases ((n:Int) != (i:Int)) <;> cases ((n:Int) != (k:Int)) <;> simp
     rcases hcase with e1 | ⟨e1,e2⟩ | ⟨e1,e2⟩
     · have HS:=Ad (show (K,A,B) :: Sk a2 i k (n+1)=M by rw [T8 (.inl (by simp at e1;omega)),HM.o.1])
       have HD:=Ad (An D hBX);clear D hBX;go_wp2;go_roundg (gk - 1)
       case rel=>exact ⟨n+1,_,_,by have:=HN.o;omega,by go_num,by rw [HS.o];exact HD.o.1,HD.o.2⟩
       case measure=>have:=HN.o;omega
     · have HS:=Ad (show (K,A,B) :: Sk a2 i k (n+1)=M by rw [T8 (.inr (by simp at e2;omega)),HM.o.1])
       have HD:=Ad (An D hBX);clear D hBX;go_wp2;go_roundg (gk - 1)
       case rel=>exact ⟨n+1,_,_,by have:=HN.o;omega,by go_num,by rw [HS.o];exact HD.o.1,HD.o.2⟩
       case measure=>have:=HN.o;omega
     · obtain ⟨q2a,q2c,hqe,_,_,hqf⟩:=(HH2.o.keep D.fr).atomAt
       simp only [Value.slice.injEq] at hqe;obtain ⟨rfl,_,rfl⟩:=hqe;obtain ⟨b1,o1,rfl,_,hz1,hp1,hp2,hp3⟩:=hqf n hn8;obtain ⟨X,hX⟩:=Ex (gd a2 n);obtain ⟨X1,X2,X3⟩:=X;have HS:=Ad (show (K,A,B) :: Sk a2 i k (n+1)=M ++ [(X1,X2,X3)] by rw [Vg (by simp at e1;omega) (by simp at e2;omega),← List.cons_append,HM.o.1,hX]);rw [hX] at hp1 hp2 hp3;simp only at hp1 hp2 hp3;have d1:=AY D.boxA;have dz:=BI D.boxA 1;have dl:=Ae D.boxA;have HD:=Ad (An D hBX);have hlo:w.heap.size≤wr.heap.size:=D.fr.size;have HLE:=Ad (show M.length≤n+1∧n≤1048576 from ⟨HM.o.2,by omega⟩);clear D hBX hqf hX;go_wp2;go_region_law (first
        | (refine DH (l:=M) (m:=[((X1,X2,X3):Am)]) (B:=w.heap.size) (by rfl) (.tmp 34) (.tmp 40) _ (by rfl) A3 (by rfl) (HD.o.1.a.keep Bl) (by rfl) (BB _ _ _ _ _) (by have:=HLE.o;simp;omega) (by simp;omega) ?_;intro v' w7 o7 hf7;obtain ⟨a7,n7,c7,rfl⟩:=o7.forms;have hA7:=AM (Ac HD.o.1.boxA (w':=wr.drew.alloc (.cells #[.int .i64 X1,.int .i64 X2,.int .i64 X3] 118)) Bl) hf7 Dc;have hb0:=AY hA7;have hbz:=BI hA7 1;have hbl7:=Ae hA7;clear hA7)
        | fail)
       all_goals
        have hkp:Below wr.heap.size wr (wr.drew.alloc (.cells #[.int .i64 X1,.int .i64 X2,.int .i64 X3] 118)):=Bl;have D9:=(HD.o.1.keep hkp).app2 Om Om o7 hf7;have hB9:=Ax (AM (Ac HD.o.2 hkp) hf7 Dc) ⟨bO,1,none⟩ (.slice a7 n7 c7) (by show ¬ w.heap.size=bO;omega);have H9:=Ad (An D9 hB9);clear D9 hB9 o7 hf7 hkp;go_wp2;go_roundg (gk - 1)
        case rel=>exact ⟨n+1,_,_,by have:=HN.o;omega,by go_num,by rw [HS.o];exact H9.o.1,H9.o.2⟩
        case measure=>have:=HN.o;omega
   · obtain rfl:n=a2.length:=by have:=HN.o;omega
     obtain ⟨b0,b1,bz,bl⟩:=B4 D.boxA;obtain ⟨r0,r1,rz,rl⟩:=B4 D.boxR;have r:=Au (.slice ua1 a1.length uc1) (.slice ua2 M.length uc2) r0 r1;have HO:=Ad (D.done Om (.slice ua1 a1.length uc1) (.slice ua2 M.length uc2));clear D hBX;go_wp2;refine bodyPost_ret (v:=.agg #[.slice ua1 a1.length uc1,.slice ua2 M.length uc2]) (by simp [results,Tryz.results220,go_sem,r.1,r.2]) rfl ?_;exact ⟨_,_,rfl,⟨HO.o.1.1,by rw [show (K,A,B) :: Gr a2 i k=M from HM.o.1];exact HO.o.1.2⟩,HO.o.2⟩
theorem IQ {S1 S2:Nat→Prop} (v1 v2:Value) (a:Aj) (x y:Int) (w:World) (h1:RL w S1 v1 a.1) (h2:RL w S2 v2 a.2) :
 Calls Tryz.prog 311 #[.agg #[v1,v2],.int .i64 x,.int .i64 y] w fun e w'=>e=.returned (.bool (D4 a (true,x,y)))∧Below w.heap.size w w':=by
 obtain ⟨p1,c1,rfl⟩:=h1.form;obtain ⟨p2,c2,rfl⟩:=h2.form;have H:=Ad (An h1 h2);clear h1 h2;go_enter Tryz.func311,Tryz.ntmps311
 go_wp2_with fail
 refine (MW _ _ a (true,x,y) _ (H.o.1.keep Bl) (H.o.2.keep Bl)).mono ?_;rintro e w5 ⟨rfl,hb5⟩;have HB:=Ad (bt (a:=w) Bl hb5);clear hb5;go_wp2;go_returns;exact ⟨rfl,HB.o⟩
theorem IR {S1 S2:Nat→Prop} (v1 v2:Value) (a:Aj) (i:Nat) (K A B:Int) (w:World) (h1:RL w S1 v1 a.1) (h2:RL w S2 v2 a.2) (n1:a.1.length≤1048576) (n2:a.2.length≤1048576) :
 Calls Tryz.prog 312 #[.agg #[v1,v2],.agg #[.int .i64 K,.int .i64 A,.int .i64 B],.int .i64 (i:Int)] w fun e w'=>∃ (x1 x2:Value),e=.returned (.agg #[x1,x2])∧(FE w' w.heap.size x1 a.1∧FE w' w.heap.size x2 ((K,A,B) :: Gr a.2 i i))∧Below w.heap.size w w':=by
 obtain ⟨p1,c1,rfl⟩:=h1.form;obtain ⟨p2,c2,rfl⟩:=h2.form;have H:=Ad (An h1 h2);have HN:=Ad (An n1 n2);clear h1 h2 n1 n2;go_enter Tryz.func312,Tryz.ntmps312
 go_wp2_with fail
 refine (Ll _ _ a i i K A B _ (H.o.1.keep Bl) (H.o.2.keep Bl) HN.o.1 HN.o.2).mono ?_;rintro e w1 ⟨x1,x2,rfl,⟨r1,r2⟩,hb⟩;obtain ⟨d1,m1,k1,rfl⟩:=r1.forms;obtain ⟨d2,m2,k2,rfl⟩:=r2.forms;have hA:=Ac (heap_alloc_new ((w.alloc (.cells #[.slice p1 a.1.length c1,.slice p2 a.2.length c2] 26)).alloc (.cells #[.int .i64 K,.int .i64 A,.int .i64 B] 118)) (.cells #[.slice none 0 0,.slice none 0 0] 26)) hb;simp only [World.size_alloc] at hA;have ha0:=Bd hA;have ha1:=AY hA;have haz:∀ i,w1.frozen? ⟨w.heap.size+1+1,i,none⟩=false:=BI hA;have hlA:=Ae hA;have r:=Au (.slice d1 m1 k1) (.slice d2 m2 k2) ha0 ha1;have f1:=(r1.set2 (x:=.slice d1 m1 k1) (y:=.slice d2 m2 k2) hA Dc).mono (B':=w.heap.size) (by simp;omega);have f2:=(r2.set2 (x:=.slice d1 m1 k1) (y:=.slice d2 m2 k2) hA Dc).mono (B':=w.heap.size) (by simp;omega);have fb:=((bt (ba (ba (Aa w _) _) _) hb).setCell (p:=⟨w.heap.size+1+1,0,none⟩) (by simp;omega) (.slice d1 m1 k1)).setCell (p:=⟨w.heap.size+1+1,1,none⟩) (by simp;omega) (.slice d2 m2 k2);have HO:=Ad (An f1 (An f2 fb));clear f1 f2 fb r1 r2 hb hA;go_wp2;refine bodyPost_ret (v:=.agg #[.slice d1 m1 k1,.slice d2 m2 k2]) (by simp [results,Tryz.results312,go_sem,r.1,r.2]) rfl ?_;exact ⟨_,_,rfl,⟨HO.o.1,HO.o.2.1⟩,HO.o.2.2⟩
theorem Qu {S1 S2 S3 S4:Nat→Prop} (v1 v2 u1 u2:Value) (a b:Aj) (w:World) (h1:RL w S1 v1 a.1) (h2:RL w S2 v2 a.2) (k1:RL w S3 u1 b.1) (k2:RL w S4 u2 b.2) (ha:Ah a=true) (hb:Ah b=true) :
 Calls Tryz.prog 73 #[.agg #[v1,v2],.agg #[u1,u2]] w fun e w'=>∃ x2,e=.returned (.tuple #[.agg #[.slice none 0 0,x2],.bool (Cz a b).isSome])∧FE w' w.heap.size x2 ((Cz a b).getD [])∧Below w.heap.size w w':=by
 obtain ⟨p1,c1,rfl⟩:=h1.form;obtain ⟨p2,c2,rfl⟩:=h2.form;obtain ⟨p3,c3,rfl⟩:=k1.form;obtain ⟨p4,c4,rfl⟩:=k2.form;obtain ⟨w0,hw0⟩:=Ey ((((w.alloc (.cells #[.slice p1 a.1.length c1,.slice p2 a.2.length c2] 26)).alloc (.cells #[.slice p3 b.1.length c3,.slice p4 b.2.length c4] 26)).alloc (.cells #[.slice none 0 0,.slice none 0 0] 26)));have hA:w0.heap[w.heap.size]?=some (.cells #[.slice p1 a.1.length c1,.slice p2 a.2.length c2] 26 (0,0)):=by
  rw [hw0];exact Ac (Ac (heap_alloc_new w _) (Aa _ _)) (Aa _ _)
 have hB:w0.heap[w.heap.size+1]?=some (.cells #[.slice p3 b.1.length c3,.slice p4 b.2.length c4] 26 (0,0)):=by
  rw [hw0];have:=Ac (heap_alloc_new (w.alloc (.cells #[.slice p1 a.1.length c1,.slice p2 a.2.length c2] 26)) (.cells #[.slice p3 b.1.length c3,.slice p4 b.2.length c4] 26)) (Aa _ (.cells #[.slice none 0 0,.slice none 0 0] 26));simpa using this
 have hR:w0.heap[w.heap.size+1+1]?=some (.cells #[.slice none 0 0,.slice none 0 0] 26 (0,0)):=by
  rw [hw0];have:=heap_alloc_new ((w.alloc (.cells #[.slice p1 a.1.length c1,.slice p2 a.2.length c2] 26)).alloc (.cells #[.slice p3 b.1.length c3,.slice p4 b.2.length c4] 26)) (.cells #[.slice none 0 0,.slice none 0 0] 26);simpa using this
 have hW:Below w.heap.size w w0:=by rw [hw0];exact ba (ba (Aa _ _) _) _
 obtain ⟨n,hn⟩:=Ex (a.2.length);have hn6:n≤6:=by rw [← hn];exact (DY ha).1.2
 have hfm:E5 a b=(List.range (2 ^ n)).find? (Su a b):=by rw [Jc,hn]
 have hN64:=Lb hn6;have hn0:(0:Int)≤(n:Int):=by omega
 have hn64:(n:Int) < 64:=by omega
 obtain ⟨N,hN⟩:∃ N,2 ^ n=N:=⟨_,rfl⟩;have hpw:((2:Int) ^ n)=(N:Int):=by rw [← hN];simp
 have hsz:=Co hb;rw [hN] at hN64 hfm;rw [hn] at hA hw0;rw [hn];have HP:=Ad (An ha (An hb (An hfm (An hn hsz))));have HW0:=Ad hw0;have H0:=Ad (An (An hA (An hB hR)) (An hW (An (An (h1.keep hW) (h2.keep hW)) (An (k1.keep hW) (k2.keep hW)))));clear hA hB hR hW hw0 h1 h2 k1 k2 hn hfm ha hb hN hsz;go_enter Tryz.func73,Tryz.ntmps73
 go_wp2;rw [← HW0.o];go_loopg [6] N (fun q i wr=>∃ k:Nat,k+q=N∧i=.int .i64 (k:Int)∧(List.range k).find? (Su a b)=none∧(wr.heap[w.heap.size]?=some (.cells #[.slice p1 a.1.length c1,.slice p2 n c2] 26 (0,0))∧wr.heap[w.heap.size+1]?=some (.cells #[.slice p3 b.1.length c3,.slice p4 b.2.length c4] 26 (0,0))∧wr.heap[w.heap.size+1+1]?=some (.cells #[.slice none 0 0,.slice none 0 0] 26 (0,0)))∧Below w.heap.size w wr∧Below w0.heap.size w0 wr)
 case atStart=>exact ⟨0,by omega,rfl,rfl,H0.o.1,H0.o.2.1,Below.refl _ _⟩
 case round =>
  obtain ⟨k,hk,rfl,hf,hBX,hbw,hb0⟩:=hrel;have HK:=Ad (An hk (An hf (An hBX hbw)));have HB0:=Ad hb0;have HH:=Ad (An (An (H0.o.2.2.1.1.keep hb0) (H0.o.2.2.1.2.keep hb0)) (An (H0.o.2.2.2.1.keep hb0) (H0.o.2.2.2.2.keep hb0)));clear hk hf hBX hbw hb0;obtain ⟨a0,a1,al⟩:=B3 HK.o.2.2.1.1;by_cases hk8:k < N
  · have hki:(k:Int) < (N:Int):=by omega
    obtain ⟨K,hK⟩:=Ex (CR a.2 k);obtain ⟨v,hv⟩:=Ex (Ah (b.1,b.2 ++ K));(have hfr:Su a b k=(v && Cp a (b.1,b.2 ++ K)):=by rw [Su,hK,hv]);(have hKl:K.length≤8:=by rw [← hK];have h1:=GM a.2 k a.2.length;rw [Jb] at h1;have:=HP.o.2.2.2.1;omega);have HF:=Ad (An hfr (An hK hv));have HPK:=Ad (show k < 64∧(a.2.length:Int)≤8 from ⟨by omega,by have:=HP.o.2.2.2.1;omega⟩);clear hfr hK hv;(go_wp2_with fail);have hpk:=Sb _ _ a k wr HH.o.1.1 HH.o.1.2 HPK.o.1 HPK.o.2;rw [HP.o.2.2.2.1,HF.o.2.1] at hpk;refine hpk.mono ?_;rintro e w1 ⟨x2,rfl,o1,hb1⟩;obtain ⟨d,xc,rfl⟩:=o1.form;have hbF:=Aa w1 (.cells #[.slice none 0 0,.slice d K.length xc] 26);have hFX:=heap_alloc_new w1 (.cells #[.slice none 0 0,.slice d K.length xc] 26);have hb1':=bt hb1 hbF;have HB1:=Ad (An hFX (An (o1.keep hbF) (An hb1' (An (An (HH.o.2.1.keep hb1') (HH.o.2.2.keep hb1')) (An (HH.o.1.1.keep hb1') (HH.o.1.2.keep hb1'))))));have b0:=Bd (Ac HK.o.2.2.1.2.1 hb1');have b1:=AY (Ac HK.o.2.2.1.2.1 hb1');have bl:=Ae (Ac HK.o.2.2.1.2.1 hb1');obtain ⟨f0,f1,fl⟩:=B3 hFX;clear hpk o1 hbF hFX hb1 hb1' a0 a1 al;generalize hW1:w1.alloc (.cells #[.slice none 0 0,.slice d K.length xc] 26)=W1 at HB1 b0 b1 bl f0 f1 fl;(go_upto_region 5 with fail);clear hW1;generalize w1.heap.size=bF at HB1 f0 f1 fl ⊢;(go_wp2_with fail);refine (FH (S3:=fun _=>True) _ _ _ _ b (([]:List Ap),K) _ HB1.o.2.2.2.1.1 HB1.o.2.2.2.1.2 (RL.nil _ _) HB1.o.2.1.rl HP.o.2.2.2.2.1 HP.o.2.2.2.2.2 Sp (by simp only;omega)).mono ?_;rintro e w2 ⟨y1,y2,rfl,q1,q2,hb2⟩;rw [List.append_nil] at q1;obtain ⟨e1,g1,rfl⟩:=q1.form;obtain ⟨e2,g2,rfl⟩:=q2.form;obtain ⟨nK,hnK⟩:=Ex ((b.2 ++ K).length);rw [hnK] at q2 ⊢;have hbC:=Aa w2 (.cells #[.slice e1 b.1.length g1,.slice e2 nK g2] 26);have hCX:=heap_alloc_new w2 (.cells #[.slice e1 b.1.length g1,.slice e2 nK g2] 26);have hb2':=bt hb2 hbC;have hb12:=bt HB1.o.2.2.1 hb2';have HB2:=Ad (An (An hCX (Ac HB1.o.1 hb2')) (An (An (q1.keep hbC) (q2.keep hbC)) (An hb12 (An (HB1.o.2.1.keep hb2') (An (HB1.o.2.2.2.2.1.keep hb2') (HB1.o.2.2.2.2.2.keep hb2'))))));have a0:=Bd (Ac HK.o.2.2.1.1 hb12);have a1:=AY (Ac HK.o.2.2.1.1 hb12);have al:=Ae (Ac HK.o.2.2.1.1 hb12);obtain ⟨f0,f1,fl⟩:=B3 HB2.o.1.2;obtain ⟨g0,g1',gl⟩:=B3 hCX;clear q1 q2 hbC hCX hb2 hb2' hb12 b0 b1 bl hnK;cases v with
    | false =>
      (go_wp2_with fail);refine (cb (Ar _ _ (b.1,b.2 ++ K) _ HB2.o.2.1.1 HB2.o.2.1.2) HF.o.2.2).mono ?_;rintro e w3 ⟨rfl,hb3⟩;have hb:=bt HB2.o.2.2.1 hb3;have HE:=Ad (An (An (Ac HK.o.2.2.1.1 hb) (An (Ac HK.o.2.2.1.2.1 hb) (Ac HK.o.2.2.1.2.2 hb))) (An (An (bt HK.o.2.2.2 hb) (bt HB0.o hb)) (Ep HK.o.2.1 (by rw [HF.o.1];rfl))));clear hb hb3;go_wp2;go_roundg (gk - 1)
      case rel=>exact ⟨k+1,by have:=HK.o.1;omega,by go_num,HE.o.2.2,HE.o.1,HE.o.2.1.1,HE.o.2.1.2⟩
      case measure=>have:=HK.o.1;omega
    | true =>
      (go_wp2_with fail);refine (cb (Ar _ _ (b.1,b.2 ++ K) _ HB2.o.2.1.1 HB2.o.2.1.2) HF.o.2.2).mono ?_;rintro e w3 ⟨rfl,hb3⟩;have HB3:=Ad (An (An (Ac HB2.o.1.1 hb3) (Ac HB2.o.1.2 hb3)) (An (An (HB2.o.2.1.1.keep hb3) (HB2.o.2.1.2.keep hb3)) (An (bt HB2.o.2.2.1 hb3) (An (HB2.o.2.2.2.1.keep hb3) (An (HB2.o.2.2.2.2.1.keep hb3) (HB2.o.2.2.2.2.2.keep hb3))))));have hbx:=bt HB2.o.2.2.1 hb3;clear hb3 a0 a1 al f0 f1 fl g0 g1' gl;have a0:=Bd (Ac HK.o.2.2.1.1 hbx);have a1:=AY (Ac HK.o.2.2.1.1 hbx);have al:=Ae (Ac HK.o.2.2.1.1 hbx);obtain ⟨g0,g1',gl⟩:=B3 HB3.o.1.1;clear hbx;obtain ⟨E,hE⟩:=Ex (Cp a (b.1,b.2 ++ K));have HE0:=Ad hE;have hen:=FM _ _ _ _ a (b.1,b.2 ++ K) _ HB3.o.2.2.2.2.1 HB3.o.2.2.2.2.2 HB3.o.2.1.1 HB3.o.2.1.2;rw [HP.o.2.2.2.1] at hen;have HEN:=Ad hen;clear hE hen;(go_wp2_with fail);have hen:=HEN.o;rw [HE0.o] at hen;refine Calls.mono hen ?_;clear hen;rintro e w4 ⟨rfl,hb4⟩;have hb:=bt HB3.o.2.2.1 hb4;have HX:=Ad (An (An (Ac HK.o.2.2.1.1 hb) (An (Ac HK.o.2.2.1.2.1 hb) (Ac HK.o.2.2.1.2.2 hb))) (An (An (bt HK.o.2.2.2 hb) (bt HB0.o hb)) (An (Ac HB3.o.1.2 hb4) (HB3.o.2.2.2.1.keep hb4))));clear hb hb4 a0 a1 al g0 g1' gl;cases E with
      | false =>
        have hnx:=Ep HK.o.2.1 (show Su a b k=false by rw [HF.o.1,HE0.o];rfl);have HNX:=Ad hnx;clear hnx;go_wp2;go_roundg (gk - 1)
        case rel=>exact ⟨k+1,by have:=HK.o.1;omega,by go_num,HNX.o,HX.o.1,HX.o.2.1.1,HX.o.2.1.2⟩
        case measure=>have:=HK.o.1;omega
      | true =>
        have hh:Cz a b=some K:=by
         (have hx:E5 a b=some k:=by rw [HP.o.2.2.1];exact Io hk8 HK.o.2.1 (show Su a b k=true by rw [HF.o.1,HE0.o];rfl));rw [Cz,hx,Option.map_some,HF.o.2.1]
        have HHH:=Ad hh;clear hh;obtain ⟨f0,f1,fl⟩:=B3 HX.o.2.2.1;obtain ⟨r0,r1,rz,rl⟩:=B4 HX.o.1.2.2;have rr:=Au (.slice none 0 0) (.slice d K.length xc) r0 r1;have HQ:=Ad (An ((HX.o.2.2.2.mono (HK.o.2.2.2.size)).set2 (x:=.slice none 0 0) (y:=.slice d K.length xc) HX.o.1.2.2 Dc) ((HX.o.2.1.1.setCell (p:=⟨w.heap.size+1+1,0,none⟩) (by simp;omega) (.slice none 0 0)).setCell (p:=⟨w.heap.size+1+1,1,none⟩) (by simp;omega) (.slice d K.length xc)));go_wp2;refine bodyPost_ret (v:=.tuple #[.agg #[.slice none 0 0,.slice d K.length xc],.bool true]) (by simp [results,Tryz.results73,go_sem,rr.1,rr.2]) rfl ?_;rw [HHH.o];exact ⟨_,rfl,HQ.o⟩
  · obtain rfl:k=N:=by have:=HK.o.1;omega
    (have hh:Cz a b=none:=by rw [Cz,HP.o.2.2.1,HK.o.2.1];rfl);have HHH:=Ad hh;clear hh;obtain ⟨r0,r1,rz,rl⟩:=B4 HK.o.2.2.1.2.2;have rr:=Au (.slice none 0 0) (.slice none 0 0) r0 r1;have HQ:=Ad ((HK.o.2.2.2.setCell (p:=⟨w.heap.size+1+1,0,none⟩) (by simp;omega) (.slice none 0 0)).setCell (p:=⟨w.heap.size+1+1,1,none⟩) (by simp;omega) (.slice none 0 0));go_wp2;refine bodyPost_ret (v:=.tuple #[.agg #[.slice none 0 0,.slice none 0 0],.bool false]) (by simp [results,Tryz.results73,go_sem,rr.1,rr.2]) rfl ?_;rw [HHH.o];exact ⟨_,rfl,FE.nil _ _ _,HQ.o⟩
theorem WA {k:Nat} (h:k≤8):Al (k:Int)=true:=by simp [Al];omega
theorem Lm {S1 S2:Nat→Prop} (v1 v2 bv:Value) (a:Aj) (m B:Nat) (w:World) (h1:RL w S1 v1 a.1) (h2:RL w S2 v2 a.2) (ho:w.ownsRow B 4 1 bv 9 (Av m)) (ha:Ah a=true) :
 Calls Tryz.prog 157 #[.agg #[v1,v2],bv] w fun e w'=>e=.returned (.tuple #[Uo (D2 (Ak a ||| m)),.bool (D2 (Ak a ||| m)).isSome])∧Below w.heap.size w w':=by
 obtain ⟨p1,c1,rfl⟩:=h1.form;obtain ⟨p2,c2,rfl⟩:=h2.form;obtain ⟨g,cap,rfl⟩:=B8 ho;have hb0:=Aa w (.cells #[.slice p1 a.1.length c1,.slice p2 a.2.length c2] 26);have hall:a.1.all AH=true∧a.2.all AQ=true:=⟨List.all_eq_true.2 (AL ha).1,List.all_eq_true.2 (AL ha).2⟩;obtain ⟨T,hT⟩:=Ex (Ak a);have H0:=Ad (An (An (h1.keep hb0) (h2.keep hb0)) (An hb0 (An (Ag ho hb0) (An hall hT))));rw [hT];clear h1 h2 ho ha hb0 hall hT;go_enter Tryz.func157,Tryz.ntmps157
 go_wp2_with fail
 refine (BQ _ _ a _ H0.o.1.1 H0.o.1.2 H0.o.2.2.2.1.1 H0.o.2.2.2.1.2).mono ?_;rw [H0.o.2.2.2.2];rintro e w1 ⟨v,rfl,hv,hb1⟩;obtain ⟨f,fc,rfl⟩:=B8 hv;have HW:=Ad (An (bt H0.o.2.1 hb1) (An hv (Ag H0.o.2.2.1 hb1)));clear hv hb1;go_wp2;go_loopg [7] 4 (fun q i wr=>∃ k:Nat,k+q=9∧5≤k∧i=.int .i64 (k:Int)∧(∀ j,j+5 < k→(T ||| m).testBit (j+5)=true)∧wr=w1)
 case atStart=>exact ⟨5,by omega,by omega,rfl,fun j h=>absurd h Om,rfl⟩
 case round =>
  obtain ⟨k,hk,hk5,rfl,hst,rfl⟩:=hrel;have HK:=Ad (An hk (An hk5 hst));clear hk hst;by_cases h8:k≤8
  · have hk8:(k:Int)≤8:=by omega
    (have hk9:(k:Int) < 9:=by omega);have x1:wr.cell? ⟨f,k,none⟩=some (.bool (T.testBit k)):=by
     have:=HW.o.2.1.cellAt k Om;rw [AP T k (by omega)] at this;simpa using this
    have x2:wr.cell? ⟨g,k,none⟩=some (.bool (m.testBit k)):=by
     have:=HW.o.2.2.cellAt k Om;rw [AP m k (by omega)] at this;simpa using this
    obtain ⟨b1,hb1⟩:∃ b,T.testBit k=b:=⟨_,rfl⟩;obtain ⟨b2,hb2⟩:∃ b,m.testBit k=b:=⟨_,rfl⟩;rw [hb1] at x1;rw [hb2] at x2;(have hor:(T ||| m).testBit k=(b1 || b2):=by rw [Nat.testBit_or,hb1,hb2]);have HOR:=Ad hor;clear hb1 hb2 hor;cases b1 with
    | true =>
      go_wp2;go_roundg (gk - 1)
      case rel=>exact ⟨k+1,by have:=HK.o.1;omega,by omega,by go_num,fun j hj=>by
       by_cases e:j+5=k
       · rw [e,HOR.o];rfl
       · exact HK.o.2.2 j Om,rfl⟩
      case measure=>have:=HK.o.1;omega
    | false =>
      cases b2 with
      | true =>
        go_wp2;go_roundg (gk - 1)
        case rel=>exact ⟨k+1,by have:=HK.o.1;omega,by omega,by go_num,fun j hj=>by
         by_cases e:j+5=k
         · rw [e,HOR.o];rfl
         · exact HK.o.2.2 j Om,rfl⟩
        case measure=>have:=HK.o.1;omega
      | false =>
        obtain ⟨j,rfl⟩:∃ j,k=j+5:=⟨k - 5,by omega⟩;have hv:=Oq (m:=T ||| m) (k:=j) Om (fun i hi=>HK.o.2.2 i Om) HOR.o;have HV:=Ad hv;clear hv;go_wp2;go_returns;refine ⟨?_,HW.o.1⟩;rw [HV.o,show Uo (some (5+(j:Int)))=.int .i64 (5+(j:Int)) from rfl];rw [Int.add_comm 5 (j:Int)];first | rfl | (simp;done)
  · have hk8:¬ (k:Int)≤8:=by omega
    have hv:=Mg (m:=T ||| m) fun j hj=>HK.o.2.2 j Om;have HV:=Ad hv;clear hv;go_wp2;go_returns;exact ⟨by rw [HV.o];rfl,HW.o.1⟩
end Go.Proofs.YtkbbmjcfgcfejaaGreat
