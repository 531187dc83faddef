/- Walks: the cell of a term exposed (program: exposeListAt). -/
import Derived.Test.YtkbbmjcfgcfejaaGreatLExpD
set_option linter.unusedVariables false
set_option linter.unusedSimpArgs false
set_option maxRecDepth 100000
set_option maxHeartbeats 12800000
namespace Go.Proofs.YtkbbmjcfgcfejaaGreat
open Go.RowKit
theorem Rg {m:Nat} {t:Int} {a:Aj} (h:Ah a=false):Ec m t a=none:=by rw [Ec,AS,if_neg (by rw [h];decide)]
theorem Cs {w w5:World} {o:Obj} (hb:Below ((w.alloc (.cells #[.slice none 0 0,.slice none 0 0] 26)).alloc o).heap.size ((w.alloc (.cells #[.slice none 0 0,.slice none 0 0] 26)).alloc o) w5):w5.heap[w.heap.size]?=some (.cells #[.slice none 0 0,.slice none 0 0] 26 (0,0)):=Ac (Ac (heap_alloc_new w _) (Aa _ _)) hb
theorem Cd {w w5:World} {o:Obj} (hb:Below ((w.alloc (.cells #[.slice none 0 0,.slice none 0 0] 26)).alloc o).drew.heap.size ((w.alloc (.cells #[.slice none 0 0,.slice none 0 0] 26)).alloc o).drew w5):w5.heap[w.heap.size]?=some (.cells #[.slice none 0 0,.slice none 0 0] 26 (0,0)):=Ac (Ac (Ac (heap_alloc_new w _) (Aa _ _)) (Ai _)) hb
theorem IE {w w5:World} {o o2:Obj} (hb:Below (((w.alloc (.cells #[.slice none 0 0,.slice none 0 0] 26)).alloc o).alloc o2).heap.size (((w.alloc (.cells #[.slice none 0 0,.slice none 0 0] 26)).alloc o).alloc o2) w5):w5.heap[w.heap.size]?=some (.cells #[.slice none 0 0,.slice none 0 0] 26 (0,0)):=Ac (Ac (Ac (heap_alloc_new w _) (Aa _ _)) (Aa _ _)) hb
theorem G8 {w w5:World} {o o2:Obj} (hb:Below (((w.alloc (.cells #[.slice none 0 0,.slice none 0 0] 26)).alloc o).alloc o2).drew.heap.size (((w.alloc (.cells #[.slice none 0 0,.slice none 0 0] 26)).alloc o).alloc o2).drew w5):w5.heap[w.heap.size]?=some (.cells #[.slice none 0 0,.slice none 0 0] 26 (0,0)):=Ac (Ac (Ac (Ac (heap_alloc_new w _) (Aa _ _)) (Aa _ _)) (Ai _)) hb
theorem Vw {w w5:World} {a b c:Int} (hb:Below (w.alloc (.cells #[.int .i64 a,.int .i64 b,.int .i64 c] 118)).heap.size (w.alloc (.cells #[.int .i64 a,.int .i64 b,.int .i64 c] 118)) w5):RL w5 (fun _=>True) (.slice (some ⟨w.heap.size,0,none⟩) 1 1) [((a,b,c):Am)]:=(RL.keep (BB w a b c _) hb).any
theorem TO {w w5:World} {a b c:Int} (hb:Below (w.alloc (.cells #[.int .i64 a,.int .i64 b,.int .i64 c] 118)).drew.heap.size (w.alloc (.cells #[.int .i64 a,.int .i64 b,.int .i64 c] 118)).drew w5):RL w5 (fun _=>True) (.slice (some ⟨w.heap.size,0,none⟩) 1 1) [((a,b,c):Am)]:=(RL.keep (RL.keep (BB w a b c _) (Ai _)) hb).any
theorem Vx {w w5:World} {o:Obj} {a b c:Int} (hb:Below ((w.alloc (.cells #[.int .i64 a,.int .i64 b,.int .i64 c] 118)).alloc o).heap.size ((w.alloc (.cells #[.int .i64 a,.int .i64 b,.int .i64 c] 118)).alloc o) w5):RL w5 (fun _=>True) (.slice (some ⟨w.heap.size,0,none⟩) 1 1) [((a,b,c):Am)]:=(RL.keep (Du (BB w a b c _)) hb).any
theorem TP {w w5:World} {o:Obj} {a b c:Int} (hb:Below ((w.alloc (.cells #[.int .i64 a,.int .i64 b,.int .i64 c] 118)).alloc o).drew.heap.size ((w.alloc (.cells #[.int .i64 a,.int .i64 b,.int .i64 c] 118)).alloc o).drew w5):RL w5 (fun _=>True) (.slice (some ⟨w.heap.size,0,none⟩) 1 1) [((a,b,c):Am)]:=(RL.keep (RL.keep (Du (BB w a b c _)) (Ai _)) hb).any
theorem Vy {w w5:World} {o o2:Obj} {a b c:Int} (hb:Below (((w.alloc (.cells #[.int .i64 a,.int .i64 b,.int .i64 c] 118)).alloc o).alloc o2).heap.size (((w.alloc (.cells #[.int .i64 a,.int .i64 b,.int .i64 c] 118)).alloc o).alloc o2) w5):RL w5 (fun _=>True) (.slice (some ⟨w.heap.size,0,none⟩) 1 1) [((a,b,c):Am)]:=(RL.keep (Du (Du (BB w a b c _))) hb).any
theorem TQ {w w5:World} {o o2:Obj} {a b c:Int} (hb:Below (((w.alloc (.cells #[.int .i64 a,.int .i64 b,.int .i64 c] 118)).alloc o).alloc o2).drew.heap.size (((w.alloc (.cells #[.int .i64 a,.int .i64 b,.int .i64 c] 118)).alloc o).alloc o2).drew w5):RL w5 (fun _=>True) (.slice (some ⟨w.heap.size,0,none⟩) 1 1) [((a,b,c):Am)]:=(RL.keep (RL.keep (Du (Du (BB w a b c _))) (Ai _)) hb).any
theorem WP {w w5:World} {B e:Nat} (hne:26 ≠ e) (hf:Fr (TF (w.alloc (.cells #[.slice none 0 0,.slice none 0 0] 26)) B e) (w.alloc (.cells #[.slice none 0 0,.slice none 0 0] 26)) w5):w5.heap[w.heap.size]?=some (.cells #[.slice none 0 0,.slice none 0 0] 26 (0,0)):=AM (heap_alloc_new w _) hf hne
theorem WQ {w w5:World} {B e:Nat} {o:Obj} (hne:26 ≠ e) (hf:Fr (TF ((w.alloc (.cells #[.slice none 0 0,.slice none 0 0] 26)).alloc o) B e) ((w.alloc (.cells #[.slice none 0 0,.slice none 0 0] 26)).alloc o) w5):w5.heap[w.heap.size]?=some (.cells #[.slice none 0 0,.slice none 0 0] 26 (0,0)):=AM (Ac (heap_alloc_new w _) (Aa _ _)) hf hne
theorem TR {m:Nat} {t:Int}:∀ (d:Nat) (a:Aj) (L:List Aj),AS m t d a=some L→L.length≤2 ^ d:=fun d=>by
 induction d with
 | zero=>intro a L h;rw [AS] at h;cases h
 | succ d ih =>
   intro a L h;have hp:1≤2 ^ (d+1):=Nat.one_le_two_pow;rw [AS] at h;split at h
   · split at h
     · split at h
       · obtain ⟨b,_,rfl⟩:=Option.map_eq_some_iff.1 h
         exact hp
       · split at h
         · obtain ⟨n,_,h⟩:=Option.bind_eq_some_iff.1 h
           obtain ⟨x,hx,h⟩:=Option.bind_eq_some_iff.1 h;obtain ⟨y,hy,rfl⟩:=Option.map_eq_some_iff.1 h;have h1:=ih _ _ hx;have h2:=ih _ _ hy;rw [List.length_append,Nat.pow_succ];omega
         · cases h
     · obtain rfl:=Option.some.inj h
       exact Nat.zero_le _
   · cases h
theorem Ka {m:Nat} {t:Int} {a:Aj} {L:List Aj} (h:Ec m t a=some L):L.length≤128:=TR 7 a L h
theorem Ou (n:Int):Uo (some n)=.int .i64 n:=rfl
theorem Jm {m:Nat} {t:Int} {a:Aj} {i:Nat} (hm:m < 65536) (hmt:As m t=m) (ha:Ah a=true) (hi:i < a.2.length) (HE:Ah (CN a i)=true→R5 m t (CN a i)) (HF:∀ n,Ah (Bp a i n)=true→R5 m t (Bp a i n)):V7 m t a i:=by
 intro S1 S2 v1 v2 w h1 h2;have hsz:=En ha;obtain ⟨a1,l⟩:=a;simp only at h1 h2 hi hsz;obtain ⟨xa1,xc1,rfl⟩:=h1.form;obtain ⟨xa2,xc2,he,hc1,hc2,hf⟩:=h2.atomAt;subst he;obtain ⟨X,hX⟩:=Ex (gd l i);obtain ⟨X1,X2,X3⟩:=X;obtain ⟨bb,oo,rfl,_,hz1,hp1,hp2,hp3⟩:=hf i hi;rw [hX] at hp1 hp2 hp3;simp only at hp1 hp2 hp3;obtain ⟨N,hN⟩:=Ex (D2 (Ak (a1,l) ||| m));have hE:CN (a1,l) i=(a1 ++ [(true,X2,X3)],Br l i):=by show (a1 ++ [(true,(gd l i).2.1,(gd l i).2.2)],Br l i)=_;rw [hX]
 have hFl:∀ n,Bp (a1,l) i n=(a1 ++ [(false,X2,X3)],(1,X2,n) :: (Br l i ++ [(2,n,X3)])):=fun n=>by show (a1 ++ [(false,(gd l i).2.1,(gd l i).2.2)],(1,(gd l i).2.1,n) :: (Br l i ++ [(2,n,(gd l i).2.2)]))=_;rw [hX]
 have hO:U0 m t (a1,l) i=N.bind fun n=>(Ec m t (CN (a1,l) i)).bind fun x=>(Ec m t (Bp (a1,l) i n)).map fun y=>x ++ y:=by rw [U0,hN]
 obtain ⟨w0,hw0⟩:=Ey (w.alloc (.cells #[.slice xa1 a1.length xc1,.slice (some ⟨bb,oo,none⟩) l.length xc2] 26));obtain ⟨W,hW⟩:=Ey (w0.alloc (.cells #[.int .i64 X1,.int .i64 X2,.int .i64 X3] 118));have hb0:Below w.heap.size w w0:=by rw [hw0];exact Aa _ _
 have hbW:Below w0.heap.size w0 W:=by rw [hW];exact Aa _ _
 have hz0:w0.heap.size=w.heap.size+1:=by rw [hw0];simp
 have hA0:w0.heap[w.heap.size]?=some (.cells #[.slice xa1 a1.length xc1,.slice (some ⟨bb,oo,none⟩) l.length xc2] 26 (0,0)):=by rw [hw0];exact heap_alloc_new _ _
 have hXB:W.heap[w.heap.size+1]?=some (.cells #[.int .i64 X1,.int .i64 X2,.int .i64 X3] 118 (0,0)):=by rw [hW,← hz0];exact heap_alloc_new _ _
 have hA:=Ac hA0 hbW;obtain ⟨c0,c1,cl⟩:=B3 hA0;have p1:=Ab hb0 hp1;have p2:=Ab hb0 hp2;have p3:=Ab hb0 hp3;have pl:bb < w0.heap.size:=by omega
 have i1:(i:Int) < (l.length:Int):=by omega
 have HW0:=Ad (An hw0 hz0);have HWW:=Ad hW;have hbb:=bt hb0 hbW;have H:=Ad (An (An hA hXB) (An ((h1.more (S':=fun k=>k < w.heap.size) fun k hk _=>hk).keep hbb) (An ((h2.more (S':=fun k=>k < w.heap.size) fun k hk _=>hk).keep hbb) hbb)));have HI:=Ad (An hi hsz);have HN:=Ad (An hN (An hO (An hE hFl)));have HEP:=Ad HE;have HFP:=Ad HF;have HMT:=Ad hmt;clear hA0 hA hXB hb0 hbW hbb hw0 hW h1 h2 hf hX hp1 hp2 hp3 hz1 hN hO hE hFl HE HF hmt hi hsz hz0 ha hc1 hc2;go_enter Tryz.func305,Tryz.ntmps305
 go_upto_region 1 with fail
 rw [← HW0.o.1];go_upto_region 2 with fail
 rw [← HWW.o];simp only [HW0.o.2];clear c0 c1 cl p1 p2 p3 pl HW0 HWW;obtain ⟨c0,c1,cl⟩:=B3 H.o.1.1;have x1:=cr 1 H.o.1.2;have x2:=cr 2 H.o.1.2;have xl:=Ae H.o.1.2;go_wp2_with fail
 refine (Ed _ _ (a1,l) i _ H.o.2.1 H.o.2.2.1 HI.o.1 HI.o.2.2).mono ?_;rintro e w1 ⟨rv,rfl,hr,hb1⟩;obtain ⟨ra,rn,rc,rfl⟩:∃ a n c,rv=.slice a n c:=by obtain ⟨a,c,h⟩:=hr.form;exact ⟨a,_,c,h⟩
 have H1:=Ad (An (An (Ac H.o.1.1 hb1) (Ac H.o.1.2 hb1)) (An (H.o.2.1.keep hb1) (An (H.o.2.2.1.keep hb1) (An (bt H.o.2.2.2 hb1) (hr.read.more (S':=fun k=>w.heap.size≤k) fun k _ h=>Nat.le_trans H.o.2.2.2.size h)))));replace c0:=Ab hb1 c0;replace c1:=Ab hb1 c1;replace x1:=Ab hb1 x1;replace x2:=Ab hb1 x2;clear hb1;clear H hr cl xl;have cl:w.heap.size < w1.heap.size:=World.block_lt_of_cell? w1 _ c0;have xl:w.heap.size+1 < w1.heap.size:=World.block_lt_of_cell? w1 _ x1;go_upto_region 3 with fail
 refine Af Kr Kr ?_;have t1:∀ x:Ext w1,Calls Tryz.prog 147 #[.int .u16 (m:Int),.int .i64 t] (ext w1 x) fun e w'=>e=.returned (.int .u16 (m:Int))∧ext w1 x=w':=fun x=>A6 _ hm HMT.o;have t2:∀ x:Ext w1,Calls Tryz.prog 150 #[.agg #[.slice xa1 a1.length xc1,.slice (some ⟨bb,oo,none⟩) l.length xc2],.int .u16 (m:Int)] (ext w1 x) fun e w'=>e=.returned (.tuple #[Uo N,.bool N.isSome])∧Below (ext w1 x).heap.size (ext w1 x) w':=fun x=>by
  have:=F4 _ _ (a1,l) m _ (H1.o.2.1.keep x.below) (H1.o.2.2.1.keep x.below) hm;rw [HN.o.1] at this;exact this
 have T1:=Ad t1;have T2:=Ad t2;clear t1 t2;repeat (go_big_quiet_step (first
  | (go_at_call 147;with_reducible exact BA (T1.out _))
  | (go_at_call 150;with_reducible exact Eu (T2.out _))))
 refine wpQuiet_nil ?_;intro w2 hb2;have H2:=Ad (An (An (Ac H1.o.1.1 hb2) (Ac H1.o.1.2 hb2)) (An (H1.o.2.1.keep hb2) (An (H1.o.2.2.1.keep hb2) (An (bt H1.o.2.2.2.1 hb2) (H1.o.2.2.2.2.keep hb2)))));replace c0:=Ab hb2 c0;replace c1:=Ab hb2 c1;replace x1:=Ab hb2 x1;replace x2:=Ab hb2 x2;clear hb2;clear H1 T1 T2 cl xl;have cl:w.heap.size < w2.heap.size:=World.block_lt_of_cell? w2 _ c0;have xl:w.heap.size+1 < w2.heap.size:=World.block_lt_of_cell? w2 _ x1;cases N with
 | none =>
   have HO:=Ad (show U0 m t (a1,l) i=none by rw [HN.o.2.1];rfl);go_wp2;go_returns;rw [HO.o];exact DP H2.o.2.2.2.1
 | some n =>
   simp only [Ou];obtain ⟨E,hE⟩:=Ex (CN (a1,l) i);obtain ⟨F,hF⟩:=Ex (Bp (a1,l) i n);obtain ⟨O,hO⟩:=Ex (U0 m t (a1,l) i);(have hO2:O=(Ec m t E).bind fun x=>(Ec m t F).map fun y=>x ++ y:=by rw [← hO,HN.o.2.1,← hE,← hF];rfl);have hE2:E=(a1 ++ [(true,X2,X3)],Br l i):=hE.symm.trans HN.o.2.2.1;have hF2:F=(a1 ++ [(false,X2,X3)],(1,X2,n) :: (Br l i ++ [(2,n,X3)])):=hF.symm.trans (HN.o.2.2.2 n);(have hEp:Ah E=true→R5 m t E:=by rw [← hE];exact HEP.o);(have hFp:Ah F=true→R5 m t F:=by rw [← hF];exact HFP.o n);rw [hO];have HO:=Ad hO2;have HOP:=Ad hO;have HF:=Ad (An hE2 (An hF2 (An hEp hFp)));clear hE hF hO hO2 hE2 hF2 hEp hFp HN HEP HFP;have hl1:=HI.o.2.1;have HL1:=Ad hl1;clear hl1;(go_wp2_with fail);refine (Bj _ _ a1 [((true,X2,X3):Ap)] _ (H2.o.2.1.keep (Aa _ _)) (Bm _ _ _ _ _) (by have:=HL1.o;simp;omega)).mono ?_;rintro e w3 ⟨ev,rfl,he3,hb3⟩;(obtain ⟨ea,en,ec,rfl⟩:∃ a n c,ev=.slice a n c:=by obtain ⟨a,c,h⟩:=he3.form;exact ⟨a,_,c,h⟩);replace hb3:Below w2.heap.size w2 w3:=bt Bl hb3;replace x1:=Ab hb3 x1;replace x2:=Ab hb3 x2;have xl3:w.heap.size+1 < w3.heap.size:=World.block_lt_of_cell? w3 _ x1;have HE3:=Ad (show RL w3 (fun _=>True) (.slice ea en ec) (a1 ++ [(true,X2,X3)]) from he3.read.any);clear he3;obtain ⟨W3,hW3⟩:=Ey ((w3.alloc (.cells #[.slice ea en ec,.slice ra rn rc] 26)).alloc (.cells #[.int .i64 1,.int .i64 X2,.int .i64 n] 118));(have hbW:Below w3.heap.size w3 W3:=by rw [hW3];exact ba (Aa _ _) _);(have hzW:W3.heap.size=w3.heap.size+2:=by rw [hW3];simp);(have hBE:W3.heap[w3.heap.size]?=some (.cells #[.slice ea en ec,.slice ra rn rc] 26 (0,0)):=by rw [hW3];exact Ac (heap_alloc_new _ _) (Aa _ _));have hFr:RL W3 (fun _=>True) (.slice (some ⟨w3.heap.size+1,0,none⟩) 1 1) [((1,X2,n):Am)]:=by
    rw [hW3];have h:=BB (w3.alloc (.cells #[.slice ea en ec,.slice ra rn rc] 26)) 1 X2 n 118;rw [World.size_alloc] at h;exact h.any
   have hbb:=bt hb3 hbW;have H3:=Ad (An (An (Ac H2.o.1.1 hbb) (An (Ac H2.o.1.2 hbb) hBE)) (An (H2.o.2.1.keep hbb) (An ((H2.o.2.2.2.2.keep hbb).any) (An (bt H2.o.2.2.2.1 hbb) (An (HE3.o.keep hbW) hFr)))));have HW3:=Ad hW3;have HZ:=Ad (An hzW (An hb3.size cl));clear hbW hzW hBE hFr hbb hb3 hW3 HE3 H2 c0 c1 cl xl;(go_upto_region 8 with fail);rw [← HW3.o];clear x1 x2 xl3;have c0:=Bd H3.o.1.1;have cl:=Ae H3.o.1.1;have x1:=cr 1 H3.o.1.2.1;have x2:=cr 2 H3.o.1.2.1;have xl:=Ae H3.o.1.2.1;go_cut [16] (fun s16 wd=>TJ W3 wd W3.heap.size F s16)
   case first =>
    go_region_held3 (fun w'=>w'.cell? ⟨w.heap.size,0,none⟩=some (.slice xa1 a1.length xc1)∧(w'.cell? ⟨w.heap.size+1,1,none⟩=some (.int .i64 X2)∧w'.cell? ⟨w.heap.size+1,2,none⟩=some (.int .i64 X3)))
     (exact ⟨(Ck c0),(Ck x1),(Ck x2)⟩)
     (first
       | (go_at_call 68;go_must (refine (Bj (S2:=fun _=>True) _ _ a1 [((false,X2,X3):Ap)] _ (H3.o.2.1.keep Bl) (by repeat (first | exact (Gz Sp _ _ _ _).any | refine Du ?_ | refine RL.keep ?_ (Ai _))) (by have:=HL1.o;simp;omega)).mono ?_;rintro e w5 ⟨y1,rfl,o5',hb5'⟩;have o5:=J8 (o5'.mono (B':=W3.heap.size) (Below.size (w:=W3) (B:=W3.heap.size) Bl));obtain ⟨d1,m1,k1,rfl⟩:=o5.forms;have hb5:Below W3.heap.size W3 w5:=bt Bl hb5';have hz5:=hb5.size;(first | (have hT:=A5 hb5') | (have hT:=A7 hb5') | (have hT:=Cs hb5') | (have hT:=Cd hb5') | (have hT:=IE hb5') | (have hT:=G8 hb5') | skip);(try simp only [World.size_alloc,World.size_drew] at hT);(first | (have hL:=Vw hb5') | (have hL:=TO hb5') | (have hL:=Vx hb5') | (have hL:=TP hb5') | (have hL:=Vy hb5') | (have hL:=TQ hb5') | skip);(try simp only [World.size_alloc,World.size_drew] at hL);clear o5' hb5'))
       | (go_at_call 70;go_must (refine (Bx _ _ [((1,X2,n):Am)] (Br l i) _ (H3.o.2.2.2.2.2.keep Bl) (H3.o.2.2.1.keep Bl) (by have:=DO l i;have:=HI.o.2.2;simp;omega)).mono ?_;rintro e w6 ⟨y2,rfl,o6',hb6'⟩;have o6:=J9 (o6'.mono (B':=W3.heap.size) (Below.size (w:=W3) (B:=W3.heap.size) Bl));obtain ⟨d2,m2,k2,rfl⟩:=o6.forms;have hb6:Below W3.heap.size W3 w6:=bt Bl hb6';have hb56:Below w5.heap.size w5 w6:=bt Bl hb6';have hz6:=hb56.size;(first | (replace hT:=Ac hT hb56;have _h:=hT) | (have hT:=A5 hb6') | (have hT:=A7 hb6') | (have hT:=Cs hb6') | (have hT:=Cd hb6') | (have hT:=IE hb6') | (have hT:=G8 hb6') | skip);(try simp only [World.size_alloc,World.size_drew] at hT);(first | (replace hL:=RL.keep hL hb56;have _h:=hL) | (have hL:=Vw hb6') | (have hL:=TO hb6') | (have hL:=Vx hb6') | (have hL:=TP hb6') | (have hL:=Vy hb6') | (have hL:=TQ hb6') | skip);(try simp only [World.size_alloc,World.size_drew] at hL);clear o6' hb6'))
       | (have _o:=o6;(refine DH (l:=[((1,X2,n):Am)] ++ Br l i) (m:=[((2,n,X3):Am)]) (by rfl) (.tmp 65) (.tmp 70) _ (by rfl) A3 (by rfl) (o6.keep Bl) (by rfl) (by first | exact RL.keep hL Bl | exact (DZ Sp _ _ _ _).any | exact Du (DZ Sp _ _ _ _).any | exact Du (BB _ _ _ _ _).any) (by have:=DO l i;have:=HI.o.2.2;simp;omega) (Below.size (w:=W3) (B:=W3.heap.size) Bl) ?_;intro y3 w7 o7 hf7;obtain ⟨d3,m3,k3,rfl⟩:=o7.forms;have hb7':=AG hf7 (Below.size (w:=W3) (B:=W3.heap.size) Bl);have hb7:Below W3.heap.size W3 w7:=Below.trans Bl hb7';have o5w:=FE.tf (o5.keep Bl) hf7 Dc;(first | (have hT7:=AM (Ac hT Bl) hf7 Dc;have _h:=hT) | (have hT7:=WP Dc hf7) | (have hT7:=WQ Dc hf7) | skip);(try simp only [World.size_alloc,World.size_drew] at hT7);(first | (have V9:=B4 hT7;obtain ⟨ht0,ht1,htz,htl⟩:=V9) | skip);clear hf7 hb7'))
       | fail)
    all_goals
     have HQ:=Ad (An o5w (An (show FE w7 W3.heap.size (.slice d3 m3 k3) ((1,X2,n) :: (Br l i ++ [(2,n,X3)])) from o7) hb7));clear o5 o6 o7 o5w;go_wp2;go_meet
     case rel =>
      rw [HF.o.2.1];first
        | exact Ho HQ.o.1 HQ.o.2.1 HQ.o.2.2
        | exact K3 HQ.o.1 HQ.o.2.1 hT7 HQ.o.2.2 Om
        | fail
   case rest =>
    rename World=>wd
    obtain ⟨tB,y1,y2,rfl,hT,⟨r1,r2⟩,hbd,htz⟩:=hcut;obtain ⟨d1,m1,k1,rfl⟩:=r1.forms;obtain ⟨d2,m2,k2,rfl⟩:=r2.forms;obtain ⟨b1,hb1⟩:∃ b,Ah E=b:=⟨_,rfl⟩;obtain ⟨b2,hb2⟩:∃ b,Ah F=b:=⟨_,rfl⟩;have hBE:=Ac H3.o.1.2.2 hbd;have e0:=Bd hBE;have e1:=AY hBE;have t0:=Bd hT;have t1:=AY hT;have HB:=Ad (An hb1 hb2);(have hEr:RL wd (fun _=>True) (.slice ea en ec) E.1∧RL wd (fun _=>True) (.slice ra rn rc) E.2:=by rw [HF.o.1];exact ⟨H3.o.2.2.2.2.1.keep hbd,(H3.o.2.2.1.keep hbd)⟩);have H4:=Ad (An hEr (An (An r1.rl.any r2.rl.any) (bt H3.o.2.2.2.1 hbd)));have el:w3.heap.size < wd.heap.size:=World.block_lt_of_cell? wd _ e0;have tl:tB < wd.heap.size:=World.block_lt_of_cell? wd _ t0;clear hBE hT r1 r2 hbd hb1 hb2 hEr H3 c0 cl x1 x2 xl htz;(go_wp2_with fail);refine (cb (Aq _ _ E _ H4.o.1.1 H4.o.1.2) HB.o.1).mono ?_;rintro e w5 ⟨rfl,hb5⟩;have H5:=Ad (An (An (H4.o.1.1.keep hb5) (H4.o.1.2.keep hb5)) (An (An (H4.o.2.1.1.keep hb5) (H4.o.2.1.2.keep hb5)) (bt H4.o.2.2 hb5)));replace e0:=Ab hb5 e0;replace e1:=Ab hb5 e1;replace t0:=Ab hb5 t0;replace t1:=Ab hb5 t1;clear hb5;clear H4 el tl;have el:w3.heap.size < w5.heap.size:=World.block_lt_of_cell? w5 _ e0;have tl:tB < w5.heap.size:=World.block_lt_of_cell? w5 _ t0;cases b1 with
    | false =>
      have HOO:=Ad (show O=none by rw [HO.o,Rg HB.o.1];rfl);go_wp2;go_returns;rw [HOP.o,HOO.o];exact DP H5.o.2.2
    | true =>
      (go_wp2_with fail);refine (cb (Aq _ _ F _ H5.o.2.1.1 H5.o.2.1.2) HB.o.2).mono ?_;rintro e w6 ⟨rfl,hb6⟩;have H6:=Ad (An (An (H5.o.1.1.keep hb6) (H5.o.1.2.keep hb6)) (An (An (H5.o.2.1.1.keep hb6) (H5.o.2.1.2.keep hb6)) (bt H5.o.2.2 hb6)));replace e0:=Ab hb6 e0;replace e1:=Ab hb6 e1;replace t0:=Ab hb6 t0;replace t1:=Ab hb6 t1;clear hb6;clear H5 el tl;have el:w3.heap.size < w6.heap.size:=World.block_lt_of_cell? w6 _ e0;have tl:tB < w6.heap.size:=World.block_lt_of_cell? w6 _ t0;obtain ⟨P,hP⟩:=Ex (Ec m t E);obtain ⟨Q,hQ⟩:=Ex (Ec m t F);have HPQ:=Ad (An hP hQ);have HO2:=Ad (show O=P.bind fun x=>Q.map fun y=>x ++ y by rw [HO.o,hP,hQ]);clear hP hQ;cases b2 with
      | false =>
        have HOO:=Ad (show O=none by rw [HO2.o,← HPQ.o.2,Rg HB.o.2];cases P <;> rfl);go_wp2;go_returns;rw [HOP.o,HOO.o];exact DP H6.o.2.2
      | true =>
        (go_wp2_with fail);refine (HF.o.2.2.1 HB.o.1 _ _ _ _ _ H6.o.1.1 H6.o.1.2).mono ?_;rw [HPQ.o.1];rintro e w7 ⟨v,rfl,hv,hb7⟩;obtain ⟨va,vn,vc,rfl⟩:=hv.forms;have H7:=Ad (An (An (H6.o.2.1.1.keep hb7) (H6.o.2.1.2.keep hb7)) (An (bt H6.o.2.2 hb7) (hv.more (S':=fun k=>w.heap.size≤k) fun k _ h=>Nat.le_trans H6.o.2.2.size h)));replace t0:=Ab hb7 t0;replace t1:=Ab hb7 t1;clear hb7;clear H6 el tl e0 e1 hv;have tl:tB < w7.heap.size:=World.block_lt_of_cell? w7 _ t0;cases P with
        | none =>
          have HOO:=Ad (show O=none by rw [HO2.o];rfl);go_wp2;go_returns;rw [HOP.o,HOO.o];exact DP H7.o.2.1
        | some x =>
          (go_wp2_with fail);refine (HF.o.2.2.2 HB.o.2 _ _ _ _ _ H7.o.1.1 H7.o.1.2).mono ?_;rw [HPQ.o.2];rintro e w8 ⟨u,rfl,hu,hb8⟩;obtain ⟨ua,un,uc,rfl⟩:=hu.forms;have H8:=Ad (An (bt H7.o.2.1 hb8) (An (H7.o.2.2.keep hb8) (hu.more (S':=fun k=>w.heap.size≤k) fun k _ h=>Nat.le_trans H7.o.2.1.size h)));clear H7 hu hb8 tl t0 t1;cases Q with
          | none =>
            have HOO:=Ad (show O=none by rw [HO2.o];rfl);go_wp2;go_returns;rw [HOP.o,HOO.o];exact DP H8.o.1
          | some y =>
            have HOO:=Ad (show O=some (x ++ y) by rw [HO2.o];rfl);have hlen:x.length+y.length≤16777216:=by
             have l1:=Ka HPQ.o.1;have l2:=Ka HPQ.o.2;omega
            have HLN:=Ad hlen;clear hlen;(go_wp2_with fail);refine (M9 _ _ x y _ H8.o.2.1 H8.o.2.2 HLN.o).mono ?_;rintro e w9 ⟨z,rfl,hz,hb9⟩;obtain ⟨za,zn,zc,rfl⟩:=hz.forms;have H9:=Ad (An (hz.rl.more (S':=fun k=>w.heap.size≤k) fun k _ h=>by rcases h with h | h;rcases h.1 with h | h;exact h;exact h;exact Nat.le_trans H8.o.1.size h) (bt H8.o.1 hb9));clear hz hb9;go_wp2;go_returns;rw [HOP.o,HOO.o];exact ⟨_,rfl,H9.o.1,H9.o.2⟩
theorem Ov {m:Nat} {t:Int} (hm:m < 65536) (hmt:As m t=m):∀ (n:Nat) (a:Aj),Ah a=true→a.2.length≤n→R5 m t a:=fun n=>by
 induction n with
 | zero=>exact fun a ha hn=>GA ha fun i _ h2=>absurd (E2 h2).1 Om
 | succ n ih =>
   exact fun a ha hn=>GA ha fun i _ h2=>Jm hm hmt ha (E2 h2).1
    (fun hE=>ih _ hE (by have:=M8 (E2 h2).1;omega))
    (fun k hF=>GA hF fun i' h3 _=>by rw [Re ha h2 hF] at h3;cases h3)
theorem Ow {S1 S2:Nat→Prop} {m:Nat} {t:Int} (hm:m < 65536) (hmt:As m t=m) (v1 v2:Value) (a:Aj) (w:World) (h1:RL w S1 v1 a.1) (h2:RL w S2 v2 a.2) (ha:Ah a=true) :
 Calls Tryz.prog 287 #[.agg #[v1,v2],.int .i64 t,.int .u16 m] w (TL (Ec m t a) w):=Ov hm hmt _ a ha (Nat.le_refl _) S1 S2 v1 v2 w h1 h2
def U2 (O:Option Aj) (w:World) (e:Ending) (w':World):Prop:=∃ (x1 x2:Value) (C:Aj),e=.returned (.tuple #[.agg #[x1,x2],.bool O.isSome])∧(∀ b,O=some b→C=b)∧(RL w' (fun k=>w.heap.size≤k) x1 C.1∧RL w' (fun k=>w.heap.size≤k) x2 C.2)∧Below w.heap.size w w'
theorem Mh {w w':World} (hb:Below w.heap.size w w'):U2 none w (.returned (.tuple #[.agg #[.slice none 0 0,.slice none 0 0],.bool false])) w':=⟨_,_,([],[]),rfl,fun b h=>(by cases h),⟨RL.nil _ _,RL.nil _ _⟩,hb⟩
theorem OA.fe {w:World} {B:Nat} {v1 v2:Value} {a:Aj} (h:OA w B v1 v2 a):FE w B v1 a.1∧FE w B v2 a.2:=by
 obtain ⟨f1,f2,h1,h2,hn⟩:=h;have:=List.nodup_append.1 hn;exact ⟨J8 ⟨f1,h1,this.1⟩,J9 ⟨f2,h2,this.2.1⟩⟩
theorem Qf (x1 x2:Value) (v p t:Int) (w:World) :
 Calls Tryz.prog 302 #[.agg #[x1,x2,.int .i64 v,.int .i64 p],.int .i64 t] w fun e w'=>e=.returned (.int .i64 (DL v p t))∧Below w.heap.size w w':=by
 go_enter Tryz.func302,Tryz.ntmps302
 go_wp2_with fail
 refine (Ct t v p _).mono ?_;rintro e w' ⟨rfl,rfl⟩;go_wp2;go_returns;exact ⟨rfl,Bl⟩
theorem Ox (r:Aj × Int) (x:Int):WE (some r) x=x:=rfl
theorem Oy (r:Aj × Int):WD (some r)=r.2:=rfl
theorem IF {S1 S2:Nat→Prop} (v1 v2:Value) (a:Aj) (x t:Int) (m:Nat) (w:World) (h1:RL w S1 v1 a.1) (h2:RL w S2 v2 a.2) (hm:m < 65536) (ha:Ah a=true) :
 Calls Tryz.prog 285 #[.agg #[v1,v2],.int .i64 x,.int .i64 t,.int .u16 m] w (U2 (CC a x t m) w):=by
 have hsz:=En ha;obtain ⟨xa1,xc1,rfl⟩:=h1.form;obtain ⟨xa2,xc2,rfl⟩:=h2.form;obtain ⟨O,hO⟩:=Ex (CC a x t m);obtain ⟨FR,hFR⟩:=Ex (AU a x m);have hO2:O=FR.bind fun r=>Es (B7 r.1 (true,x,DL x r.2 t)):=by rw [← hO,CC,hFR]
 have hval:∀ r,FR=some r→Ah r.1=true:=fun r h=>E6 ha (hFR.trans h);rw [hO];obtain ⟨w0,hw0⟩:=Ey ((w.alloc (.cells #[.slice xa1 a.1.length xc1,.slice xa2 a.2.length xc2] 26)).alloc (.cells #[.slice none 0 0,.slice none 0 0] 26));have hA:w0.heap[w.heap.size]?=some (.cells #[.slice xa1 a.1.length xc1,.slice xa2 a.2.length xc2] 26 (0,0)):=by rw [hw0];exact Ac (heap_alloc_new w _) (Aa _ _)
 have hR:w0.heap[w.heap.size+1]?=some (.cells #[.slice none 0 0,.slice none 0 0] 26 (0,0)):=by
  rw [hw0];have:=heap_alloc_new (w.alloc (.cells #[.slice xa1 a.1.length xc1,.slice xa2 a.2.length xc2] 26)) (.cells #[.slice none 0 0,.slice none 0 0] 26);rw [World.size_alloc] at this;exact this
 have hb0:Below w.heap.size w w0:=by rw [hw0];exact ba (Aa _ _) _
 obtain ⟨a0,a1,al⟩:=B3 hA;have HW0:=Ad hw0;have H0:=Ad (An hR (An hb0 (An (h1.keep hb0) (h2.keep hb0))));have HFR:=Ad hFR;have HO:=Ad hO2;have HV:=Ad hval;have hl1:(a.1.length:Int)≤12:=by omega
 have hl2:(a.2.length:Int)≤8:=by omega
 have HL:=Ad (An hl1 hl2);clear hl1 hl2 hsz hO hO2 hFR hval hA hR hb0 hw0 h1 h2 ha;go_enter Tryz.func285,Tryz.ntmps285
 go_upto_region 1 with fail
 rw [← HW0.o];go_wp2_with fail
 refine (JJ _ _ a x m _ H0.o.2.2.1 H0.o.2.2.2 hm HL.o.1 HL.o.2).mono ?_;rw [HFR.o];rintro e w1 ⟨x1,x2,rfl,⟨r1,r2⟩,hb1⟩;obtain ⟨p1,n1,c1,rfl⟩:=r1.forms;obtain ⟨p2,n2,c2,rfl⟩:=r2.forms;have hR1:=Ac H0.o.1 hb1;have hB1:=bt H0.o.2.1 hb1;have hRz:=Ae hR1;cases FR with
 | none =>
   have HOO:=Ad (show O=none by rw [HO.o];rfl);obtain ⟨Y1,hY1⟩:∃ y,WE none x=y:=⟨_,rfl⟩;obtain ⟨Y2,hY2⟩:∃ y,WD none=y:=⟨_,rfl⟩;rw [hY1,hY2];clear hY1 hY2;obtain ⟨W,hW⟩:=Ey (w1.alloc (.cells #[.slice p1 n1 c1,.slice p2 n2 c2,.int .i64 Y1,.int .i64 Y2] 113));(have hbW:Below w1.heap.size w1 W:=by rw [hW];exact Aa _ _);have r0:=Bd (Ac hR1 hbW);have r1':=AY (Ac hR1 hbW);have rz:=BI (Ac hR1 hbW);have rl:=Ae (Ac hR1 hbW);have rr:=Au (.slice none 0 0) (.slice none 0 0) r0 r1';have HB:=Ad (bt hB1 hbW);have HW:=Ad hW;clear r1 r2 hB1 hb1 hR1 hbW hW;(go_upto_region 3 with fail);rw [← HW.o];go_wp2;refine bodyPost_ret (v:=.tuple #[.agg #[.slice none 0 0,.slice none 0 0],.bool false]) (by simp [results,Tryz.results285,go_sem,rr.1,rr.2]) rfl ?_;rw [HOO.o];exact Mh ((HB.o.setCell (p:=⟨w.heap.size+1,0,none⟩) (by show w.heap.size≤w.heap.size+1;omega) _).setCell (p:=⟨w.heap.size+1,1,none⟩) (by show w.heap.size≤w.heap.size+1;omega) _)
 | some r =>
   obtain ⟨rA,rp⟩:=r;have hv:=HV.o (rA,rp) rfl;have hsz:=Co hv;obtain ⟨C,hC⟩:=Ex (B7 rA (true,x,DL x rp t));have HOO:=Ad (show O=Es C by rw [HO.o];exact congrArg Es hC);have HC:=Ad (An hC hsz);simp only [Ox,Oy];obtain ⟨W,hW⟩:=Ey (w1.alloc (.cells #[.slice p1 n1 c1,.slice p2 n2 c2,.int .i64 x,.int .i64 rp] 113));(have hbW:Below w1.heap.size w1 W:=by rw [hW];exact Aa _ _);(have hF:W.heap[w1.heap.size]?=some (.cells #[.slice p1 n1 c1,.slice p2 n2 c2,.int .i64 x,.int .i64 rp] 113 (0,0)):=by rw [hW];exact heap_alloc_new _ _);obtain ⟨⟨f0,f1,f2,f3⟩,_⟩:=D7 hF;have fl:=Ae hF;have q1:RL w1 (fun k=>w1.heap.size≤k∨True) (.slice p1 n1 c1) rA.1:=r1.more fun _ _ _=>.inr trivial;have q2:RL w1 (fun k=>w1.heap.size≤k∨True) (.slice p2 n2 c2) rA.2:=r2.more fun _ _ _=>.inr trivial;have HW:=Ad hW;have H1:=Ad (An (An (q1.keep hbW) (q2.keep hbW)) (An (Ac hR1 hbW) (bt hB1 hbW)));have HZ:=Ad (show w.heap.size+1 < W.heap.size from Nat.lt_of_lt_of_le hRz hbW.size);clear hv hsz hC hbW hF hW r1 r2 q1 q2 hR1 hB1 hb1 HV HO H0 hRz a0 a1 al;(go_upto_region 4 with fail);rw [← HW.o];go_cut [12] (fun s12 wd=>TJ W wd W.heap.size C s12)
   case first =>
    go_region_held3 (fun w'=>(w'.cell? ⟨w1.heap.size,0,none⟩=some (.slice p1 n1 c1)∧w'.cell? ⟨w1.heap.size,1,none⟩=some (.slice p2 n2 c2))∧(w'.cell? ⟨w1.heap.size,2,none⟩=some (.int .i64 x)∧w'.cell? ⟨w1.heap.size,3,none⟩=some (.int .i64 rp)))
     (exact ⟨⟨(Ck f0),(Ck f1)⟩,(Ck f2),(Ck f3)⟩)
     (first
       | (go_at_call 302;go_must (refine (Qf _ _ x rp t _).mono ?_;rintro e w5 ⟨rfl,hb5'⟩;have hb5:Below W.heap.size W w5:=bt Bl hb5';have hz5:=hb5.size;(first | (have hT:=A5 hb5') | (have hT:=A7 hb5') | (have hT:=Cs hb5') | (have hT:=Cd hb5') | skip);(try simp only [World.size_alloc,World.size_drew] at hT);clear hb5'))
       | (go_at_call 182;go_must (refine (Ek _ _ rA (true,x,DL x rp t) _ (H1.o.1.1.keep Bl) (H1.o.1.2.keep Bl) HC.o.2).mono ?_;rw [HC.o.1];rintro e w6 ⟨u1,u2,rfl,o6',hb6'⟩;obtain ⟨o1,o2⟩:=OA.fe (o6'.mono (B':=W.heap.size) (Below.size (w:=W) (B:=W.heap.size) Bl));obtain ⟨d1,m1,k1,rfl⟩:=o1.forms;obtain ⟨d2,m2,k2,rfl⟩:=o2.forms;have hb6:Below W.heap.size W w6:=bt Bl hb6';have hb56:Below w5.heap.size w5 w6:=bt Bl hb6';have hz6:=hb56.size;(first | (replace hT:=Ac hT hb56;have _h:=hT) | (have hT:=A5 hb6') | (have hT:=A7 hb6') | (have hT:=Cs hb6') | (have hT:=Cd hb6') | skip);(try simp only [World.size_alloc,World.size_drew] at hT);(first | (have V9:=B4 hT;obtain ⟨ht0,ht1,htz,htl⟩:=V9) | skip);clear o6' hb6'))
       | fail)
    all_goals
     have HQ:=Ad (An o1 (An o2 hb6));clear o1 o2;go_wp2;go_meet
     case rel =>
      first
        | exact Ho HQ.o.1 HQ.o.2.1 HQ.o.2.2
        | exact K3 HQ.o.1 HQ.o.2.1 hT HQ.o.2.2 Om
        | fail
   case rest =>
    rename World=>we
    obtain ⟨tB,z1,z2,rfl,hT,⟨r1,r2⟩,hbd,htz⟩:=hcut;obtain ⟨c1,n1,e1,rfl⟩:=r1.forms;obtain ⟨c2,n2,e2,rfl⟩:=r2.forms;obtain ⟨u0,u1,ul⟩:=B3 hT;obtain ⟨b,hb⟩:=Ex (Ah C);have HB:=Ad hb;have hz:=HZ.o;have HU:=Ad (An (An r1 r2) (An (bt H1.o.2.2 hbd) (Ac H1.o.2.1 hbd)));(have htB:w.heap.size+1 < tB:=by omega);have HTB:=Ad (An hz hbd.size);clear hT r1 r2 hb hbd htz hz f0 f1 f2 f3 fl;(go_upto_region 5 with fail);go_region_held3 (fun w'=>w'.cell? ⟨tB,0,none⟩=some (.slice c1 n1 e1)∧w'.cell? ⟨tB,1,none⟩=some (.slice c2 n2 e2))
     (exact ⟨(Ck u0),(Ck u1)⟩)
     ((go_at_call 64;go_must (refine (cb (Aq _ _ C _ (HU.o.1.1.rl.keep Bl) (HU.o.1.2.rl.keep Bl)) HB.o).mono ?_;rintro e w5 ⟨rfl,hb5'⟩;have hb5:Below we.heap.size we w5:=bt Bl hb5';have hz5:=hb5.size;have hR5:=Ac HU.o.2.2 hb5;obtain ⟨q0,q1,qz,ql⟩:=B4 hR5;clear hb5')))
    all_goals
     have hs6:=El w5 (w.heap.size+1) (.slice c1 n1 e1) (.slice c2 n2 e2);have hz1:=HTB.o.1;have HG:=Ad (An (An (((FE.set2 (x:=.slice c1 n1 e1) (y:=.slice c2 n2 e2) (HU.o.1.1.keep hb5) hR5 Dc).mono (B':=w.heap.size) Om).rl) (((FE.set2 (x:=.slice c1 n1 e1) (y:=.slice c2 n2 e2) (HU.o.1.2.keep hb5) hR5 Dc).mono (B':=w.heap.size) Om).rl)) ((bt HU.o.2.1 hb5).trans (hs6.below (bt HU.o.2.1 hb5).size fun k hk e=>by have e2:k=w.heap.size+1:=e;omega)));have rr:=Au (.slice c1 n1 e1) (.slice c2 n2 e2) q0 q1;have HE:=Ad (show O.isSome=b∧∀ c,O=some c→C=c by
      have e1:=HOO.o;rw [Es,HB.o] at e1;cases b with
      | false=>exact ⟨by rw [e1];rfl,fun c h=>by rw [e1] at h;cases h⟩
      | true=>exact ⟨by rw [e1];rfl,fun c h=>by rw [e1] at h;exact Option.some.inj h⟩)
     clear hs6 hR5 hz1;go_wp2;refine bodyPost_ret (v:=.tuple #[.agg #[.slice c1 n1 e1,.slice c2 n2 e2],.bool b]) (by simp [results,Tryz.results285,go_sem,rr.1,rr.2]) rfl ?_;exact ⟨_,_,C,by rw [HE.o.1],HE.o.2,HG.o.1,HG.o.2⟩
def V8 (w wd:World) (L:Nat) (C:Aj) (s:Value):Prop:=∃ (t:Nat) (x1 x2:Value),s=.pointer (some ⟨t,0,none⟩)∧wd.heap[t]?=some (.cells #[x1,x2] 26 (0,0))∧(RL wd (fun k=>L≤k) x1 C.1∧RL wd (fun k=>L≤k) x2 C.2)∧Below w.heap.size w wd∧w.heap.size≤t
theorem Rh {α:Type} [Dat α] {w:World} {S:Nat→Prop} {t:Nat} {v:Value} {l:List α} (h:RL w S v l) (ht:∀ k,S k→¬ k=t) (x y:Value):RL ((w.setCell ⟨t,0,none⟩ x).setCell ⟨t,1,none⟩ y) S v l :=
 (h.kept (Aw _ ⟨t,0,none⟩ x) fun k _ hk e=>ht k hk e).kept (Aw _ ⟨t,1,none⟩ y) fun k _ hk e=>ht k hk e
theorem TS {w w6:World} {L t:Nat} {x1 x2 y1 y2:Value} {C:Aj} (h1:RL w6 (fun k=>L≤k∧¬ k=t) x1 C.1) (h2:RL w6 (fun k=>L≤k∧¬ k=t) x2 C.2) (hT:w6.heap[t]?=some (.cells #[y1,y2] 26 (0,0))) (hb:Below w.heap.size w w6) (h0:w.heap.size≤t) :
 V8 w ((w6.setCell ⟨t,0,none⟩ x1).setCell ⟨t,1,none⟩ x2) L C (.pointer (some ⟨t,0,none⟩)) :=
 ⟨t,x1,x2,rfl,BX (BL hT _) _,⟨(Rh h1 (fun _ h=>h.2) x1 x2).more fun k _ h=>h.1,(Rh h2 (fun _ h=>h.2) x1 x2).more fun k _ h=>h.1⟩,(hb.setCell (p:=⟨t,0,none⟩) h0 _).setCell (p:=⟨t,1,none⟩) h0 _,h0⟩
theorem Qg {w w6:World} {L:Nat} {x1 x2:Value} {C:Aj} (h1:RL w6 (fun k=>L≤k) x1 C.1) (h2:RL w6 (fun k=>L≤k) x2 C.2) (hb:Below w.heap.size w w6) :
 V8 w (w6.alloc (.cells #[x1,x2] 26)) L C (.pointer (some ⟨w6.heap.size,0,none⟩)) :=
 ⟨_,x1,x2,rfl,heap_alloc_new _ _,⟨h1.keep (Aa _ _),h2.keep (Aa _ _)⟩,ba hb _,hb.size⟩
theorem Jn {S1 S2:Nat→Prop} (v1 v2:Value) (a:Aj) (x:Int) (m:Nat) (w:World) (h1:RL w S1 v1 a.1) (h2:RL w S2 v2 a.2) (hm:m < 65536) (ha:Ah a=true) :
 Calls Tryz.prog 286 #[.agg #[v1,v2],.int .i64 x,.int .u16 m] w (U2 (M7 a x m) w):=by
 have hsz:=En ha;obtain ⟨xa1,xc1,rfl⟩:=h1.form;obtain ⟨xa2,xc2,rfl⟩:=h2.form;obtain ⟨O,hO⟩:=Ex (M7 a x m);obtain ⟨FR,hFR⟩:=Ex (AU a x m);have hO2:O=FR.bind fun r=>Es (r.1.1,(1,x,0) :: r.1.2):=by rw [← hO,M7,hFR]
 have hval:∀ r,FR=some r→Ah r.1=true:=fun r h=>E6 ha (hFR.trans h);rw [hO];obtain ⟨w0,hw0⟩:=Ey ((w.alloc (.cells #[.slice xa1 a.1.length xc1,.slice xa2 a.2.length xc2] 26)).alloc (.cells #[.slice none 0 0,.slice none 0 0] 26));have hA:w0.heap[w.heap.size]?=some (.cells #[.slice xa1 a.1.length xc1,.slice xa2 a.2.length xc2] 26 (0,0)):=by rw [hw0];exact Ac (heap_alloc_new w _) (Aa _ _)
 have hR:w0.heap[w.heap.size+1]?=some (.cells #[.slice none 0 0,.slice none 0 0] 26 (0,0)):=by
  rw [hw0];have:=heap_alloc_new (w.alloc (.cells #[.slice xa1 a.1.length xc1,.slice xa2 a.2.length xc2] 26)) (.cells #[.slice none 0 0,.slice none 0 0] 26);rw [World.size_alloc] at this;exact this
 have hb0:Below w.heap.size w w0:=by rw [hw0];exact ba (Aa _ _) _
 have HZ0:=Ad (show w0.heap.size=w.heap.size+2 by rw [hw0];simp);obtain ⟨a0,a1,al⟩:=B3 hA;have HW0:=Ad hw0;have H0:=Ad (An hR (An hb0 (An (h1.keep hb0) (h2.keep hb0))));have HFR:=Ad hFR;have HO:=Ad hO2;have HV:=Ad hval;have hl1:(a.1.length:Int)≤12:=by omega
 have hl2:(a.2.length:Int)≤8:=by omega
 have HL:=Ad (An hl1 hl2);clear hl1 hl2 hsz hO hO2 hFR hval hA hR hb0 hw0 h1 h2 ha;go_enter Tryz.func286,Tryz.ntmps286
 go_upto_region 1 with fail
 rw [← HW0.o];go_wp2_with fail
 refine (JJ _ _ a x m _ H0.o.2.2.1 H0.o.2.2.2 hm HL.o.1 HL.o.2).mono ?_;rw [HFR.o];rintro e w1 ⟨x1,x2,rfl,⟨r1,r2⟩,hb1⟩;obtain ⟨p1,n1,c1,rfl⟩:=r1.forms;obtain ⟨p2,n2,c2,rfl⟩:=r2.forms;have hR1:=Ac H0.o.1 hb1;have hB1:=bt H0.o.2.1 hb1;have hRz:=Ae hR1;cases FR with
 | none =>
   have HOO:=Ad (show O=none by rw [HO.o];rfl);obtain ⟨Y1,hY1⟩:∃ y,WE none x=y:=⟨_,rfl⟩;obtain ⟨Y2,hY2⟩:∃ y,WD none=y:=⟨_,rfl⟩;rw [hY1,hY2];clear hY1 hY2;obtain ⟨W,hW⟩:=Ey (w1.alloc (.cells #[.slice p1 n1 c1,.slice p2 n2 c2,.int .i64 Y1,.int .i64 Y2] 113));(have hbW:Below w1.heap.size w1 W:=by rw [hW];exact Aa _ _);have r0:=Bd (Ac hR1 hbW);have r1':=AY (Ac hR1 hbW);have rz:=BI (Ac hR1 hbW);have rl:=Ae (Ac hR1 hbW);have rr:=Au (.slice none 0 0) (.slice none 0 0) r0 r1';have HB:=Ad (bt hB1 hbW);have HW:=Ad hW;clear r1 r2 hB1 hb1 hR1 hbW hW;(go_upto_region 3 with fail);rw [← HW.o];go_wp2;refine bodyPost_ret (v:=.tuple #[.agg #[.slice none 0 0,.slice none 0 0],.bool false]) (by simp [results,Tryz.results286,go_sem,rr.1,rr.2]) rfl ?_;rw [HOO.o];exact Mh ((HB.o.setCell (p:=⟨w.heap.size+1,0,none⟩) (by show w.heap.size≤w.heap.size+1;omega) _).setCell (p:=⟨w.heap.size+1,1,none⟩) (by show w.heap.size≤w.heap.size+1;omega) _)
 | some r =>
   obtain ⟨rA,rp⟩:=r;have hv:Ah rA=true:=HV.o (rA,rp) rfl;obtain ⟨C,hC⟩:∃ C:Aj,(rA.1,(1,x,0) :: rA.2)=C:=⟨_,rfl⟩;have HOO:=Ad (show O=Es C by rw [HO.o];exact congrArg Es hC);have HC:=Ad (An hC (En hv));simp only [Ox,Oy];obtain ⟨W0,hW0⟩:∃ W,W=w1.alloc (.cells #[.slice p1 n1 c1,.slice p2 n2 c2,.int .i64 x,.int .i64 rp] 113):=⟨_,rfl⟩;obtain ⟨W,hW⟩:=Ey (W0.alloc (.cells #[.int .i64 1,.int .i64 x,.int .i64 0] 118));(have hbW:Below w1.heap.size w1 W:=by rw [hW,hW0];exact ba (Aa _ _) _);(have hzW:W.heap.size=w1.heap.size+2:=by rw [hW,hW0];simp);(have hF:W.heap[w1.heap.size]?=some (.cells #[.slice p1 n1 c1,.slice p2 n2 c2,.int .i64 x,.int .i64 rp] 113 (0,0)):=by rw [hW,hW0];exact Ac (heap_alloc_new _ _) (Aa _ _));have hLt:RL W (fun k=>k=w1.heap.size+1) (.slice (some ⟨w1.heap.size+1,0,none⟩) 1 1) [((1,x,0):Am)]:=by
    rw [hW];have h:=BB W0 1 x 0 118;rw [hW0,World.size_alloc] at h;rw [hW0];exact h
   obtain ⟨⟨f0,f1,f2,f3⟩,_⟩:=D7 hF;have fl:=Ae hF;(have q1:RL w1 (fun k=>w.heap.size+2≤k) (.slice p1 n1 c1) rA.1:=r1.more fun k _ h=>by have h2:w0.heap.size≤k:=h;show w.heap.size+2≤k;have:=HZ0.o;omega);(have q2:RL w1 (fun k=>w.heap.size+2≤k) (.slice p2 n2 c2) rA.2:=r2.more fun k _ h=>by have h2:w0.heap.size≤k:=h;show w.heap.size+2≤k;have:=HZ0.o;omega);have HW:=Ad (An hW0 hW);have H1:=Ad (An ((q1.more (S':=fun k=>w.heap.size+2≤k∧k < w1.heap.size) fun k hk h=>⟨h,hk⟩).keep hbW) (An (An (q2.keep hbW) hLt) (An (Ac hR1 hbW) (bt hB1 hbW))));have HZ:=Ad (An hRz hzW);clear hv hC hbW hF hW hW0 hzW hLt r1 r2 q1 q2 hR1 hB1 hb1 HV HO H0 hRz a0 a1 al;(go_upto_region 5 with fail);rw [← HW.o.1,← HW.o.2];go_cut [11] (fun s11 wd=>V8 W wd (w.heap.size+2) C s11)
   case first =>
    go_region_held3 (fun w'=>w'.cell? ⟨w1.heap.size,0,none⟩=some (.slice p1 n1 c1)∧w'.cell? ⟨w1.heap.size,1,none⟩=some (.slice p2 n2 c2))
     (exact ⟨(Ck f0),(Ck f1)⟩)
     (first
       | (go_at_call 70;go_must (refine (Bx _ _ [((1,x,0):Am)] rA.2 _ (H1.o.2.1.2.keep Bl) (H1.o.2.1.1.keep Bl) (by have:=HC.o.2;simp;omega)).mono ?_;rintro e w6 ⟨y2,rfl,o6',hb6'⟩;have o6:=(o6'.mono (B':=W.heap.size) (Below.size (w:=W) (B:=W.heap.size) Bl)).read;obtain ⟨d2,m2,k2,rfl⟩:=o6.forms;have hb6:Below W.heap.size W w6:=bt Bl hb6';have hz6:=hb6.size;(first | (have hT:=A5 hb6') | (have hT:=A7 hb6') | (have hT:=Cs hb6') | (have hT:=Cd hb6') | skip);(try simp only [World.size_alloc,World.size_drew] at hT);(first | (have V9:=B4 hT;obtain ⟨ht0,ht1,htz,htl⟩:=V9;have o6n:RL w6 (fun k=>w.heap.size+2≤k∧¬ k=W.heap.size) (.slice d2 m2 k2) ([((1,x,0):Am)] ++ rA.2):=o6'.read.more fun k _ h=>by have h1:=h;(try simp only [World.size_alloc,World.size_drew] at h1);have:=HZ.o;exact ⟨by omega,by omega⟩) | skip);clear o6' hb6'))
       | fail)
    all_goals
     have hzz:=HZ.o;have HQ:=Ad (An (H1.o.1.keep hb6) (An (o6.more (S':=fun k=>w.heap.size+2≤k) fun k _ h=>by have h2:W.heap.size≤k:=h;show w.heap.size+2≤k;omega) hb6));have HC1:=Ad (show C.1=rA.1∧C.2=[((1,x,0):Am)] ++ rA.2 by rw [← HC.o.1];exact ⟨rfl,rfl⟩);clear o6;go_wp2;go_meet
     case rel =>
      first
        | exact Qg (by rw [HC1.o.1];exact HQ.o.1.more fun k _ h=>h.1) (by rw [HC1.o.2];exact HQ.o.2.1) HQ.o.2.2
        | exact TS (by rw [HC1.o.1];exact HQ.o.1.more fun k _ h=>⟨h.1,by have:=h.2;omega⟩) (by rw [HC1.o.2];exact o6n) hT HQ.o.2.2 Om
        | fail
   case rest =>
    rename World=>we
    obtain ⟨tB,z1,z2,rfl,hT,⟨r1,r2⟩,hbd,htz⟩:=hcut;obtain ⟨c1,n1,e1,rfl⟩:=r1.forms;obtain ⟨c2,n2,e2,rfl⟩:=r2.forms;obtain ⟨u0,u1,ul⟩:=B3 hT;obtain ⟨b,hb⟩:=Ex (Ah C);have HB:=Ad hb;have hz:=HZ.o;have HU:=Ad (An (An r1 r2) (An (bt H1.o.2.2.2 hbd) (Ac H1.o.2.2.1 hbd)));(have htB:w.heap.size+1 < tB:=by omega);clear hT r1 r2 hb hbd htz hz f0 f1 f2 f3 fl;(go_upto_region 6 with fail);go_region_held3 (fun w'=>w'.cell? ⟨tB,0,none⟩=some (.slice c1 n1 e1)∧w'.cell? ⟨tB,1,none⟩=some (.slice c2 n2 e2))
     (exact ⟨(Ck u0),(Ck u1)⟩)
     ((go_at_call 64;go_must (refine (cb (Aq _ _ C _ (HU.o.1.1.keep Bl) (HU.o.1.2.keep Bl)) HB.o).mono ?_;rintro e w5 ⟨rfl,hb5'⟩;have hb5:Below we.heap.size we w5:=bt Bl hb5';have hz5:=hb5.size;have hR5:=Ac HU.o.2.2 hb5;obtain ⟨q0,q1,qz,ql⟩:=B4 hR5;clear hb5')))
    all_goals
     have hs6:=El w5 (w.heap.size+1) (.slice c1 n1 e1) (.slice c2 n2 e2);have far:∀ k,k < w5.heap.size→(fun k=>w.heap.size+2≤k) k→¬ (fun j=>j=w.heap.size+1) k:=fun k _ h e=>by
      have h2:w.heap.size+2≤k:=h;have e2:k=w.heap.size+1:=e;omega
     have up:∀ k,(fun k=>w.heap.size+2≤k) k→(fun k=>w.heap.size≤k) k:=fun k h=>by
      have h2:w.heap.size+2≤k:=h;show w.heap.size≤k
      omega
     have HG:=Ad (An (An (((HU.o.1.1.keep hb5).kept hs6 far).more fun k _ h=>up k h) (((HU.o.1.2.keep hb5).kept hs6 far).more fun k _ h=>up k h)) ((bt HU.o.2.1 hb5).trans (hs6.below (bt HU.o.2.1 hb5).size fun k hk e=>by have e2:k=w.heap.size+1:=e;omega)));have rr:=Au (.slice c1 n1 e1) (.slice c2 n2 e2) q0 q1;have HE:=Ad (show O.isSome=b∧∀ c,O=some c→C=c by
      have e1:=HOO.o;rw [Es,HB.o] at e1;cases b with
      | false=>exact ⟨by rw [e1];rfl,fun c h=>by rw [e1] at h;cases h⟩
      | true=>exact ⟨by rw [e1];rfl,fun c h=>by rw [e1] at h;exact Option.some.inj h⟩)
     clear hs6 hR5 far up;go_wp2;refine bodyPost_ret (v:=.tuple #[.agg #[.slice c1 n1 e1,.slice c2 n2 e2],.bool b]) (by simp [results,Tryz.results286,go_sem,rr.1,rr.2]) rfl ?_;exact ⟨_,_,C,by rw [HE.o.1],HE.o.2,HG.o.1,HG.o.2⟩
end Go.Proofs.YtkbbmjcfgcfejaaGreat
