/- Walk: a further fact (reference: l10Know). -/
import Derived.Test.YtkbbmjcfgcfejaaGreatLSkW
import Derived.Test.YtkbbmjcfgcfejaaGreatLExM
import Derived.Test.YtkbbmjcfgcfejaaGreatLFrmI
set_option linter.unusedVariables false
set_option linter.unusedSimpArgs false
set_option maxRecDepth 100000
set_option maxHeartbeats 12800000
namespace Go.Proofs.YtkbbmjcfgcfejaaGreat
open Go.RowKit
theorem GB {S1 S2:Nat→Prop} (v1 v2:Value) (a:Aj) (x t:Int) (w:World) (h1:RL w S1 v1 a.1) (h2:RL w S2 v2 a.2) (hs:Hg a) :
 Calls Tryz.prog 310 #[.agg #[v1,v2],.int .i64 x,.int .i64 t] w fun e w'=>∃ x1 x2,e=.returned (.agg #[x1,x2])∧(FE w' w.heap.size x1 (a.1 ++ [((true,x,t):Ap)])∧FE w' w.heap.size x2 a.2)∧Below w.heap.size w w':=by
 obtain ⟨p1,c1,rfl⟩:=h1.form;obtain ⟨p2,c2,rfl⟩:=h2.form;have HS:=Ad hs;have H:=Ad (An h1 h2);clear hs h1 h2;go_enter Tryz.func310,Tryz.ntmps310
 go_upto_region 2 with (go_at_call 141;refine (Gg _ _ a _ (H.o.1.keep Bl) (H.o.2.keep Bl) HS.o).mono ?_;rintro e w1 ⟨x1,x2,rfl,r1,r2,hb⟩;obtain ⟨d1,m1,k1,rfl⟩:=r1.forms;obtain ⟨d2,m2,k2,rfl⟩:=r2.forms)
 have hA:=Ac (heap_alloc_new (w.alloc (.cells #[.slice p1 a.1.length c1,.slice p2 a.2.length c2] 26)) (.cells #[.slice none 0 0,.slice none 0 0] 26)) hb;simp only [World.size_alloc] at hA;have hbw:Below w.heap.size w w1:=bt (ba (Aa w _) _) hb;have hz1:=hb.size;simp only [World.size_alloc] at hz1;obtain ⟨wd,hwd⟩:=Ey (w1.alloc (.cells #[.slice d1 m1 k1,.slice d2 m2 k2] 26));have hk0:Below w1.heap.size w1 wd:=by rw [hwd];exact Aa _ _
 have hT:wd.heap[w1.heap.size]?=some (.cells #[.slice d1 m1 k1,.slice d2 m2 k2] 26 (0,0)):=by rw [hwd];exact heap_alloc_new w1 _
 have hzd:wd.heap.size=w1.heap.size+1:=by rw [hwd];simp
 have HT:=Ad (An hT (An (An ((r1.mono (B':=w.heap.size) (by simp;omega)).keep hk0) ((r2.mono (B':=w.heap.size) (by simp;omega)).keep hk0)) (An (bt hbw hk0) (An (Ac hA hk0) (An hz1 hzd)))));have HWD:=Ad hwd;have t0:=Bd hT;have t1:=AY hT;have tz:=BI hT 0;have tl:=Ae hT;clear hA hbw hb r1 r2 hk0 hT hwd hzd hz1;rw [← HWD.o];go_wp2_with (at_builtin;go_must (refine Ez (l:=a.1) (m:=[((true,x,t):Ap)]) (B:=w.heap.size) rfl (.tmp 11) (.tmp 15) _ rfl A0 rfl (HT.o.2.1.1.keep (Aa _ _)) rfl (Bm _ _ _ _ _) (by have:=HS.o.1;simp;omega) (by have:=HT.o.2.2.2.2;simp;omega) ?_;intro v8 w8 o8 hf8;obtain ⟨a8,n8,c8,rfl⟩:=o8.forms;have hA8:=AM (Ac HT.o.1 (Aa wd (.cells #[.bool true,.int .i64 x,.int .i64 t] 61))) hf8 Dc;have e0:=Bd hA8;have e1':=AY hA8;have ez:=BI hA8 0;have el:=Ae hA8;have hR8:=AM (Ac HT.o.2.2.2.1 (Aa wd (.cells #[.bool true,.int .i64 x,.int .i64 t] 61))) hf8 Dc;have hR9:=Ax hR8 ⟨w1.heap.size,0,none⟩ (.slice a8 n8 c8) (by have:=HT.o.2.2.2.2;show ¬ w.heap.size+1=w1.heap.size;omega);obtain ⟨q0,q1,qz,ql⟩:=B4 hR9))
 have hb8:=AG hf8 (show w.heap.size≤_ by have:=HT.o.2.2.2.2;simp;omega);have hkp:=Aa wd (.cells #[.bool true,.int .i64 x,.int .i64 t] 61);have hS:∀ {e:TypeId},26 ≠ e→¬ TF w8 w.heap.size e w1.heap.size:=fun hne=>Ge hA8 hne;have fF:FE (w8.setCell ⟨w1.heap.size,0,none⟩ (.slice a8 n8 c8)) w.heap.size (.slice a8 n8 c8) (a.1 ++ [((true,x,t):Ap)]):=o8.setB (hS (e:=61) Dc);have fA:FE (w8.setCell ⟨w1.heap.size,0,none⟩ (.slice a8 n8 c8)) w.heap.size (.slice d2 m2 k2) a.2:=((HT.o.2.1.2.keep hkp).tf hf8 Dc).setB (hS (e:=118) Dc);have f1:=fF.set2 (x:=.slice a8 n8 c8) (y:=.slice d2 m2 k2) hR9 Dc;have f2:=fA.set2 (x:=.slice a8 n8 c8) (y:=.slice d2 m2 k2) hR9 Dc;have r:=Au (.slice a8 n8 c8) (.slice d2 m2 k2) q0 q1;have fb:=((((bt HT.o.2.2.1 hkp).trans (hb8.mono (Nat.le_refl _))).setCell (p:=⟨w1.heap.size,0,none⟩) (by have:=HT.o.2.2.2.2;show w.heap.size≤w1.heap.size;omega) (.slice a8 n8 c8)).setCell (p:=⟨w.heap.size+1,0,none⟩) Sp (.slice a8 n8 c8)).setCell (p:=⟨w.heap.size+1,1,none⟩) Sp (.slice d2 m2 k2);have HO:=Ad (An f1 (An f2 fb));clear f1 f2 fb fF fA hS hkp hb8 o8 hf8 hA8 hR8 hR9;go_wp2;refine bodyPost_ret (v:=.agg #[.slice a8 n8 c8,.slice d2 m2 k2]) (by simp [results,Tryz.results310,go_sem,r.1,r.2]) rfl ?_;exact ⟨_,_,rfl,⟨HO.o.1,HO.o.2.1⟩,HO.o.2.2⟩
def Hr (m ch:Nat):Bool:=(List.range 9).all fun t=>!(m.testBit t && ch.testBit t)
theorem Sc {m ch k:Nat} (hk:k < 9) (h1:m.testBit k=true) (h2:ch.testBit k=true):Hr m ch=false:=by
 rw [Hr,List.all_eq_false];exact ⟨k,List.mem_range.2 hk,by rw [h1,h2];decide⟩
theorem Qp {k:Nat} {p:Nat→Bool} (h0:(List.range k).all p=true) (h1:p k=true):(List.range (k+1)).all p=true:=by
 rw [List.range_succ,List.all_append,h0,List.all_cons,h1];rfl
theorem OP {S1 S2:Nat→Prop} (v1 v2 fv:Value) (a:Aj) (ch B:Nat) (w:World) (h1:RL w S1 v1 a.1) (h2:RL w S2 v2 a.2) (hx1:a.1.all AH=true) (hx2:a.2.all AQ=true) (hf:w.ownsRow B 4 1 fv 9 (Av ch)) :
 Calls Tryz.prog 280 #[.agg #[v1,v2],fv] w fun e w'=>e=.returned (.bool (Hr (Ak a) ch))∧Below w.heap.size w w':=by
 obtain ⟨p1,c1,rfl⟩:=h1.form;obtain ⟨p2,c2,rfl⟩:=h2.form;obtain ⟨fa,fc,rfl,hg⟩:=A8 hf;obtain ⟨g2,rfl⟩:=hg 0 Dc;clear hg;obtain ⟨M,hM⟩:=Ex (Ak a);obtain ⟨A,hA⟩:=Ex (Hr M ch);have HM:=Ad (An hM hA);have H:=Ad (An (An h1 h2) (An (An hx1 hx2) hf));rw [hM,hA];clear hM hA h1 h2 hx1 hx2 hf;go_enter Tryz.func280,Tryz.ntmps280
 go_wp2_with fail
 refine (BQ _ _ a _ (H.o.1.1.keep Bl) (H.o.1.2.keep Bl) H.o.2.1.1 H.o.2.1.2).mono ?_;rw [HM.o.1];rintro e w1 ⟨v,rfl,ho,hb⟩;have hbw:Below w.heap.size w w1:=bt Bl hb;obtain ⟨ga,gc,rfl,hg⟩:=A8 ho;obtain ⟨g1,rfl⟩:=hg 0 Dc;clear hg;have hl1:=(AD ho (k:=g1) rfl).2;have hl2:=(AD (Ag H.o.2.2 hbw) (k:=g2) rfl).2;have HO:=Ad (An ho (An (Ag H.o.2.2 hbw) hbw));clear ho hb hbw;go_wp2;go_loopg [6] 9 (fun q i wr=>∃ k:Nat,k+q=9∧i=.int .i64 (k:Int)∧((List.range k).all fun t=>!(M.testBit t && ch.testBit t))=true∧wr=w1)
 case atStart=>exact ⟨0,by omega,rfl,rfl,rfl⟩
 case round =>
  obtain ⟨k,hk,rfl,hf,rfl⟩:=hrel;have HK:=Ad (An hk hf);clear hk hf;by_cases hk9:k < 9
  · have i1:(k:Int)≤8:=by omega
    (have i2:(k:Int) < 9:=by omega);obtain ⟨x,hx⟩:=Ex (M.testBit k);obtain ⟨y,hy⟩:=Ex (ch.testBit k);have x1:=HO.o.1.cellAt k Om;rw [AP M k hk9,hx] at x1;have y1:=HO.o.2.1.cellAt k Om;rw [AP ch k hk9,hy] at y1;have HX:=Ad (An hx (An hy hk9));clear hx hy;cases x <;> cases y
    case true.true =>
     have HA:=Ad (show A=false by rw [← HM.o.2];exact Sc HX.o.2.2 HX.o.1 HX.o.2.1);go_wp2;go_returns;rw [HA.o];exact ⟨rfl,HO.o.2.2⟩
    all_goals
     have HS:=Ad (Qp HK.o.2 (show (!(M.testBit k && ch.testBit k))=true by rw [HX.o.1,HX.o.2.1];rfl));go_wp2;go_roundg (gk - 1)
     case rel=>exact ⟨k+1,by have:=HK.o.1;omega,by go_num,HS.o,rfl⟩
     case measure=>have:=HK.o.1;omega
  · obtain rfl:k=9:=by have:=HK.o.1;omega
    have HA:=Ad (show A=true by rw [← HM.o.2];exact HK.o.2);go_wp2;go_returns;rw [HA.o];exact ⟨rfl,HO.o.2.2⟩
theorem Jo {j g n:Nat} (h:j+g=n) (h2:j < n):j+1+(g - 1)=n:=by omega
theorem Jp {j g n:Nat} (h:j+g=n) (h2:j < n):g - 1 < g:=by omega
theorem Mu {α:Type} [Inhabited α] {l R:List α} {p:α→Bool} {k:Nat} (h:k < l.length) (hR:(l.take k).filter p=R):(l.take (k+1)).filter p=R ++ (if p (gd l k)=true then [gd l k] else []):=by
 rw [List.take_succ_eq_append_getElem h,List.filter_append,hR,List.filter_cons,← BT h];rfl
theorem Ng {S:Nat→Prop} (v fv:Value) (l:List Ap) (ch B:Nat) (w:World) (h:RL w S v l) (hv:∀ f ∈ l,AH f=true) (hn:l.length≤1048576) (hf:w.ownsRow B 4 1 fv 9 (Av ch)) :
 Calls Tryz.prog 281 #[v,fv] w fun e w'=>∃ u,e=.returned u∧FE w' w.heap.size u (l.filter (Fp ch))∧Below w.heap.size w w':=by
 obtain ⟨a,cap,rfl,hq1,hq2,hqf⟩:=h.factAt;obtain ⟨fa,fc,rfl,hg⟩:=A8 hf;obtain ⟨g,rfl⟩:=hg 0 Dc;have hgl:=(AD hf (k:=g) rfl).2;have F:=Ad hqf;have H:=Ad (An (An h hf) (An hv (An hn (An hq1 hq2))));clear h hf hv hn hq1 hq2 hqf hg;go_enter Tryz.func281,Tryz.ntmps281
 go_wp2;go_loopg [5,6] l.length (fun q u i wr=>∃ (k:Nat) (R:List Ap),k+q=l.length∧i=.int .i64 (k:Int)∧(l.take k).filter (Fp ch)=R∧FE wr w.heap.size u R∧Below w.heap.size w wr)
 case atStart=>exact ⟨0,[],by omega,rfl,rfl,FE.nil _ _ _,Aa _ _⟩
 case round =>
  obtain ⟨k,R,hk,rfl,hR,hF,hW⟩:=hrel;obtain ⟨ra,rn,rc,rfl⟩:=hF.forms;have hRl:R.length≤l.length:=by rw [← hR];exact Nat.le_trans (List.length_filter_le _ _) (by rw [List.length_take];omega)
  have HK:=Ad (An (An hk hR) (An (An hF hRl) hW));have hsw:=hW.size;clear hk hR hF hRl;by_cases hk8:k < l.length
  · have i1:(k:Int) < (l.length:Int):=by omega
    obtain ⟨b1,o1,rfl,_,hz1,hp1,hp2,hp3⟩:=F.o k hk8;obtain ⟨X,hX⟩:=Ex (gd l k);obtain ⟨X1,X2,X3⟩:=X;have hv:=Cw.1 (H.o.2.1 _ (Be hk8));rw [hX] at hp1 hp2 hp3 hv;simp only at hp1 hp2 hp3 hv;obtain ⟨i2,rfl⟩:=Int.eq_ofNat_of_zero_le hv.1.1;obtain ⟨i3,rfl⟩:=Int.eq_ofNat_of_zero_le hv.2.1;(have u2:i2≤8:=by omega);(have u3:i3≤8:=by omega);(have t2:(i2:Int) < 9:=by omega);(have t3:(i3:Int) < 9:=by omega);replace hp1:=Ab hW hp1;replace hp2:=Ab hW hp2;replace hp3:=Ab hW hp3;(have hzr:b1 < wr.heap.size:=by omega);(have hgr:g < wr.heap.size:=by omega);obtain ⟨x,hx⟩:=Ex (ch.testBit i2);obtain ⟨y,hy⟩:=Ex (ch.testBit i3);have x1:=(Ag H.o.1.2 hW).cellAt i2 Om;rw [AP ch i2 Om,hx] at x1;have y1:=(Ag H.o.1.2 hW).cellAt i3 Om;rw [AP ch i3 Om,hy] at y1;(have hoff:Fp ch (gd l k)=(!x && !y):=by rw [hX,Fp,FN u2,FN u3,hx,hy]);have hst:=Mu hk8 HK.o.1.2;rw [hoff,hX] at hst;have HST:=Ad hst;have HK8:=Ad hk8;clear hx hy hoff hst hX hv u2 u3 hW;cases x <;> cases y
    case false.false =>
     go_wp2_with (at_builtin;go_must (refine Ez (l:=R) (m:=[((X1,(i2:Int),(i3:Int)):Ap)]) (B:=w.heap.size) rfl (.tmp 34) (.tmp 39) _ rfl A0 rfl (HK.o.2.1.1.keep (Aa _ _)) rfl (Bm _ _ _ _ _) (by have:=HK.o.2.1.2;have:=H.o.2.2.1;simp;omega) (by simp;omega) ?_;intro v8 w8 o8 hf8;obtain ⟨a8,n8,c8,rfl⟩:=o8.forms))
     have HG:=Ad (An o8 ((bt (a:=w) HK.o.2.2 (Aa wr (.cells #[.bool X1,.int .i64 (i2:Int),.int .i64 (i3:Int)] 61))).trans ((AG hf8 (by simp;omega)).mono (Nat.le_refl _))));clear o8 hf8;go_roundg (gk - 1)
     case rel=>exact ⟨k+1,_,Jo HK.o.1.1 HK8.o,Mq HK8.o H.o.2.2.2.1 H.o.2.2.2.2,HST.o,HG.o.1,HG.o.2⟩
     case measure=>exact Jp HK.o.1.1 HK8.o
    all_goals
     go_wp2;go_roundg (gk - 1)
     case rel=>exact ⟨k+1,R,Jo HK.o.1.1 HK8.o,Mq HK8.o H.o.2.2.2.1 H.o.2.2.2.2,HST.o.trans Sp,HK.o.2.1.1,HK.o.2.2⟩
     case measure=>exact Jp HK.o.1.1 HK8.o
  · obtain rfl:k=l.length:=by have:=HK.o.1.1;omega
    have HA:=Ad (show l.filter (Fp ch)=R by rw [← HK.o.1.2,List.take_length]);go_wp2;go_returns;exact ⟨_,rfl,by rw [HA.o];exact HK.o.2.1.1,HK.o.2.2⟩
def TY (r:Int × Aj) (w:World) (e:Ending) (w':World):Prop:=∃ x1 x2,e=.returned (.tuple #[.agg #[x1,x2],.int .i64 r.1])∧(RL w' (fun k=>w.heap.size≤k) x1 r.2.1∧RL w' (fun k=>w.heap.size≤k) x2 r.2.2)∧Below w.heap.size w w'
theorem Di {w w':World} {R:Nat} {z:Int} (hB:w.heap.size≤R) (hb:Below w.heap.size w w'):TY (z,([],[])) w (.returned (.tuple #[.agg #[.slice none 0 0,.slice none 0 0],.int .i64 z])) ((w'.setCell ⟨R,0,none⟩ (.slice none 0 0)).setCell ⟨R,1,none⟩ (.slice none 0 0)) :=
 ⟨_,_,rfl,⟨RL.nil _ _,RL.nil _ _⟩,(hb.setCell (p:=⟨R,0,none⟩) hB _).setCell (p:=⟨R,1,none⟩) hB _⟩
theorem Lc {body:Aj→BF} {ch:Nat} {inv:Aj} {t:Ap} {a:Aj} (h:Cz a inv=none):Ee body ch inv t a=(3,([],[])):=by rw [Ee,h]
theorem Ld {body:Aj→BF} {ch:Nat} {inv:Aj} {t:Ap} {a:Aj} {f:List Am} (h:Cz a inv=some f):Ee body ch inv t a=if Ak ([],f) &&& ch=0 then (if F3 body inv t=true then (if Ah (EP ch inv t a f)=true then (0,EP ch inv t a f) else (1,([],[]))) else (4,([],[]))) else (3,([],[])):=by rw [Ee,h]
theorem Mv {a inv:Aj} {f:List Am} (ha:Ah a=true) (h:Cz a inv=some f):f.length≤6:=by
 rw [Cz,Option.map_eq_some_iff] at h;obtain ⟨m,_,rfl⟩:=h;refine Nat.le_trans ?_ (K7 ha).2.1;rw [CR,List.length_map];exact Nat.le_trans (List.length_filter_le _ _) (by rw [List.length_range];exact Nat.le_refl _)
structure LpS (w:World) (b m:Nat) (v1 v2 g1 g2 x:Value) (row:Array Value) (a inv:Aj) {d:Nat} (body:List (Cm d)):Prop where
 a1:RL w (fun _=>True) v1 a.1
 a2:RL w (fun _=>True) v2 a.2
 i1:RL w (fun _=>True) g1 inv.1
 i2:RL w (fun _=>True) g2 inv.2
 bd:RL w (fun _=>True) x body
 bx:ExB w b m v1 v2 row
 rs:w.heap[b+3]?=some (.cells #[.slice none 0 0,.slice none 0 0] 26 (0,0))
theorem LpS.keep {w w':World} {b m:Nat} {v1 v2 g1 g2 x:Value} {row:Array Value} {a inv:Aj} {d:Nat} {body:List (Cm d)} (h:LpS w b m v1 v2 g1 g2 x row a inv body) (hb:Below w.heap.size w w'):LpS w' b m v1 v2 g1 g2 x row a inv body :=
 ⟨h.a1.keep hb,h.a2.keep hb,h.i1.keep hb,h.i2.keep hb,h.bd.keep hb,h.bx.keep hb,Ac h.rs hb⟩
theorem Sd {m d:Nat} (IH:OK m d) {S1 S2 S3 S4 S:Nat→Prop} (v1 v2 f1 f2 x y:Value) (a:Aj) (c:Cm (d+1)) (D:Int) (w:World) (h1:RL w S1 v1 a.1) (h2:RL w S2 v2 a.2) (hf1:RL w S3 f1 c.inv.1) (hf2:RL w S4 f2 c.inv.2) (hx:RL w S x c.body) (hy:∃ a n k,y=.slice a n k) (ha:Ah a=true) (hi:Ah c.inv=true) (hs:AZ d c.body D=true) :
 Calls Tryz.prog 265 #[.agg #[.int .u16 (m:Int),.bool true],.agg #[v1,v2],.agg #[.int .i64 c.kind,.int .i64 c.a,.int .i64 c.b,.bool c.test.1,.int .i64 c.test.2.1,.int .i64 c.test.2.2,f1,f2,x,y]] w (TY (Ee (fun s=>BE m d c.body [s]) (CQ d 0 c.body) c.inv c.test a) w):=by
 have hsz:=Co hi;obtain ⟨p1,q1,rfl⟩:=h1.form;obtain ⟨p2,q2,rfl⟩:=h2.form;obtain ⟨a3,c3,rfl⟩:=hf1.form;obtain ⟨a4,c4,rfl⟩:=hf2.form;obtain ⟨a5,c5,rfl⟩:=hx.form;obtain ⟨a6,n6,c6,rfl⟩:=hy;obtain ⟨X,hX⟩:∃ X,Ee (fun s=>BE m d c.body [s]) (CQ d 0 c.body) c.inv c.test a=X:=⟨_,rfl⟩;rw [hX];obtain ⟨F,hF⟩:=Ex (Cz a c.inv);obtain ⟨M,hM⟩:=Ex (CQ d 0 c.body);have hMl:M < 65536:=by rw [← hM];exact GU _ _ _ Dc
 have hfr:VB a c.inv=F:=by rw [VB,ha,hi,if_pos Dc,hF]
 rw [hM] at hX;have hcell:=Kc w m (.slice p1 a.1.length q1) (.slice p2 a.2.length q2) #[.int .i64 c.kind,.int .i64 c.a,.int .i64 c.b,.bool c.test.1,.int .i64 c.test.2.1,.int .i64 c.test.2.2,.slice a3 c.inv.1.length c3,.slice a4 c.inv.2.length c4,.slice a5 c.body.length c5,.slice a6 n6 c6];have hb0:=GV w m (.slice p1 a.1.length q1) (.slice p2 a.2.length q2) #[.int .i64 c.kind,.int .i64 c.a,.int .i64 c.b,.bool c.test.1,.int .i64 c.test.2.1,.int .i64 c.test.2.2,.slice a3 c.inv.1.length c3,.slice a4 c.inv.2.length c4,.slice a5 c.body.length c5,.slice a6 n6 c6];obtain ⟨wz,hwz⟩:∃ w0,w0=((w.alloc (.cells #[.int .u16 (m:Int),.bool true] 150)).alloc (.cells #[.slice p1 a.1.length q1,.slice p2 a.2.length q2] 26)).alloc (.cells #[.int .i64 c.kind,.int .i64 c.a,.int .i64 c.b,.bool c.test.1,.int .i64 c.test.2.1,.int .i64 c.test.2.2,.slice a3 c.inv.1.length c3,.slice a4 c.inv.2.length c4,.slice a5 c.body.length c5,.slice a6 n6 c6] 63):=⟨_,rfl⟩;have hzz:wz.heap.size=w.heap.size+3:=by rw [hwz];simp
 rw [← hwz] at hcell hb0;obtain ⟨w0,hw0⟩:=Ey (wz.alloc (.cells #[.slice none 0 0,.slice none 0 0] 26));have hbz:Below wz.heap.size wz w0:=by rw [hw0];exact Aa _ _
 have hrs:w0.heap[w.heap.size+3]?=some (.cells #[.slice none 0 0,.slice none 0 0] 26 (0,0)):=by rw [← hzz,hw0];exact heap_alloc_new _ _
 have hL:LpS w0 w.heap.size m (.slice p1 a.1.length q1) (.slice p2 a.2.length q2) (.slice a3 c.inv.1.length c3) (.slice a4 c.inv.2.length c4) (.slice a5 c.body.length c5) #[.int .i64 c.kind,.int .i64 c.a,.int .i64 c.b,.bool c.test.1,.int .i64 c.test.2.1,.int .i64 c.test.2.2,.slice a3 c.inv.1.length c3,.slice a4 c.inv.2.length c4,.slice a5 c.body.length c5,.slice a6 n6 c6] a c.inv c.body :=
  ⟨((h1.keep hb0).keep hbz).more fun _ _ _=>trivial,((h2.keep hb0).keep hbz).more fun _ _ _=>trivial,((hf1.keep hb0).keep hbz).more fun _ _ _=>trivial,((hf2.keep hb0).keep hbz).more fun _ _ _=>trivial,((hx.keep hb0).keep hbz).more fun _ _ _=>trivial,hcell.keep hbz,hrs⟩
 have HW0:=Ad (show w0=(((w.alloc (.cells #[.int .u16 (m:Int),.bool true] 150)).alloc (.cells #[.slice p1 a.1.length q1,.slice p2 a.2.length q2] 26)).alloc (.cells #[.int .i64 c.kind,.int .i64 c.a,.int .i64 c.b,.bool c.test.1,.int .i64 c.test.2.1,.int .i64 c.test.2.2,.slice a3 c.inv.1.length c3,.slice a4 c.inv.2.length c4,.slice a5 c.body.length c5,.slice a6 n6 c6] 63)).alloc (.cells #[.slice none 0 0,.slice none 0 0] 26) by rw [hw0,hwz]);have H0:=Ad (An hL (bt hb0 hbz));have HP:=Ad (An (An ha hi) (An (An hF hfr) (An (An hM hMl) (An hX hs))));have HIH:=Ad IH;obtain ⟨b0,b1,bl⟩:=B3 hL.bx.1.2;obtain ⟨k0,k1,k2,k3,k4,k5,k6,k7,k8,k9⟩:=Dk hL.bx.2;have kl:=Ae hL.bx.2;clear hcell hb0 hw0 hwz hzz hbz hrs hL h1 h2 hf1 hf2 hx hsz hF hM hMl hfr hX hs ha hi IH;go_enter Tryz.func265,Tryz.ntmps265
 go_upto_region 1 with fail
 rw [← HW0.o];go_wp2_with fail
 refine (Qo _ _ _ _ a c.inv _ H0.o.1.a1 H0.o.1.a2 H0.o.1.i1 H0.o.1.i2).mono ?_;rw [HP.o.2.1.2];rintro e w1 ⟨z2,rfl,fz,hb1⟩;obtain ⟨ya,yn,yc,rfl⟩:=fz.forms;obtain ⟨W,hW⟩:=Ey (w1.alloc (.cells #[.slice none 0 0,.slice ya yn yc] 26));have hbW:Below w1.heap.size w1 W:=by rw [hW];exact Aa _ _
 have hst:W.heap[w1.heap.size]?=some (.cells #[.slice none 0 0,.slice ya yn yc] 26 (0,0)):=by rw [hW];exact heap_alloc_new _ _
 have HW:=Ad hW;have H1:=Ad (An ((H0.o.1.keep hb1).keep hbW) (An (An (fz.rl.any.keep hbW) hst) (bt (bt H0.o.2 hb1) hbW)));clear fz hb1 hbW hst hW b0 b1 bl k0 k1 k2 k3 k4 k5 k6 k7 k8 k9 kl;obtain ⟨k0,k1,k2,k3,k4,k5,k6,k7,k8,k9⟩:=Dk H1.o.1.bx.2;have kl:=Ae H1.o.1.bx.2;go_upto_region 2 with fail
 rw [← HW.o];go_wp2_with fail
 refine (IL d _ c.body _ H1.o.1.bd).mono ?_;rw [HP.o.2.2.1.1];rintro e w2 ⟨rfl,hb2⟩;have H2:=Ad (An (H1.o.1.keep hb2) (An (An (H1.o.2.1.1.keep hb2) (Ac H1.o.2.1.2 hb2)) (bt H1.o.2.2 hb2)));clear hb2 k0 k1 k2 k3 k4 k5 k6 k7 k8 k9 kl;obtain ⟨r0,r1,rz,rl⟩:=B4 H2.o.1.rs;cases F with
 | none =>
   have HE:=Ad (show X=(3,([],[])) by rw [← HP.o.2.2.2.1];exact Lc HP.o.2.1.1);have rr:=Au (.slice none 0 0) (.slice none 0 0) r0 r1;go_wp2;refine bodyPost_ret (v:=.tuple #[.agg #[.slice none 0 0,.slice none 0 0],.int .i64 3]) (by simp [results,Tryz.results265,go_sem,rr.1,rr.2]) rfl ?_;rw [HE.o];exact Di Om H2.o.2.2
 | some f =>
   have HFL:=Ad (An (Mv HP.o.1.1 HP.o.2.1.1) (show X=if Ak ([],f) &&& M=0 then (if F3 (fun s=>BE m d c.body [s]) c.inv c.test=true then (if Ah (EP M c.inv c.test a f)=true then (0,EP M c.inv c.test a f) else (1,([],[]))) else (4,([],[]))) else (3,([],[])) by rw [← HP.o.2.2.2.1];exact Ld HP.o.2.1.1));have HFR:=Ad (show RL w2 (fun _=>True) (.slice ya yn yc) f from H2.o.2.1.1);obtain ⟨f0,f1,fl⟩:=B3 H2.o.2.1.2;obtain ⟨U,hU⟩:=Ex (Ak ([],f));(have hUl:U < 65536:=by rw [← hU];exact Bw _);have hand:=u16_and_nat U M hUl HP.o.2.2.1.2;have HU:=Ad hU;clear hU hUl;(go_wp2_with fail);refine (B6 (S1:=fun _=>True) _ _ (([]:List Ap),f) _ (RL.nil _ _) HFR.o).mono ?_;rw [HU.o];rintro e w3 ⟨rfl,hb3⟩;have H3:=Ad (An (H2.o.1.keep hb3) (An (An (HFR.o.keep hb3) (Ac H2.o.2.1.2 hb3)) (bt H2.o.2.2 hb3)));clear hb3 f0 f1 fl r0 r1 rz rl;obtain ⟨r0,r1,rz,rl⟩:=B4 H3.o.1.rs;obtain ⟨e0,e1,el⟩:=B3 H3.o.1.bx.1.1;obtain ⟨k0,k1,k2,k3,k4,k5,k6,k7,k8,k9⟩:=Dk H3.o.1.bx.2;have kl:=Ae H3.o.1.bx.2;by_cases hz:U &&& M=0;rotate_left
   · have y0:(bits .and .u16 (U:Int) (M:Int) == 0)=false:=by rw [hand];exact beq_eq_false_iff_ne.2 Om
     have HE:=Ad (show X=(3,([],[])) by rw [HFL.o.2,HU.o,if_neg hz]);have rr:=Au (.slice none 0 0) (.slice none 0 0) r0 r1;clear hand hz;go_wp2;refine bodyPost_ret (v:=.tuple #[.agg #[.slice none 0 0,.slice none 0 0],.int .i64 3]) (by simp [results,Tryz.results265,go_sem,rr.1,rr.2]) rfl ?_;rw [HE.o];exact Di Om H3.o.2.2
   · have y0:(bits .and .u16 (U:Int) (M:Int) == 0)=true:=by rw [hand,hz];rfl
     have HZ:=Ad hz;clear hand hz;obtain ⟨kb,hkb⟩:∃ kb,F3 (fun s=>BE m d c.body [s]) c.inv c.test=kb:=⟨_,rfl⟩;have HKB:=Ad hkb;clear hkb;(go_wp2_with fail);refine (R9 HIH.o _ _ _ _ _ _ c D _ H3.o.1.i1 H3.o.1.i2 ⟨_,_,_,rfl⟩ ⟨_,_,_,rfl⟩ H3.o.1.bd ⟨_,_,_,rfl⟩ HP.o.1.2 HP.o.2.2.2.2).mono ?_;rw [HKB.o];rintro e w4 ⟨rfl,hb4⟩;have H4:=Ad (An (H3.o.1.keep hb4) (An (An (H3.o.2.1.1.keep hb4) (Ac H3.o.2.1.2 hb4)) (bt H3.o.2.2 hb4)));clear hb4 r0 r1 rz rl e0 e1 el k0 k1 k2 k3 k4 k5 k6 k7 k8 k9 kl y0;obtain ⟨r0,r1,rz,rl⟩:=B4 H4.o.1.rs;have b0:=Bd H4.o.1.bx.1.2;have bl:=Ae H4.o.1.bx.1.2;cases kb with
     | false =>
       have HE:=Ad (show X=(4,([],[])) by rw [HFL.o.2,HU.o,if_pos HZ.o,HKB.o,if_neg (by decide)]);have rr:=Au (.slice none 0 0) (.slice none 0 0) r0 r1;go_wp2;refine bodyPost_ret (v:=.tuple #[.agg #[.slice none 0 0,.slice none 0 0],.int .i64 4]) (by simp [results,Tryz.results265,go_sem,rr.1,rr.2]) rfl ?_;rw [HE.o];exact Di Om H4.o.2.2
     | true =>
       have HX:=Ad (show X=if Ah (EP M c.inv c.test a f)=true then (0,EP M c.inv c.test a f) else (1,([],[])) by rw [HFL.o.2,HU.o,if_pos HZ.o,HKB.o,if_pos rfl]);have hla:=(K7 HP.o.1.1).1;have HLA:=Ad hla;have hl12:a.1.length≤12:=hla.1;have HLN0:=Ad (An hl12 (K7 HP.o.1.2));clear hla hl12 r0 r1 rz rl;go_wp2;clear b0 bl;go_loopg [45,11] a.1.length (fun q i u wr=>∃ (k:Nat) (R:List Ap),k+q=a.1.length∧i=.int .i64 (k:Int)∧(a.1.take k).filter (Fp M)=R∧FE wr w4.heap.size u R∧Below w4.heap.size w4 wr)
       case atStart=>exact ⟨0,[],by omega,rfl,rfl,FE.nil _ _ _,Below.refl _ _⟩
       case round =>
        obtain ⟨k,R,hk,rfl,hR,hF,hW4⟩:=hrel;obtain ⟨ra,rn,rc,rfl⟩:=hF.forms;(have hRl:R.length≤a.1.length:=by rw [← hR];exact Nat.le_trans (List.length_filter_le _ _) (by rw [List.length_take];omega));have HK:=Ad (An (An hk hR) (An (An hF hRl) hW4));have HL:=Ad (H4.o.1.keep hW4);clear hk hR hF hRl hW4;by_cases hk8:k < a.1.length
        · have i1:(k:Int) < (a.1.length:Int):=by omega
          obtain ⟨qa,qc,hqe,_,_,hqf⟩:=HL.o.a1.factAt;simp only [Value.slice.injEq] at hqe;obtain ⟨rfl,_,rfl⟩:=hqe;obtain ⟨b1,o1,rfl,_,hz1,hp1,hp2,hp3⟩:=hqf k hk8;obtain ⟨Y,hY⟩:=Ex (gd a.1 k);obtain ⟨Y1,Y2,Y3⟩:=Y;have hv:=Cw.1 (HLA.o.2 _ (Be hk8));rw [hY] at hp1 hp2 hp3 hv;simp only at hp1 hp2 hp3 hv;obtain ⟨s2,hs2⟩:∃ s,AN M Y2=s:=⟨_,rfl⟩;obtain ⟨s3,hs3⟩:∃ s,AN M Y3=s:=⟨_,rfl⟩;have hst:=Mu (p:=Fp M) hk8 HK.o.1.2;rw [hY,show Fp M (Y1,Y2,Y3)=(!s2 && !s3) by rw [Fp,hs2,hs3]] at hst;have HST:=Ad hst;have HK8:=Ad hk8;have HS2:=Ad hs2;have HS3:=Ad hs3;obtain ⟨wf,hwf⟩:=Ey (wr.alloc (.cells #[.bool Y1,.int .i64 Y2,.int .i64 Y3] 61));(have hbf:Below wr.heap.size wr wf:=by rw [hwf];exact Aa _ _);(have hFX:wf.heap[wr.heap.size]?=some (.cells #[.bool Y1,.int .i64 Y2,.int .i64 Y3] 61 (0,0)):=by rw [hwf];exact heap_alloc_new _ _);have HWF:=Ad hwf;have HB:=Ad (An hbf (bt HK.o.2.2 hbf));clear hqf hv hst hs2 hs3 hwf hY hbf;(go_upto_region 11 with fail);rw [← HWF.o];have e0:=Lp hFX;have e1:=JZ hFX;have e2:=J0 hFX;have ez:=Ae hFX;clear hFX hp1 hp2 hp3;go_cut [60] (fun s wc=>s=.bool (!s2 && !s3)∧wf=wc)
          case first =>
           cases s2
           · go_wp2_with fail
             refine (CX _ HP.o.2.2.1.2 HS2.o).mono ?_;rintro e w5 ⟨rfl,rfl⟩;(go_wp2_with fail);refine (CX _ HP.o.2.2.1.2 HS3.o).mono ?_;rintro e w5 ⟨rfl,rfl⟩;go_wp2;go_meet
             case rel=>exact ⟨by simp,rfl⟩
           · go_wp2_with fail
             refine (CX _ HP.o.2.2.1.2 HS2.o).mono ?_;rintro e w5 ⟨rfl,rfl⟩;go_wp2;go_meet
             case rel=>exact ⟨by simp,rfl⟩
          case rest =>
           obtain ⟨rfl,rfl⟩:=hcut;cases hoff:(!s2 && !s3) with
           | false =>
             have HN:=Ad (show (a.1.take (k+1)).filter (Fp M)=R by rw [HST.o,hoff,if_neg Dc,List.append_nil]);clear hoff;go_wp2;go_roundg (gk - 1)
             case rel=>exact ⟨k+1,_,Jo HK.o.1.1 HK8.o,Mq HK8.o HLN0.o.1 Dc,HN.o,HK.o.2.1.1.keep HB.o.1,HB.o.2⟩
             case measure=>exact Jp HK.o.1.1 HK8.o
           | true =>
             have HN:=Ad (show (a.1.take (k+1)).filter (Fp M)=R ++ [((Y1,Y2,Y3):Ap)] by rw [HST.o,hoff,if_pos rfl]);clear hoff;go_wp2_with (at_builtin;go_must (refine Ez (l:=R) (m:=[((Y1,Y2,Y3):Ap)]) (B:=w4.heap.size) rfl (.tmp 61) (.tmp 63) _ rfl A0 rfl ((HK.o.2.1.1.keep HB.o.1).keep (Aa _ _)) rfl (Bm _ _ _ _ _) (by have:=HK.o.2.1.2;have:=HLN0.o.1;simp;omega) (by have:=HB.o.2.size;simp;omega) ?_;intro v8 w8 o8 hf8;obtain ⟨a8,n8,c8,rfl⟩:=o8.forms))
             have HG:=Ad (An o8 ((bt HB.o.2 (Aa _ _)).trans (AG hf8 (by have:=HB.o.2.size;simp;omega))));clear o8 hf8;go_wp2;go_roundg (gk - 1)
             case rel=>exact ⟨k+1,_,Jo HK.o.1.1 HK8.o,Mq HK8.o HLN0.o.1 Dc,HN.o,HG.o.1,HG.o.2⟩
             case measure=>exact Jp HK.o.1.1 HK8.o
        · obtain rfl:k=a.1.length:=by have:=HK.o.1.1;omega
          obtain ⟨L,hLL⟩:=Ey (a.1.filter (Fp M));(have hRL:R=L:=by rw [hLL,← HK.o.1.2,List.take_length]);subst hRL;have HLL:=Ad hLL;have HD:=Ad (An HK.o.2.1.1 (An HL.o HK.o.2.2));have HLN:=Ad (An (show R.length+c.inv.1.length≤16777216 by have:=HK.o.2.1.2;have:=HLN0.o.1;have:=HLN0.o.2.1.1;omega) (show R.length+c.inv.1.length≤24 by have:=HK.o.2.1.2;have:=HLN0.o.1;have:=HLN0.o.2.1.1;omega));clear hLL;obtain ⟨k0,k1,k2,k3,k4,k5,k6,k7,k8,k9⟩:=Dk HL.o.bx.2;have kl:=Ae HL.o.bx.2;(go_upto_region 14 with fail);refine wp_region_noPanic ?_;refine wp_region_held_drew (S:=(fun w'=>w'.cell? ⟨w.heap.size+2,3,none⟩=some (.bool c.test.1)∧w'.cell? ⟨w.heap.size+2,4,none⟩=some (.int .i64 c.test.2.1)∧w'.cell? ⟨w.heap.size+2,5,none⟩=some (.int .i64 c.test.2.2)∧w'.cell? ⟨w.heap.size+2,6,none⟩=some (.slice a3 c.inv.1.length c3))) Kr ?_ (fun hHeld=>?_)
          · try dsimp only
            exact ⟨Ab (Ai wr) k3,Ab (Ai wr) k4,Ab (Ai wr) k5,Ab (Ai wr) k6⟩
          refine wpAnyH_take (i:=0) (oi:=_) (v:=?_) rfl Kr Kr Kr (fun _ _ _ h=>h) (Or.inl ⟨by rfl,?_⟩) (by assumption) ?_;rotate_left
          · (intro w hSw;(try dsimp only at hSw);first | (go_simp;done) | (go_simp;with_reducible rfl))
          refine wpAnyH_take (i:=1) (oi:=_) (v:=?_) rfl Kr Kr Kr (fun _ _ _ h=>h) (Or.inl ⟨by rfl,?_⟩) (by assumption) ?_;rotate_left
          · (intro w hSw;(try dsimp only at hSw);first | (go_simp;done) | (go_simp;with_reducible rfl))
          refine wpAnyH_take (i:=2) (oi:=_) (v:=?_) rfl Kr Kr Kr (fun _ _ _ h=>h) (Or.inl ⟨by rfl,?_⟩) (by assumption) ?_;rotate_left
          · (intro w hSw;(try dsimp only at hSw);first | (go_simp;done) | (go_simp;with_reducible rfl))
          refine wpAnyH_take (i:=3) (oi:=_) (v:=?_) rfl Kr Kr Kr (fun _ _ _ h=>h) (Or.inl ⟨by rfl,?_⟩) (by assumption) ?_;rotate_left
          · (intro w hSw;(try dsimp only at hSw);first | (go_simp;done) | (go_simp;with_reducible rfl))
          refine wpAnyH_take (i:=5) (oi:=_) (v:=?_) rfl Kr Kr Kr (fun _ _ _ h=>h) (Or.inl ⟨by rfl,?_⟩) (by assumption) ?_;rotate_left
          · (intro w hSw;(try dsimp only at hSw);first | (go_simp;done) | (go_simp;with_reducible rfl))
          refine wpAnyH_take (i:=6) (oi:=_) (v:=?_) rfl Kr Kr Kr (fun _ _ _ h=>h) (Or.inl ⟨by rfl,?_⟩) (by assumption) ?_;rotate_left
          · (intro w hSw;(try dsimp only at hSw);first | (go_simp;done) | (go_simp;with_reducible rfl))
          refine wpAnyH_ready (rs:=[4]) Kr Sp ?_;refine AllReadyH.cons (o:=_) rfl (fun K hK=>?_) AllReadyH.nil;go_simp
          go_at_call 68;(have qf:RL wr.drew (fun k=>w4.heap.size≤k) (.slice ra rn rc) R:=HD.o.1.rl.keep (Ai wr));(with_reducible refine (Bj _ _ R c.inv.1 _ qf (HD.o.2.1.i1.keep (Ai wr)) HLN.o.1).mono ?_);rintro e w6 ⟨j,rfl,oj,hb6⟩;have fj:=J8 oj;obtain ⟨ja,jn,jc,rfl⟩:=fj.forms;have hb9:=bt (Ai wr) hb6;replace k3:=Ab hb9 k3;replace k4:=Ab hb9 k4;replace k5:=Ab hb9 k5;replace k6:=Ab hb9 k6;have hz9:=hb9.size;have HJ:=Ad (An fj hb9);clear oj fj hb6 hb9 qf
          (go_wp2_with fail);refine hK.out _ _ ?_ (fun hHeld=>?_)
          · try dsimp only
            exact ⟨k3,k4,k5,k6⟩
          clear hK K;refine wpAnyH_ready (rs:=[7]) Kr Sp ?_;refine AllReadyH.cons (o:=_) rfl (fun K hK=>?_) AllReadyH.nil;go_simp
          go_at_call 284;(with_reducible refine (JE c.test _).mono ?_);rintro e w7 ⟨rfl,hb9⟩;replace k3:=Ab hb9 k3;replace k4:=Ab hb9 k4;replace k5:=Ab hb9 k5;replace k6:=Ab hb9 k6;have HJ7:=Ad (An (HJ.o.1.keep hb9) (bt HJ.o.2 hb9));have hz7:=hb9.size;clear hb9
          (go_wp2_with fail);refine hK.out _ _ ?_ (fun hHeld=>?_)
          · try dsimp only
            exact ⟨k3,k4,k5,k6⟩
          clear hK K;refine wpAnyH_ready (rs:=[8]) Kr Sp ?_;refine AllReadyH.cons (o:=_) rfl (fun K hK=>?_) AllReadyH.nil;go_simp
          refine hK.out _ _ ?_ (fun hHeld=>?_)
          · try dsimp only
            exact ⟨Ab (Aa _ _) k3,Ab (Aa _ _) k4,Ab (Aa _ _) k5,Ab (Aa _ _) k6⟩
          clear hK K;refine wpAnyH_ready (rs:=[9]) Kr Sp ?_;refine AllReadyH.cons (o:=_) rfl (fun K hK=>?_) AllReadyH.nil;refine CA (l:=R ++ c.inv.1) (m:=[nF c.test]) (B:=w4.heap.size) (.tmp 70) (.tmp 74) _ (by rfl) A0 (by rfl) ((HJ7.o.1.mono (by have:=HK.o.2.2.size;simp only [World.size_drew];omega)).keep (Aa _ _)) (by rfl) (Bm _ _ _ _ _) (by have:=HLN.o.2;simp;omega) (by have:=HK.o.2.2.size;have:=HJ7.o.2.size;simp only [World.size_drew,World.size_alloc] at *;omega) ?_;intro v8 w8 o8 hf8;obtain ⟨a8,n8,c8,rfl⟩:=o8.forms;have hb8:Below w4.heap.size w4 w8:=((HK.o.2.2.trans (HJ7.o.2.mono HK.o.2.2.size)).trans ((Aa _ _).mono (by have:=HK.o.2.2.size;have:=HJ7.o.2.size;omega))).trans (AG hf8 (by have:=HK.o.2.2.size;have:=HJ7.o.2.size;simp only [World.size_drew,World.size_alloc] at *;omega));have H8:=Ad (An o8 hb8);refine hK.out _ _ ?_ (fun hHeld=>?_)
          · have hq:=H4.o.1.bx.2
            try dsimp only
            exact ⟨cr 3 (Ac hq hb8),cr 4 (Ac hq hb8),cr 5 (Ac hq hb8),cr 6 (Ac hq hb8)⟩
          clear hK K o8 hf8 hb8;refine wpAnyH_take (i:=10) (oi:=_) (v:=?_) rfl Kr Kr Kr (fun _ _ _ h=>h) (Or.inl ⟨by rfl,?_⟩) (by assumption) ?_;rotate_left
          · (intro w hSw;(try dsimp only at hSw);first | (go_simp;done) | (go_simp;with_reducible rfl))
          refine wpAnyH_done Kr ?_ _;refine NoPanic.normal ?_;have H9:=Ad (An (H4.o.1.keep H8.o.2) (An (An (H4.o.2.1.1.keep H8.o.2) (Ac H4.o.2.1.2 H8.o.2)) (bt H4.o.2.2 H8.o.2)));clear k0 k1 k2 k3 k4 k5 k6 k7 k8 k9 kl hHeld;obtain ⟨k0,k1,k2,k3,k4,k5,k6,k7,k8,k9⟩:=Dk H9.o.1.bx.2;have kl:=Ae H9.o.1.bx.2;obtain ⟨f0,f1,fl⟩:=B3 H9.o.2.1.2;obtain ⟨Z,hZ⟩:=Ex (EP M c.inv c.test a f);have HZZ:=Ad (An hZ (show Z=((R ++ c.inv.1) ++ [nF c.test],c.inv.2 ++ f) by rw [← hZ,EP,HLL.o]));clear hZ;(go_wp2_with fail);refine (Bx _ _ c.inv.2 f _ H9.o.1.i2 H9.o.2.1.1 (by have:=HLN0.o.2.2.1;have:=HFL.o.1;omega)).mono ?_;rintro e w9 ⟨j2,rfl,oj,hb9⟩;have fj:=J9 oj;obtain ⟨ta,tn,tc,rfl⟩:=fj.forms;obtain ⟨W9,hW9⟩:∃ W,W=w9.alloc (.cells #[.slice a8 n8 c8,.slice ta tn tc] 26):=⟨_,rfl⟩;(have hbW:Below w9.heap.size w9 W9:=by rw [hW9];exact Aa _ _);(have hst:W9.heap[w9.heap.size]?=some (.cells #[.slice a8 n8 c8,.slice ta tn tc] 26 (0,0)):=by rw [hW9];exact heap_alloc_new _ _);have HW9:=Ad hW9;have hs8:=H8.o.2.size;(have q1:RL W9 (fun j=>w4.heap.size≤j) (.slice a8 n8 c8) Z.1:=by rw [HZZ.o.2];exact (H8.o.1.rl.keep hb9).keep hbW);(have q2:RL W9 (fun j=>w4.heap.size≤j) (.slice ta tn tc) Z.2:=by rw [HZZ.o.2];exact (fj.rl.keep hbW).more fun j _ h=>Nat.le_trans hs8 h);have H10:=Ad (An (An q1 q2) (An hst (An (H9.o.1.keep (bt hb9 hbW)) (bt H9.o.2.2 (bt hb9 hbW)))));obtain ⟨s0,s1,sl⟩:=B3 hst;clear oj fj hb9 hbW hst hW9 q1 q2 k0 k1 k2 k3 k4 k5 k6 k7 k8 k9 kl f0 f1 fl;(go_upto_region 16 with fail);rw [← HW9.o];(go_wp2_with fail);refine (Aq _ _ Z _ H10.o.1.1 H10.o.1.2).mono ?_;rintro e w11 ⟨rfl,hb11⟩;have H11:=Ad (An (An (H10.o.1.1.keep hb11) (H10.o.1.2.keep hb11)) (An (Ac H10.o.2.1 hb11) (An (H10.o.2.2.1.keep hb11) (bt H10.o.2.2.2 hb11))));clear hb11 s0 s1 sl;obtain ⟨s0,s1,sl⟩:=B3 H11.o.2.1;obtain ⟨r0,r1,rz,rl⟩:=B4 H11.o.2.2.1.rs;have hR4:=Ae H4.o.1.rs;cases hv:Ah Z with
          | false =>
            have HE:=Ad (show X=(1,([],[])) by rw [HX.o,HZZ.o.1,hv,if_neg (by decide)]);have rr:=Au (.slice none 0 0) (.slice none 0 0) r0 r1;clear hv;go_wp2;refine bodyPost_ret (v:=.tuple #[.agg #[.slice none 0 0,.slice none 0 0],.int .i64 1]) (by simp [results,Tryz.results265,go_sem,rr.1,rr.2]) rfl ?_;rw [HE.o];exact Di Om H11.o.2.2.2
          | true =>
            have HE:=Ad (show X=(0,Z) by rw [HX.o,HZZ.o.1,hv,if_pos rfl]);have rr:=Au (.slice a8 n8 c8) (.slice ta tn tc) r0 r1;clear hv;go_wp2;refine bodyPost_ret (v:=.tuple #[.agg #[.slice a8 n8 c8,.slice ta tn tc],.int .i64 0]) (by simp [results,Tryz.results265,go_sem,rr.1,rr.2]) rfl ?_;rw [HE.o];exact ⟨_,_,rfl,⟨((H11.o.1.1.kept (Aw _ _ _) fun k _ h e=>by have h2:w4.heap.size≤k:=h;have e2:k=w.heap.size+3:=e;omega).kept (Aw _ _ _) fun k _ h e=>by have h2:w4.heap.size≤k:=h;have e2:k=w.heap.size+3:=e;omega).more fun j _ h=>by have h2:w4.heap.size≤j:=h;show w.heap.size≤j;omega,((H11.o.1.2.kept (Aw _ _ _) fun k _ h e=>by have h2:w4.heap.size≤k:=h;have e2:k=w.heap.size+3:=e;omega).kept (Aw _ _ _) fun k _ h e=>by have h2:w4.heap.size≤k:=h;have e2:k=w.heap.size+3:=e;omega).more fun j _ h=>by have h2:w4.heap.size≤j:=h;show w.heap.size≤j;omega⟩,(H11.o.2.2.2.setCell (p:=⟨w.heap.size+3,0,none⟩) (by show w.heap.size≤w.heap.size+3;omega) _).setCell (p:=⟨w.heap.size+3,1,none⟩) (by show w.heap.size≤w.heap.size+3;omega) _⟩
end Go.Proofs.YtkbbmjcfgcfejaaGreat
