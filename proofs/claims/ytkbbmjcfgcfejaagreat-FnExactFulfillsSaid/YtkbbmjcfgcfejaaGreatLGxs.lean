/- Walks: an access by symbolic execution (program: accessed). -/
import Derived.Test.YtkbbmjcfgcfejaaGreatLSymJ
set_option linter.unusedVariables false
set_option linter.unusedSimpArgs false
set_option maxRecDepth 100000
set_option maxHeartbeats 12800000
namespace Go.Proofs.YtkbbmjcfgcfejaaGreat
open Go.RowKit
theorem TU {l:List Am} {k:Nat} (hk:k < l.length) (c:Int):(LR l).set (k * 3+2) (.int .i64 c)=LR (l.set k ((gd l k).1,(gd l k).2.1,c)):=by
 refine Iw (n:=l.length) (by rw [List.length_set,Iy]) (by rw [Iy,List.length_set]) fun i hi=>?_;have hi2:i < (l.set k ((gd l k).1,(gd l k).2.1,c)).length:=by rw [List.length_set];exact hi
 rw [C0 (j:=2) Dc,Ei hi2];by_cases e:i=k
 · subst e;rw [if_pos rfl,Ei hi,BT hi2,List.getElem_set_self];rfl
 · rw [if_neg e,Ei hi,BT hi2,List.getElem_set_ne (Ne.symm e),← BT hi]
theorem AO.setC {w:World} {B g n cap:Nat} {l:List Am} (h:AO w B (.slice (some ⟨g,0,none⟩) n cap) l) (hn:n=l.length) {k:Nat} (hk:k < l.length) (c:Int):AO (w.setCell ⟨g,k * 3+2,none⟩ (.int .i64 c)) B (.slice (some ⟨g,0,none⟩) n cap) (l.set k ((gd l k).1,(gd l k).2.1,c)):=by
 subst hn;have:=(show w.ownsRow B 118 3 (.slice (some ⟨g,0,none⟩) l.length cap) l.length (LR l) from h).stored (k * 3+2) (.int .i64 c);rw [TU hk] at this;unfold AO;rw [List.length_set];exact this.1
theorem Oz (l:List Am) (h:0 < l.length) (x:Am):l.set 0 x=x :: l.drop 1:=by cases l with | nil=>simp at h | cons y r=>rfl
theorem Na {w w0 w5:World} {x1 x2:Value} {C:Aj} (hz0:w0.heap.size=w.heap.size+3) (hb:Below w.heap.size w w5) (h:RL w5 (fun k=>w0.heap.size≤k) x1 C.1∧RL w5 (fun k=>w0.heap.size≤k) x2 C.2) :
 (RL ((w5.setCell ⟨w.heap.size+1+1,0,none⟩ x1).setCell ⟨w.heap.size+1+1,1,none⟩ x2) (fun k=>w.heap.size≤k) x1 C.1∧RL ((w5.setCell ⟨w.heap.size+1+1,0,none⟩ x1).setCell ⟨w.heap.size+1+1,1,none⟩ x2) (fun k=>w.heap.size≤k) x2 C.2)∧Below w.heap.size w ((w5.setCell ⟨w.heap.size+1+1,0,none⟩ x1).setCell ⟨w.heap.size+1+1,1,none⟩ x2):=by
 have hs6:=El w5 (w.heap.size+1+1) x1 x2;have far:∀ k,k < w5.heap.size→(fun k=>w0.heap.size≤k) k→¬ (fun j=>j=w.heap.size+1+1) k:=fun k _ h e=>by
  have h2:w0.heap.size≤k:=h;have e2:k=w.heap.size+1+1:=e;omega
 have up:∀ k,(fun k=>w0.heap.size≤k) k→(fun k=>w.heap.size≤k) k:=fun k h=>by
  have h2:w0.heap.size≤k:=h;show w.heap.size≤k
  omega
 exact ⟨⟨(h.1.kept hs6 far).more fun k _ h=>up k h,(h.2.kept hs6 far).more fun k _ h=>up k h⟩,hb.trans (hs6.below hb.size fun k hk e=>by have e2:k=w.heap.size+1+1:=e;omega)⟩
theorem Nb {S1 S2:Nat→Prop} (v1 v2:Value) (k ca cb tx ty:Int) (tb:Bool) (ga1 ga2 ga3 ga4:Option Addr) (gn1 gn2 gn3 gn4 gc1 gc2 gc3 gc4:Nat) (a:Aj) (m:Nat) (w:World) (h1:RL w S1 v1 a.1) (h2:RL w S2 v2 a.2) (hm:m < 65536) (ha:Ah a=true) (h0:0 < a.2.length) :
 Calls Tryz.prog 288 #[.agg #[v1,v2],.agg #[.int .i64 k,.int .i64 ca,.int .i64 cb,.bool tb,.int .i64 tx,.int .i64 ty,.slice ga1 gn1 gc1,.slice ga2 gn2 gc2,.slice ga3 gn3 gc3,.slice ga4 gn4 gc4],.int .u16 m] w (U2 (DN k ca cb m a) w):=by
 have hsz:=En ha;obtain ⟨a1,l⟩:=a;simp only at h1 h2 hsz h0;obtain ⟨xa1,xc1,rfl⟩:=h1.form;obtain ⟨xa2,xc2,he,hc1,hc2,hf⟩:=h2.atomAt;subst he;obtain ⟨X,hX⟩:=Ex (gd l 0);obtain ⟨X1,X2,X3⟩:=X;obtain ⟨bb,oo,rfl,_,hz1,hp1,hp2,hp3⟩:=hf 0 h0;rw [hX] at hp1 hp2 hp3;simp only [Nat.zero_mul,Nat.add_zero] at hp1 hp2 hp3;obtain ⟨O,hO⟩:=Ex (DN k ca cb m (a1,l));rw [hO];obtain ⟨w0,hw0⟩:=Ey (((w.alloc (.cells #[.slice xa1 a1.length xc1,.slice (some ⟨bb,oo,none⟩) l.length xc2] 26)).alloc (.cells #[.int .i64 k,.int .i64 ca,.int .i64 cb,.bool tb,.int .i64 tx,.int .i64 ty,.slice ga1 gn1 gc1,.slice ga2 gn2 gc2,.slice ga3 gn3 gc3,.slice ga4 gn4 gc4] 63)).alloc (.cells #[.slice none 0 0,.slice none 0 0] 26));have hA:w0.heap[w.heap.size]?=some (.cells #[.slice xa1 a1.length xc1,.slice (some ⟨bb,oo,none⟩) l.length xc2] 26 (0,0)):=by rw [hw0];exact Ac (Ac (heap_alloc_new w _) (Aa _ _)) (Aa _ _)
 have hCm:w0.heap[w.heap.size+1]?=some (.cells #[.int .i64 k,.int .i64 ca,.int .i64 cb,.bool tb,.int .i64 tx,.int .i64 ty,.slice ga1 gn1 gc1,.slice ga2 gn2 gc2,.slice ga3 gn3 gc3,.slice ga4 gn4 gc4] 63 (0,0)):=by
  rw [hw0];have:=heap_alloc_new (w.alloc (.cells #[.slice xa1 a1.length xc1,.slice (some ⟨bb,oo,none⟩) l.length xc2] 26)) (.cells #[.int .i64 k,.int .i64 ca,.int .i64 cb,.bool tb,.int .i64 tx,.int .i64 ty,.slice ga1 gn1 gc1,.slice ga2 gn2 gc2,.slice ga3 gn3 gc3,.slice ga4 gn4 gc4] 63);rw [World.size_alloc] at this;exact Ac this (Aa _ _)
 have hR:w0.heap[w.heap.size+1+1]?=some (.cells #[.slice none 0 0,.slice none 0 0] 26 (0,0)):=by
  rw [hw0];have:=heap_alloc_new ((w.alloc (.cells #[.slice xa1 a1.length xc1,.slice (some ⟨bb,oo,none⟩) l.length xc2] 26)).alloc (.cells #[.int .i64 k,.int .i64 ca,.int .i64 cb,.bool tb,.int .i64 tx,.int .i64 ty,.slice ga1 gn1 gc1,.slice ga2 gn2 gc2,.slice ga3 gn3 gc3,.slice ga4 gn4 gc4] 63)) (.cells #[.slice none 0 0,.slice none 0 0] 26);rw [World.size_alloc,World.size_alloc] at this;exact this
 have hb0:Below w.heap.size w w0:=by rw [hw0];exact ba (ba (Aa _ _) _) _
 obtain ⟨c0,c1,cl⟩:=B3 hA;have k0:=cr 0 hCm;have k1:=cr 1 hCm;have k2:=cr 2 hCm;have kl:=Ae hCm;have p3:=Ab hb0 hp3;have pl:bb < w0.heap.size:=by have:=hb0.size;omega
 have i0:(0:Int) < (l.length:Int):=by omega
 have pl2:bb < w.heap.size:=hz1;have i1:0 < l.length:=h0;have HW0:=Ad hw0;have H0:=Ad (An hR (An hb0 (An (h1.keep hb0) (h2.keep hb0))));have HI:=Ad (An h0 (An hsz (An ha hX)));have HO:=Ad hO;clear hA hCm hR hb0 hw0 h1 h2 hf hX hp1 hp2 hp3 hz1 hsz ha hO h0 hc1 hc2;have HU:=Ad (show w0.heap.size=w.heap.size+3 by rw [HW0.o];simp);go_enter Tryz.func288,Tryz.ntmps288
 go_upto_region 1 with fail
 rw [← HW0.o];by_cases hk2:k=2
 · have b2:(k == 2)=true:=by simp [hk2]
   have HOO:=Ad (show O=CC (a1,l) ca X3 m by rw [← HO.o,DN,if_pos hk2];show CC (a1,l) ca (gd l 0).2.2 m=_;rw [HI.o.2.2.2]);clear hk2;(go_upto_region 3 with fail);go_region_held3 (fun w'=>(w'.cell? ⟨w.heap.size,0,none⟩=some (.slice xa1 a1.length xc1)∧w'.cell? ⟨w.heap.size,1,none⟩=some (.slice (some ⟨bb,oo,none⟩) l.length xc2))∧(w'.cell? ⟨w.heap.size+1,1,none⟩=some (.int .i64 ca)∧w'.cell? ⟨bb,oo+2,none⟩=some (.int .i64 X3)))
    (exact ⟨⟨(Ck c0),(Ck c1)⟩,(Ck k1),(Ck p3)⟩)
    ((go_at_call 285;go_must (refine (IF _ _ (a1,l) ca X3 m _ (H0.o.2.2.1.keep Bl) (H0.o.2.2.2.keep Bl) hm HI.o.2.2.1).mono ?_;rintro e w5 ⟨x1,x2,C,rfl,hC,⟨r1',r2'⟩,hb5'⟩;have r1:=r1'.more (S':=fun k=>w0.heap.size≤k) (fun k _ h=>by first | exact h | (simp only [World.size_alloc,World.size_drew] at h;exact h));have r2:=r2'.more (S':=fun k=>w0.heap.size≤k) (fun k _ h=>by first | exact h | (simp only [World.size_alloc,World.size_drew] at h;exact h));obtain ⟨p1,n1,c1',rfl⟩:=r1.forms;obtain ⟨p2,n2,c2',rfl⟩:=r2.forms;have hb5:Below w0.heap.size w0 w5:=bt Bl hb5';have hz5:=hb5.size;have hR5:=Ac H0.o.1 hb5;obtain ⟨q0,q1,qz,ql⟩:=B4 hR5;clear hb5' r1' r2')))
   all_goals
    have HG:=Ad (An (Na HU.o (bt H0.o.2.1 hb5) ⟨r1,r2⟩) hC);have rr:=Au (.slice p1 n1 c1') (.slice p2 n2 c2') q0 q1;clear r1 r2 hR5 hC;go_wp2;refine bodyPost_ret (v:=.tuple #[.agg #[.slice p1 n1 c1',.slice p2 n2 c2'],.bool (CC (a1,l) ca X3 m).isSome]) (by simp [results,Tryz.results288,go_sem,rr.1,rr.2]) rfl ?_;exact ⟨_,_,C,by rw [HOO.o],fun b h=>HG.o.2 b (by rw [← HOO.o];exact h),HG.o.1.1,HG.o.1.2⟩
 · have b2:(k == 2)=false:=by simp [hk2]
   by_cases hk3:k=3
   · have b3:(k == 3)=true:=by simp [hk3]
     have HOO:=Ad (show O=some (a1,(X1,X2,cb) :: l.drop 1) by rw [← HO.o,DN,if_neg hk2,if_pos hk3];show some (a1,((gd l 0).1,(gd l 0).2.1,cb) :: l.drop 1)=_;rw [HI.o.2.2.2]);clear hk2 hk3;(go_wp2_with fail);refine (BG _ _ (a1,l) _ H0.o.2.2.1 H0.o.2.2.2 (by have:=HI.o.2.1.1;simp;omega) (by have:=HI.o.2.1.2;simp;omega)).mono ?_;rintro e w5 ⟨u1,u2,rfl,⟨g1,g2,o1,o2,hnd⟩,hb5⟩;obtain ⟨hao,hg2⟩:=o2.AO;obtain ⟨d1,m1,e1,rfl⟩:=o1.read.forms;obtain ⟨d2,e2,rfl,hd2⟩:=hao.form;obtain ⟨gg,rfl⟩:=hd2 0 i1;have hgg:w0.heap.size≤gg∧gg < w5.heap.size:=AD hao rfl;have hng:¬ gg ∈ g1:=fun h=>by
      have:=(List.nodup_append.1 hnd).2.2 gg h gg (by rw [hg2];simp [Value.ownBlock]);exact this rfl
     have hq1:=o1.read;have hlt1:=o1.lt;have hR5:=Ac H0.o.1 hb5;have hB5:=bt H0.o.2.1 hb5;have k25:=Ab hb5 k2;obtain ⟨W,hW⟩:=Ey (w5.alloc (.cells #[.slice d1 m1 e1,.slice (some ⟨gg,0,none⟩) l.length e2] 26));(have hbW:Below w5.heap.size w5 W:=by rw [hW];exact Aa _ _);(have hBX:W.heap[w5.heap.size]?=some (.cells #[.slice d1 m1 e1,.slice (some ⟨gg,0,none⟩) l.length e2] 26 (0,0)):=by rw [hW];exact heap_alloc_new _ _);have haW:=hao.keep hbW;have hat:=AO.at haW rfl i1;have hst:=AO.setC haW rfl i1 cb;have hfr:=Aw W ⟨gg,0 * 3+2,none⟩ (.int .i64 cb);have hc2:=hat.1.2.2;have hfz:=hat.2 2;simp only [Nat.zero_mul,Nat.zero_add] at hc2 hst hfr;obtain ⟨V,hV⟩:=Ey (W.setCell ⟨gg,2,none⟩ (.int .i64 cb));rw [← hV] at hst hfr;(have hlist:l.set 0 ((gd l 0).1,(gd l 0).2.1,cb)=(X1,X2,cb) :: l.drop 1:=by rw [HI.o.2.2.2];exact Oz l i1 _);rw [hlist] at hst;have hz5:=hb5.size;have hzW:=hbW.size;have hBX2:=AA hBX hfr (show ¬ w5.heap.size=gg by omega);have hR2:=AA (Ac hR5 hbW) hfr (show ¬ w.heap.size+1+1=gg by have:=HU.o;omega);have qf:RL V (fun k=>w0.heap.size≤k) (.slice d1 m1 e1) a1:=((hq1.keep hbW).kept hfr (fun k _ hk e=>hng (by have e2:k=gg:=e;rw [← e2];exact hk))).more fun k _ hk=>(hlt1 k hk).1;have qa:RL V (fun k=>w0.heap.size≤k) (.slice (some ⟨gg,0,none⟩) l.length e2) ((X1,X2,cb) :: l.drop 1):=hst.rl;have hBV:Below w.heap.size w V:=(bt hB5 hbW).trans (hfr.below (bt hB5 hbW).size fun k hk e=>by have e2:k=gg:=e;have:=HU.o;omega);have k2W:=Ab hbW k25;obtain ⟨s0,s1,sl⟩:=B3 hBX;(have gl:gg < W.heap.size:=by omega);have kl5:w.heap.size+1 < W.heap.size:=World.block_lt_of_cell? W _ k2W;obtain ⟨t0,t1,tl⟩:=B3 hBX2;obtain ⟨r0,r1,rz,rl⟩:=B4 hR2;have HWV:=Ad (An hW hV);have HG:=Ad (Na (C:=(a1,(X1,X2,cb) :: l.drop 1)) HU.o hBV ⟨qf,qa⟩);have rr:=Au (.slice d1 m1 e1) (.slice (some ⟨gg,0,none⟩) l.length e2) r0 r1;clear hq1 hlt1 hR5 hB5 k25 hbW hBX haW hat hst hfr hlist hz5 hzW hBX2 hR2 qf qa hBV hW hV hao hg2 o1 o2 hnd hng hd2 hgg hb5 c0 c1 k0 k1 k2 p3 cl kl pl;(go_upto_region 6 with fail);rw [← HWV.o.1];(go_upto_region 7 with fail);rw [← HWV.o.2];go_wp2;refine bodyPost_ret (v:=.tuple #[.agg #[.slice d1 m1 e1,.slice (some ⟨gg,0,none⟩) l.length e2],.bool true]) (by simp [results,Tryz.results288,go_sem,rr.1,rr.2]) rfl ?_;rw [HOO.o];exact ⟨_,_,(a1,(X1,X2,cb) :: l.drop 1),rfl,fun b h=>Option.some.inj h,HG.o.1,HG.o.2⟩
   · have b3:(k == 3)=false:=by simp [hk3]
     have HOO:=Ad (show O=some (a1,l.drop 1) by rw [← HO.o,DN,if_neg hk2,if_neg hk3]);clear hk2 hk3;(go_upto_region 8 with fail);go_region_held3 (fun w'=>w'.cell? ⟨w.heap.size,0,none⟩=some (.slice xa1 a1.length xc1)∧w'.cell? ⟨w.heap.size,1,none⟩=some (.slice (some ⟨bb,oo,none⟩) l.length xc2))
      (exact ⟨(Ck c0),(Ck c1)⟩)
      (first
        | (go_at_call 68;go_must (refine (Bj (S2:=fun _=>True) _ _ a1 [] _ (H0.o.2.2.1.keep Bl) (RL.nil _ _) (by have:=HI.o.2.1.1;simp;omega)).mono ?_;rw [List.append_nil];rintro e w5 ⟨x1,rfl,o5',hb5'⟩;have o5:=(o5'.mono (B':=w0.heap.size) (Below.size (w:=w0) (B:=w0.heap.size) Bl)).read;obtain ⟨d1,m1,k1',rfl⟩:=o5.forms;have hb5:Below w0.heap.size w0 w5:=bt Bl hb5';have hz5:=hb5.size;clear o5' hb5'))
        | (go_at_call 306;go_must (refine (Ed _ _ (a1,l) 0 _ (H0.o.2.2.1.keep Bl) (H0.o.2.2.2.keep Bl) HI.o.1 HI.o.2.1.2).mono ?_;rintro e w6 ⟨x2,rfl,o6',hb6'⟩;have o6:=(o6'.mono (B':=w0.heap.size) (Below.size (w:=w0) (B:=w0.heap.size) Bl)).read;obtain ⟨d2,m2,k2',rfl⟩:=o6.forms;have hb6:Below w0.heap.size w0 w6:=bt Bl hb6';have hb56:Below w5.heap.size w5 w6:=bt Bl hb6';have hz6:=hb56.size;have hR5:=Ac H0.o.1 hb6;obtain ⟨q0,q1,qz,ql⟩:=B4 hR5;clear o6' hb6'))
        | fail)
     all_goals
      have HG:=Ad (Na (C:=(a1,l.drop 1)) HU.o (bt H0.o.2.1 hb6) ⟨o5.keep hb56,o6⟩);have rr:=Au (.slice d1 m1 k1') (.slice d2 m2 k2') q0 q1;clear o5 o6 hR5;go_wp2;refine bodyPost_ret (v:=.tuple #[.agg #[.slice d1 m1 k1',.slice d2 m2 k2'],.bool true]) (by simp [results,Tryz.results288,go_sem,rr.1,rr.2]) rfl ?_;rw [HOO.o];exact ⟨_,_,(a1,l.drop 1),rfl,fun b h=>Option.some.inj h,HG.o.1,HG.o.2⟩
theorem OB (m:Nat) (t:Int):As (As m t) t=As m t:=by
 refine Nat.eq_of_testBit_eq fun j=>?_;rw [AR,AR];cases m.testBit j <;> cases (Al t && decide (t=(j:Int))) <;> rfl
theorem U3 (m:Nat) (ca cb:Int):As (D6 m ca cb) ca=D6 m ca cb:=by
 refine Nat.eq_of_testBit_eq fun j=>?_;rw [D6,AR,AR,AR];cases m.testBit j <;> cases (Al ca && decide (ca=(j:Int))) <;> cases (Al cb && decide (cb=(j:Int))) <;> rfl
theorem U4 (m:Nat) (ca cb:Int):As (D6 m ca cb) cb=D6 m ca cb:=OB _ _
theorem U5 {m:Nat} (ca cb:Int) (h:m < 65536):D6 m ca cb < 65536:=AJ (AJ h)
theorem Mi {α β:Type} {f:α→Option β}:∀ (l:List α) (x:α),CT f (l ++ [x])=(CT f l).bind fun r=>(f x).map fun y=>r ++ [y]
 | [],x=>by
   show (f x).bind (fun y=>(CT f []).map fun z=>y :: z)=_
   cases f x <;> rfl
 | a :: l,x=>by
   show (f a).bind (fun y=>(CT f (l ++ [x])).map fun z=>y :: z)=((f a).bind fun y=>(CT f l).map fun z=>y :: z).bind _
   rw [Mi l x];cases f a with
   | none=>rfl
   | some y=>cases CT f l with
     | none=>rfl
     | some r=>cases f x <;> rfl
theorem GQ {α β:Type} [Inhabited α] {f:α→Option β} {l:List α} {k:Nat} (hk:k < l.length):CT f (l.take (k+1))=(CT f (l.take k)).bind fun r=>(f (gd l k)).map fun y=>r ++ [y]:=by
 rw [AT hk,Mi]
theorem OC {α β:Type} {f:α→Option β}:∀ (l r:List α),CT f l=none→CT f (l ++ r)=none
 | [],r,h=>by cases h
 | a :: l,r,h=>by
   show (f a).bind (fun y=>(CT f (l ++ r)).map fun z=>y :: z)=none
   cases hf:f a with
   | none=>rfl
   | some y =>
     have h2:(f a).bind (fun y=>(CT f l).map fun z=>y :: z)=none:=h;rw [hf] at h2;have h3:CT f l=none:=by
      cases h4:CT f l with
      | none=>rfl
      | some r=>rw [h4] at h2;cases h2
     show (CT f (l ++ r)).map _=none
     rw [OC l r h3];rfl
theorem K5 {α β:Type} [Inhabited α] {f:α→Option β} {l:List α} {k:Nat} {r:List β} (hk:k < l.length) (h:CT f (l.take k)=some r) (hf:f (gd l k)=none):CT f l=none:=by
 have:=GQ (f:=f) hk;rw [h,hf] at this;rw [← List.take_append_drop (k+1) l];exact OC _ _ this
theorem K6 {α β:Type} {f:α→Option β}:∀ {l:List α} {r:List β},CT f l=some r→r.length=l.length
 | [],r,h=>by obtain rfl:=Option.some.inj h;rfl
 | a :: l,r,h=>by
   obtain ⟨y,_,h⟩:=Option.bind_eq_some_iff.1 (show (f a).bind (fun y=>(CT f l).map fun z=>y :: z)=some r from h);obtain ⟨z,hz,rfl⟩:=Option.map_eq_some_iff.1 h;rw [List.length_cons,List.length_cons,K6 hz]
theorem R6 {m:Nat} {t:Int}:∀ (d:Nat) (a:Aj) (L:List Aj),AS m t d a=some L→∀ b ∈ L,Ah b=true∧0 < b.2.length:=fun d=>by
 induction d with
 | zero=>intro a L h;rw [AS] at h;cases h
 | succ d ih =>
   intro a L h;rw [AS] at h;split at h
   · split at h
     · split at h
       · rename_i i _
         obtain ⟨b,hb,rfl⟩:=Option.map_eq_some_iff.1 h;obtain ⟨rfl,hv⟩:=Rd hb;intro c hc;rw [List.mem_singleton] at hc;subst hc;exact ⟨hv,by simp [BS]⟩
       · split at h
         · obtain ⟨n,_,h⟩:=Option.bind_eq_some_iff.1 h
           obtain ⟨x,hx,h⟩:=Option.bind_eq_some_iff.1 h;obtain ⟨y,hy,rfl⟩:=Option.map_eq_some_iff.1 h;intro c hc;rcases List.mem_append.1 hc with hc | hc
           · exact ih _ _ hx c hc
           · exact ih _ _ hy c hc
         · cases h
     · obtain rfl:=Option.some.inj h
       intro c hc;cases hc
   · cases h
theorem IG {m:Nat} {t:Int} {a:Aj} {L:List Aj} (h:Ec m t a=some L):∀ b ∈ L,Ah b=true∧0 < b.2.length:=R6 7 a L h
theorem GX.lit {w:World} {B:Nat} {R S:Nat→Prop} {x1 x2:Value} {a:Aj} (h1:RL w S x1 a.1) (h2:RL w S x2 a.2) (hB:B≤w.heap.size) (hR:∀ k,k < w.heap.size→S k→R k) :
 GX (w.alloc (.cells #[x1,x2] 26)) B R (.slice (some ⟨w.heap.size,0,none⟩) 1 1) [a]:=by
 have hown:=World.ownsRow_lit (size:=2) w #[x1,x2] 1 (Nat.le_refl _) (by unfold maxLen;omega) rfl (e:=26);have hb:=Aa w (.cells #[x1,x2] 26);refine ⟨[x1,x2],.inr (BK hown hB),fun i hi=>?_⟩;obtain rfl:i=0:=by simpa using hi
 have q1:=(h1.more (S':=fun k=>R k∧¬ some k=(Value.slice (some ⟨w.heap.size,0,none⟩) 1 1).ownBlock) fun k hk h=>⟨hR k hk h,fun e=>by injection e with e;have e2:k=w.heap.size:=e;omega⟩).keep hb;have q2:=(h2.more (S':=fun k=>R k∧¬ some k=(Value.slice (some ⟨w.heap.size,0,none⟩) 1 1).ownBlock) fun k hk h=>⟨hR k hk h,fun e=>by injection e with e;have e2:k=w.heap.size:=e;omega⟩).keep hb;exact GE q1 q2
def V9 (O:Option (List Aj)) (w:World) (e:Ending) (w':World):Prop:=∃ (v:Value) (L:List Aj),e=.returned (.tuple #[v,.bool O.isSome])∧(∀ l,O=some l→L=l)∧GX w' w.heap.size (fun k=>w.heap.size≤k) v L∧Below w.heap.size w w'
theorem GR {w w':World} (hb:Below w.heap.size w w'):V9 none w (.returned (.tuple #[.slice none 0 0,.bool false])) w':=⟨_,[],rfl,fun l h=>(by cases h),GX.nil _ _ _ _,hb⟩
section
variable {m d:Nat} {c:Cm (d+1)}
end
theorem Ri {a b:Aj} (h:Es a=some b):Ah b=true:=by
 have:=Rd h;rw [this.1];exact this.2
theorem Ml {α β:Type} {f:α→Option β}:∀ {l:List α} {r:List β},CT f l=some r→∀ y ∈ r,∃ x ∈ l,f x=some y
 | [],r,h,y,hy=>by
   obtain rfl:=Option.some.inj h;simp at hy
 | z :: l,r,h,y,hy=>by
   rw [CT,Option.bind_eq_some_iff] at h;obtain ⟨x,hx,h⟩:=h;obtain ⟨q,hq,rfl⟩:=Option.map_eq_some_iff.1 h;rcases List.mem_cons.1 hy with rfl | hy
   · exact ⟨z,List.mem_cons_self,hx⟩
   · obtain ⟨y2,h1,h2⟩:=Ml hq y hy
     exact ⟨y2,List.mem_cons_of_mem _ h1,h2⟩
theorem JL {a b:Aj} {x t:Int} {m:Nat} (h:CC a x t m=some b):Ah b=true:=by
 rw [CC,Option.bind_eq_some_iff] at h;obtain ⟨_,_,h⟩:=h;exact Ri h
theorem TV {a b:Aj} {x:Int} {m:Nat} (h:M7 a x m=some b):Ah b=true:=by
 rw [M7,Option.bind_eq_some_iff] at h;obtain ⟨_,_,h⟩:=h;exact Ri h
theorem K7 {a:Aj} (h:Ah a=true):(a.1.length≤12∧∀ f ∈ a.1,AH f=true)∧(a.2.length≤6∧∀ x ∈ a.2,AQ x=true):=by
 simpa only [Ah,Bv,Bool.and_eq_true,decide_eq_true_eq,List.all_eq_true] using h
theorem K8 {k ca cb:Int} {m:Nat} {e b:Aj} (he:Ah e=true∧0 < e.2.length) (hk:k=3→Al cb=true) (h:DN k ca cb m e=some b):Ah b=true:=by
 have hp:=K7 he.1;rw [DN] at h;split at h
 · exact JL h
 · split at h
   · rename_i h3
     obtain rfl:=Option.some.inj h;have hx:=hp.2.2 _ (Be he.2);refine Ja hp.1.1 hp.1.2 (by simp only [List.length_cons,List.length_drop];omega) fun x hx2=>?_;rcases List.mem_cons.1 hx2 with rfl | hx2
     · rw [AQ,Bool.and_eq_true,Bool.and_eq_true] at hx ⊢
       exact ⟨hx.1,hx.2.1,hk h3⟩
     · exact hp.2.2 _ (List.mem_of_mem_drop hx2)
   · obtain rfl:=Option.some.inj h
     exact Ja hp.1.1 hp.1.2 (by rw [List.length_drop];omega) fun x hx=>hp.2.2 _ (List.mem_of_mem_drop hx)
theorem Qh {ca cb:Int} {k:Int} (h:ID k ca cb=true) (hk:k=3):Al cb=true:=by
 subst hk;rw [ID] at h;simp at h;exact h.2
def GoodV (n:Nat) (L:List Aj):Prop:=(∀ b ∈ L,Ah b=true)∧L.length≤n
theorem AX {n:Nat} {a:Aj} (h:Ah a=true) (hn:1≤n):GoodV n [a]:=⟨fun b hb=>by rw [List.mem_singleton.1 hb];exact h,hn⟩
theorem Cx (n:Nat):GoodV n []:=⟨fun b hb=>by simp at hb,Nat.zero_le _⟩
theorem GS {n m:Nat} {l r:List Aj} (h1:GoodV n l) (h2:GoodV m r):GoodV (n+m) (l ++ r):=⟨fun b hb=>(List.mem_append.1 hb).elim (h1.1 b) (h2.1 b),by rw [List.length_append];exact Nat.add_le_add h1.2 h2.2⟩
theorem GoodV.more {n m:Nat} {l:List Aj} (h:GoodV n l) (hn:n≤m):GoodV m l:=⟨h.1,Nat.le_trans h.2 hn⟩
theorem Qi {n m:Nat} {l:List Aj} (h:GoodV n l):GoodV n (l.map (BD m)):=⟨fun b hb=>by
 obtain ⟨a,ha,rfl⟩:=List.mem_map.1 hb;exact JA (h.1 a ha),by rw [List.length_map];exact h.2⟩
theorem Hp {k ca cb:Int} {m:Nat} {a:Aj} {L:List Aj} (ha:Ah a=true) (hf:ID k ca cb=true) (h:BV k ca cb m a=some L):GoodV 128 L:=by
 rw [BV] at h;split at h
 · split at h
   · obtain rfl:=Option.some.inj h
     exact AX ha Dc
   · obtain ⟨b,hb,rfl⟩:=Option.map_eq_some_iff.1 h
     exact AX (JL hb) Dc
 · split at h
   · obtain ⟨b,hb,rfl⟩:=Option.map_eq_some_iff.1 h
     exact AX (TV hb) Dc
   · obtain ⟨X,hX,h⟩:=Option.bind_eq_some_iff.1 h
     refine ⟨fun b hb=>?_,by rw [K6 h];exact Ka hX⟩;obtain ⟨e,he,h1⟩:=Ml h b hb;exact K8 (IG hX e he) (Qh hf) h1
theorem TW {n:Nat} {r:Option (List Aj)} (h:∀ L,r=some L→GoodV n L):GoodV n (Wy r).2:=by
 cases r with
 | none=>exact Cx n
 | some L=>exact h L rfl
theorem GT {n:Nat} {x:BF} {f:List Aj→BF} (h:x.1=0→GoodV n (f x.2).2):GoodV n (Cu x f).2:=by
 rw [Cu];split
 · exact h (by assumption)
 · exact Cx n
theorem Fq {n:Nat} {g:Aj→BF} {s:Aj} (h:Ah s=true→GoodV n (g s).2):GoodV n (Fo g s).2:=by
 rw [Fo];split
 · split
   · exact h (by assumption)
   · exact Cx n
 · exact Cx n
theorem U6 {yes no:Aj→BF} {t:Ap} {a:Aj} (h1:∀ s,Ah s=true→GoodV 24 (yes s).2) (h2:∀ s,Ah s=true→GoodV 24 (no s).2):GoodV 48 (TE yes no t a).2 :=
 GT fun _=>GT fun _=>GS (Fq (h1 _)) (Fq (h2 _))
theorem Hq {body:Aj→BF} {ch:Nat} {inv:Aj} {t:Ap} {a:Aj} (h:(Ee body ch inv t a).1=0):Ah (Ee body ch inv t a).2=true:=by
 rw [Ee] at h ⊢;split at h
 · exact absurd h Dc
 · split at h
   · split at h
     · split at h
       · rename_i f _ h1 h2 h3
         rw [if_pos h1,if_pos h2,if_pos h3];exact h3
       · exact absurd h Dc
     · exact absurd h Dc
   · exact absurd h Dc
theorem R7 {body:Aj→BF} {ch m:Nat} {inv:Aj} {t:Ap} {a:Aj}:GoodV 128 (Mc body ch m inv t a).2:=by
 rw [Mc];split
 · exact AX (JA (Hq (by assumption))) Dc
 · exact Cx _
theorem Mm {g:Aj→BF}:∀ (now acc:List Aj),(∀ a ∈ now,GoodV 128 (g a).2)→GoodV 24 acc→GoodV 24 (Dt g acc now).2
 | [],acc,_,h=>h
 | a :: r,acc,hg,h=>by
   rw [Dt];refine GT fun _=>?_;split
   · exact Mm r _ (fun x hx=>hg x (List.mem_cons_of_mem _ hx)) ⟨(GS h (hg a List.mem_cons_self)).1,by rw [List.length_append];assumption⟩
   · exact Cx _
theorem OD {α:Type} {f:α→Aj→BF}:∀ (l:List α) (now:List Aj),(∀ c ∈ l,∀ a,Ah a=true→GoodV 128 (f c a).2)→GoodV 24 now→GoodV 24 (IC f l now).2
 | [],now,_,h=>h
 | c :: r,now,hf,h=>by
   rw [IC];exact GT fun _=>OD r _ (fun x hx=>hf x (List.mem_cons_of_mem _ hx)) (Mm _ _ (fun a ha=>hf c List.mem_cons_self a (h.1 a ha)) (Cx _))
theorem JM {d:Nat} {c:Cm (d+1)} (h:AI c=true) (h6:¬ c.kind=6) (h7:¬ c.kind=7):ID c.kind c.a c.b=true:=ER (Eh h h6 h7)
theorem K9 {m d:Nat} {c:Cm (d+1)} {a:Aj} (ha:Ah a=true) (hh:AI c=true) (hb:∀ s,Ah s=true→GoodV 24 (BE m d c.body [s]).2) (he:∀ s,Ah s=true→GoodV 24 (BE m d c.els [s]).2):GoodV 128 (EQ m c a).2:=by
 rw [EQ];split
 · exact (U6 hb he).more Dc
 · split
   · exact R7
   · exact Qi (TW fun L h=>Hp ha (JM hh (by assumption) (by assumption)) h)
theorem CZ {m:Nat}:∀ (d:Nat) (l:List (Cm d)) (D:Int) (now:List Aj),AZ d l D=true→GoodV 24 now→GoodV 24 (BE m d l now).2
 | 0,l,D,now,_,h=>h
 | d+1,l,D,now,hs,h=>by
   rw [Jk];refine OD l now (fun c hc a ha=>?_) h;have hc2:=DI hs c hc;exact K9 ha hc2.1 (fun s hs=>CZ d _ _ [s] hc2.2.1 (AX hs Dc)) (fun s hs=>CZ d _ _ [s] hc2.2.2 (AX hs Dc))
theorem DQ {α:Type} [Inhabited α] {l:List α} {k:Nat} (h:k < l.length):l.drop k=gd l k :: l.drop (k+1):=by
 rw [List.drop_eq_getElem_cons h,gd,List.getD_eq_getElem?_getD,List.getElem?_eq_getElem h];rfl
theorem Mn {g:Aj→BF} {L acc more:List Aj} {k:Nat} {T:BF} (h:Dt g acc (L.drop k)=T) (hk:k < L.length) (hg:g (gd L k)=(0,more)) (hl:acc.length+more.length≤24):Dt g (acc ++ more) (L.drop (k+1))=T:=by
 rw [DQ hk,Dt,hg,Cu,if_pos rfl,if_pos hl] at h;exact h
theorem Mo {g:Aj→BF} {L acc more:List Aj} {k:Nat} {T:BF} (h:Dt g acc (L.drop k)=T) (hk:k < L.length) (hg:g (gd L k)=(0,more)) (hl:¬ acc.length+more.length≤24):T=(1,[]):=by
 rw [DQ hk,Dt,hg,Cu,if_pos rfl,if_neg hl] at h;exact h.symm
theorem OE {g:Aj→BF} {L acc:List Aj} {k:Nat} {T:BF} (h:Dt g acc (L.drop k)=T) (hk:k < L.length) (hg:¬ (g (gd L k)).1=0):T=((g (gd L k)).1,[]):=by
 rw [DQ hk,Dt,Cu,if_neg hg] at h;exact h.symm
theorem Mp {g:Aj→BF} {L acc:List Aj} {k:Nat} {T:BF} (h:Dt g acc (L.drop k)=T) (hk:¬ k < L.length):T=(0,acc):=by
 rw [List.drop_eq_nil_of_le Om,Dt] at h;exact h.symm
theorem OF {α:Type} [Inhabited α] {f:α→Aj→BF} {L:List α} {now next:List Aj} {k:Nat} {T:BF} (h:IC f (L.drop k) now=T) (hk:k < L.length) (hs:Dt (f (gd L k)) [] now=(0,next)):IC f (L.drop (k+1)) next=T:=by
 rw [DQ hk,IC,hs,Cu,if_pos rfl] at h;exact h
theorem Kb {α:Type} [Inhabited α] {f:α→Aj→BF} {L:List α} {now:List Aj} {k:Nat} {T:BF} {z:Int} (h:IC f (L.drop k) now=T) (hk:k < L.length) (hs:Dt (f (gd L k)) [] now=(z,[])) (hz:¬ z=0):T=(z,[]):=by
 rw [DQ hk,IC,hs,Cu,if_neg hz] at h;exact h.symm
theorem OG {α:Type} [Inhabited α] {f:α→Aj→BF} {L:List α} {now:List Aj} {k:Nat} {T:BF} (h:IC f (L.drop k) now=T) (hk:¬ k < L.length):T=(0,now):=by
 rw [List.drop_eq_nil_of_le Om,IC] at h;exact h.symm
theorem II {r:BF} (h:r.1=0):r=(0,r.2):=by rw [← h]
def VR (r:BF) (w:World) (e:Ending) (w':World):Prop:=∃ x,e=.returned (.tuple #[x,.int .i64 r.1])∧RL w' (fun k=>w.heap.size≤k) x r.2∧Below w.heap.size w w'
theorem GX.set2 {w:World} {B g n cap k:Nat} {R:Nat→Prop} {l:List Aj} {x:Aj} {c0 c1:Value} (h:GX w B R (.slice (some ⟨g,0,none⟩) n cap) l) (hn:n=l.length) (hk:k < l.length)
 (h1:RL w (fun j=>R j∧¬ j=g) c0 x.1) (h2:RL w (fun j=>R j∧¬ j=g) c1 x.2) :
 GX ((w.setCell ⟨g,k * 2,none⟩ c0).setCell ⟨g,k * 2+1,none⟩ c1) B R (.slice (some ⟨g,0,none⟩) n cap) (l.set k x):=by
 subst hn;obtain ⟨xs,hr,hx⟩:=h;have hr':w.ownsRow B (Tid.tid Aj) 2 (.slice (some ⟨g,0,none⟩) l.length cap) l.length xs:=by
  rcases hr with h | h
  · omega
  · exact h
 obtain ⟨t1,g1⟩:=hr'.stored (k * 2) c0;obtain ⟨t2,g2⟩:=t1.stored (k * 2+1) c1;have hfr:Fr (fun j=>j=g) w ((w.setCell ⟨g,k * 2,none⟩ c0).setCell ⟨g,k * 2+1,none⟩ c1):=((AF g1).trans (AF g2)).mono fun j _ e=>by simpa using e
 refine ⟨_,.inr (by rw [List.length_set];exact t2),fun i hi=>?_⟩;rw [List.length_set] at hi;show Dat.rd _ _ (gd (l.set k x) i) (Bz 2 _ i)
 rw [SC hr'.1 hk,VH hk];by_cases e:i=k
 · rw [if_pos e,if_pos e]
   exact GE ((h1.kept hfr fun j _ hj e=>hj.2 e).more fun j _ hj=>⟨hj.1,fun e=>hj.2 (Option.some.inj e)⟩) ((h2.kept hfr fun j _ hj e=>hj.2 e).more fun j _ hj=>⟨hj.1,fun e=>hj.2 (Option.some.inj e)⟩)
 · rw [if_neg e,if_neg e]
   exact Dat.kept (hx i hi) hfr fun j _ hj e=>hj.2 (by rw [e];rfl)
theorem GX.at {w:World} {B:Nat} {R:Nat→Prop} {v:Value} {l:List Aj} (h:GX w B R v l) (h0:0 < l.length):∃ g cap,v=.slice (some ⟨g,0,none⟩) l.length cap∧(B≤g∧g < w.heap.size) ∧
 (∀ i,i < l.length→∃ u1 u2,w.cell? ⟨g,i * 2,none⟩=some u1∧w.cell? ⟨g,i * 2+1,none⟩=some u2∧RL w R u1 (gd l i).1∧RL w R u2 (gd l i).2)∧∀ j,w.frozen? ⟨g,j,none⟩=false:=by
 obtain ⟨xs,hr,hx⟩:=h;have hr':w.ownsRow B (Tid.tid Aj) 2 v l.length xs:=by
  rcases hr with h | h
  · omega
  · exact h
 obtain ⟨a,cap,rfl,ha⟩:=Hy hr';obtain ⟨g,rfl⟩:=ha 0 h0;have hl:=AD hr' (k:=g) rfl;have hlen:=hr'.1;refine ⟨g,cap,rfl,hl,fun i hi=>?_,fun j=>hr'.frozenAt j⟩;obtain ⟨u1,u2,he,q1,q2⟩:=Pc (hx i hi);have c0:w.cell? ⟨g,i * 2,none⟩=some u1:=by
  rw [hr'.cellAt (i * 2) (by omega)];exact E3 (sz:=2) (j:=0) (by rw [show Bz 2 xs i=[u1,u2] from he];rfl)
 have c1:w.cell? ⟨g,i * 2+1,none⟩=some u2:=by
  rw [hr'.cellAt (i * 2+1) (by omega)];exact E3 (sz:=2) (j:=1) (by rw [show Bz 2 xs i=[u1,u2] from he];rfl)
 exact ⟨u1,u2,c0,c1,q1.more fun k _ h=>h.1,q2.more fun k _ h=>h.1⟩
theorem Wb (w:World) (g k:Nat) (x y:Value):Fr (fun j=>j=g) w ((w.setCell ⟨g,k * 2,none⟩ x).setCell ⟨g,k * 2+1,none⟩ y):=(Aw w ⟨g,k * 2,none⟩ x).trans (Aw _ ⟨g,k * 2+1,none⟩ y)
end Go.Proofs.YtkbbmjcfgcfejaaGreat
