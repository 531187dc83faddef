/- Walks: a contract and an assertion for a call are drawn (reference: l12Draw, l12Mutate, l12Call, DrawCallPost). -/
import Derived.Test.YtkbbmjcfgcfejaaGreatKTri
import Derived.Test.YtkbbmjcfgcfejaaGreatKDTidy
import Derived.Handy
import Derived.Deep.DeepMust
import Derived.Deep.Cut
import Derived.Deep.DeepCutAuto
set_option linter.unusedVariables false
set_option linter.unusedSimpArgs false
namespace Go.Proofs.YtkbbmjcfgcfejaaGreat
open Go.RowKit
def ConRes (g q:Nat) (w:World) (e:Ending) (w':World):Prop :=
 ∃ (vp p1 p2 q1 q2 ch:Value) (d:Nat) (p:List (Cm d)) (k:Con),e=.returned (.tuple #[vp,.agg #[p1,p2,q1,q2,ch]]) ∧
   (asnB k.1=true∧(k.2.1.1.length≤1000∧k.2.1.2.length≤1000)∧k.2.2.length≤9∧d≤5∧FewC d p) ∧
   (RL w' (fun k=>w.heap.size≤k) vp p∧RCon w' (fun k=>w.heap.size≤k) p1 p2 q1 q2 ch k)∧Rdr w' g q∧Fr (fun j=>j=g) w w'
theorem fr_five (w:World) (b:Nat) (x0 x1 x2 x3 x4:Value):Fr (fun k=>k=b) w (((((w.setCell ⟨b,0,none⟩ x0).setCell ⟨b,1,none⟩ x1).setCell ⟨b,2,none⟩ x2).setCell ⟨b,3,none⟩ x3).setCell ⟨b,4,none⟩ x4) :=
 ((((fr_set w ⟨b,0,none⟩ x0).trans (fr_set _ ⟨b,1,none⟩ x1)).trans (fr_set _ ⟨b,2,none⟩ x2)).trans (fr_set _ ⟨b,3,none⟩ x3)).trans (fr_set _ ⟨b,4,none⟩ x4)
theorem RCon.kept {w w':World} {S T S':Nat→Prop} {p1 p2 q1 q2 ch:Value} {k:Con} (h:RCon w S p1 p2 q1 q2 ch k) (hf:Fr T w w') (hs:∀ j,j < w.heap.size→S j→¬ T j) (hm:∀ j,S j→S' j):RCon w' S' p1 p2 q1 q2 ch k :=
 ⟨(h.pre1.kept hf hs).more fun j _ hj=>hm j hj,(h.pre2.kept hf hs).more fun j _ hj=>hm j hj,(h.post1.kept hf hs).more fun j _ hj=>hm j hj,(h.post2.kept hf hs).more fun j _ hj=>hm j hj,(h.chg.kept hf hs).more fun j _ hj=>hm j hj⟩
theorem con_res {g q d:Nat} {w w9:World} {vp p1 p2 q1 q2 ch:Value} {p:List (Cm d)} {k:Con} (hg:g < w.heap.size) (h0:asnB k.1=true∧(k.2.1.1.length≤1000∧k.2.1.2.length≤1000)∧k.2.2.length≤9∧d≤5∧FewC d p)
 (hp:RL w9 (fun k=>w.heap.size+1≤k) vp p) (hk:RCon w9 (fun k=>w.heap.size+1≤k) p1 p2 q1 q2 ch k) (hr:Rdr w9 g q) (hf:Fr (fun j=>j=g) w w9) :
 ConRes g q w (.returned (.tuple #[vp,.agg #[p1,p2,q1,q2,ch]])) (((((w9.setCell ⟨w.heap.size,0,none⟩ p1).setCell ⟨w.heap.size,1,none⟩ p2).setCell ⟨w.heap.size,2,none⟩ q1).setCell ⟨w.heap.size,3,none⟩ q2).setCell ⟨w.heap.size,4,none⟩ ch):=by
 have h5:=fr_five w9 w.heap.size p1 p2 q1 q2 ch
 have far:∀ j,j < w9.heap.size→(fun k=>w.heap.size+1≤k) j→¬ (fun k=>k=w.heap.size) j:=fun j _ h e=>by
  have h1:w.heap.size+1≤j:=h
  have e2:j=w.heap.size:=e
  omega
 have up:∀ j,(fun k=>w.heap.size+1≤k) j→(fun k=>w.heap.size≤k) j:=fun j h=>by
  have h1:w.heap.size+1≤j:=h
  show w.heap.size≤j
  omega
 exact ⟨vp,p1,p2,q1,q2,ch,d,p,k,rfl,h0,⟨(hp.kept h5 far).more fun j _ h=>up j h,hk.kept h5 far up⟩,hr.kept h5 (fun j h e=>by have e2:j=w.heap.size:=e;omega),hf.then h5 fun i hi e=>by have e2:i=w.heap.size:=e;omega⟩
theorem con_drew {g q:Nat} {w w':World} {e:Ending} (h:ConRes g q w e w'):ConRes g q w e w'.drew:=by
 obtain ⟨vp,p1,p2,q1,q2,ch,d,p,k,h0,h1,⟨rp,rk⟩,hr,hf⟩:=h
 have hb:=below_drew w'
 exact ⟨vp,p1,p2,q1,q2,ch,d,p,k,h0,h1,⟨rp.keep hb,rk.keep hb⟩,hr.keep hb,hf.thenB hb⟩
theorem boxK_put5 {w:World} {b:Nat} {c0 c1 c2 c3 c4:Value} (h:BoxK w b c0 c1 c2 c3 c4) (x0 x1 x2 x3 x4:Value):BoxK (((((w.setCell ⟨b,0,none⟩ x0).setCell ⟨b,1,none⟩ x1).setCell ⟨b,2,none⟩ x2).setCell ⟨b,3,none⟩ x3).setCell ⟨b,4,none⟩ x4) b x0 x1 x2 x3 x4:=by
 have h0:=row_set h 0 x0
 have h1:=row_set h0 1 x1
 have h2:=row_set h1 2 x2
 have h3:=row_set h2 3 x3
 have h4:=row_set h3 4 x4
 unfold BoxK
 simpa using h4
set_option maxRecDepth 100000 in
set_option maxHeartbeats 6400000 in
theorem l12Draw_any (g q:Nat) (w:World) (hr:Rdr w g q) (hq:q≤600000) :
 Calls Tryz.prog 59 #[.pointer (some ⟨g,0,none⟩)] w (ConRes g (q+11801) w):=by
 have hgl:=hr.lt
 have hb0:=below_alloc w (.cells #[.slice none 0 0,.slice none 0 0,.slice none 0 0,.slice none 0 0,.slice none 0 0] 29)
 have hR0:=boxK_new w (.slice none 0 0) (.slice none 0 0) (.slice none 0 0) (.slice none 0 0) (.slice none 0 0)
 obtain ⟨w0,hw0⟩:∃ w0,w0=w.alloc (.cells #[.slice none 0 0,.slice none 0 0,.slice none 0 0,.slice none 0 0,.slice none 0 0] 29):=⟨_,rfl⟩
 have hz0:w0.heap.size=w.heap.size+1:=by rw [hw0];exact World.size_alloc _ _
 rw [← hw0] at hb0 hR0
 have HW0:=Lib.hid (And.intro hw0 hz0)
 have H0:=Lib.hid (And.intro hR0 (And.intro (hr.keep hb0) ((Below.fr hb0).mono (S':=fun j=>j=g) fun _ _ h=>h.elim)))
 clear hb0 hR0 hw0 hz0 hr
 go_enter Tryz.func59,Tryz.ntmps59
 go_wp2_with fail
 rw [← HW0.out.1]
 refine (l11Triple_any g q _ H0.out.2.1 (by omega)).mono ?_
 rintro e w1 ⟨v1,v2,vp,u1,u2,a,b,d,p,rfl,hsz,⟨⟨r1,r2⟩,rp,s1,s2⟩,hr1,hf1⟩
 obtain ⟨aa1,ac1,rfl⟩:=r1.form
 obtain ⟨aa2,ac2,rfl⟩:=r2.form
 obtain ⟨pa,pc,rfl⟩:=rp.form
 obtain ⟨ba1,bc1,rfl⟩:=s1.form
 obtain ⟨ba2,bc2,rfl⟩:=s2.form
 have hz1:=hf1.size
 have hz0:=HW0.out.2
 obtain ⟨W1,hW1⟩:∃ W1,W1=(w1.alloc (.cells #[.slice aa1 a.1.length ac1,.slice aa2 a.2.length ac2] 26)).alloc (.cells #[.slice ba1 b.1.length bc1,.slice ba2 b.2.length bc2] 26):=⟨_,rfl⟩
 have hA:W1.heap[w1.heap.size]?=some (.cells #[.slice aa1 a.1.length ac1,.slice aa2 a.2.length ac2] 26 (0,0)):=by
  rw [hW1];exact box_keep (heap_alloc_new w1 _) (below_alloc _ _)
 have hB:W1.heap[w1.heap.size+1]?=some (.cells #[.slice ba1 b.1.length bc1,.slice ba2 b.2.length bc2] 26 (0,0)):=by
  rw [hW1]
  have:=heap_alloc_new (w1.alloc (.cells #[.slice aa1 a.1.length ac1,.slice aa2 a.2.length ac2] 26)) (.cells #[.slice ba1 b.1.length bc1,.slice ba2 b.2.length bc2] 26)
  simpa using this
 have hbW:Below w1.heap.size w1 W1:=by rw [hW1];exact ba (below_alloc _ _) _
 have hR1:BoxK w1 w.heap.size (.slice none 0 0) (.slice none 0 0) (.slice none 0 0) (.slice none 0 0) (.slice none 0 0):=box_kept H0.out.1 hf1 (by omega)
 have up:∀ k,k < w1.heap.size→(fun k=>w0.heap.size≤k) k→(fun k=>w.heap.size+1≤k∧k < w1.heap.size) k:=fun k hk h=>by
  have h1:w0.heap.size≤k:=h
  exact ⟨by omega,hk⟩
 have H1:=Lib.hid (And.intro (And.intro hA hB) (And.intro (hR1.keep hbW) (And.intro (hr1.keep hbW) (And.intro ((H0.out.2.2.trans hf1).thenB hbW) (And.intro hsz (And.intro (And.intro ((r1.more up).keep hbW) ((r2.more up).keep hbW)) (And.intro ((rp.more up).keep hbW) (And.intro ((s1.more up).keep hbW) ((s2.more up).keep hbW)))))))))
 have HW1:=Lib.hid hW1
 have HZ:=Lib.hid (And.intro hbW.size (show w.heap.size+1≤w1.heap.size by omega))
 clear hA hB hbW hR1 up hsz r1 r2 rp s1 s2 hr1 hf1 hW1 hz1 hz0 H0
 go_upto_region 2 with fail
 rw [← HW1.out]
 have a0:=box0 H1.out.1.1
 have a1:=box1 H1.out.1.1
 have al:=box_lt H1.out.1.1
 have b0:=box0 H1.out.1.2
 have b1:=box1 H1.out.1.2
 have bl:=box_lt H1.out.1.2
 have HSZ:=Lib.hid (show szC d p≤1000000000000000000∧d≤100 from ⟨Nat.le_trans (few_size H1.out.2.2.2.2.1.2.2.2 H1.out.2.2.2.2.1.2.2.1) (by decide),by have:=H1.out.2.2.2.2.1.2.2.1;omega⟩)
 go_cut [7] (fun s7 wx=>∃ (t:Nat) (ch:Value),s7=.pointer (some ⟨t,0,none⟩)∧BoxK wx t (.slice aa1 a.1.length ac1) (.slice aa2 a.2.length ac2) (.slice ba1 b.1.length bc1) (.slice ba2 b.2.length bc2) ch∧RL wx (fun k=>W1.heap.size≤k∧¬ k=t) ch (chgL p)∧Below W1.heap.size W1 wx∧W1.heap.size≤t)
 case first =>
  go_region_held3 (fun w'=>(w'.cell? ⟨w1.heap.size,0,none⟩=some (.slice aa1 a.1.length ac1)∧w'.cell? ⟨w1.heap.size,1,none⟩=some (.slice aa2 a.2.length ac2))∧(w'.cell? ⟨w1.heap.size+1,0,none⟩=some (.slice ba1 b.1.length bc1)∧w'.cell? ⟨w1.heap.size+1,1,none⟩=some (.slice ba2 b.2.length bc2)))
   (exact ⟨⟨(by repeat (first | with_reducible exact a0 | (with_reducible refine (fr_set _ _ _).cell (by first | (simp;done) | (simp;omega) | omega) ?_) | exact cell_keep Bl a0)),(by repeat (first | with_reducible exact a1 | (with_reducible refine (fr_set _ _ _).cell (by first | (simp;done) | (simp;omega) | omega) ?_) | exact cell_keep Bl a1))⟩,⟨(by repeat (first | with_reducible exact b0 | (with_reducible refine (fr_set _ _ _).cell (by first | (simp;done) | (simp;omega) | omega) ?_) | exact cell_keep Bl b0)),(by repeat (first | with_reducible exact b1 | (with_reducible refine (fr_set _ _ _).cell (by first | (simp;done) | (simp;omega) | omega) ?_) | exact cell_keep Bl b1))⟩⟩)
   (first
     | (go_at_call 87;go_must (refine (changedS_any d _ p _ (H1.out.2.2.2.2.2.2.1.keep Bl) HSZ.out.1 HSZ.out.2).mono ?_;rintro e w5 ⟨u,rfl,hu,hb5'⟩;obtain ⟨cu,nu,ku,rfl⟩:=hu.forms;have hb5:Below W1.heap.size W1 w5:=bt Bl hb5';have hz5:=hb5.size;(first | (have hT5:BoxK w5 W1.heap.size (.slice none 0 0) (.slice none 0 0) (.slice none 0 0) (.slice none 0 0) (.slice none 0 0):=box_keep (heap_alloc_new W1 (.cells #[.slice none 0 0,.slice none 0 0,.slice none 0 0,.slice none 0 0,.slice none 0 0] 29)) hb5';obtain ⟨t0,t1,t2,t3,t4⟩:=hT5.cells;have htz:∀ i,w5.frozen? ⟨W1.heap.size,i,none⟩=false:=fun i=>frozen_of_row w5 _ i _ _ hT5;have htl:=hT5.lt) | (have hT5:BoxK w5 W1.heap.size (.slice none 0 0) (.slice none 0 0) (.slice none 0 0) (.slice none 0 0) (.slice none 0 0):=box_keep (heap_alloc_new W1.drew (.cells #[.slice none 0 0,.slice none 0 0,.slice none 0 0,.slice none 0 0,.slice none 0 0] 29)) hb5';obtain ⟨t0,t1,t2,t3,t4⟩:=hT5.cells;have htz:∀ i,w5.frozen? ⟨W1.heap.size,i,none⟩=false:=fun i=>frozen_of_row w5 _ i _ _ hT5;have htl:=hT5.lt) | skip))))
  all_goals
   simp only [World.size_alloc,World.size_drew] at hu
   have HU:=Lib.hid (And.intro hu hb5)
   clear hu
   go_wp2
   go_meet
   case rel =>
    first
      | (have _h:=hT5
         exact ⟨W1.heap.size,.slice cu nu ku,rfl,boxK_put5 hT5 (.slice aa1 a.1.length ac1) (.slice aa2 a.2.length ac2) (.slice ba1 b.1.length bc1) (.slice ba2 b.2.length bc2) (.slice cu nu ku),(HU.out.1.more (S':=fun k=>W1.heap.size≤k∧¬ k=W1.heap.size) fun k hk h=>⟨by omega,by omega⟩).kept (fr_five w5 W1.heap.size (.slice aa1 a.1.length ac1) (.slice aa2 a.2.length ac2) (.slice ba1 b.1.length bc1) (.slice ba2 b.2.length bc2) (.slice cu nu ku)) (fun k _ h e=>h.2 e),HU.out.2.trans ((fr_five w5 W1.heap.size (.slice aa1 a.1.length ac1) (.slice aa2 a.2.length ac2) (.slice ba1 b.1.length bc1) (.slice ba2 b.2.length bc2) (.slice cu nu ku)).below hz5 fun k hk e=>by have e2:k=W1.heap.size:=e;omega),Nat.le_refl _⟩)
      | exact ⟨w5.heap.size,.slice cu nu ku,rfl,boxK_new _ _ _ _ _ _,(HU.out.1.more (S':=fun k=>W1.heap.size≤k∧¬ k=w5.heap.size) fun k hk h=>⟨h,by omega⟩).keep (below_alloc _ _),ba HU.out.2 _,hz5⟩
      | fail
 case rest =>
  obtain ⟨t,ch,rfl,hT,hch,hbd,htz⟩:=hcut
  obtain ⟨ca,cn,cc,rfl⟩:=hch.forms
  have hr2:=H1.out.2.2.1.keep hbd
  have H2:=Lib.hid (And.intro hT (And.intro hch (And.intro (H1.out.2.1.keep hbd) (And.intro (H1.out.2.2.2.1.thenB hbd) (And.intro (And.intro (H1.out.2.2.2.2.2.1.1.keep hbd) (H1.out.2.2.2.2.2.1.2.keep hbd)) (And.intro (H1.out.2.2.2.2.2.2.1.keep hbd) (And.intro (H1.out.2.2.2.2.2.2.2.1.keep hbd) (H1.out.2.2.2.2.2.2.2.2.keep hbd))))))))
  have HTT:=Lib.hid (And.intro htz HZ.out)
  have hzd:=hbd.size
  clear hT hch hbd htz a0 a1 al b0 b1 bl
  go_wp2_with fail
  refine (pick_any g (q+11800) 8 _ hr2 (by omega) (by decide) (by decide)).mono ?_
  rintro e w3 ⟨k8,rfl,hk8,hr3,hf3⟩
  have hz3:=hf3.size
  have far:∀ (S:Nat→Prop),(∀ k,S k→w.heap.size≤k)→∀ k,k < wc.heap.size→S k→¬ (fun j=>j=g) k:=fun S hS k _ h e=>by
   have h1:=hS k h
   have e2:k=g:=e
   omega
  have hlo:∀ k,(fun k=>w.heap.size+1≤k∧k < w1.heap.size) k→w.heap.size≤k:=fun k h=>by have:=h.1;omega
  have H3:=Lib.hid (And.intro (show BoxK w3 t _ _ _ _ _ from box_kept H2.out.1 hf3 (by have:=HTT.out;omega)) (And.intro (H2.out.2.1.kept hf3 (far _ fun k h=>by have h1:=h.1;have:=HTT.out;omega)) (And.intro (show BoxK w3 w.heap.size _ _ _ _ _ from box_kept H2.out.2.2.1 hf3 (by omega)) (And.intro (H2.out.2.2.2.1.trans hf3) (And.intro (And.intro (H2.out.2.2.2.2.1.1.kept hf3 (far _ hlo)) (H2.out.2.2.2.2.1.2.kept hf3 (far _ hlo))) (And.intro (H2.out.2.2.2.2.2.1.kept hf3 (far _ hlo)) (And.intro (And.intro (H2.out.2.2.2.2.2.2.1.kept hf3 (far _ hlo)) (H2.out.2.2.2.2.2.2.2.kept hf3 (far _ hlo))) hr3)))))))
  clear hf3 hr2 far hlo H2 hr3
  obtain ⟨t0,t1,t2,t3,t4⟩:=H3.out.1.cells
  have tl:=H3.out.1.lt
  have tz:∀ i,w3.frozen? ⟨t,i,none⟩=false:=fun i=>frozen_of_row w3 _ i _ _ H3.out.1
  obtain ⟨r0,r1,r2,r3,r4⟩:=H3.out.2.2.1.cells
  have rl:=H3.out.2.2.1.lt
  have rz:∀ i,w3.frozen? ⟨w.heap.size,i,none⟩=false:=fun i=>frozen_of_row w3 _ i _ _ H3.out.2.2.1
  have htw:w.heap.size < t:=by have:=HTT.out;omega
  have HSZ2:=Lib.hid H1.out.2.2.2.2.1
  by_cases h0:k8=0
  · have y0:((k8:Int) == 0)=true:=by simp [h0]
    clear h0
    go_upto_region 8 with fail
    have far0:∀ k,(fun k=>w.heap.size+1≤k∧k < w1.heap.size) k→¬ k=t:=fun k h e=>by have:=h.2;have:=HTT.out;omega
    have hs:=fr_set w3 ⟨t,4,none⟩ (.slice (some ⟨w3.heap.size,0,none⟩) 4 4)
    have farT:∀ k,k < w3.heap.size→(fun k=>w.heap.size+1≤k∧k < w1.heap.size) k→¬ (fun k=>k=t) k:=fun k _ h e=>far0 k h e
    have hbL:=below_alloc (w3.setCell ⟨t,4,none⟩ (.slice (some ⟨w3.heap.size,0,none⟩) 4 4)) (.cells #[.int .i64 1,.int .i64 2,.int .i64 3,.int .i64 4] 3)
    have hTE:BoxK ((w3.setCell ⟨t,4,none⟩ (.slice (some ⟨w3.heap.size,0,none⟩) 4 4)).alloc (.cells #[.int .i64 1,.int .i64 2,.int .i64 3,.int .i64 4] 3)) t (.slice aa1 a.1.length ac1) (.slice aa2 a.2.length ac2) (.slice ba1 b.1.length bc1) (.slice ba2 b.2.length bc2) (.slice (some ⟨w3.heap.size,0,none⟩) 4 4):=BoxK.keep (by unfold BoxK;have:=row_set H3.out.1 4 (.slice (some ⟨w3.heap.size,0,none⟩) 4 4);simpa using this) hbL
    have hRE:BoxK ((w3.setCell ⟨t,4,none⟩ (.slice (some ⟨w3.heap.size,0,none⟩) 4 4)).alloc (.cells #[.int .i64 1,.int .i64 2,.int .i64 3,.int .i64 4] 3)) w.heap.size (.slice none 0 0) (.slice none 0 0) (.slice none 0 0) (.slice none 0 0) (.slice none 0 0):=BoxK.keep (box_other H3.out.2.2.1 ⟨t,4,none⟩ _ (by show ¬ w.heap.size=t;omega)) hbL
    have ha1:=((H3.out.2.2.2.2.1.1.kept hs farT).keep hbL).more (S':=fun k=>w.heap.size+1≤k) fun k _ h=>h.1
    have ha2:=((H3.out.2.2.2.2.1.2.kept hs farT).keep hbL).more (S':=fun k=>w.heap.size+1≤k) fun k _ h=>h.1
    have hrp:=((H3.out.2.2.2.2.2.1.kept hs farT).keep hbL).more (S':=fun k=>w.heap.size+1≤k) fun k _ h=>h.1
    have hb1:=((H3.out.2.2.2.2.2.2.1.1.kept hs farT).keep hbL).more (S':=fun k=>w.heap.size+1≤k) fun k _ h=>h.1
    have hb2:=((H3.out.2.2.2.2.2.2.1.2.kept hs farT).keep hbL).more (S':=fun k=>w.heap.size+1≤k) fun k _ h=>h.1
    have hcc:RL ((w3.setCell ⟨t,4,none⟩ (.slice (some ⟨w3.heap.size,0,none⟩) 4 4)).alloc (.cells #[.int .i64 1,.int .i64 2,.int .i64 3,.int .i64 4] 3)) (fun k=>w.heap.size+1≤k) (.slice (some ⟨w3.heap.size,0,none⟩) 4 4) ([1,2,3,4]:List Int):=(lit_ints_at (by simp) [1,2,3,4] (by decide)).rl.more fun k _ h=>by have e:k=w3.heap.size:=Option.some.inj h;have:=HTT.out;show w.heap.size+1≤k;omega
    have hrr:=(H3.out.2.2.2.2.2.2.2.kept hs fun k h e=>by have e2:k=t:=e;omega).keep hbL
    have hff:=(H3.out.2.2.2.1.then hs fun i hi e=>by have e2:i=t:=e;omega).thenB hbL
    have hvk:asnB a=true∧(b.1.length≤1000∧b.2.length≤1000)∧(([1,2,3,4]:List Int)).length≤9∧d≤5∧FewC d p:=⟨HSZ2.out.1,HSZ2.out.2.1,by decide,HSZ2.out.2.2.1,HSZ2.out.2.2.2⟩
    have HFIN:=Lib.hid (con_res (k:=(a,b,([1,2,3,4]:List Int))) hgl hvk hrp ⟨ha1,ha2,hb1,hb2,hcc⟩ (hrr.more (show q+11800+1≤q+11801 by omega)) hff)
    obtain ⟨e0,e1,e2,e3,e4⟩:=hTE.cells
    have el:=hTE.lt
    obtain ⟨f0,f1,f2,f3,f4⟩:=hRE.cells
    have fl:=hRE.lt
    have fz:∀ i,World.frozen? _ ⟨w.heap.size,i,none⟩=false:=fun i=>frozen_of_row _ _ i _ _ hRE
    clear hTE hRE hvk hrp ha1 ha2 hb1 hb2 hcc hrr hff t0 t1 t2 t3 t4 tl tz r0 r1 r2 r3 r4 rl rz
    go_region
    all_goals
     go_wp2
     refine bodyPost_ret (v:=.tuple #[.slice pa p.length pc,.agg #[.slice aa1 a.1.length ac1,.slice aa2 a.2.length ac2,.slice ba1 b.1.length bc1,.slice ba2 b.2.length bc2,.slice (some ⟨w3.heap.size,0,none⟩) 4 4]]) (by simp [results,Tryz.results59,go_sem,f0,f1,f2,f3,f4,fl]) rfl ?_
     first
       | exact con_drew HFIN.out
       | exact HFIN.out
  · have y0:((k8:Int) == 0)=false:=by simp [h0]
    by_cases h1:k8=1
    · have y1:((k8:Int) == 1)=true:=by simp [h1]
      clear h0 h1
      go_upto_region 8 with fail
      have far0:∀ k,(fun k=>w.heap.size+1≤k∧k < w1.heap.size) k→¬ k=t:=fun k h e=>by have:=h.2;have:=HTT.out;omega
      have hs:=fr_set w3 ⟨t,4,none⟩ (.slice none 0 0)
      have farT:∀ k,k < w3.heap.size→(fun k=>w.heap.size+1≤k∧k < w1.heap.size) k→¬ (fun k=>k=t) k:=fun k _ h e=>far0 k h e
      have hTE:BoxK (w3.setCell ⟨t,4,none⟩ (.slice none 0 0)) t (.slice aa1 a.1.length ac1) (.slice aa2 a.2.length ac2) (.slice ba1 b.1.length bc1) (.slice ba2 b.2.length bc2) (.slice none 0 0):=by unfold BoxK;have:=row_set H3.out.1 4 (.slice none 0 0);simpa using this
      have hRE:BoxK (w3.setCell ⟨t,4,none⟩ (.slice none 0 0)) w.heap.size (.slice none 0 0) (.slice none 0 0) (.slice none 0 0) (.slice none 0 0) (.slice none 0 0):=box_other H3.out.2.2.1 ⟨t,4,none⟩ _ (by show ¬ w.heap.size=t;omega)
      have ha1:=(H3.out.2.2.2.2.1.1.kept hs farT).more (S':=fun k=>w.heap.size+1≤k) fun k _ h=>h.1
      have ha2:=(H3.out.2.2.2.2.1.2.kept hs farT).more (S':=fun k=>w.heap.size+1≤k) fun k _ h=>h.1
      have hrp:=(H3.out.2.2.2.2.2.1.kept hs farT).more (S':=fun k=>w.heap.size+1≤k) fun k _ h=>h.1
      have hb1:=(H3.out.2.2.2.2.2.2.1.1.kept hs farT).more (S':=fun k=>w.heap.size+1≤k) fun k _ h=>h.1
      have hb2:=(H3.out.2.2.2.2.2.2.1.2.kept hs farT).more (S':=fun k=>w.heap.size+1≤k) fun k _ h=>h.1
      have hcc:RL (w3.setCell ⟨t,4,none⟩ (.slice none 0 0)) (fun k=>w.heap.size+1≤k) (.slice none 0 0) ([]:List Int):=RL.nil _ _
      have hrr:=H3.out.2.2.2.2.2.2.2.kept hs fun k h e=>by have e2:k=t:=e;omega
      have hff:=H3.out.2.2.2.1.then hs fun i hi e=>by have e2:i=t:=e;omega
      have hvk:asnB a=true∧(b.1.length≤1000∧b.2.length≤1000)∧(([]:List Int)).length≤9∧d≤5∧FewC d p:=⟨HSZ2.out.1,HSZ2.out.2.1,by decide,HSZ2.out.2.2.1,HSZ2.out.2.2.2⟩
      have HFIN:=Lib.hid (con_res (k:=(a,b,([]:List Int))) hgl hvk hrp ⟨ha1,ha2,hb1,hb2,hcc⟩ (hrr.more (show q+11800+1≤q+11801 by omega)) hff)
      obtain ⟨e0,e1,e2,e3,e4⟩:=hTE.cells
      have el:=hTE.lt
      obtain ⟨f0,f1,f2,f3,f4⟩:=hRE.cells
      have fl:=hRE.lt
      have fz:∀ i,World.frozen? _ ⟨w.heap.size,i,none⟩=false:=fun i=>frozen_of_row _ _ i _ _ hRE
      clear hTE hRE hvk hrp ha1 ha2 hb1 hb2 hcc hrr hff t0 t1 t2 t3 t4 tl tz r0 r1 r2 r3 r4 rl rz
      go_region
      all_goals
       go_wp2
       refine bodyPost_ret (v:=.tuple #[.slice pa p.length pc,.agg #[.slice aa1 a.1.length ac1,.slice aa2 a.2.length ac2,.slice ba1 b.1.length bc1,.slice ba2 b.2.length bc2,.slice none 0 0]]) (by simp [results,Tryz.results59,go_sem,f0,f1,f2,f3,f4,fl]) rfl ?_
       first
         | exact con_drew HFIN.out
         | exact HFIN.out
    · have y1:((k8:Int) == 1)=false:=by rw [beq_eq_false_iff_ne];omega
      clear h0 h1
      go_upto_region 8 with fail
      have hTE:=H3.out.1
      have hRE:=H3.out.2.2.1
      have ha1:=H3.out.2.2.2.2.1.1.more (S':=fun k=>w.heap.size+1≤k) fun k _ h=>h.1
      have ha2:=H3.out.2.2.2.2.1.2.more (S':=fun k=>w.heap.size+1≤k) fun k _ h=>h.1
      have hrp:=H3.out.2.2.2.2.2.1.more (S':=fun k=>w.heap.size+1≤k) fun k _ h=>h.1
      have hb1:=H3.out.2.2.2.2.2.2.1.1.more (S':=fun k=>w.heap.size+1≤k) fun k _ h=>h.1
      have hb2:=H3.out.2.2.2.2.2.2.1.2.more (S':=fun k=>w.heap.size+1≤k) fun k _ h=>h.1
      have hcc:=H3.out.2.1.more (S':=fun k=>w.heap.size+1≤k) fun k _ h=>by have h1:=h.1;have:=HTT.out;show w.heap.size+1≤k;omega
      have hrr:=H3.out.2.2.2.2.2.2.2
      have hff:=H3.out.2.2.2.1
      have hvk:asnB a=true∧(b.1.length≤1000∧b.2.length≤1000)∧(chgL p).length≤9∧d≤5∧FewC d p:=⟨HSZ2.out.1,HSZ2.out.2.1,chgL_len p,HSZ2.out.2.2.1,HSZ2.out.2.2.2⟩
      have HFIN:=Lib.hid (con_res (k:=(a,b,chgL p)) hgl hvk hrp ⟨ha1,ha2,hb1,hb2,hcc⟩ (hrr.more (show q+11800+1≤q+11801 by omega)) hff)
      obtain ⟨e0,e1,e2,e3,e4⟩:=hTE.cells
      have el:=hTE.lt
      obtain ⟨f0,f1,f2,f3,f4⟩:=hRE.cells
      have fl:=hRE.lt
      have fz:∀ i,World.frozen? _ ⟨w.heap.size,i,none⟩=false:=fun i=>frozen_of_row _ _ i _ _ hRE
      clear hTE hRE hvk hrp ha1 ha2 hb1 hb2 hcc hrr hff t0 t1 t2 t3 t4 tl tz r0 r1 r2 r3 r4 rl rz
      go_region
      all_goals
       go_wp2
       refine bodyPost_ret (v:=.tuple #[.slice pa p.length pc,.agg #[.slice aa1 a.1.length ac1,.slice aa2 a.2.length ac2,.slice ba1 b.1.length bc1,.slice ba2 b.2.length bc2,.slice ca cn cc]]) (by simp [results,Tryz.results59,go_sem,f0,f1,f2,f3,f4,fl]) rfl ?_
       first
         | exact con_drew HFIN.out
         | exact HFIN.out
end Go.Proofs.YtkbbmjcfgcfejaaGreat
