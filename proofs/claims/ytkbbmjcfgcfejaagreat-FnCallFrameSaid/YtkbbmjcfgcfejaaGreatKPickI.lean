/- Walk: the arguments of CallPost are drawn (reference: DrawCallPost). -/
import Derived.Test.YtkbbmjcfgcfejaaGreatKDCm
import Derived.Test.YtkbbmjcfgcfejaaGreatKFrm
import Derived.Test.YtkbbmjcfgcfejaaGreatKList1
import Derived.Handy
import Derived.Deep.DeepMust
import Derived.Deep.RegionLaw
set_option linter.unusedVariables false
set_option linter.unusedSimpArgs false
namespace Go.Proofs.YtkbbmjcfgcfejaaGreat
open Go.RowKit
theorem fr_two0 (w:World) (b:Nat) (x0 x1:Value):Fr (fun k=>k=b) w ((w.setCell ⟨b,0,none⟩ x0).setCell ⟨b,1,none⟩ x1):=(fr_set w ⟨b,0,none⟩ x0).trans (fr_set _ ⟨b,1,none⟩ x1)
theorem dcl_done {w w3 W4 w5 w6:World} {g:Nat} {y1 y2 p1 p2 q1 q2 ch kv:Value} {a:Asn} {k:Con} {l:List Int} (h3:w.heap.size+2≤w3.heap.size∧g < w3.heap.size) (h4:w.heap.size+3≤W4.heap.size∧g=w.heap.size+2)
 (hf5:Fr (fun j=>j=g) W4 w5) (hf6:Fr (fun j=>j=g) w5 w6) (hy:RL W4 (fun k=>w3.heap.size≤k) y1 a.1∧RL W4 (fun k=>w3.heap.size≤k) y2 a.2)
 (hk:RCon w5 (fun k=>W4.heap.size≤k) p1 p2 q1 q2 ch k) (ho:w6.ownsRow w5.heap.size 3 1 kv l.length (ints l)) (hb:Below w.heap.size w W4) :
 ∃ (u1' u2' p1' p2' q1' q2' ch' kv':Value) (a':Asn) (k':Con) (l':List Int),(.returned (.tuple #[.agg #[y1,y2],.agg #[p1,p2,q1,q2,ch],kv]):Ending)=.returned (.tuple #[.agg #[u1',u2'],.agg #[p1',p2',q1',q2',ch'],kv']) ∧
   (RL (((((((w6.setCell ⟨w.heap.size,0,none⟩ y1).setCell ⟨w.heap.size,1,none⟩ y2).setCell ⟨w.heap.size+1,0,none⟩ p1).setCell ⟨w.heap.size+1,1,none⟩ p2).setCell ⟨w.heap.size+1,2,none⟩ q1).setCell ⟨w.heap.size+1,3,none⟩ q2).setCell ⟨w.heap.size+1,4,none⟩ ch) (fun k=>w.heap.size+2≤k) u1' a'.1 ∧
    RL (((((((w6.setCell ⟨w.heap.size,0,none⟩ y1).setCell ⟨w.heap.size,1,none⟩ y2).setCell ⟨w.heap.size+1,0,none⟩ p1).setCell ⟨w.heap.size+1,1,none⟩ p2).setCell ⟨w.heap.size+1,2,none⟩ q1).setCell ⟨w.heap.size+1,3,none⟩ q2).setCell ⟨w.heap.size+1,4,none⟩ ch) (fun k=>w.heap.size+2≤k) u2' a'.2) ∧
   RCon (((((((w6.setCell ⟨w.heap.size,0,none⟩ y1).setCell ⟨w.heap.size,1,none⟩ y2).setCell ⟨w.heap.size+1,0,none⟩ p1).setCell ⟨w.heap.size+1,1,none⟩ p2).setCell ⟨w.heap.size+1,2,none⟩ q1).setCell ⟨w.heap.size+1,3,none⟩ q2).setCell ⟨w.heap.size+1,4,none⟩ ch) (fun k=>w.heap.size+2≤k) p1' p2' q1' q2' ch' k' ∧
   RInts (((((((w6.setCell ⟨w.heap.size,0,none⟩ y1).setCell ⟨w.heap.size,1,none⟩ y2).setCell ⟨w.heap.size+1,0,none⟩ p1).setCell ⟨w.heap.size+1,1,none⟩ p2).setCell ⟨w.heap.size+1,2,none⟩ q1).setCell ⟨w.heap.size+1,3,none⟩ q2).setCell ⟨w.heap.size+1,4,none⟩ ch) kv' l' ∧
   Below w.heap.size w (((((((w6.setCell ⟨w.heap.size,0,none⟩ y1).setCell ⟨w.heap.size,1,none⟩ y2).setCell ⟨w.heap.size+1,0,none⟩ p1).setCell ⟨w.heap.size+1,1,none⟩ p2).setCell ⟨w.heap.size+1,2,none⟩ q1).setCell ⟨w.heap.size+1,3,none⟩ q2).setCell ⟨w.heap.size+1,4,none⟩ ch):=by
 have s1:=fr_two0 w6 w.heap.size y1 y2
 have s2:=fr_five ((w6.setCell ⟨w.heap.size,0,none⟩ y1).setCell ⟨w.heap.size,1,none⟩ y2) (w.heap.size+1) p1 p2 q1 q2 ch
 have s12:Fr (fun k=>k < w.heap.size+2∧w.heap.size≤k) w6 _:=(s1.mono (S':=fun k=>k < w.heap.size+2∧w.heap.size≤k) fun k _ h=>by have e:k=w.heap.size:=h;omega).trans (s2.mono fun k _ h=>by have e:k=w.heap.size+1:=h;omega)
 have f56:=hf5.trans hf6
 have z5:=hf5.size
 have z6:=hf6.size
 have up3:∀ k,(fun k=>w3.heap.size≤k) k→(fun k=>w.heap.size+2≤k) k:=fun k h=>Nat.le_trans h3.1 h
 have far3:∀ k,k < W4.heap.size→(fun k=>w3.heap.size≤k) k→¬ (fun j=>j=g) k:=fun k _ h e=>by have h1:w3.heap.size≤k:=h;have e2:k=g:=e;omega
 have low:∀ k,k < w6.heap.size→(fun k=>w.heap.size+2≤k) k→¬ (fun k=>k < w.heap.size+2∧w.heap.size≤k) k:=fun k _ h e=>by have h1:w.heap.size+2≤k:=h;have e2:=e.1;omega
 refine ⟨_,_,_,_,_,_,_,_,a,k,l,rfl,⟨((hy.1.kept f56 far3).more fun k _ h=>up3 k h).kept s12 low,((hy.2.kept f56 far3).more fun k _ h=>up3 k h).kept s12 low⟩,
  (hk.kept hf6 (fun j _ h e=>by have h1:W4.heap.size≤j:=h;have e2:j=g:=e;omega) (S':=fun k=>w.heap.size+2≤k) fun j h=>by have h1:W4.heap.size≤j:=h;show w.heap.size+2≤j;omega).kept s12 low (fun _ h=>h),
  (own_ints (own_kept ho s12 fun k hk e=>by have:=(own_lt ho hk).1;have e2:=e.1;omega)).1,
  hb.trans ((f56.below hb.size fun k hk e=>by have e2:k=g:=e;omega).trans (s12.below (by have:=hb.size;omega) fun k hk e=>by have:=e.2;omega))⟩
set_option maxRecDepth 100000 in
set_option maxHeartbeats 6400000 in
theorem specDrawCallPost_any (v:Value) (n:Nat) (w:World) (h:RBytes w v n) :
 Calls Tryz.prog 12 #[v] w fun e w'=>∃ (u1 u2 p1 p2 q1 q2 ch kv:Value) (a:Asn) (k:Con) (l:List Int),e=.returned (.tuple #[.agg #[u1,u2],.agg #[p1,p2,q1,q2,ch],kv]) ∧
  (RL w' (fun k=>w.heap.size+2≤k) u1 a.1∧RL w' (fun k=>w.heap.size+2≤k) u2 a.2)∧RCon w' (fun k=>w.heap.size+2≤k) p1 p2 q1 q2 ch k∧RInts w' kv l∧Below w.heap.size w w':=by
 obtain ⟨w0,hw0⟩:∃ w0,w0=(w.alloc (.cells #[.slice none 0 0,.slice none 0 0] 26)).alloc (.cells #[.slice none 0 0,.slice none 0 0,.slice none 0 0,.slice none 0 0,.slice none 0 0] 29):=⟨_,rfl⟩
 have hR:w0.heap[w.heap.size]?=some (.cells #[.slice none 0 0,.slice none 0 0] 26 (0,0)):=by rw [hw0];exact box_keep (heap_alloc_new w _) (below_alloc _ _)
 have hK:BoxK w0 (w.heap.size+1) (.slice none 0 0) (.slice none 0 0) (.slice none 0 0) (.slice none 0 0) (.slice none 0 0):=by
  rw [hw0]
  have:=boxK_new (w.alloc (.cells #[.slice none 0 0,.slice none 0 0] 26)) (.slice none 0 0) (.slice none 0 0) (.slice none 0 0) (.slice none 0 0) (.slice none 0 0)
  rw [World.size_alloc] at this
  exact this
 have hb0:Below w.heap.size w w0:=by rw [hw0];exact ba (below_alloc _ _) _
 have hz0:w0.heap.size=w.heap.size+2:=by rw [hw0];simp
 have HW0:=Lib.hid hw0
 have H0:=Lib.hid (And.intro hR (And.intro hK (And.intro (h.keep hb0) (And.intro hb0 hz0))))
 clear hR hK hb0 hz0 hw0 h
 go_enter Tryz.func12,Tryz.ntmps12
 go_wp2_with fail
 rw [← HW0.out]
 refine (l18Open_any v n _ H0.out.2.2.1).mono ?_
 rintro e w1 ⟨rfl,hr1,hb1⟩
 obtain ⟨g,hg⟩:∃ g,g=w0.heap.size:=⟨_,rfl⟩
 rw [← hg] at hr1 ⊢
 have hgw:w.heap.size+2≤g∧g≤w.heap.size+2:=by have:=hg.trans H0.out.2.2.2.2;omega
 have hgl:=hr1.lt
 have H1:=Lib.hid (And.intro (box_keep H0.out.1 hb1) (And.intro (H0.out.2.1.keep hb1) (bt H0.out.2.2.2.1 hb1)))
 clear hb1 hg H0
 go_wp2_with fail
 refine (l12Draw_any g 0 _ hr1 (by omega)).mono ?_
 rintro e w2 hres
 unfold ConRes at hres
 obtain ⟨vp,p1,p2,q1,q2,ch,d,p,k,rfl,hvl,hrp,hr2,hf2⟩:=hres
 have hv:=hvl.1
 have hl1:=hvl.2.1
 have hl2:=hvl.2.2.1
 have rk:=hrp.2
 clear hvl hrp
 obtain ⟨e1,f1,rfl⟩:=rk.pre1.form
 obtain ⟨e2,f2,rfl⟩:=rk.pre2.form
 obtain ⟨e3,f3,rfl⟩:=rk.post1.form
 obtain ⟨e4,f4,rfl⟩:=rk.post2.form
 obtain ⟨e5,f5,rfl⟩:=rk.chg.form
 obtain ⟨t,ht⟩:∃ t,t=w2.heap.size:=⟨_,rfl⟩
 obtain ⟨W2,hW2⟩:∃ W2,W2=w2.alloc (.cells #[.slice e1 k.1.1.length f1,.slice e2 k.1.2.length f2,.slice e3 k.2.1.1.length f3,.slice e4 k.2.1.2.length f4,.slice e5 k.2.2.length f5] 29):=⟨_,rfl⟩
 have hb2:Below w2.heap.size w2 W2:=by rw [hW2];exact below_alloc _ _
 have hz2:W2.heap.size=t+1:=by rw [hW2,ht];simp
 have hK2:BoxK W2 t (.slice e1 k.1.1.length f1) (.slice e2 k.1.2.length f2) (.slice e3 k.2.1.1.length f3) (.slice e4 k.2.1.2.length f4) (.slice e5 k.2.2.length f5):=by rw [hW2,ht];exact boxK_new _ _ _ _ _ _
 have hsz:w.heap.size+3≤t:=by have:=hf2.size;omega
 have hlen:=asn_len2 hv
 have HW2:=Lib.hid hW2
 have HK:=Lib.hid (show (k.1.1.length≤12∧k.1.2.length≤6)∧asSz k.1∧asSz k.2.1∧k.2.2.length≤1048576 from ⟨hlen,asn_sz hv,⟨by have:=hl1.1;omega,by have:=hl1.2;omega⟩,by omega⟩)
 have H2:=Lib.hid (And.intro (And.intro (box_keep (box_kept H1.out.1 hf2 (by omega)) hb2) (BoxK.keep (show BoxK w2 _ _ _ _ _ _ from box_kept H1.out.2.1 hf2 (by omega)) hb2)) (And.intro (rk.keep hb2) (And.intro (hr2.keep hb2) (H1.out.2.2.trans ((hf2.thenB hb2).below H1.out.2.2.size fun k hk e=>by have e2:k=g:=e;omega)))))
 have HZ:=Lib.hid (And.intro hz2 hsz)
 have hKc:=hK2
 obtain ⟨c0,c1,c2,c3,c4⟩:=hK2.cells
 have cl:=box_lt hK2
 have HKc:=Lib.hid hKc
 clear hKc hK2 hb2 hz2 hW2 rk hr2 hf2 hl1 hl2 hv hlen H1
 go_upto_region 3 with fail
 rw [← HW2.out]
 rw [← ht]
 clear ht
 go_wp2_with fail
 refine (l12Call_any g (0+11801) _ _ _ _ _ k _ H2.out.2.2.1 (by omega) H2.out.2.1 HK.out.2.1).mono ?_
 rintro e w3 ⟨x1,x2,b,rfl,hbl,o1,o2,hr3,hf3⟩
 obtain ⟨xa1,xc1,rfl⟩:=o1.form
 obtain ⟨xa2,xc2,rfl⟩:=o2.form
 have hsb:asSz b:=by have h3:=HK.out.1;have h1:=hbl.1;have h2:=hbl.2;exact ⟨by omega,by omega⟩
 have hz3:=hf3.size
 have H3:=Lib.hid (And.intro (And.intro (box_kept H2.out.1.1 hf3 (by omega)) (show BoxK w3 _ _ _ _ _ _ from box_kept H2.out.1.2 hf3 (by omega))) (And.intro (show BoxK w3 t _ _ _ _ _ from box_kept HKc.out hf3 (by omega)) (And.intro (H2.out.2.1.kept hf3 (fun j _ h e=>by have h1:w1.heap.size≤j:=h;have e2:j=g:=e;omega) (S':=fun k=>w1.heap.size≤k) fun j h=>h) (H2.out.2.2.2.trans (hf3.below H2.out.2.2.2.size fun k hk e=>by have e2:k=g:=e;omega)))))
 clear hf3 HKc c0 c1 c2 c3 c4 cl hbl
 have HO:=Lib.hid (And.intro o1 (And.intro o2 hsb))
 clear o1 o2 hsb
 go_wp2_with fail
 refine (l3Mutate_any g (0+11801+2) _ _ b _ hr3 (by omega) HO.out.1.rl HO.out.2.1.rl HO.out.2.2).mono ?_
 rintro e w4 ⟨y1,y2,a,rfl,hal,o1,o2,hr4,hf4⟩
 obtain ⟨ya1,yc1,rfl⟩:=o1.form
 obtain ⟨ya2,yc2,rfl⟩:=o2.form
 have hz4:=hf4.size
 obtain ⟨s,hs⟩:∃ s,s=w4.heap.size:=⟨_,rfl⟩
 obtain ⟨W4,hW4⟩:∃ W4,W4=w4.alloc (.cells #[.slice ya1 a.1.length yc1,.slice ya2 a.2.length yc2] 26):=⟨_,rfl⟩
 have hb4:Below w4.heap.size w4 W4:=by rw [hW4];exact below_alloc _ _
 have hS4:W4.heap[s]?=some (.cells #[.slice ya1 a.1.length yc1,.slice ya2 a.2.length yc2] 26 (0,0)):=by rw [hW4,hs];exact heap_alloc_new _ _
 have hz5:W4.heap.size=s+1:=by rw [hW4,hs];simp
 have hts:t < s:=by have:=HZ.out.1;omega
 have HW4:=Lib.hid hW4
 have hF4:=hf4.thenB hb4
 have hK4:BoxK W4 t (.slice e1 k.1.1.length f1) (.slice e2 k.1.2.length f2) (.slice e3 k.2.1.1.length f3) (.slice e4 k.2.1.2.length f4) (.slice e5 k.2.2.length f5):=box_kept H3.out.2.1 hF4 (by omega)
 have hr5:=hr4.keep hb4
 have hR4:=box_kept H3.out.1.1 hF4 (by omega)
 have hC4:BoxK W4 (w.heap.size+1) (.slice none 0 0) (.slice none 0 0) (.slice none 0 0) (.slice none 0 0) (.slice none 0 0):=box_kept H3.out.1.2 hF4 (by omega)
 have H4:=Lib.hid (And.intro (And.intro (o1.rl.keep hb4) (o2.rl.keep hb4)) (And.intro (H3.out.2.2.1.kept hF4 (fun j _ h e=>by have h1:w1.heap.size≤j:=h;have e2:j=g:=e;omega) (S':=fun k=>w1.heap.size≤k) fun j h=>h) (And.intro (H3.out.2.2.2.trans (hF4.below H3.out.2.2.2.size fun k hk e=>by have e2:k=g:=e;omega)) (And.intro hr5 (And.intro hR4 hC4)))))
 obtain ⟨c0,c1,c2,c3,c4⟩:=hK4.cells
 have cl:=box_lt hK4
 have b0:=box0 hS4
 have b1:=box1 hS4
 have bl:=box_lt hS4
 have hgs:¬ s=g∧¬ t=g:=⟨by omega,by omega⟩
 have ht3:w.heap.size+3≤t:=hsz
 have hs3:w.heap.size+3≤s:=by omega
 have HG:=Lib.hid (And.intro hgs (And.intro hsz (And.intro hz5 (And.intro hts hgw))))
 have hz3':w3.heap.size≤w4.heap.size:=hz4
 have HS3:=Lib.hid (show w.heap.size+2≤w3.heap.size∧g < w3.heap.size from ⟨by have:=HZ.out.1;omega,hr3.lt⟩)
 clear hK4 hS4 hF4 hr5 hR4 hC4 hb4 hW4 o1 o2 hr4 hf4 hal H3 H2 HO hr3 hr1 hz3 hz4 hz3' hts hz5 hsz
 go_upto_region 4 with fail
 rw [← HW4.out]
 rw [← hs]
 clear hs
 go_region_held3 (fun w'=>(w'.cell? ⟨s,0,none⟩=some (.slice ya1 a.1.length yc1)∧w'.cell? ⟨s,1,none⟩=some (.slice ya2 a.2.length yc2))∧(w'.cell? ⟨t,0,none⟩=some (.slice e1 k.1.1.length f1)∧w'.cell? ⟨t,1,none⟩=some (.slice e2 k.1.2.length f2))∧(w'.cell? ⟨t,2,none⟩=some (.slice e3 k.2.1.1.length f3)∧w'.cell? ⟨t,3,none⟩=some (.slice e4 k.2.1.2.length f4))∧w'.cell? ⟨t,4,none⟩=some (.slice e5 k.2.2.length f5))
  (first
    | (have _h:=m0;exact ⟨⟨(by repeat (first | with_reducible exact m0 | (with_reducible refine (fr_set _ _ _).cell (by first | (simp;done) | (simp;omega) | omega) ?_) | exact cell_keep Bl m0)),(by repeat (first | with_reducible exact m1 | (with_reducible refine (fr_set _ _ _).cell (by first | (simp;done) | (simp;omega) | omega) ?_) | exact cell_keep Bl m1))⟩,⟨(by repeat (first | with_reducible exact n0 | (with_reducible refine (fr_set _ _ _).cell (by first | (simp;done) | (simp;omega) | omega) ?_) | exact cell_keep Bl n0)),(by repeat (first | with_reducible exact n1 | (with_reducible refine (fr_set _ _ _).cell (by first | (simp;done) | (simp;omega) | omega) ?_) | exact cell_keep Bl n1))⟩,⟨(by repeat (first | with_reducible exact n2 | (with_reducible refine (fr_set _ _ _).cell (by first | (simp;done) | (simp;omega) | omega) ?_) | exact cell_keep Bl n2)),(by repeat (first | with_reducible exact n3 | (with_reducible refine (fr_set _ _ _).cell (by first | (simp;done) | (simp;omega) | omega) ?_) | exact cell_keep Bl n3))⟩,(by repeat (first | with_reducible exact n4 | (with_reducible refine (fr_set _ _ _).cell (by first | (simp;done) | (simp;omega) | omega) ?_) | exact cell_keep Bl n4))⟩)
    | (have _h:=d0;exact ⟨⟨(by repeat (first | with_reducible exact d0 | (with_reducible refine (fr_set _ _ _).cell (by first | (simp;done) | (simp;omega) | omega) ?_) | exact cell_keep Bl d0)),(by repeat (first | with_reducible exact d1 | (with_reducible refine (fr_set _ _ _).cell (by first | (simp;done) | (simp;omega) | omega) ?_) | exact cell_keep Bl d1))⟩,⟨(by repeat (first | with_reducible exact i0 | (with_reducible refine (fr_set _ _ _).cell (by first | (simp;done) | (simp;omega) | omega) ?_) | exact cell_keep Bl i0)),(by repeat (first | with_reducible exact i1 | (with_reducible refine (fr_set _ _ _).cell (by first | (simp;done) | (simp;omega) | omega) ?_) | exact cell_keep Bl i1))⟩,⟨(by repeat (first | with_reducible exact i2 | (with_reducible refine (fr_set _ _ _).cell (by first | (simp;done) | (simp;omega) | omega) ?_) | exact cell_keep Bl i2)),(by repeat (first | with_reducible exact i3 | (with_reducible refine (fr_set _ _ _).cell (by first | (simp;done) | (simp;omega) | omega) ?_) | exact cell_keep Bl i3))⟩,(by repeat (first | with_reducible exact i4 | (with_reducible refine (fr_set _ _ _).cell (by first | (simp;done) | (simp;omega) | omega) ?_) | exact cell_keep Bl i4))⟩)
    | exact ⟨⟨(by repeat (first | with_reducible exact b0 | (with_reducible refine (fr_set _ _ _).cell (by first | (simp;done) | (simp;omega) | omega) ?_) | exact cell_keep Bl b0)),(by repeat (first | with_reducible exact b1 | (with_reducible refine (fr_set _ _ _).cell (by first | (simp;done) | (simp;omega) | omega) ?_) | exact cell_keep Bl b1))⟩,⟨(by repeat (first | with_reducible exact c0 | (with_reducible refine (fr_set _ _ _).cell (by first | (simp;done) | (simp;omega) | omega) ?_) | exact cell_keep Bl c0)),(by repeat (first | with_reducible exact c1 | (with_reducible refine (fr_set _ _ _).cell (by first | (simp;done) | (simp;omega) | omega) ?_) | exact cell_keep Bl c1))⟩,⟨(by repeat (first | with_reducible exact c2 | (with_reducible refine (fr_set _ _ _).cell (by first | (simp;done) | (simp;omega) | omega) ?_) | exact cell_keep Bl c2)),(by repeat (first | with_reducible exact c3 | (with_reducible refine (fr_set _ _ _).cell (by first | (simp;done) | (simp;omega) | omega) ?_) | exact cell_keep Bl c3))⟩,(by repeat (first | with_reducible exact c4 | (with_reducible refine (fr_set _ _ _).cell (by first | (simp;done) | (simp;omega) | omega) ?_) | exact cell_keep Bl c4))⟩
    | fail)
  (first
    | (go_at_call 62;refine (l12Mutate_any g (0+11801+2+3) _ _ _ _ _ k _ (H4.out.2.2.2.1.keep Bl) (by omega) (H4.out.2.1.keep Bl) HK.out.2).mono ?_;rintro e w5 ⟨p1,p2,q1,q2,ch',k',rfl,hbl5,rk5,hr5,hf5'⟩;have hf5:Fr (fun j=>j=g) W4 w5:=(by first | exact hf5' | exact ((Below.fr (below_drew _)).mono fun _ _ h=>h.elim).trans hf5');have hz5:=hf5.size;have d0:=hf5.cell HG.out.1.1 b0;have d1:=hf5.cell HG.out.1.1 b1;have i0:=hf5.cell HG.out.1.2 c0;have i1:=hf5.cell HG.out.1.2 c1;have i2:=hf5.cell HG.out.1.2 c2;have i3:=hf5.cell HG.out.1.2 c3;have i4:=hf5.cell HG.out.1.2 c4;obtain ⟨pa1,pn1,pc1,rfl⟩:=rk5.pre1.forms;obtain ⟨pa2,pn2,pc2,rfl⟩:=rk5.pre2.forms;obtain ⟨qa1,qn1,qc1,rfl⟩:=rk5.post1.forms;obtain ⟨qa2,qn2,qc2,rfl⟩:=rk5.post2.forms;obtain ⟨ga,gn,gc,rfl⟩:=rk5.chg.forms)
    | (go_at_call 63;refine (l10Keep_any g (0+11801+2+3+2) _ (hr5.keep Bl) (by omega)).mono ?_;rintro e w6 ⟨kv,l,rfl,hl6,hown,hr6,hf6'⟩;have hf6:Fr (fun j=>j=g) w5 w6:=(by first | exact hf6' | exact ((Below.fr (below_drew _)).mono fun _ _ h=>h.elim).trans hf6');have hz6:=hf6.size;have m0:=hf6.cell HG.out.1.1 d0;have m1:=hf6.cell HG.out.1.1 d1;have n0:=hf6.cell HG.out.1.2 i0;have n1:=hf6.cell HG.out.1.2 i1;have n2:=hf6.cell HG.out.1.2 i2;have n3:=hf6.cell HG.out.1.2 i3;have n4:=hf6.cell HG.out.1.2 i4;obtain ⟨ka,kc,rfl,_⟩:=own_form hown;have hR6:=box_kept (box_kept H4.out.2.2.2.2.1 hf5 (by have:=HG.out.2.2.2.2;omega)) hf6 (by have:=HG.out.2.2.2.2;omega);have hC6:BoxK w6 (w.heap.size+1) (.slice none 0 0) (.slice none 0 0) (.slice none 0 0) (.slice none 0 0) (.slice none 0 0):=box_kept (box_kept H4.out.2.2.2.2.2 hf5 (by have:=HG.out.2.2.2.2;omega)) hf6 (by have:=HG.out.2.2.2.2;omega);have r0:=box0 hR6;have r1:=box1 hR6;have rz:=boxz hR6;have rl:=box_lt hR6;obtain ⟨j0,j1,j2,j3,j4⟩:=hC6.cells;have jz:=fun i:Nat=>frozen_of_row w6 _ i _ _ hC6;have jl:=box_lt hC6))
 all_goals
  have HF:=Lib.hid (And.intro (And.intro hf5 hf6) (And.intro rk5 hown))
  clear hf5 hf6 hf5' hf6' rk5 hown hr5 hr6 hR6 hC6 hbl5 hl6
  go_wp2
  refine bodyPost_ret (v:=.tuple #[.agg #[.slice ya1 a.1.length yc1,.slice ya2 a.2.length yc2],.agg #[.slice pa1 pn1 pc1,.slice pa2 pn2 pc2,.slice qa1 qn1 qc1,.slice qa2 qn2 qc2,.slice ga gn gc],.slice ka l.length kc]) (by simp [results,Tryz.results12,go_sem,r0,r1,rl,j0,j1,j2,j3,j4,jl]) rfl ?_
  exact dcl_done HS3.out (by have:=HG.out.2.2.2.2;have:=HG.out.2.1;have:=HG.out.2.2.1;have:=HG.out.2.2.2.1;omega) HF.out.1.1 HF.out.1.2 H4.out.1 HF.out.2.1 HF.out.2.2 H4.out.2.2.1
end Go.Proofs.YtkbbmjcfgcfejaaGreat
set_option linter.unusedVariables false
set_option linter.unusedSimpArgs false
namespace Go.Proofs.YtkbbmjcfgcfejaaGreat
open Go.RowKit
theorem and_one64:∀ n:Nat,n < 64→(bits .and .i64 (n:Int) 1 == 1)=n.testBit 0:=by decide
theorem bit64 {m k:Nat} (hm:m < 64):(bits .and .i64 ((m:Int) / 2 ^ k) 1 == 1)=m.testBit k:=by
 have e:((m:Int) / 2 ^ k)=((m / 2 ^ k:Nat):Int):=by simp
 rw [e,and_one64 _ (Nat.lt_of_le_of_lt (Nat.div_le_self _ _) hm),← Nat.shiftRight_eq_div_pow,Nat.testBit_shiftRight];rfl
set_option maxRecDepth 100000 in
set_option maxHeartbeats 3200000 in
theorem pickI_any {S1 S2:Nat→Prop} (v1 v2:Value) (a:Asn) (m:Nat) (w:World) (h1:RL w S1 v1 a.1) (h2:RL w S2 v2 a.2) (hm:m < 64) (hl:(a.2.length:Int)≤8) :
 Calls Tryz.prog 83 #[.agg #[v1,v2],.int .i64 (m:Int)] w fun e w'=>∃ x2,e=.returned (.agg #[.slice none 0 0,x2])∧FE w' w.heap.size x2 (pickA a.2 m)∧Below w.heap.size w w':=by
 obtain ⟨a1,a2⟩:=a
 simp only at h1 h2 hl
 obtain ⟨p1,c1,rfl⟩:=h1.form
 obtain ⟨p2,c2,rfl⟩:=h2.form
 have hbR:=box_keep (heap_alloc_new (w.alloc (.cells #[.slice p1 a1.length c1,.slice p2 a2.length c2] 26)) (.cells #[.slice none 0 0,.slice none 0 0] 26)) (below_alloc _ (.cells #[.slice none 0 0,.slice none 0 0] 26))
 have hbT:=heap_alloc_new ((w.alloc (.cells #[.slice p1 a1.length c1,.slice p2 a2.length c2] 26)).alloc (.cells #[.slice none 0 0,.slice none 0 0] 26)) (.cells #[.slice none 0 0,.slice none 0 0] 26)
 simp only [World.size_alloc] at hbR hbT
 have hB0:Below w.heap.size w (((w.alloc (.cells #[.slice p1 a1.length c1,.slice p2 a2.length c2] 26)).alloc (.cells #[.slice none 0 0,.slice none 0 0] 26)).alloc (.cells #[.slice none 0 0,.slice none 0 0] 26)):=Bl
 have D0:DB w (((w.alloc (.cells #[.slice p1 a1.length c1,.slice p2 a2.length c2] 26)).alloc (.cells #[.slice none 0 0,.slice none 0 0] 26)).alloc (.cells #[.slice none 0 0,.slice none 0 0] 26)) (w.heap.size+1) (w.heap.size+1+1) (.slice none 0 0) (.slice none 0 0) [] []:=⟨FE.nil _ _ _,FE.nil _ _ _,hbR,hbT,hB0⟩
 have H1:=Lib.hid D0
 have HH:=Lib.hid h2
 have HM:=Lib.hid hm
 clear hbR hbT hB0 h1 h2 hm D0
 go_enter Tryz.func83,Tryz.ntmps83
 go_wp2
 go_loopg [11] a2.length (fun q i wr=>∃ (k:Nat) (y2:Value),k+q=a2.length∧i=.int .i64 k∧DB w wr (w.heap.size+1) (w.heap.size+1+1) (.slice none 0 0) y2 [] (pickN a2 m k))
 case atStart=>exact ⟨0,_,by omega,rfl,H1.out⟩
 case round =>
  clear H1
  obtain ⟨k,y2,hk,rfl,D⟩:=hrel
  obtain ⟨L,hL⟩:∃ L,pickN a2 m k=L:=⟨_,rfl⟩
  have hLk:L.length≤k:=by rw [← hL];exact pickN_len _ _ _
  rw [hL] at D
  obtain ⟨ua2,uc2,rfl⟩:=D.a.form
  have HK:=Lib.hid (And.intro hk hL)
  clear hk hL
  by_cases hk8:k < a2.length
  · have hki:(k:Int) < (a2.length:Int):=by omega
    have hkk:(k:Int) < 64:=by omega
    have hk0:(0:Int)≤(k:Int):=by omega
    obtain ⟨qa,qc,hqe,_,_,hqf⟩:=(HH.out.keep D.fr).atomAt
    simp only [Value.slice.injEq] at hqe
    obtain ⟨rfl,_,rfl⟩:=hqe
    obtain ⟨bb,oo,rfl,_,hz1,hp1,hp2,hp3⟩:=hqf k hk8
    obtain ⟨X,hX⟩:∃ X,gd a2 k=X:=⟨_,rfl⟩
    obtain ⟨X1,X2,X3⟩:=X
    rw [hX] at hp1 hp2 hp3
    simp only at hp1 hp2 hp3
    obtain ⟨c,hc⟩:∃ c,m.testBit k=c:=⟨_,rfl⟩
    have hbit:=bit64 (k:=k) HM.out
    rw [hc] at hbit
    have HX:=Lib.hid (And.intro hX hc)
    have hbF:=below_alloc wr (.cells #[.int .i64 X1,.int .i64 X2,.int .i64 X3] 118)
    have HD:=Lib.hid (D.keep hbF)
    have hwz:=D.fr.size
    clear hqf hX hc D hbF
    cases c with
    | false =>
      have HN:=Lib.hid (show pickN a2 m (k+1)=L by rw [pickN_no HX.out.2,HK.out.2])
      go_wp2
      go_roundg (gk - 1)
      case rel=>exact ⟨k+1,_,by have:=HK.out;omega,by go_num,by rw [HN.out];exact HD.out⟩
      case measure=>have:=HK.out;omega
    | true =>
      have HN:=Lib.hid (show pickN a2 m (k+1)=L ++ [(X1,X2,X3)] by rw [pickN_yes HX.out.2,HK.out.2,HX.out.1])
      go_upto_region 6 with fail
      have d1:=box1 HD.out.boxA
      have dz:=boxz HD.out.boxA 1
      have dl:=box_lt HD.out.boxA
      have hFX:=heap_alloc_new wr (.cells #[.int .i64 X1,.int .i64 X2,.int .i64 X3] 118)
      have e0:=c30 hFX
      have e1:=c31 hFX
      have e2:=c32 hFX
      have ez:=box_lt hFX
      clear hp1 hp2 hp3 hFX
      generalize hwe:wr.alloc (.cells #[.int .i64 X1,.int .i64 X2,.int .i64 X3] 118)=we at HD d1 dz dl e0 e1 e2 ez ⊢
      clear hwe
      go_wp2_with (at_builtin;go_must (refine app_F (l:=L) (m:=[((X1,X2,X3):Atom)]) (B:=w.heap.size) (by rfl) (.tmp 22) (.tmp 24) _ (by rfl) ti_atom (by rfl) (HD.out.a.keep (below_alloc _ _)) (by rfl) (lit_atom_at rfl _ _ _ _) (by simp;omega) (by simp;omega) ?_;intro v' w7 o7 hf7;obtain ⟨a7,n7,c7,rfl⟩:=o7.forms;have hA7:=HD.out.boxTf hf7 (below_alloc _ _) (by decide);have hb0:=box1 hA7;have hbz:=boxz hA7 1;have hbl7:=box_lt hA7;clear hA7))
      have D9:=Lib.hid (HD.out.app2T hf7 o7 (below_alloc _ _) (by omega) (by omega))
      clear o7 hf7
      go_wp2
      go_roundg (gk - 1)
      case rel=>exact ⟨k+1,_,by have:=HK.out;omega,by go_num,by rw [HN.out];exact D9.out⟩
      case measure=>have:=HK.out;omega
  · obtain rfl:k=a2.length:=by have:=HK.out;omega
    have b0:=box0 D.boxA
    have b1:=box1 D.boxA
    have bl:=box_lt D.boxA
    have r0:=box0 D.boxR
    have r1:=box1 D.boxR
    have rz:=boxz D.boxR
    have rl:=box_lt D.boxR
    have r:=box_two (.slice none 0 0) (.slice ua2 L.length uc2) r0 r1
    have HO:=Lib.hid (D.done (by omega) (.slice none 0 0) (.slice ua2 L.length uc2))
    clear D
    go_wp2
    refine bodyPost_ret (v:=.agg #[.slice none 0 0,.slice ua2 L.length uc2]) (by simp [results,Tryz.results83,go_sem,r.1,r.2]) rfl ?_
    exact ⟨_,rfl,by rw [← pickN_all,HK.out.2];exact HO.out.1.2,HO.out.2⟩
set_option maxRecDepth 100000 in
set_option maxHeartbeats 3200000 in
theorem pickS_any {S1 S2:Nat→Prop} (v1 v2:Value) (a:Asn) (m:Nat) (w:World) (h1:RL w S1 v1 a.1) (h2:RL w S2 v2 a.2) (hm:m < 64) (hl:(a.2.length:Int)≤8) :
 Calls Tryz.prog 155 #[.agg #[v1,v2],.int .i64 (m:Int)] w fun e w'=>∃ x2,e=.returned (.agg #[.slice none 0 0,x2])∧FE w' w.heap.size x2 (pickA a.2 m)∧Below w.heap.size w w':=by
 obtain ⟨a1,a2⟩:=a
 simp only at h1 h2 hl
 obtain ⟨p1,c1,rfl⟩:=h1.form
 obtain ⟨p2,c2,rfl⟩:=h2.form
 have hbX:=box_keep (box_keep (heap_alloc_new w (.cells #[.slice p1 a1.length c1,.slice p2 a2.length c2] 26)) (below_alloc _ (.cells #[.slice none 0 0,.slice none 0 0] 26))) (below_alloc _ (.cells #[.slice none 0 0,.slice none 0 0] 26))
 have hbR:=box_keep (heap_alloc_new (w.alloc (.cells #[.slice p1 a1.length c1,.slice p2 a2.length c2] 26)) (.cells #[.slice none 0 0,.slice none 0 0] 26)) (below_alloc _ (.cells #[.slice none 0 0,.slice none 0 0] 26))
 have hbT:=heap_alloc_new ((w.alloc (.cells #[.slice p1 a1.length c1,.slice p2 a2.length c2] 26)).alloc (.cells #[.slice none 0 0,.slice none 0 0] 26)) (.cells #[.slice none 0 0,.slice none 0 0] 26)
 simp only [World.size_alloc] at hbR hbT
 have hB0:Below w.heap.size w (((w.alloc (.cells #[.slice p1 a1.length c1,.slice p2 a2.length c2] 26)).alloc (.cells #[.slice none 0 0,.slice none 0 0] 26)).alloc (.cells #[.slice none 0 0,.slice none 0 0] 26)):=Bl
 have D0:DB w (((w.alloc (.cells #[.slice p1 a1.length c1,.slice p2 a2.length c2] 26)).alloc (.cells #[.slice none 0 0,.slice none 0 0] 26)).alloc (.cells #[.slice none 0 0,.slice none 0 0] 26)) (w.heap.size+1) (w.heap.size+1+1) (.slice none 0 0) (.slice none 0 0) [] []:=⟨FE.nil _ _ _,FE.nil _ _ _,hbR,hbT,hB0⟩
 have H1:=Lib.hid (And.intro D0 hbX)
 have HH2:=Lib.hid h2
 have HM:=Lib.hid hm
 clear hbR hbT hB0 h1 h2 hm D0 hbX
 go_enter Tryz.func155,Tryz.ntmps155
 go_wp2
 go_loopg [6] a2.length (fun q i wr=>∃ (k:Nat) (y2:Value),k+q=a2.length∧i=.int .i64 k∧DB w wr (w.heap.size+1) (w.heap.size+1+1) (.slice none 0 0) y2 [] (pickN a2 m k)∧wr.heap[w.heap.size]?=some (.cells #[.slice p1 a1.length c1,.slice p2 a2.length c2] 26 (0,0)))
 case atStart=>exact ⟨0,_,by omega,rfl,H1.out.1,H1.out.2⟩
 case round =>
  clear H1
  obtain ⟨n,y2,hn,rfl,D,hBX⟩:=hrel
  have HN:=Lib.hid hn
  clear hn
  obtain ⟨M,hM⟩:∃ M,pickN a2 m n=M:=⟨_,rfl⟩
  have hMl:M.length≤n:=by rw [← hM];exact pickN_len _ _ _
  rw [hM] at D
  have HM2:=Lib.hid (And.intro hM hMl)
  clear hM hMl
  obtain ⟨ua2,uc2,rfl⟩:=D.a.form
  have hc1:=box1 hBX
  have zc:=World.block_lt_of_cell? wr _ hc1
  simp only at zc
  by_cases hn8:n < a2.length
  · have hni:(n:Int) < (a2.length:Int):=by omega
    have hkk:(n:Int) < 64:=by omega
    have hk0:(0:Int)≤(n:Int):=by omega
    obtain ⟨q2a,q2c,hqe,_,_,hqf⟩:=(HH2.out.keep D.fr).atomAt
    simp only [Value.slice.injEq] at hqe
    obtain ⟨rfl,_,rfl⟩:=hqe
    obtain ⟨b1,o1,rfl,_,hz1,hp1,hp2,hp3⟩:=hqf n hn8
    obtain ⟨X,hX⟩:∃ X,gd a2 n=X:=⟨_,rfl⟩
    obtain ⟨X1,X2,X3⟩:=X
    rw [hX] at hp1 hp2 hp3
    simp only at hp1 hp2 hp3
    obtain ⟨c,hc⟩:∃ c,m.testBit n=c:=⟨_,rfl⟩
    have hbit:=bit64 (k:=n) HM.out
    rw [hc] at hbit
    cases c with
    | false =>
      have HS:=Lib.hid (show pickN a2 m (n+1)=M by rw [pickN_no hc,HM2.out.1])
      have HD:=Lib.hid (And.intro D hBX)
      clear D hBX hqf hc hX
      go_wp2
      go_roundg (gk - 1)
      case rel=>exact ⟨n+1,_,by have:=HN.out;omega,by go_num,by rw [HS.out];exact HD.out.1,HD.out.2⟩
      case measure=>have:=HN.out;omega
    | true =>
      have HS:=Lib.hid (show pickN a2 m (n+1)=M ++ [(X1,X2,X3)] by rw [pickN_yes hc,HM2.out.1,hX])
      have d1:=box1 D.boxA
      have dz:=boxz D.boxA 1
      have dl:=box_lt D.boxA
      have HD:=Lib.hid (And.intro D hBX)
      have hlo:w.heap.size≤wr.heap.size:=D.fr.size
      have HLE:=Lib.hid (show M.length≤n∧n≤1048576 from ⟨HM2.out.2,by omega⟩)
      clear D hBX hqf hX hc
      go_upto_region 6 with fail
      go_region_law (first
       | (refine step_F (l:=M) (m:=[((X1,X2,X3):Atom)]) (B:=w.heap.size) (by rfl) (.tmp 21) (.tmp 27) _ (by rfl) ti_atom (by rfl) (HD.out.1.a.keep Bl) (by rfl) (lit_atom _ _ _ _ _) (by have:=HLE.out;simp;omega) (by simp;omega) ?_;intro v' w7 o7 hf7;obtain ⟨a7,n7,c7,rfl⟩:=o7.forms;have hA7:=box_tf (box_keep HD.out.1.boxA (w':=wr.drew.alloc (.cells #[.int .i64 X1,.int .i64 X2,.int .i64 X3] 118)) Bl) hf7 (by decide);have hb0:=box1 hA7;have hbz:=boxz hA7 1;have hbl7:=box_lt hA7;clear hA7)
       | fail)
      all_goals
       have hkp:Below wr.heap.size wr (wr.drew.alloc (.cells #[.int .i64 X1,.int .i64 X2,.int .i64 X3] 118)):=Bl
       have D9:=(HD.out.1.keep hkp).app2 (by omega) (by omega) o7 hf7
       have hB9:=box_other (box_tf (box_keep HD.out.2 hkp) hf7 (by decide)) ⟨w.heap.size+1+1,1,none⟩ (.slice a7 n7 c7) (by show ¬ w.heap.size=w.heap.size+1+1;omega)
       have H9:=Lib.hid (And.intro D9 hB9)
       clear D9 hB9 o7 hf7 hkp
       go_wp2
       go_roundg (gk - 1)
       case rel=>exact ⟨n+1,_,by have:=HN.out;omega,by go_num,by rw [HS.out];exact H9.out.1,H9.out.2⟩
       case measure=>have:=HN.out;omega
  · obtain rfl:n=a2.length:=by have:=HN.out;omega
    have b0:=box0 D.boxA
    have b1:=box1 D.boxA
    have bz:=boxz D.boxA
    have bl:=box_lt D.boxA
    have r0:=box0 D.boxR
    have r1:=box1 D.boxR
    have rz:=boxz D.boxR
    have rl:=box_lt D.boxR
    have r:=box_two (.slice none 0 0) (.slice ua2 M.length uc2) r0 r1
    have HO:=Lib.hid (D.done (by omega) (.slice none 0 0) (.slice ua2 M.length uc2))
    clear D hBX
    go_wp2
    refine bodyPost_ret (v:=.agg #[.slice none 0 0,.slice ua2 M.length uc2]) (by simp [results,Tryz.results155,go_sem,r.1,r.2]) rfl ?_
    exact ⟨_,rfl,by rw [← pickN_all,HM2.out.1];exact HO.out.1.2,HO.out.2⟩
end Go.Proofs.YtkbbmjcfgcfejaaGreat
