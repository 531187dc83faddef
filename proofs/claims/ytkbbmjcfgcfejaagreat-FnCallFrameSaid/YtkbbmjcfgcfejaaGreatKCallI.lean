/- Walk: impl.CallPost. -/
import Derived.Test.YtkbbmjcfgcfejaaGreatKFgt
import Derived.Test.YtkbbmjcfgcfejaaGreatKDTidy
import Derived.Handy
import Derived.BigQuiet
import Derived.Deep.DeepMust
import Derived.Deep.Cut
set_option linter.unusedVariables false
set_option linter.unusedSimpArgs false
namespace Go.Proofs.YtkbbmjcfgcfejaaGreat
open Go.RowKit
def BoxU (w wc:World) (C:Asn) (s:Value):Prop:=∃ (t:Nat) (x1 x2:Value),s=.pointer (some ⟨t,0,none⟩)∧wc.heap[t]?=some (.cells #[x1,x2] 26 (0,0))∧(RL wc (fun k=>¬ k=t) x1 C.1∧RL wc (fun k=>¬ k=t) x2 C.2)∧Below w.heap.size w wc∧w.heap.size≤t
theorem rl_put2n {α:Type} [Dat α] {w:World} {t:Nat} {v:Value} {l:List α} (h:RL w (fun k=>¬ k=t) v l) (x y:Value):RL ((w.setCell ⟨t,0,none⟩ x).setCell ⟨t,1,none⟩ y) (fun k=>¬ k=t) v l :=
 (h.kept (fr_set _ ⟨t,0,none⟩ x) fun k _ hk e=>hk e).kept (fr_set _ ⟨t,1,none⟩ y) fun k _ hk e=>hk e
theorem boxU_set {w w6:World} {t:Nat} {x1 x2 y1 y2:Value} {C:Asn} (h1:RL w6 (fun k=>¬ k=t) x1 C.1) (h2:RL w6 (fun k=>¬ k=t) x2 C.2) (hT:w6.heap[t]?=some (.cells #[y1,y2] 26 (0,0))) (hb:Below w.heap.size w w6) (h0:w.heap.size≤t) :
 BoxU w ((w6.setCell ⟨t,0,none⟩ x1).setCell ⟨t,1,none⟩ x2) C (.pointer (some ⟨t,0,none⟩)) :=
 ⟨t,x1,x2,rfl,box_set1 (box_set0 hT _) _,⟨rl_put2n h1 x1 x2,rl_put2n h2 x1 x2⟩,(hb.setCell (p:=⟨t,0,none⟩) h0 _).setCell (p:=⟨t,1,none⟩) h0 _,h0⟩
theorem boxU_alloc {w w6:World} {S1 S2:Nat→Prop} {x1 x2:Value} {C:Asn} (h1:RL w6 S1 x1 C.1) (h2:RL w6 S2 x2 C.2) (hb:Below w.heap.size w w6) :
 BoxU w (w6.alloc (.cells #[x1,x2] 26)) C (.pointer (some ⟨w6.heap.size,0,none⟩)) :=
 ⟨_,x1,x2,rfl,heap_alloc_new _ _,⟨(h1.more (S':=fun k=>¬ k=w6.heap.size) fun k hk _=>by omega).keep (below_alloc _ _),(h2.more (S':=fun k=>¬ k=w6.heap.size) fun k hk _=>by omega).keep (below_alloc _ _)⟩,ba hb _,hb.size⟩
def BoxV (w wc:World) (C:Asn) (s:Value):Prop:=∃ (t:Nat) (x1 x2:Value),s=.pointer (some ⟨t,0,none⟩)∧wc.heap[t]?=some (.cells #[x1,x2] 26 (0,0))∧(RL wc (fun k=>w.heap.size≤k∧¬ k=t) x1 C.1∧RL wc (fun k=>w.heap.size≤k∧¬ k=t) x2 C.2)∧Below w.heap.size w wc∧w.heap.size≤t
theorem rl_putS {α:Type} [Dat α] {w:World} {S:Nat→Prop} {t:Nat} {v:Value} {l:List α} (h:RL w S v l) (ht:∀ k,S k→¬ k=t) (x y:Value):RL ((w.setCell ⟨t,0,none⟩ x).setCell ⟨t,1,none⟩ y) S v l :=
 (h.kept (fr_set _ ⟨t,0,none⟩ x) fun k _ hk e=>ht k hk e).kept (fr_set _ ⟨t,1,none⟩ y) fun k _ hk e=>ht k hk e
theorem boxV_set {w w6:World} {t:Nat} {x1 x2 y1 y2:Value} {C:Asn} (h1:RL w6 (fun k=>w.heap.size≤k∧¬ k=t) x1 C.1) (h2:RL w6 (fun k=>w.heap.size≤k∧¬ k=t) x2 C.2) (hT:w6.heap[t]?=some (.cells #[y1,y2] 26 (0,0))) (hb:Below w.heap.size w w6) (h0:w.heap.size≤t) :
 BoxV w ((w6.setCell ⟨t,0,none⟩ x1).setCell ⟨t,1,none⟩ x2) C (.pointer (some ⟨t,0,none⟩)) :=
 ⟨t,x1,x2,rfl,box_set1 (box_set0 hT _) _,⟨rl_putS h1 (fun _ h=>h.2) x1 x2,rl_putS h2 (fun _ h=>h.2) x1 x2⟩,(hb.setCell (p:=⟨t,0,none⟩) h0 _).setCell (p:=⟨t,1,none⟩) h0 _,h0⟩
theorem boxV_alloc {w w6:World} {x1 x2:Value} {C:Asn} (h1:RL w6 (fun k=>w.heap.size≤k) x1 C.1) (h2:RL w6 (fun k=>w.heap.size≤k) x2 C.2) (hb:Below w.heap.size w w6) :
 BoxV w (w6.alloc (.cells #[x1,x2] 26)) C (.pointer (some ⟨w6.heap.size,0,none⟩)) :=
 ⟨_,x1,x2,rfl,heap_alloc_new _ _,⟨(h1.more (S':=fun k=>w.heap.size≤k∧¬ k=w6.heap.size) fun k hk h=>⟨h,by omega⟩).keep (below_alloc _ _),(h2.more (S':=fun k=>w.heap.size≤k∧¬ k=w6.heap.size) fun k hk h=>⟨h,by omega⟩).keep (below_alloc _ _)⟩,ba hb _,hb.size⟩
theorem rl_low {α:Type} [Dat α] {w:World} {S:Nat→Prop} {v:Value} {l:List α} (h:RL w S v l):RL w (fun k=>k < w.heap.size) v l:=h.more fun k hk _=>hk
theorem rl_low_put {α:Type} [Dat α] {w:World} {B t:Nat} {v:Value} {l:List α} (h:RL w (fun k=>k < B) v l) (ht:B≤t) (x y:Value):RL ((w.setCell ⟨t,0,none⟩ x).setCell ⟨t,1,none⟩ y) (fun k=>k < B) v l :=
 (h.kept (fr_set _ ⟨t,0,none⟩ x) fun k _ hk e=>by have h2:k < B:=hk;have e2:k=t:=e;omega).kept (fr_set _ ⟨t,1,none⟩ y) fun k _ hk e=>by have h2:k < B:=hk;have e2:k=t:=e;omega
theorem RCon.low {w:World} {S:Nat→Prop} {p1 p2 q1 q2 ch:Value} {k:Con} (h:RCon w S p1 p2 q1 q2 ch k):RCon w (fun k=>k < w.heap.size) p1 p2 q1 q2 ch k :=
 ⟨rl_low h.pre1,rl_low h.pre2,rl_low h.post1,rl_low h.post2,rl_low h.chg⟩
theorem RCon.put {w:World} {B t:Nat} {p1 p2 q1 q2 ch:Value} {k:Con} (h:RCon w (fun k=>k < B) p1 p2 q1 q2 ch k) (ht:B≤t) (x y:Value):RCon ((w.setCell ⟨t,0,none⟩ x).setCell ⟨t,1,none⟩ y) (fun k=>k < B) p1 p2 q1 q2 ch k :=
 ⟨rl_low_put h.pre1 ht x y,rl_low_put h.pre2 ht x y,rl_low_put h.post1 ht x y,rl_low_put h.post2 ht x y,rl_low_put h.chg ht x y⟩
theorem BoxK.put {w:World} {b t:Nat} {p1 p2 q1 q2 ch:Value} (h:BoxK w b p1 p2 q1 q2 ch) (hb:¬ b=t) (x y:Value):BoxK ((w.setCell ⟨t,0,none⟩ x).setCell ⟨t,1,none⟩ y) b p1 p2 q1 q2 ch:=box_other (box_other h ⟨t,0,none⟩ x hb) ⟨t,1,none⟩ y hb
theorem box_put2 {w:World} {t:Nat} {y1 y2:Value} {T:TypeId} (h:w.heap[t]?=some (.cells #[y1,y2] T (0,0))) (x y:Value):((w.setCell ⟨t,0,none⟩ x).setCell ⟨t,1,none⟩ y).heap[t]?=some (.cells #[x,y] T (0,0)):=box_set1 (box_set0 h _) _
theorem box_off2 {w:World} {b t:Nat} {cs:Array Value} {T:TypeId} (h:w.heap[b]?=some (.cells cs T (0,0))) (hb:¬ b=t) (x y:Value):((w.setCell ⟨t,0,none⟩ x).setCell ⟨t,1,none⟩ y).heap[b]?=some (.cells cs T (0,0)):=box_other (box_other h ⟨t,0,none⟩ x hb) ⟨t,1,none⟩ y hb
theorem below_put2 {w0 w:World} {B t:Nat} (h:Below B w0 w) (hb:B≤t) (x y:Value):Below B w0 ((w.setCell ⟨t,0,none⟩ x).setCell ⟨t,1,none⟩ y):=(h.setCell (p:=⟨t,0,none⟩) hb x).setCell (p:=⟨t,1,none⟩) hb y
set_option maxRecDepth 100000 in
set_option maxHeartbeats 6400000 in
theorem callI_any {S1 S2 S:Nat→Prop} (v1 v2 p1 p2 q1 q2 ch kv:Value) (a:Asn) (k:Con) (keep:List Int) (w:World) (h1:RL w S1 v1 a.1) (h2:RL w S2 v2 a.2) (hk:RCon w S p1 p2 q1 q2 ch k) (hkv:RInts w kv keep) :
 Calls Tryz.prog 13 #[.agg #[v1,v2],.agg #[p1,p2,q1,q2,ch],kv] w fun e w'=>∃ x1 x2,e=.returned (.tuple #[.agg #[x1,x2],.bool (callO a k keep).isSome])∧(RL w' (fun _=>True) x1 ((callO a k keep).getD ([],[])).1∧RL w' (fun _=>True) x2 ((callO a k keep).getD ([],[])).2)∧Below w.heap.size w w':=by
 obtain ⟨xa1,xc1,rfl⟩:=h1.form
 obtain ⟨xa2,xc2,rfl⟩:=h2.form
 obtain ⟨ya1,yc1,rfl⟩:=hk.pre1.form
 obtain ⟨ya2,yc2,rfl⟩:=hk.pre2.form
 obtain ⟨za1,zc1,rfl⟩:=hk.post1.form
 obtain ⟨za2,zc2,rfl⟩:=hk.post2.form
 obtain ⟨ca,cc,rfl⟩:=hk.chg.form
 obtain ⟨ka,kc,rfl⟩:=hkv.form
 obtain ⟨w0,hw0⟩:∃ w0,w0=(((w.alloc (.cells #[.slice xa1 a.1.length xc1,.slice xa2 a.2.length xc2] 26)).alloc (.cells #[.slice ya1 k.1.1.length yc1,.slice ya2 k.1.2.length yc2,.slice za1 k.2.1.1.length zc1,.slice za2 k.2.1.2.length zc2,.slice ca k.2.2.length cc] 29)).alloc (.cells #[.slice none 0 0,.slice none 0 0] 26)):=⟨_,rfl⟩
 have hA:w0.heap[w.heap.size]?=some (.cells #[.slice xa1 a.1.length xc1,.slice xa2 a.2.length xc2] 26 (0,0)):=by
  rw [hw0];exact box_keep (box_keep (heap_alloc_new w _) (below_alloc _ _)) (below_alloc _ _)
 have hK:BoxK w0 (w.heap.size+1) (.slice ya1 k.1.1.length yc1) (.slice ya2 k.1.2.length yc2) (.slice za1 k.2.1.1.length zc1) (.slice za2 k.2.1.2.length zc2) (.slice ca k.2.2.length cc):=by
  rw [hw0]
  have:=(boxK_new (w.alloc (.cells #[.slice xa1 a.1.length xc1,.slice xa2 a.2.length xc2] 26)) (.slice ya1 k.1.1.length yc1) (.slice ya2 k.1.2.length yc2) (.slice za1 k.2.1.1.length zc1) (.slice za2 k.2.1.2.length zc2) (.slice ca k.2.2.length cc)).keep (below_alloc _ (.cells #[.slice none 0 0,.slice none 0 0] 26))
  simpa using this
 have hR:w0.heap[w.heap.size+1+1]?=some (.cells #[.slice none 0 0,.slice none 0 0] 26 (0,0)):=by
  rw [hw0]
  have:=heap_alloc_new ((w.alloc (.cells #[.slice xa1 a.1.length xc1,.slice xa2 a.2.length xc2] 26)).alloc (.cells #[.slice ya1 k.1.1.length yc1,.slice ya2 k.1.2.length yc2,.slice za1 k.2.1.1.length zc1,.slice za2 k.2.1.2.length zc2,.slice ca k.2.2.length cc] 29)) (.cells #[.slice none 0 0,.slice none 0 0] 26)
  simpa using this
 have hW:Below w.heap.size w w0:=by rw [hw0];exact ba (ba (below_alloc _ _) _) _
 have far:∀ {k:Nat} {S:Nat→Prop},k < w.heap.size→S k→(fun k=>k < w.heap.size) k:=fun h _=>h
 have HW0:=Lib.hid hw0
 -- what is read,below the boxes
 have HD0:=Lib.hid (And.intro (And.intro ((h1.more (S':=fun k=>k < w.heap.size) fun k hk _=>hk).keep hW) ((h2.more (S':=fun k=>k < w.heap.size) fun k hk _=>hk).keep hW)) (And.intro (hk.low.keep hW) (hkv.keep hW)))
 have HB0:=Lib.hid (And.intro (And.intro hA (And.intro hK hR)) hW)
 clear hA hK hR hW hw0 h1 h2 hk hkv far
 obtain ⟨A,hA⟩:∃ A,asnB a=A:=⟨_,rfl⟩
 obtain ⟨B,hB⟩:∃ B,conB k=B:=⟨_,rfl⟩
 obtain ⟨R,hR⟩:∃ R,callO a k keep=R:=⟨_,rfl⟩
 have hr:=hR
 rw [callO,hA,hB] at hr
 rw [hR]
 have HR:=Lib.hid (And.intro hr (And.intro hA hB))
 clear hr hA hB hR
 go_enter Tryz.func13,Tryz.ntmps13
 go_wp2_with fail
 rw [← HW0.out]
 refine (cb (asnValidI_any _ _ a _ HD0.out.1.1 HD0.out.1.2) HR.out.2.1).mono ?_
 rintro e w1 ⟨rfl,hb1⟩
 have HB1:=Lib.hid (And.intro (And.intro (box_keep HB0.out.1.1 hb1) (And.intro (HB0.out.1.2.1.keep hb1) (box_keep HB0.out.1.2.2 hb1))) (bt HB0.out.2 hb1))
 have HD1:=Lib.hid (And.intro (And.intro (HD0.out.1.1.keep hb1) (HD0.out.1.2.keep hb1)) (And.intro (HD0.out.2.1.keep hb1) (HD0.out.2.2.keep hb1)))
 clear HB0 HD0 hb1
 have NIL:∀ w1:World,R=none→Below w.heap.size w w1→∃ x1 x2,(Ending.returned (.tuple #[.agg #[.slice none 0 0,.slice none 0 0],.bool false]))=.returned (.tuple #[.agg #[x1,x2],.bool R.isSome])∧(RL ((w1.setCell ⟨w.heap.size+1+1,0,none⟩ (.slice none 0 0)).setCell ⟨w.heap.size+1+1,1,none⟩ (.slice none 0 0)) (fun _=>True) x1 (R.getD ([],[])).1∧RL ((w1.setCell ⟨w.heap.size+1+1,0,none⟩ (.slice none 0 0)).setCell ⟨w.heap.size+1+1,1,none⟩ (.slice none 0 0)) (fun _=>True) x2 (R.getD ([],[])).2)∧Below w.heap.size w ((w1.setCell ⟨w.heap.size+1+1,0,none⟩ (.slice none 0 0)).setCell ⟨w.heap.size+1+1,1,none⟩ (.slice none 0 0)):=by
  intro w1 hn hb
  rw [hn]
  exact ⟨_,_,rfl,⟨RL.nil _ _,RL.nil _ _⟩,(hb.setCell (p:=⟨w.heap.size+1+1,0,none⟩) (by simp;omega) _).setCell (p:=⟨w.heap.size+1+1,1,none⟩) (by simp;omega) _⟩
 have HNIL:=Lib.hid NIL
 clear NIL
 cases A with
 | false =>
   have r0:=box0 HB1.out.1.2.2
   have r1:=box1 HB1.out.1.2.2
   have rz:=boxz HB1.out.1.2.2
   have rl:=box_lt HB1.out.1.2.2
   have rr:=box_two (.slice none 0 0) (.slice none 0 0) r0 r1
   go_wp2
   refine bodyPost_ret (v:=.tuple #[.agg #[.slice none 0 0,.slice none 0 0],.bool false]) (by simp [results,Tryz.results13,go_sem,rr.1,rr.2]) rfl ?_
   exact HNIL.out _ (by rw [← HR.out.1];rfl) HB1.out.2
 | true =>
 obtain ⟨b0,b1,b2,b3,b4⟩:=HB1.out.1.2.1.cells
 have bl:=HB1.out.1.2.1.lt
 go_wp2_with fail
 refine (cb (conValidI_any _ _ _ _ _ k _ HD1.out.2.1) HR.out.2.2).mono ?_
 rintro e w2 ⟨rfl,hb2⟩
 have HB2:=Lib.hid (And.intro (And.intro (box_keep HB1.out.1.1 hb2) (And.intro (HB1.out.1.2.1.keep hb2) (box_keep HB1.out.1.2.2 hb2))) (bt HB1.out.2 hb2))
 have HD2:=Lib.hid (And.intro (And.intro (HD1.out.1.1.keep hb2) (HD1.out.1.2.keep hb2)) (And.intro (HD1.out.2.1.keep hb2) (HD1.out.2.2.keep hb2)))
 clear HB1 HD1 hb2 b0 b1 b2 b3 b4 bl
 cases B with
 | false =>
   have r0:=box0 HB2.out.1.2.2
   have r1:=box1 HB2.out.1.2.2
   have rz:=boxz HB2.out.1.2.2
   have rl:=box_lt HB2.out.1.2.2
   have rr:=box_two (.slice none 0 0) (.slice none 0 0) r0 r1
   go_wp2
   refine bodyPost_ret (v:=.tuple #[.agg #[.slice none 0 0,.slice none 0 0],.bool false]) (by simp [results,Tryz.results13,go_sem,rr.1,rr.2]) rfl ?_
   exact HNIL.out _ (by rw [← HR.out.1];rfl) HB2.out.2
 | true =>
 have hpv:asnB k.1=true∧(asnB k.2.1=true∧chgsB k.2.2=true):=by have h:=HR.out.2.2;rw [conB,Bool.and_eq_true,Bool.and_eq_true] at h;exact h
 obtain ⟨F,hF⟩:∃ F,frameO a k.1=F:=⟨_,rfl⟩
 have hfr:frR a k.1=F:=by rw [frR,HR.out.2.1,hpv.1,if_pos (by decide),hF]
 have hr:=HR.out.1
 rw [Bool.true_and,if_pos rfl,hF] at hr
 have HF:=Lib.hid (And.intro hr (And.intro hfr (And.intro hF hpv)))
 clear hr hfr hF hpv
 obtain ⟨b0,b1,b2,b3,b4⟩:=HB2.out.1.2.1.cells
 have bl:=HB2.out.1.2.1.lt
 have a0:=box0 HB2.out.1.1
 have a1:=box1 HB2.out.1.1
 have al:=box_lt HB2.out.1.1
 go_wp2_with fail
 refine (frameI_any _ _ _ _ a k.1 _ HD2.out.1.1 HD2.out.1.2 HD2.out.2.1.pre1 HD2.out.2.1.pre2).mono ?_
 rw [HF.out.2.1]
 rintro e w3 ⟨x2,rfl,o3,hb3⟩
 obtain ⟨fa,fn,fc,rfl⟩:=o3.forms
 have HB3:=Lib.hid (And.intro (And.intro (box_keep HB2.out.1.1 hb3) (And.intro (HB2.out.1.2.1.keep hb3) (box_keep HB2.out.1.2.2 hb3))) (bt HB2.out.2 hb3))
 have HD3:=Lib.hid (And.intro (And.intro (HD2.out.1.1.keep hb3) (HD2.out.1.2.keep hb3)) (And.intro (HD2.out.2.1.keep hb3) (HD2.out.2.2.keep hb3)))
 have HO3:=Lib.hid o3.rl
 clear HB2 HD2 hb3 b0 b1 b2 b3 b4 bl a0 a1 al o3
 cases F with
 | none =>
   have r0:=box0 HB3.out.1.2.2
   have r1:=box1 HB3.out.1.2.2
   have rz:=boxz HB3.out.1.2.2
   have rl:=box_lt HB3.out.1.2.2
   have HR3:=Lib.hid (box_keep HB3.out.1.2.2 (below_alloc w3 (.cells #[.slice none 0 0,.slice fa fn fc] 26)))
   have r0':=box0 HR3.out
   have r1':=box1 HR3.out
   have rz':=boxz HR3.out
   have rl':=box_lt HR3.out
   have rr:=box_two (.slice none 0 0) (.slice none 0 0) r0' r1'
   clear r0 r1 rz rl
   go_wp2
   refine bodyPost_ret (v:=.tuple #[.agg #[.slice none 0 0,.slice none 0 0],.bool false]) (by simp [results,Tryz.results13,go_sem,rr.1,rr.2]) rfl ?_
   exact HNIL.out _ (by rw [← HF.out.1];rfl) (ba HB3.out.2 _)
 | some f =>
   have hbF:=below_alloc w3 (.cells #[.slice none 0 0,.slice fa fn fc] 26)
   obtain ⟨W,hWd⟩:∃ W,W=w3.alloc (.cells #[.slice none 0 0,.slice fa fn fc] 26):=⟨_,rfl⟩
   have hFX:=heap_alloc_new w3 (.cells #[.slice none 0 0,.slice fa fn fc] 26)
   rw [← hWd] at hbF hFX
   have HW:=Lib.hid hWd
   have HB4:=Lib.hid (And.intro (And.intro (box_keep HB3.out.1.1 hbF) (And.intro (HB3.out.1.2.1.keep hbF) (box_keep HB3.out.1.2.2 hbF))) (And.intro (bt HB3.out.2 hbF) hFX))
   have HD4:=Lib.hid (And.intro (And.intro (HD3.out.1.1.keep hbF) (HD3.out.1.2.keep hbF)) (And.intro (HD3.out.2.1.keep hbF) (And.intro (HD3.out.2.2.keep hbF) ((show RL w3 (fun k=>w2.heap.size≤k) (.slice fa fn fc) f from HO3.out).keep hbF))))
   clear hbF hFX hWd HB3 HD3 HO3
   obtain ⟨M,hM⟩:∃ M,takenM a k keep=M:=⟨_,rfl⟩
   have hr:=HF.out.1
   rw [Option.bind_some,hM] at hr
   obtain ⟨A1,hA1⟩:∃ X,termsM a=X:=⟨_,rfl⟩
   obtain ⟨A2,hA2⟩:∃ X,termsM k.1=X:=⟨_,rfl⟩
   obtain ⟨A3,hA3⟩:∃ X,termsM k.2.1=X:=⟨_,rfl⟩
   obtain ⟨A4,hA4⟩:∃ X,keepM keep=X:=⟨_,rfl⟩
   have hMM:((A1 ||| A2) ||| A3) ||| A4=M:=by rw [← hM,takenM,hA1,hA2,hA3,hA4]
   have l1:A1 < 65536:=by rw [← hA1];exact termsM_lt _
   have l2:A2 < 65536:=by rw [← hA2];exact termsM_lt _
   have l3:A3 < 65536:=by rw [← hA3];exact termsM_lt _
   have l4:A4 < 65536:=by rw [← hA4];exact keepM_lt _
   have l12:A1 ||| A2 < 65536:=Nat.or_lt_two_pow (n:=16) l1 l2
   have l123:(A1 ||| A2) ||| A3 < 65536:=Nat.or_lt_two_pow (n:=16) l12 l3
   have lM:M < 65536:=by rw [← hMM];exact Nat.or_lt_two_pow (n:=16) l123 l4
   have o1:=u16_or_nat A1 A2 l1 l2
   have o2:=u16_or_nat (A1 ||| A2) A3 l12 l3
   have o3:=u16_or_nat ((A1 ||| A2) ||| A3) A4 l123 l4
   rw [hMM] at o3
   have HM:=Lib.hid (And.intro hr (And.intro lM hM))
   have HT:=Lib.hid (And.intro hA1 (And.intro hA2 (And.intro hA3 hA4)))
   clear hr hM hA1 hA2 hA3 hA4 hMM l1 l2 l3 l4 l12 l123 lM
   go_upto_region 6 with fail
   rw [← HW.out]
   have b:=HB4.out.1.2.1.cells
   obtain ⟨b0,b1,b2,b3,b4⟩:=b
   have bl:=HB4.out.1.2.1.lt
   have a0:=box0 HB4.out.1.1
   have a1:=box1 HB4.out.1.1
   have al:=box_lt HB4.out.1.1
   go_cut [10] from 10 (fun s10 wc=>s10=.int .u16 (M:Int)∧Below W.heap.size W wc)
   case first =>
    refine wp_region_ext (by kernel_rfl) (by kernel_rfl) ?_
    have t1:∀ x:Ext W,Calls Tryz.prog 66 #[.agg #[.slice xa1 a.1.length xc1,.slice xa2 a.2.length xc2]] (ext W x) fun e w'=>e=.returned (.int .u16 (A1:Int))∧Below (ext W x).heap.size (ext W x) w':=fun x=>by
     have:=termsIn_any _ _ a _ (HD4.out.1.1.keep x.below) (HD4.out.1.2.keep x.below)
     rw [HT.out.1] at this;exact this
    have t2:∀ x:Ext W,Calls Tryz.prog 66 #[.agg #[.slice ya1 k.1.1.length yc1,.slice ya2 k.1.2.length yc2]] (ext W x) fun e w'=>e=.returned (.int .u16 (A2:Int))∧Below (ext W x).heap.size (ext W x) w':=fun x=>by
     have:=termsIn_any _ _ k.1 _ (HD4.out.2.1.pre1.keep x.below) (HD4.out.2.1.pre2.keep x.below)
     rw [HT.out.2.1] at this;exact this
    have t3:∀ x:Ext W,Calls Tryz.prog 66 #[.agg #[.slice za1 k.2.1.1.length zc1,.slice za2 k.2.1.2.length zc2]] (ext W x) fun e w'=>e=.returned (.int .u16 (A3:Int))∧Below (ext W x).heap.size (ext W x) w':=fun x=>by
     have:=termsIn_any _ _ k.2.1 _ (HD4.out.2.1.post1.keep x.below) (HD4.out.2.1.post2.keep x.below)
     rw [HT.out.2.2.1] at this;exact this
    have t4:∀ x:Ext W,Calls Tryz.prog 67 #[.slice ka keep.length kc] (ext W x) fun e w'=>e=.returned (.int .u16 (A4:Int))∧ext W x=w':=fun x=>by
     have:=setOfTerms_any _ keep _ (HD4.out.2.2.1.keep x.below)
     rw [HT.out.2.2.2] at this;exact this
    have HT1:=Lib.hid t1
    have HT2:=Lib.hid t2
    have HT3:=Lib.hid t3
    have HT4:=Lib.hid t4
    clear t1 t2 t3 t4
    repeat (go_big_quiet_step (first
     | (go_at_call 66;first | with_reducible exact ext_c (HT1.out _) | with_reducible exact ext_c (HT2.out _) | with_reducible exact ext_c (HT3.out _))
     | (go_at_call 67;with_reducible exact ext_same (HT4.out _))))
    refine wpQuiet_nil ?_
    intro w6 hb6
    go_wp2
    go_meet
    case rel=>exact ⟨rfl,hb6⟩
   case rest =>
    obtain ⟨rfl,hbw⟩:=hcut
    have HB5:=Lib.hid (And.intro (And.intro (box_keep HB4.out.1.1 hbw) (And.intro (HB4.out.1.2.1.keep hbw) (box_keep HB4.out.1.2.2 hbw))) (And.intro (bt HB4.out.2.1 hbw) (box_keep HB4.out.2.2 hbw)))
    have HD5:=Lib.hid (And.intro (And.intro (HD4.out.1.1.keep hbw) (HD4.out.1.2.keep hbw)) (And.intro (HD4.out.2.1.keep hbw) (And.intro (HD4.out.2.2.1.keep hbw) ((HD4.out.2.2.2.more (S':=fun k=>k < W.heap.size) fun k hk _=>hk).keep hbw))))
    have HWZ:=Lib.hid hbw.size
    have hlf:a.1.length≤16777216:=by have:=(asnLe HR.out.2.1).1.1;omega
    clear hbw b0 b1 b2 b3 b4 bl a0 a1 al o1 o2 o3 HB4 HD4
    have a0:=box0 HB5.out.1.1
    have al:=box_lt HB5.out.1.1
    have f1:=box1 HB5.out.2.2
    have fl:=box_lt HB5.out.2.2
    have HLF:=Lib.hid hlf
    clear hlf
    go_upto_region 7 with fail
    generalize w3.heap.size=bF at HB5 f1 fl ⊢
    go_cut [11] from 11 (fun s11 wd=>BoxU wc wd (a.1,f) s11)
    case first =>
     go_region_held3 (fun w'=>w'.cell? ⟨w.heap.size,0,none⟩=some (.slice xa1 a.1.length xc1)∧w'.cell? ⟨bF,1,none⟩=some (.slice fa fn fc))
      (exact ⟨(by repeat (first | with_reducible exact a0 | (with_reducible refine (fr_set _ _ _).cell (by first | (simp;done) | (simp;omega) | omega) ?_) | exact cell_keep Bl a0)),(by repeat (first | with_reducible exact f1 | (with_reducible refine (fr_set _ _ _).cell (by first | (simp;done) | (simp;omega) | omega) ?_) | exact cell_keep Bl f1))⟩)
      (first
        | (go_at_call 68;go_must (refine (joinFacts_any (S2:=fun _=>True) _ _ a.1 [] _ (HD5.out.1.1.keep Bl) (RL.nil _ _) (by have:=HLF.out;simp;omega)).mono ?_;rw [List.append_nil];rintro e w5 ⟨x1,rfl,⟨g5,o5,n5⟩,hb5'⟩;obtain ⟨d1,m1,k1,rfl⟩:=o5.read.forms;have hb5:Below wc.heap.size wc w5:=bt Bl hb5';have hz5:=hb5.size;have q5:=o5.read.more (S':=fun k=>wc.heap.size≤k) (fun k _ hk=>by have h1:=(o5.lt k hk).1;(try simp only [World.size_alloc,World.size_drew] at h1);show wc.heap.size≤k;omega);(first | (have hT5:w5.heap[wc.heap.size]?=some (.cells #[.slice none 0 0,.slice none 0 0] 26 (0,0)):=box_keep (heap_alloc_new wc (.cells #[.slice none 0 0,.slice none 0 0] 26)) hb5';have ht0:=box0 hT5;have ht1:=box1 hT5;have htz:=boxz hT5;have htl:=box_lt hT5;have q5n:=o5.read.more (S':=fun k=>¬ k=wc.heap.size) (fun k _ hk=>by have h1:=(o5.lt k hk).1;(try simp only [World.size_alloc,World.size_drew] at h1);show ¬ k=wc.heap.size;omega)) | (have hT5:w5.heap[wc.heap.size]?=some (.cells #[.slice none 0 0,.slice none 0 0] 26 (0,0)):=box_keep (heap_alloc_new wc.drew (.cells #[.slice none 0 0,.slice none 0 0] 26)) hb5';have ht0:=box0 hT5;have ht1:=box1 hT5;have htz:=boxz hT5;have htl:=box_lt hT5;have q5n:=o5.read.more (S':=fun k=>¬ k=wc.heap.size) (fun k _ hk=>by have h1:=(o5.lt k hk).1;(try simp only [World.size_alloc,World.size_drew] at h1);show ¬ k=wc.heap.size;omega)) | skip);clear o5)))
     all_goals
      have HQ:=Lib.hid (And.intro q5 (And.intro (HD5.out.2.2.2.keep hb5) hb5))
      clear q5
      go_wp2
      go_meet
      case rel =>
       first
         | exact boxU_alloc HQ.out.1 HQ.out.2.1 HQ.out.2.2
         | exact boxU_set q5n (HQ.out.2.1.more fun k _ hk e=>by have h2:k < W.heap.size:=hk;have:=HWZ.out;omega) hT5 HQ.out.2.2 (Nat.le_refl _)
         | fail
    case rest =>
     obtain ⟨t,y1,y2,rfl,hT,⟨r1,r2⟩,hbd,htz⟩:=hcut
     obtain ⟨da1,dc1,rfl⟩:=r1.form
     obtain ⟨da2,dc2,rfl⟩:=r2.form
     have hpos:=HB5.out.2.1.size
     have hWw:=HB5.out.1.2.2
     have hRl:=box_lt hWw
     have HTZ:=Lib.hid (And.intro htz (show w.heap.size+1+1 < t by omega))
     have HB6:=Lib.hid (And.intro (And.intro hT (And.intro (HB5.out.1.2.1.keep hbd) (box_keep HB5.out.1.2.2 hbd))) (And.intro (And.intro r1 r2) (And.intro (bt HB5.out.2.1 hbd) (HD5.out.2.1.keep hbd))))
     have hv0:=frame_valid HR.out.2.1 HF.out.2.2.1
     have hch:=HD5.out.2.1.chg.len
     unfold maxLen at hch
     obtain ⟨n,hn⟩:∃ n,k.2.2.length=n:=⟨_,rfl⟩
     have HN:=Lib.hid hn
     rw [hn] at hch HB6 ⊢
     have HV0:=Lib.hid hv0
     obtain ⟨b0,b1,b2,b3,b4⟩:=HB6.out.1.2.1.cells
     have bl:=HB6.out.1.2.1.lt
     clear r1 r2 hT hbd htz hpos hWw hRl hv0 hn a0 al f1 fl
     go_wp2
     clear b0 b1 b2 b3 b4 bl
     go_loopg [58] n (fun q i wr=>∃ (j:Nat) (y1 y2:Value) (r:Asn),j+q=n∧i=.int .i64 j∧(forgetL M (k.2.2.take j) (a.1,f)=some r∧asnB r=true)∧(wr.heap[t]?=some (.cells #[y1,y2] 26 (0,0))∧BoxK wr (w.heap.size+1) (.slice ya1 k.1.1.length yc1) (.slice ya2 k.1.2.length yc2) (.slice za1 k.2.1.1.length zc1) (.slice za2 k.2.1.2.length zc2) (.slice ca n cc)∧wr.heap[w.heap.size+1+1]?=some (.cells #[.slice none 0 0,.slice none 0 0] 26 (0,0)))∧(RL wr (fun k=>¬ k=t) y1 r.1∧RL wr (fun k=>¬ k=t) y2 r.2)∧Below w.heap.size w wr∧RCon wr (fun k=>k < w.heap.size) (.slice ya1 k.1.1.length yc1) (.slice ya2 k.1.2.length yc2) (.slice za1 k.2.1.1.length zc1) (.slice za2 k.2.1.2.length zc2) (.slice ca n cc) k)
     case atStart=>exact ⟨0,_,_,(a.1,f),by omega,rfl,⟨rfl,HV0.out⟩,HB6.out.1,HB6.out.2.1,HB6.out.2.2.1,HB6.out.2.2.2⟩
     case round =>
      obtain ⟨j,y1,y2,r,hj,rfl,hfr,hBX,hrr,hbw,hcon⟩:=hrel
      obtain ⟨ea1,ec1,rfl⟩:=hrr.1.form
      obtain ⟨ea2,ec2,rfl⟩:=hrr.2.form
      have HJ:=Lib.hid (And.intro hj (And.intro hfr hbw))
      have HX:=Lib.hid (And.intro hBX (And.intro hrr hcon))
      have t0:=box0 hBX.1
      have t1:=box1 hBX.1
      have tl:=box_lt hBX.1
      clear hj hfr hBX hrr hbw
      by_cases hj8:j < n
      · have hji:(j:Int) < (n:Int):=by omega
        have hnn:=HN.out
        obtain ⟨xa,xc,hxe,hcell⟩:=hcon.chg.ints.cells
        simp only [Value.slice.injEq] at hxe
        obtain ⟨rfl,hlen,rfl⟩:=hxe
        clear hlen
        obtain ⟨b,o,rfl,hzb,hck⟩:=hcell j (by omega)
        obtain ⟨x,hx⟩:∃ x,gi k.2.2 j=x:=⟨_,rfl⟩
        rw [hx] at hck
        have hst:=forgetL_step (m:=M) (l:=k.2.2) (a:=(a.1,f)) (k:=j) (by omega)
        rw [HJ.out.2.1.1,Option.bind_some,hx,forgetO_eq] at hst
        obtain ⟨G,hG⟩:∃ G,forgetN r x M=G:=⟨_,rfl⟩
        rw [hG] at hst
        have hrv:=HJ.out.2.1.2
        have hle:=asnLe hrv
        have hfc:=forgetI_any (.slice ea1 r.1.length ec1) (.slice ea2 r.2.length ec2) r x M wr HX.out.2.1.1 HX.out.2.1.2 HM.out.2.1 (by omega) (by omega)
        rw [hG] at hfc
        have HG:=Lib.hid (And.intro hst (And.intro hG hrv))
        have HFC:=Lib.hid hfc
        clear hnn hcon hcell hx hst hG hrv hle hfc
        go_wp2_with fail
        refine HFC.out.mono ?_
        rintro e w5 ⟨x1,x2,rfl,⟨q1,q2⟩,hb5⟩
        obtain ⟨ga1,gn1,gc1,rfl⟩:=q1.forms
        obtain ⟨ga2,gn2,gc2,rfl⟩:=q2.forms
        have hbG:=below_alloc w5 (.cells #[.slice ga1 gn1 gc1,.slice ga2 gn2 gc2,.int .i64 (fgX G x),.int .i64 (fgP G)] 113)
        have hGX:=heap_alloc_new w5 (.cells #[.slice ga1 gn1 gc1,.slice ga2 gn2 gc2,.int .i64 (fgX G x),.int .i64 (fgP G)] 113)
        have hb6:=bt hb5 hbG
        have HY:=Lib.hid (And.intro (And.intro (q1.keep hbG) (q2.keep hbG)) (And.intro hGX hb6))
        have hR6:=box_keep HX.out.1.2.2 hb6
        have hT6:=box_keep HX.out.1.1 hb6
        have hz5:=hb5.size
        clear q1 q2 hbG hGX hb5 hb6 HFC t0 t1 tl hck
        cases G with
        | none =>
          have hbad:R=none:=by
           have h1:=HM.out.1
           rw [forgetL_cut (k:=j+1) (by rw [HG.out.1];rfl)] at h1
           exact h1.symm
          have HBAD:=Lib.hid hbad
          have r0:=box0 hR6
          have r1:=box1 hR6
          have rz:=boxz hR6
          have rl:=box_lt hR6
          have rr:=box_two (.slice none 0 0) (.slice none 0 0) r0 r1
          clear hbad hT6
          go_wp2
          refine bodyPost_ret (v:=.tuple #[.agg #[.slice none 0 0,.slice none 0 0],.bool false]) (by simp [results,Tryz.results13,go_sem,rr.1,rr.2]) rfl ?_
          exact HNIL.out _ HBAD.out (bt HJ.out.2.2 HY.out.2.2)
        | some G =>
          obtain ⟨⟨g0,g1,g2,g3⟩,gz⟩:=box_four HY.out.2.1
          have gl:=box_lt HY.out.2.1
          have t0:=box0 hT6
          have t1:=box1 hT6
          have tz:=boxz hT6
          have tl:=box_lt hT6
          have hRb:=box_lt HX.out.1.2.2
          have htt:=HTZ.out.2
          have htl:=box_lt HX.out.1.1
          have H6:=Lib.hid (And.intro (And.intro (box_put2 hT6 (.slice ga1 gn1 gc1) (.slice ga2 gn2 gc2)) (And.intro ((HX.out.1.2.1.keep HY.out.2.2).put (t:=t) (by omega) (.slice ga1 gn1 gc1) (.slice ga2 gn2 gc2)) (box_off2 (t:=t) hR6 (by omega) (.slice ga1 gn1 gc1) (.slice ga2 gn2 gc2)))) (And.intro (And.intro (rl_put2n (HY.out.1.1.more (S':=fun k=>¬ k=t) fun k _ hk e=>by have h2:wr.heap.size≤k:=hk;omega) (.slice ga1 gn1 gc1) (.slice ga2 gn2 gc2)) (rl_put2n (HY.out.1.2.more (S':=fun k=>¬ k=t) fun k _ hk e=>by have h2:wr.heap.size≤k:=hk;omega) (.slice ga1 gn1 gc1) (.slice ga2 gn2 gc2))) (And.intro (below_put2 (bt HJ.out.2.2 HY.out.2.2) (t:=t) (by omega) (.slice ga1 gn1 gc1) (.slice ga2 gn2 gc2)) ((HX.out.2.2.keep HY.out.2.2).put (t:=t) (by omega) (.slice ga1 gn1 gc1) (.slice ga2 gn2 gc2)))))
          clear hR6 hT6 g2 g3 hz5 hRb htt htl
          go_wp2
          go_roundg (gk - 1)
          case rel=>exact ⟨j+1,_,_,G.1,by have:=HJ.out.1;omega,by go_num,⟨by rw [HG.out.1];rfl,forgetN_valid HG.out.2.2 HG.out.2.1⟩,H6.out⟩
          case measure=>have:=HJ.out.1;omega
      · obtain rfl:j=n:=by have:=HJ.out.1;omega
        obtain ⟨C,hC⟩:∃ C:Asn,(r.1 ++ k.2.1.1,k.2.1.2 ++ r.2)=C:=⟨_,rfl⟩
        have hfin:(if asnB C=true then some C else none)=R:=by
         have h1:=HM.out.1
         have h2:=HJ.out.2.1.1
         rw [← HN.out,List.take_length] at h2
         rw [h2,Option.bind_some,hC] at h1
         exact h1
        have hlr:=asnLe HJ.out.2.1.2
        have hlk:=asnLe HF.out.2.2.2.2.1
        have HE:=Lib.hid (And.intro hfin (And.intro hC (show r.1.length+k.2.1.1.length≤16777216∧k.2.1.2.length+r.2.length≤16777216 by omega)))
        clear hfin hC hlr hlk hcon
        obtain ⟨b0,b1,b2,b3,b4⟩:=HX.out.1.2.1.cells
        have bl:=HX.out.1.2.1.lt
        go_upto_region 16 with fail
        go_cut [16] from 16 (fun s16 wd=>BoxV wr wd C s16)
        case first =>
         go_region_held3 (fun w'=>(w'.cell? ⟨t,0,none⟩=some (.slice ea1 r.1.length ec1)∧w'.cell? ⟨t,1,none⟩=some (.slice ea2 r.2.length ec2))∧(w'.cell? ⟨w.heap.size+1,2,none⟩=some (.slice za1 k.2.1.1.length zc1)∧w'.cell? ⟨w.heap.size+1,3,none⟩=some (.slice za2 k.2.1.2.length zc2)))
          (exact ⟨⟨(by repeat (first | with_reducible exact t0 | (with_reducible refine (fr_set _ _ _).cell (by first | (simp;done) | (simp;omega) | omega) ?_) | exact cell_keep Bl t0)),(by repeat (first | with_reducible exact t1 | (with_reducible refine (fr_set _ _ _).cell (by first | (simp;done) | (simp;omega) | omega) ?_) | exact cell_keep Bl t1))⟩,⟨(by repeat (first | with_reducible exact b2 | (with_reducible refine (fr_set _ _ _).cell (by first | (simp;done) | (simp;omega) | omega) ?_) | exact cell_keep Bl b2)),(by repeat (first | with_reducible exact b3 | (with_reducible refine (fr_set _ _ _).cell (by first | (simp;done) | (simp;omega) | omega) ?_) | exact cell_keep Bl b3))⟩⟩)
          (first
            | (go_at_call 68;go_must (refine (joinFacts_any _ _ r.1 k.2.1.1 _ (HX.out.2.1.1.keep Bl) (HX.out.2.2.post1.keep Bl) HE.out.2.2.1).mono ?_;rintro e w5 ⟨x1,rfl,⟨g5,o5,n5⟩,hb5'⟩;obtain ⟨d1,m1,k1,rfl⟩:=o5.read.forms;have hb5:Below wr.heap.size wr w5:=bt Bl hb5';have hz5:=hb5.size;have q5:=o5.read.more (S':=fun k=>wr.heap.size≤k∧k < w5.heap.size) (fun k hks hk=>by have h1:=(o5.lt k hk).1;(try simp only [World.size_alloc,World.size_drew] at h1);exact ⟨by omega,hks⟩);(first | (have hT5:w5.heap[wr.heap.size]?=some (.cells #[.slice none 0 0,.slice none 0 0] 26 (0,0)):=box_keep (heap_alloc_new wr (.cells #[.slice none 0 0,.slice none 0 0] 26)) hb5';have q5n:=o5.read.more (S':=fun k=>wr.heap.size≤k∧¬ k=wr.heap.size) (fun k _ hk=>by have h1:=(o5.lt k hk).1;(try simp only [World.size_alloc,World.size_drew] at h1);exact ⟨by omega,by omega⟩)) | (have hT5:w5.heap[wr.heap.size]?=some (.cells #[.slice none 0 0,.slice none 0 0] 26 (0,0)):=box_keep (heap_alloc_new wr.drew (.cells #[.slice none 0 0,.slice none 0 0] 26)) hb5';have q5n:=o5.read.more (S':=fun k=>wr.heap.size≤k∧¬ k=wr.heap.size) (fun k _ hk=>by have h1:=(o5.lt k hk).1;(try simp only [World.size_alloc,World.size_drew] at h1);exact ⟨by omega,by omega⟩)) | skip);clear o5))
            | (go_at_call 70;go_must (refine (joinAtoms_any _ _ k.2.1.2 r.2 _ (HX.out.2.2.post2.keep Bl) (HX.out.2.1.2.keep Bl) HE.out.2.2.2).mono ?_;rintro e w6 ⟨x2,rfl,⟨g6,o6,n6⟩,hb6'⟩;obtain ⟨d2,m2,k2,rfl⟩:=o6.read.forms;have hb6:Below wr.heap.size wr w6:=bt Bl hb6';have hb56:Below w5.heap.size w5 w6:=bt Bl hb6';have q6:=o6.read.more (S':=fun k=>w5.heap.size≤k) (fun k _ hk=>by have h1:=(o6.lt k hk).1;(try simp only [World.size_alloc,World.size_drew] at h1);show w5.heap.size≤k;omega);have p5:=q5.keep hb56;(first | (have hT6:=box_keep hT5 hb56;have ht0:=box0 hT6;have ht1:=box1 hT6;have htz:=boxz hT6;have htl:=box_lt hT6;have p5n:=q5n.keep hb56;have q6n:=q6.more (S':=fun k=>wr.heap.size≤k∧¬ k=wr.heap.size) (fun k _ hk=>by have h2:w5.heap.size≤k:=hk;have:=box_lt hT5;exact ⟨by omega,by omega⟩)) | (have hT6:w6.heap[w5.heap.size]?=some (.cells #[.slice none 0 0,.slice none 0 0] 26 (0,0)):=box_keep (heap_alloc_new w5 (.cells #[.slice none 0 0,.slice none 0 0] 26)) hb6';have ht0:=box0 hT6;have ht1:=box1 hT6;have htz:=boxz hT6;have htl:=box_lt hT6;have p5n:=p5.more (S':=fun k=>wr.heap.size≤k∧¬ k=w5.heap.size) (fun k _ hk=>by have h2:=hk.2;exact ⟨hk.1,by omega⟩);have q6n:=o6.read.more (S':=fun k=>wr.heap.size≤k∧¬ k=w5.heap.size) (fun k _ hk=>by have h1:=(o6.lt k hk).1;(try simp only [World.size_alloc,World.size_drew] at h1);exact ⟨by omega,by omega⟩)) | skip);clear o6 q5)))
         all_goals
          have HQ:=Lib.hid (And.intro p5 (And.intro q6 hb6))
          clear p5 q6
          go_wp2
          go_meet
          case rel =>
           rw [← HE.out.2.1]
           first
             | exact boxV_alloc (HQ.out.1.more fun k _ h=>h.1) (HQ.out.2.1.more fun k _ h=>Nat.le_trans hz5 h) HQ.out.2.2
             | exact boxV_set p5n q6n hT6 HQ.out.2.2 (Nat.le_refl _)
             | exact boxV_set p5n q6n hT6 HQ.out.2.2 hz5
             | fail
        case rest =>
         obtain ⟨t',y1,y2,rfl,hT',⟨s1,s2⟩,hbd',htz'⟩:=hcut
         obtain ⟨ya,yn,yc,rfl⟩:=s1.forms
         obtain ⟨za,zn,zc,rfl⟩:=s2.forms
         have c0:=box0 hT'
         have c1:=box1 hT'
         have cl:=box_lt hT'
         have HRZ:=Lib.hid (show w.heap.size+1+1 < wr.heap.size from box_lt HX.out.1.2.2)
         have HZ:=Lib.hid (And.intro hT' (And.intro (And.intro s1 s2) (And.intro (bt HJ.out.2.2 hbd') (And.intro (box_keep HX.out.1.2.2 hbd') (show w.heap.size+1+1 < t' by have:=box_lt HX.out.1.2.2;omega)))))
         clear hT' s1 s2 hbd' htz' b0 b1 b2 b3 b4 bl t0 t1 tl
         obtain ⟨V,hV⟩:∃ V,asnB C=V:=⟨_,rfl⟩
         have HV:=Lib.hid hV
         clear hV
         go_wp2_with fail
         refine (cb (asnValidI_any _ _ C _ HZ.out.2.1.1 HZ.out.2.1.2) HV.out).mono ?_
         rintro e w8 ⟨rfl,hb8⟩
         have HZ8:=Lib.hid (And.intro (box_keep HZ.out.1 hb8) (And.intro (And.intro (HZ.out.2.1.1.keep hb8) (HZ.out.2.1.2.keep hb8)) (And.intro (bt HZ.out.2.2.1 hb8) (box_keep HZ.out.2.2.2.1 hb8))))
         clear hb8 c0 c1 cl
         have r0:=box0 HZ8.out.2.2.2
         have r1:=box1 HZ8.out.2.2.2
         have rz:=boxz HZ8.out.2.2.2
         have rl:=box_lt HZ8.out.2.2.2
         cases V with
         | false =>
           have hbad:R=none:=by rw [← HE.out.1,HV.out,if_neg (by decide)]
           have HBAD:=Lib.hid hbad
           have rr:=box_two (.slice none 0 0) (.slice none 0 0) r0 r1
           clear hbad
           go_wp2
           refine bodyPost_ret (v:=.tuple #[.agg #[.slice none 0 0,.slice none 0 0],.bool false]) (by simp [results,Tryz.results13,go_sem,rr.1,rr.2]) rfl ?_
           exact HNIL.out _ HBAD.out HZ8.out.2.2.1
         | true =>
           have hgood:R=some C:=by rw [← HE.out.1,HV.out,if_pos rfl]
           have HGD:=Lib.hid hgood
           have c0:=box0 HZ8.out.1
           have c1:=box1 HZ8.out.1
           have cl:=box_lt HZ8.out.1
           have rr:=box_two (.slice ya yn yc) (.slice za zn zc) r0 r1
           clear hgood
           have hlt:=HZ.out.2.2.2.2
           have HFIN:=Lib.hid (And.intro (And.intro (rl_putS HZ8.out.2.1.1 (t:=w.heap.size+1+1) (fun k hk e=>by have h1:=hk.1;have h2:=HRZ.out;omega) (.slice ya yn yc) (.slice za zn zc)).any (rl_putS HZ8.out.2.1.2 (t:=w.heap.size+1+1) (fun k hk e=>by have h1:=hk.1;have h2:=HRZ.out;omega) (.slice ya yn yc) (.slice za zn zc)).any) (below_put2 (t:=w.heap.size+1+1) HZ8.out.2.2.1 (by omega) (.slice ya yn yc) (.slice za zn zc)))
           go_wp2
           refine bodyPost_ret (v:=.tuple #[.agg #[.slice ya yn yc,.slice za zn zc],.bool true]) (by simp [results,Tryz.results13,go_sem,rr.1,rr.2]) rfl ?_
           rw [HGD.out]
           exact ⟨_,_,rfl,HFIN.out⟩
end Go.Proofs.YtkbbmjcfgcfejaaGreat
