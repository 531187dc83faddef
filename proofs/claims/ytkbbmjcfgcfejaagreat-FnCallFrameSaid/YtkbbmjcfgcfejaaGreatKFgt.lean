/- Walks: the frame of an assertion in another one (impl.FrameOf). -/
import Derived.Test.YtkbbmjcfgcfejaaGreatKPickI
import Derived.Test.YtkbbmjcfgcfejaaGreatKImpA
import Derived.Test.YtkbbmjcfgcfejaaGreatKItrB
import Derived.Handy
import Derived.Deep.DeepMust
import Derived.Deep.Cut
import Derived.Test.YtkbbmjcfgcfejaaGreatKFrm
import Derived.Test.YtkbbmjcfgcfejaaGreatKReplI
import Derived.Test.YtkbbmjcfgcfejaaGreatKList1
set_option linter.unusedVariables false
set_option linter.unusedSimpArgs false
namespace Go.Proofs.YtkbbmjcfgcfejaaGreat
open Go.RowKit
theorem fr_star {a b:Asn} {m:Nat} (ha:asnB a=true) (hb:asnB b=true):starOk b ([],pickA a.2 m)=asnB (b.1,b.2 ++ pickA a.2 m):=by
 have hp:=pick_valid ha m
 have hp2:asnB (([]:List Fact),pickA a.2 m)=true:=by
  have h:=asnLe hp
  have p:=asn_parts hp
  exact asn_mk (by simp) (fun f hf=>by simp at hf) h.1.2 p.2
 rw [starOk,hb,hp2,Bool.true_and,Bool.true_and,starA,List.append_nil]
theorem fr_starR {a b:Asn} {m:Nat} (h:starOk b ([],pickA a.2 m)=true):starR b ([],pickA a.2 m)=(b.1,b.2 ++ pickA a.2 m):=by
 rw [starR,if_pos h,starA,List.append_nil]
def BoxW (w wc:World) (C:Asn) (s:Value):Prop:=∃ (t:Nat) (x1 x2:Value),s=.pointer (some ⟨t,0,none⟩)∧wc.heap[t]?=some (.cells #[x1,x2] 26 (0,0))∧(RL wc (fun _=>True) x1 C.1∧RL wc (fun _=>True) x2 C.2)∧Below w.heap.size w wc
theorem rl_put2 {α:Type} [Dat α] {w:World} {B t:Nat} {v:Value} {l:List α} (h:RL w (fun k=>B≤k) v l) (ht:t < B) (x y:Value):RL ((w.setCell ⟨t,0,none⟩ x).setCell ⟨t,1,none⟩ y) (fun k=>B≤k) v l :=
 (h.kept (fr_set _ ⟨t,0,none⟩ x) fun k _ hk e=>by have h2:B≤k:=hk;have e2:k=t:=e;omega).kept (fr_set _ ⟨t,1,none⟩ y) fun k _ hk e=>by have h2:B≤k:=hk;have e2:k=t:=e;omega
theorem boxW_set {w w6:World} {B t:Nat} {x1 x2 y1 y2:Value} {C:Asn} (h1:RL w6 (fun k=>B≤k) x1 C.1) (h2:RL w6 (fun k=>B≤k) x2 C.2) (hT:w6.heap[t]?=some (.cells #[y1,y2] 26 (0,0))) (ht:t < B) (hb:Below w.heap.size w w6) (h0:w.heap.size≤t) :
 BoxW w ((w6.setCell ⟨t,0,none⟩ x1).setCell ⟨t,1,none⟩ x2) C (.pointer (some ⟨t,0,none⟩)) :=
 ⟨t,x1,x2,rfl,box_set1 (box_set0 hT _) _,⟨(rl_put2 h1 ht x1 x2).any,(rl_put2 h2 ht x1 x2).any⟩,(hb.setCell (p:=⟨t,0,none⟩) h0 _).setCell (p:=⟨t,1,none⟩) h0 _⟩
theorem boxW_alloc {w w6:World} {S1 S2:Nat→Prop} {x1 x2:Value} {C:Asn} (h1:RL w6 S1 x1 C.1) (h2:RL w6 S2 x2 C.2) (hb:Below w.heap.size w w6) :
 BoxW w (w6.alloc (.cells #[x1,x2] 26)) C (.pointer (some ⟨w6.heap.size,0,none⟩)) :=
 ⟨_,x1,x2,rfl,heap_alloc_new _ _,⟨(h1.keep (below_alloc _ _)).any,(h2.keep (below_alloc _ _)).any⟩,ba hb _⟩
set_option maxRecDepth 100000 in
set_option maxHeartbeats 6400000 in
theorem frClos_any {S1 S2 S3 S4:Nat→Prop} (p1 p2 q1 q2:Value) (a b:Asn) (bB bA m:Nat) (c:Bool) (w:World) (hB:w.heap[bB]?=some (.cells #[q1,q2] 26 (0,0))) (hA:w.heap[bA]?=some (.cells #[p1,p2] 26 (0,0)))
 (h1:RL w S1 p1 a.1) (h2:RL w S2 p2 a.2) (k1:RL w S3 q1 b.1) (k2:RL w S4 q2 b.2) (ha:asnB a=true) (hb:asnB b=true) (hm:m < 64) (hc:frB a b m=c) :
 Calls Tryz.prog 81 #[.int .i64 (m:Int),.pointer (some ⟨bB,0,none⟩),.pointer (some ⟨bA,0,none⟩)] w fun e w'=>e=.returned (.bool c)∧Below w.heap.size w w':=by
 obtain ⟨xa1,xc1,rfl⟩:=h1.form
 obtain ⟨xa2,xc2,rfl⟩:=h2.form
 obtain ⟨ya1,yc1,rfl⟩:=k1.form
 obtain ⟨ya2,yc2,rfl⟩:=k2.form
 have hl8:(a.2.length:Int)≤8:=by have:=(asnLe ha).1.2;omega
 obtain ⟨ok,hok⟩:∃ ok,starOk b ([],pickA a.2 m)=ok:=⟨_,rfl⟩
 obtain ⟨C,hC⟩:∃ C,starR b ([],pickA a.2 m)=C:=⟨_,rfl⟩
 have hcc:c=(ok && entB a C):=by
  rw [← hc,frB,← fr_star ha hb,hok]
  cases ok with
  | false=>rw [Bool.false_and,Bool.false_and]
  | true=>rw [← hC,fr_starR hok]
 have HC:=Lib.hid (And.intro hcc (And.intro hok hC))
 have HA:=Lib.hid (And.intro (And.intro h1 h2) (And.intro k1 k2))
 have HBB:=Lib.hid (And.intro hA hB)
 have b0:=box0 hB
 have b1:=box1 hB
 have bl:=box_lt hB
 have a0:=box0 hA
 have a1:=box1 hA
 have al:=box_lt hA
 clear hcc hok hC h1 h2 k1 k2 hA hB ha hb hc
 go_enter Tryz.func81,Tryz.ntmps81
 go_upto_region 1 with fail
 go_cut [5,6] from 5 (fun s5 s6 wc=>s6=.bool ok∧BoxW w wc C s5)
 case first =>
  go_region_held3 (fun w'=>(w'.cell? ⟨bB,0,none⟩=some (.slice ya1 b.1.length yc1)∧w'.cell? ⟨bB,1,none⟩=some (.slice ya2 b.2.length yc2))∧(w'.cell? ⟨bA,0,none⟩=some (.slice xa1 a.1.length xc1)∧w'.cell? ⟨bA,1,none⟩=some (.slice xa2 a.2.length xc2)))
   (exact ⟨⟨(by repeat (first | with_reducible exact b0 | (with_reducible refine (fr_set _ _ _).cell (by first | (simp;done) | (simp;omega) | omega) ?_) | exact cell_keep Bl b0)),(by repeat (first | with_reducible exact b1 | (with_reducible refine (fr_set _ _ _).cell (by first | (simp;done) | (simp;omega) | omega) ?_) | exact cell_keep Bl b1))⟩,⟨(by repeat (first | with_reducible exact a0 | (with_reducible refine (fr_set _ _ _).cell (by first | (simp;done) | (simp;omega) | omega) ?_) | exact cell_keep Bl a0)),(by repeat (first | with_reducible exact a1 | (with_reducible refine (fr_set _ _ _).cell (by first | (simp;done) | (simp;omega) | omega) ?_) | exact cell_keep Bl a1))⟩⟩)
   (first
     | (go_at_call 83;go_must (refine (pickI_any _ _ a m _ (HA.out.1.1.keep Bl) (HA.out.1.2.keep Bl) hm hl8).mono ?_;rintro e w5 ⟨x1,rfl,o5,hb5'⟩;obtain ⟨d1,m1,k1,rfl⟩:=o5.forms;have hb5:Below w.heap.size w w5:=bt Bl hb5';have hz5:=hb5.size;(first | have hT5:w5.heap[w.heap.size]?=some (.cells #[.slice none 0 0,.slice none 0 0] 26 (0,0)):=box_keep (heap_alloc_new w (.cells #[.slice none 0 0,.slice none 0 0] 26)) hb5' | have hT5:w5.heap[w.heap.size]?=some (.cells #[.slice none 0 0,.slice none 0 0] 26 (0,0)):=box_keep (heap_alloc_new w.drew (.cells #[.slice none 0 0,.slice none 0 0] 26)) hb5' | skip);have o5r:=o5.rl;clear o5))
     | (go_at_call 82;go_must (refine (starAssertionsI_any (S3:=fun _=>True) _ _ _ _ b (([]:List Fact),pickA a.2 m) _ (HA.out.2.1.keep Bl) (HA.out.2.2.keep Bl) (RL.nil _ _) (o5r.keep Bl)).mono ?_;rw [HC.out.2.1,HC.out.2.2];rintro e w6 ⟨y1,y2,rfl,o6,hb6'⟩;obtain ⟨e1,n1,g1,rfl⟩:=o6.one.forms;obtain ⟨e2,n2,g2,rfl⟩:=o6.two.forms;have hb6:Below w.heap.size w w6:=bt Bl hb6';(first | have hT6:=box_keep hT5 (bt (by first | exact Below.refl _ _ | exact below_alloc _ _) hb6') | have hT6:=box_keep (heap_alloc_new w5 (.cells #[.slice none 0 0,.slice none 0 0] 26)) hb6' | skip);(first | (have ht0:=box0 hT6;have ht1:=box1 hT6;have htz:=boxz hT6;have htl:=box_lt hT6) | skip);have q1:=o6.one;have q2:=o6.two;clear o6)))
  all_goals
   have HQ:=Lib.hid (And.intro q1 (And.intro q2 hb6))
   clear q1 q2
   go_wp2
   go_meet
   case rel =>
    refine ⟨rfl,?_⟩
    first
      | exact boxW_alloc HQ.out.1 HQ.out.2.1 HQ.out.2.2
      | (have hl5:=box_lt hT5;exact boxW_set HQ.out.1 HQ.out.2.1 hT6 (by first | omega | (simp;done) | (simp;omega) | fail) HQ.out.2.2 (by omega))
      | exact boxW_set HQ.out.1 HQ.out.2.1 hT6 (by first | omega | (simp;done) | (simp;omega) | fail) HQ.out.2.2 (by omega)
      | fail
 case rest =>
  obtain ⟨rfl,t,x1,x2,rfl,hT,⟨r1,r2⟩,hbw⟩:=hcut
  have t0:=box0 hT
  have t1:=box1 hT
  have tl:=box_lt hT
  obtain ⟨ta1,tc1,rfl⟩:=r1.form
  obtain ⟨ta2,tc2,rfl⟩:=r2.form
  replace b0:=cell_keep hbw b0
  replace b1:=cell_keep hbw b1
  replace a0:=cell_keep hbw a0
  replace a1:=cell_keep hbw a1
  have hz:=hbw.size
  have al2:bA < wc.heap.size:=by omega
  have HQ:=Lib.hid (And.intro (And.intro r1 r2) (And.intro hbw (And.intro (HA.out.1.1.keep hbw) (HA.out.1.2.keep hbw))))
  clear r1 r2 hbw hT
  cases ok with
  | false =>
    go_wp2
    go_returns
    exact ⟨by rw [HC.out.1,Bool.false_and];rfl,HQ.out.2.1⟩
  | true =>
    go_wp2_with fail
    refine (entailsI_any _ _ _ _ a C _ HQ.out.2.2.1 HQ.out.2.2.2 HQ.out.1.1 HQ.out.1.2).mono ?_
    rintro e w8 ⟨rfl,hb8⟩
    go_wp2
    go_returns
    exact ⟨by rw [HC.out.1,Bool.true_and];rfl,bt HQ.out.2.1 hb8⟩
theorem pow_le64 {n:Nat} (h:n≤6):2 ^ n≤64:=Nat.pow_le_pow_right (n:=2) (by decide) h
def maskV (o:Option Nat):Value:=.int .i64 ((o.getD 0:Nat):Int)
set_option maxRecDepth 100000 in
set_option maxHeartbeats 3200000 in
theorem leastFr_any {S1 S2 S3 S4:Nat→Prop} (p1 p2 q1 q2:Value) (a b:Asn) (bB bA:Nat) (w:World) (hB:w.heap[bB]?=some (.cells #[q1,q2] 26 (0,0))) (hA:w.heap[bA]?=some (.cells #[p1,p2] 26 (0,0)))
 (h1:RL w S1 p1 a.1) (h2:RL w S2 p2 a.2) (k1:RL w S3 q1 b.1) (k2:RL w S4 q2 b.2) (ha:asnB a=true) (hb:asnB b=true) :
 Calls Tryz.prog 80 #[.int .i64 (a.2.length:Int),.func (.func 81) #[] #[.pointer (some ⟨bB,0,none⟩),.pointer (some ⟨bA,0,none⟩)]] w fun e w'=>e=.returned (.tuple #[maskV (frameM a b),.bool (frameM a b).isSome])∧Below w.heap.size w w':=by
 obtain ⟨n,hn⟩:∃ n,a.2.length=n:=⟨_,rfl⟩
 have hn6:n≤6:=by rw [← hn];exact (asnLe ha).1.2
 have hfm:frameM a b=(List.range (2 ^ n)).find? (frB a b):=by rw [frameM_eq,hn]
 have hN64:=pow_le64 hn6
 rw [hn]
 have HH:=Lib.hid (And.intro (And.intro hA hB) (And.intro (And.intro h1 h2) (And.intro (And.intro k1 k2) (And.intro ha (And.intro hb hfm)))))
 have hn0:(0:Int)≤(n:Int):=by omega
 have hn64:(n:Int) < 64:=by omega
 obtain ⟨N,hN⟩:∃ N,2 ^ n=N:=⟨_,rfl⟩
 have hpw:((2:Int) ^ n)=(N:Int):=by rw [← hN];simp
 rw [hN] at hN64
 have HN:=Lib.hid hN
 clear hn hfm h1 h2 k1 k2 hA hB ha hb hN
 go_enter Tryz.func80,Tryz.ntmps80
 go_wp2
 go_loopg [6] N (fun q i wr=>∃ k:Nat,k+q=N∧i=.int .i64 (k:Int)∧(List.range k).find? (frB a b)=none∧Below w.heap.size w wr)
 case atStart=>exact ⟨0,by omega,rfl,rfl,Below.refl _ _⟩
 case round =>
  obtain ⟨k,hk,rfl,hf,hbw⟩:=hrel
  have HK:=Lib.hid (And.intro hk (And.intro hf hbw))
  clear hk hf hbw
  by_cases hk8:k < N
  · have hki:(k:Int) < (N:Int):=by omega
    obtain ⟨c,hc⟩:∃ c,frB a b k=c:=⟨_,rfl⟩
    have hcl:=frClos_any p1 p2 q1 q2 a b bB bA k c wr (box_keep HH.out.1.2 HK.out.2.2) (box_keep HH.out.1.1 HK.out.2.2) (HH.out.2.1.1.keep HK.out.2.2) (HH.out.2.1.2.keep HK.out.2.2) (HH.out.2.2.1.1.keep HK.out.2.2) (HH.out.2.2.1.2.keep HK.out.2.2) HH.out.2.2.2.1 HH.out.2.2.2.2.1 (by omega) hc
    have HC:=Lib.hid (And.intro hcl hc)
    clear hcl hc
    cases c with
    | true =>
      go_wp2_with (first | (go_at_call 81;refine HC.out.1.mono ?_;rintro e w5 ⟨rfl,hb5⟩))
      have hh:frameM a b=some k:=by rw [HH.out.2.2.2.2.2,HN.out];exact find_hit hk8 HK.out.2.1 HC.out.2
      go_returns
      exact ⟨by rw [hh];rfl,bt HK.out.2.2 hb5⟩
    | false =>
      go_wp2_with (first | (go_at_call 81;refine HC.out.1.mono ?_;rintro e w5 ⟨rfl,hb5⟩))
      go_roundg (gk - 1)
      case rel=>exact ⟨k+1,by have:=HK.out.1;omega,by go_num,find_more HK.out.2.1 HC.out.2,bt HK.out.2.2 hb5⟩
      case measure=>have:=HK.out.1;omega
  · obtain rfl:k=N:=by have:=HK.out.1;omega
    go_wp2
    have hh:frameM a b=none:=by rw [HH.out.2.2.2.2.2,HN.out];exact HK.out.2.1
    go_returns
    exact ⟨by rw [hh];rfl,HK.out.2.2⟩
def frR (a b:Asn):Option (List Atom):=if (asnB a && asnB b)=true then frameO a b else none
set_option maxRecDepth 100000 in
set_option maxHeartbeats 3200000 in
theorem frameI_any {S1 S2 S3 S4:Nat→Prop} (v1 v2 u1 u2:Value) (a b:Asn) (w:World) (h1:RL w S1 v1 a.1) (h2:RL w S2 v2 a.2) (k1:RL w S3 u1 b.1) (k2:RL w S4 u2 b.2) :
 Calls Tryz.prog 16 #[.agg #[v1,v2],.agg #[u1,u2]] w fun e w'=>∃ x2,e=.returned (.tuple #[.agg #[.slice none 0 0,x2],.bool (frR a b).isSome])∧FE w' w.heap.size x2 ((frR a b).getD [])∧Below w.heap.size w w':=by
 obtain ⟨p1,c1,rfl⟩:=h1.form
 obtain ⟨p2,c2,rfl⟩:=h2.form
 obtain ⟨p3,c3,rfl⟩:=k1.form
 obtain ⟨p4,c4,rfl⟩:=k2.form
 obtain ⟨w0,hw0⟩:∃ w0,w0=(((w.alloc (.cells #[.slice p1 a.1.length c1,.slice p2 a.2.length c2] 26)).alloc (.cells #[.slice p3 b.1.length c3,.slice p4 b.2.length c4] 26)).alloc (.cells #[.slice none 0 0,.slice none 0 0] 26)):=⟨_,rfl⟩
 have hA:w0.heap[w.heap.size]?=some (.cells #[.slice p1 a.1.length c1,.slice p2 a.2.length c2] 26 (0,0)):=by
  rw [hw0];exact box_keep (box_keep (heap_alloc_new w _) (below_alloc _ _)) (below_alloc _ _)
 have hB:w0.heap[w.heap.size+1]?=some (.cells #[.slice p3 b.1.length c3,.slice p4 b.2.length c4] 26 (0,0)):=by
  rw [hw0]
  have:=box_keep (heap_alloc_new (w.alloc (.cells #[.slice p1 a.1.length c1,.slice p2 a.2.length c2] 26)) (.cells #[.slice p3 b.1.length c3,.slice p4 b.2.length c4] 26)) (below_alloc _ (.cells #[.slice none 0 0,.slice none 0 0] 26))
  simpa using this
 have hR:w0.heap[w.heap.size+1+1]?=some (.cells #[.slice none 0 0,.slice none 0 0] 26 (0,0)):=by
  rw [hw0]
  have:=heap_alloc_new ((w.alloc (.cells #[.slice p1 a.1.length c1,.slice p2 a.2.length c2] 26)).alloc (.cells #[.slice p3 b.1.length c3,.slice p4 b.2.length c4] 26)) (.cells #[.slice none 0 0,.slice none 0 0] 26)
  simpa using this
 have hW:Below w.heap.size w w0:=by rw [hw0];exact ba (ba (below_alloc _ _) _) _
 have HW0:=Lib.hid hw0
 have H0:=Lib.hid (And.intro (And.intro hA (And.intro hB hR)) (And.intro hW (And.intro (And.intro (h1.keep hW) (h2.keep hW)) (And.intro (k1.keep hW) (k2.keep hW)))))
 clear hA hB hR hW hw0 h1 h2 k1 k2
 obtain ⟨A,hA⟩:∃ A,asnB a=A:=⟨_,rfl⟩
 obtain ⟨B,hB⟩:∃ B,asnB b=B:=⟨_,rfl⟩
 have hr:frR a b=if (A && B)=true then frameO a b else none:=by rw [← hA,← hB];rfl
 have HR:=Lib.hid (And.intro hr (And.intro hA hB))
 clear hr hA hB
 go_enter Tryz.func16,Tryz.ntmps16
 go_wp2_with fail
 rw [← HW0.out]
 refine (cb (asnValidI_any _ _ a _ H0.out.2.2.1.1 H0.out.2.2.1.2) HR.out.2.1).mono ?_
 rintro e w1 ⟨rfl,hb1⟩
 have H1:=Lib.hid (And.intro (And.intro (box_keep H0.out.1.1 hb1) (And.intro (box_keep H0.out.1.2.1 hb1) (box_keep H0.out.1.2.2 hb1))) (And.intro (bt H0.out.2.1 hb1) (And.intro (And.intro (H0.out.2.2.1.1.keep hb1) (H0.out.2.2.1.2.keep hb1)) (And.intro (H0.out.2.2.2.1.keep hb1) (H0.out.2.2.2.2.keep hb1)))))
 clear H0 hb1
 have NIL:∀ w1:World,frR a b=none→w1.heap[w.heap.size+1+1]?=some (.cells #[.slice none 0 0,.slice none 0 0] 26 (0,0))→Below w.heap.size w w1→∃ x2,(Ending.returned (.tuple #[.agg #[.slice none 0 0,.slice none 0 0],.bool false]))=.returned (.tuple #[.agg #[.slice none 0 0,x2],.bool (frR a b).isSome])∧FE ((w1.setCell ⟨w.heap.size+1+1,0,none⟩ (.slice none 0 0)).setCell ⟨w.heap.size+1+1,1,none⟩ (.slice none 0 0)) w.heap.size x2 ((frR a b).getD [])∧Below w.heap.size w ((w1.setCell ⟨w.heap.size+1+1,0,none⟩ (.slice none 0 0)).setCell ⟨w.heap.size+1+1,1,none⟩ (.slice none 0 0)):=by
  intro w1 hn hR hb
  rw [hn]
  exact ⟨_,rfl,FE.nil _ _ _,(hb.setCell (p:=⟨w.heap.size+1+1,0,none⟩) (by simp;omega) _).setCell (p:=⟨w.heap.size+1+1,1,none⟩) (by simp;omega) _⟩
 have HNIL:=Lib.hid NIL
 clear NIL
 cases A with
 | false =>
   have r0:=box0 H1.out.1.2.2
   have r1:=box1 H1.out.1.2.2
   have rz:=boxz H1.out.1.2.2
   have rl:=box_lt H1.out.1.2.2
   have rr:=box_two (.slice none 0 0) (.slice none 0 0) r0 r1
   go_wp2
   refine bodyPost_ret (v:=.tuple #[.agg #[.slice none 0 0,.slice none 0 0],.bool false]) (by simp [results,Tryz.results16,go_sem,rr.1,rr.2]) rfl ?_
   exact HNIL.out _ (by rw [HR.out.1];rfl) H1.out.1.2.2 H1.out.2.1
 | true =>
 have b0:=box0 H1.out.1.2.1
 have b1:=box1 H1.out.1.2.1
 have bl:=box_lt H1.out.1.2.1
 go_wp2_with fail
 refine (cb (asnValidI_any _ _ b _ H1.out.2.2.2.1 H1.out.2.2.2.2) HR.out.2.2).mono ?_
 rintro e w2 ⟨rfl,hb2⟩
 have H2:=Lib.hid (And.intro (And.intro (box_keep H1.out.1.1 hb2) (And.intro (box_keep H1.out.1.2.1 hb2) (box_keep H1.out.1.2.2 hb2))) (And.intro (bt H1.out.2.1 hb2) (And.intro (And.intro (H1.out.2.2.1.1.keep hb2) (H1.out.2.2.1.2.keep hb2)) (And.intro (H1.out.2.2.2.1.keep hb2) (H1.out.2.2.2.2.keep hb2)))))
 clear H1 hb2 b0 b1 bl
 cases B with
 | false =>
   have r0:=box0 H2.out.1.2.2
   have r1:=box1 H2.out.1.2.2
   have rz:=boxz H2.out.1.2.2
   have rl:=box_lt H2.out.1.2.2
   have rr:=box_two (.slice none 0 0) (.slice none 0 0) r0 r1
   go_wp2
   refine bodyPost_ret (v:=.tuple #[.agg #[.slice none 0 0,.slice none 0 0],.bool false]) (by simp [results,Tryz.results16,go_sem,rr.1,rr.2]) rfl ?_
   exact HNIL.out _ (by rw [HR.out.1];rfl) H2.out.1.2.2 H2.out.2.1
 | true =>
 have hr:=HR.out.1
 rw [Bool.true_and,if_pos rfl,frameO] at hr
 obtain ⟨M,hM⟩:∃ M,frameM a b=M:=⟨_,rfl⟩
 rw [hM] at hr
 have hcall:=leastFr_any _ _ _ _ a b (w.heap.size+1) w.heap.size w2 H2.out.1.2.1 H2.out.1.1 H2.out.2.2.1.1 H2.out.2.2.1.2 H2.out.2.2.2.1 H2.out.2.2.2.2 HR.out.2.1 HR.out.2.2
 rw [hM] at hcall
 have HM:=Lib.hid (And.intro hr (And.intro hcall hM))
 clear hr hcall hM
 have a0:=box0 H2.out.1.1
 have a1:=box1 H2.out.1.1
 have al:=box_lt H2.out.1.1
 have bl:=box_lt H2.out.1.2.1
 go_wp2_with fail
 refine HM.out.2.1.mono ?_
 rintro e w3 ⟨rfl,hb3⟩
 have H3:=Lib.hid (And.intro (And.intro (box_keep H2.out.1.1 hb3) (And.intro (box_keep H2.out.1.2.1 hb3) (box_keep H2.out.1.2.2 hb3))) (And.intro (bt H2.out.2.1 hb3) (And.intro (And.intro (H2.out.2.2.1.1.keep hb3) (H2.out.2.2.1.2.keep hb3)) (And.intro (H2.out.2.2.2.1.keep hb3) (H2.out.2.2.2.2.keep hb3)))))
 clear H2 hb3 a0 a1 al bl
 have a0:=box0 H3.out.1.1
 have a1:=box1 H3.out.1.1
 have al:=box_lt H3.out.1.1
 have r0:=box0 H3.out.1.2.2
 have r1:=box1 H3.out.1.2.2
 have rz:=boxz H3.out.1.2.2
 have rl:=box_lt H3.out.1.2.2
 cases M with
 | none =>
   have rr:=box_two (.slice none 0 0) (.slice none 0 0) r0 r1
   go_wp2
   refine bodyPost_ret (v:=.tuple #[.agg #[.slice none 0 0,.slice none 0 0],.bool false]) (by simp [results,Tryz.results16,go_sem,rr.1,rr.2]) rfl ?_
   exact HNIL.out _ (by rw [HM.out.1];rfl) H3.out.1.2.2 H3.out.2.1
 | some m =>
   rw [show maskV (some m)=.int .i64 (m:Int) from rfl]
   have hl6:=(asnLe HR.out.2.1).1.2
   have hm64:m < 64:=by
    have h1:=HM.out.2.2
    rw [frameM_eq] at h1
    have h2:=List.mem_range.1 (List.mem_of_find?_eq_some h1)
    have:=pow_le64 hl6
    omega
   have HMM:=Lib.hid (And.intro hm64 (show (a.2.length:Int)≤8 by omega))
   clear hl6 hm64 r0 r1 rz rl
   go_wp2_with fail
   refine (pickI_any _ _ a m _ H3.out.2.2.1.1 H3.out.2.2.1.2 HMM.out.1 HMM.out.2).mono ?_
   rintro e w4 ⟨x2,rfl,o4,hb4⟩
   obtain ⟨d,n4,g4,rfl⟩:=o4.forms
   have hR4:=box_keep H3.out.1.2.2 hb4
   have r0:=box0 hR4
   have r1:=box1 hR4
   have rz:=boxz hR4
   have rl:=box_lt hR4
   have rr:=box_two (.slice none 0 0) (.slice d n4 g4) r0 r1
   have HQ:=Lib.hid (And.intro ((o4.mono H3.out.2.1.size).set2 (x:=.slice none 0 0) (y:=.slice d n4 g4) hR4 (by decide)) (((bt H3.out.2.1 hb4).setCell (p:=⟨w.heap.size+1+1,0,none⟩) (by simp;omega) (.slice none 0 0)).setCell (p:=⟨w.heap.size+1+1,1,none⟩) (by simp;omega) (.slice d n4 g4)))
   clear o4 hb4 hR4 a0 a1 al
   go_wp2
   refine bodyPost_ret (v:=.tuple #[.agg #[.slice none 0 0,.slice d n4 g4],.bool true]) (by simp [results,Tryz.results16,go_sem,rr.1,rr.2]) rfl ?_
   rw [HM.out.1]
   exact ⟨_,rfl,HQ.out⟩
end Go.Proofs.YtkbbmjcfgcfejaaGreat
set_option linter.unusedVariables false
set_option linter.unusedSimpArgs false
namespace Go.Proofs.YtkbbmjcfgcfejaaGreat
open Go.RowKit
theorem newV_def (m:Nat):newV m=if !m.testBit 5 then some 5 else if !m.testBit 6 then some 6 else if !m.testBit 7 then some 7 else if !m.testBit 8 then some 8 else none:=by
 rw [newV]
 rcases h5:m.testBit 5 <;> rcases h6:m.testBit 6 <;> rcases h7:m.testBit 7 <;> rcases h8:m.testBit 8 <;> simp [List.range,List.range.loop,List.find?,h5,h6,h7,h8]
theorem newV_hit {m k:Nat} (hk:k < 4) (h:∀ j,j < k→m.testBit (j+5)=true) (h1:m.testBit (k+5)=false):newV m=some (5+(k:Int)):=by
 rw [newV_def]
 have h0:=h 0
 have h2:=h 1
 have h3:=h 2
 match k,hk with
 | 0,_=>simp_all
 | 1,_=>simp_all
 | 2,_=>simp_all
 | 3,_=>simp_all
theorem newV_none {m:Nat} (h:∀ j,j < 4→m.testBit (j+5)=true):newV m=none:=by
 rw [newV_def]
 have h0:=h 0 (by omega)
 have h1:=h 1 (by omega)
 have h2:=h 2 (by omega)
 have h3:=h 3 (by omega)
 simp_all
def nvV (o:Option Int):Value:=.int .i64 (o.getD 0)
theorem unused_any (m:Nat) (w:World) (hm:m < 65536) :
 Calls Tryz.prog 211 #[.int .u16 m] w fun e w'=>e=.returned (.tuple #[nvV (newV m),.bool (newV m).isSome])∧w'=w:=by
 go_enter Tryz.func211,Tryz.ntmps211
 go_wp2
 go_loopg [4] 4 (fun q i wr=>∃ k:Nat,k+q=4∧i=.int .i64 (5+(k:Int))∧(∀ j,j < k→m.testBit (j+5)=true)∧wr=w)
 case atStart=>exact ⟨0,by omega,rfl,fun j h=>absurd h (by omega),rfl⟩
 case round =>
  obtain ⟨k,hk,rfl,hb,rfl⟩:=hrel
  have HK:=Lib.hid hk
  clear hk
  have HB:=Lib.hid hb
  clear hb
  by_cases h4:k < 4
  · have h8:(5+(k:Int))≤8:=by omega
    have hc:=hasT_any m (5+(k:Int)) wr hm
    have he:hasT m (5+(k:Int))=m.testBit (k+5):=by
     have e:(5+(k:Int)).toNat=k+5:=by omega
     rw [hasT,e,isTermB,decide_eq_true (show (0:Int)≤5+(k:Int) by omega),decide_eq_true (show 5+(k:Int)≤8 by omega)]
     rfl
    rw [he] at hc
    have HC:=Lib.hid hc
    clear hc he
    obtain ⟨b,hbit⟩:∃ b,m.testBit (k+5)=b:=⟨_,rfl⟩
    rw [hbit] at HC
    have HBI:=Lib.hid hbit
    clear hbit
    cases b with
    | true =>
      go_wp2_with (first | (go_at_call 148;refine HC.out.mono ?_;rintro e w' ⟨rfl,rfl⟩))
      go_roundg (gk - 1)
      case rel=>exact ⟨k+1,by have:=HK.out;omega,by go_num,fun j hj=>(Nat.lt_succ_iff_lt_or_eq.1 hj).elim (HB.out j) (fun e=>e ▸ HBI.out),rfl⟩
      case measure=>have:=HK.out;omega
    | false =>
      go_wp2_with (first | (go_at_call 148;refine HC.out.mono ?_;rintro e w' ⟨rfl,rfl⟩))
      have hv:=newV_hit h4 HB.out HBI.out
      go_returns
      exact ⟨by rw [hv];rfl,rfl⟩
  · have h8:¬ (5+(k:Int))≤8:=by omega
    go_wp2
    have hv:=newV_none (m:=m) (fun j hj=>HB.out j (by omega))
    go_returns
    exact ⟨by rw [hv];rfl,rfl⟩
theorem newVariable_any {S1 S2:Nat→Prop} (v1 v2:Value) (a:Asn) (m:Nat) (w:World) (h1:RL w S1 v1 a.1) (h2:RL w S2 v2 a.2) (hm:m < 65536) :
 Calls Tryz.prog 150 #[.agg #[v1,v2],.int .u16 m] w fun e w'=>e=.returned (.tuple #[nvV (newV (termsM a ||| m)),.bool (newV (termsM a ||| m)).isSome])∧Below w.heap.size w w':=by
 obtain ⟨a1,a2⟩:=a
 simp only at h1 h2
 obtain ⟨p1,c1,rfl⟩:=h1.form
 obtain ⟨p2,c2,rfl⟩:=h2.form
 go_enter Tryz.func150,Tryz.ntmps150
 have hb0:=below_alloc w (.cells #[.slice p1 a1.length c1,.slice p2 a2.length c2] 26)
 have hM:=termsM_lt (a1,a2)
 have HJ:=Lib.hid (And.intro (h1.keep hb0) (h2.keep hb0))
 have HB:=Lib.hid hb0
 have HL:=Lib.hid (Nat.or_lt_two_pow (n:=16) hM hm)
 clear h1 h2 hb0
 go_wp2_with fail
 refine (termsIn_any _ _ (a1,a2) _ HJ.out.1 HJ.out.2).mono ?_
 rintro e w1 ⟨rfl,hb1⟩
 have hbw:Below w.heap.size w w1:=HB.out.trans (hb1.mono HB.out.size)
 have HBW:=Lib.hid hbw
 clear hb1 hbw
 have hor:bits .or .u16 (termsM (a1,a2):Int) (m:Int)=((termsM (a1,a2) ||| m:Nat):Int):=u16_or_nat _ m hM hm
 go_wp2_with fail
 refine (unused_any _ w1 HL.out).mono ?_
 rintro e w2 ⟨rfl,rfl⟩
 go_wp2_with fail
 go_returns
 exact ⟨rfl,HBW.out⟩
def fgA (r:Option (Asn × Int)):Asn:=(r.getD (([],[]),0)).1
def fgP (r:Option (Asn × Int)):Int:=(r.getD (([],[]),0)).2
def fgX (r:Option (Asn × Int)) (x:Int):Int:=if r.isSome=true then x else 0
theorem box_four {w:World} {b:Nat} {T:TypeId} {c0 c1 c2 c3:Value} (h:w.heap[b]?=some (.cells #[c0,c1,c2,c3] T (0,0))) :
 (w.cell? ⟨b,0,none⟩=some c0∧w.cell? ⟨b,1,none⟩=some c1∧w.cell? ⟨b,2,none⟩=some c2∧w.cell? ⟨b,3,none⟩=some c3)∧∀ i,w.frozen? ⟨b,i,none⟩=false :=
 ⟨⟨cell_of_row w b 0 _ _ _ h,cell_of_row w b 1 _ _ _ h,cell_of_row w b 2 _ _ _ h,cell_of_row w b 3 _ _ _ h⟩,fun i=>frozen_of_row w b i _ _ h⟩
theorem box_put {w:World} {C:Nat} {cs:Array Value} {T:TypeId} (h:w.heap[C]?=some (.cells cs T (0,0))) (i:Nat) (v:Value):(w.setCell ⟨C,i,none⟩ v).heap[C]?=some (.cells (cs.setIfInBounds i v) T (0,0)):=by
 rw [heap_setCell_same w C i _ T v h]
theorem cells_four {w:World} {b:Nat} {T:TypeId} {c0 c1 c2 c3:Value} (x0 x1 x2 x3:Value) (h:w.heap[b]?=some (.cells #[c0,c1,c2,c3] T (0,0))) :
 ((((w.setCell ⟨b,0,none⟩ x0).setCell ⟨b,1,none⟩ x1).setCell ⟨b,2,none⟩ x2).setCell ⟨b,3,none⟩ x3).heap[b]?=some (.cells #[x0,x1,x2,x3] T (0,0)):=by
 have h0:=box_put h 0 x0
 have h1:=box_put h0 1 x1
 have h2:=box_put h1 2 x2
 have h3:=box_put h2 3 x3
 simpa using h3
theorem below_four {w0 w:World} {B b:Nat} (h:Below B w0 w) (hb:B≤b) (x0 x1 x2 x3:Value):Below B w0 ((((w.setCell ⟨b,0,none⟩ x0).setCell ⟨b,1,none⟩ x1).setCell ⟨b,2,none⟩ x2).setCell ⟨b,3,none⟩ x3) :=
 (((h.setCell (p:=⟨b,0,none⟩) hb x0).setCell (p:=⟨b,1,none⟩) hb x1).setCell (p:=⟨b,2,none⟩) hb x2).setCell (p:=⟨b,3,none⟩) hb x3
theorem fr_4c (w:World) (b:Nat) (x0 x1 x2 x3:Value):Fr (fun k=>k=b) w ((((w.setCell ⟨b,0,none⟩ x0).setCell ⟨b,1,none⟩ x1).setCell ⟨b,2,none⟩ x2).setCell ⟨b,3,none⟩ x3) :=
 ((((fr_set w ⟨b,0,none⟩ x0).trans (fr_set _ ⟨b,1,none⟩ x1)).trans (fr_set _ ⟨b,2,none⟩ x2)).trans (fr_set _ ⟨b,3,none⟩ x3))
set_option maxRecDepth 100000 in
set_option maxHeartbeats 3200000 in
theorem forgetI_any {S1 S2:Nat→Prop} (v1 v2:Value) (a:Asn) (x:Int) (m:Nat) (w:World) (h1:RL w S1 v1 a.1) (h2:RL w S2 v2 a.2) (hm:m < 65536) (hl1:(a.1.length:Int)≤12) (hl2:(a.2.length:Int)≤8) :
 Calls Tryz.prog 69 #[.agg #[v1,v2],.int .i64 x,.int .u16 m] w fun e w'=>∃ x1 x2,e=.returned (.tuple #[.agg #[x1,x2,.int .i64 (fgX (forgetN a x m) x),.int .i64 (fgP (forgetN a x m))],.bool (forgetN a x m).isSome])∧(RL w' (fun k=>w.heap.size≤k) x1 (fgA (forgetN a x m)).1∧RL w' (fun k=>w.heap.size≤k) x2 (fgA (forgetN a x m)).2)∧Below w.heap.size w w':=by
 obtain ⟨a1,a2⟩:=a
 simp only at h1 h2 hl1 hl2
 obtain ⟨p1,c1,rfl⟩:=h1.form
 obtain ⟨p2,c2,rfl⟩:=h2.form
 have hbA:=box_keep (heap_alloc_new w (.cells #[.slice p1 a1.length c1,.slice p2 a2.length c2] 26)) (below_alloc _ (.cells #[.slice none 0 0,.slice none 0 0,.int .i64 0,.int .i64 0] 113))
 have hbR:=heap_alloc_new (w.alloc (.cells #[.slice p1 a1.length c1,.slice p2 a2.length c2] 26)) (.cells #[.slice none 0 0,.slice none 0 0,.int .i64 0,.int .i64 0] 113)
 rw [World.size_alloc] at hbR
 have hB0:Below w.heap.size w ((w.alloc (.cells #[.slice p1 a1.length c1,.slice p2 a2.length c2] 26)).alloc (.cells #[.slice none 0 0,.slice none 0 0,.int .i64 0,.int .i64 0] 113)):=Bl
 obtain ⟨w0,hw0⟩:∃ w0,w0=(w.alloc (.cells #[.slice p1 a1.length c1,.slice p2 a2.length c2] 26)).alloc (.cells #[.slice none 0 0,.slice none 0 0,.int .i64 0,.int .i64 0] 113):=⟨_,rfl⟩
 rw [← hw0] at hbA hbR hB0
 have HW:=Lib.hid hw0
 have H0:=Lib.hid (And.intro (And.intro hbA hbR) (And.intro hB0 (And.intro (h1.keep hB0) (h2.keep hB0))))
 clear hbA hbR hB0 hw0 h1 h2
 obtain ⟨T,hT⟩:∃ T,termsM (a1,a2)=T:=⟨_,rfl⟩
 have hT6:T < 65536:=by rw [← hT];exact termsM_lt _
 have hf:forgetN (a1,a2) x m=if hasT T x=true then (newV (T ||| m)).map fun n=>(subB (a1,a2) x n,n) else some ((a1,a2),x):=by rw [← hT];rfl
 have HT:=Lib.hid (And.intro hT hT6)
 obtain ⟨b,hb⟩:∃ b,hasT T x=b:=⟨_,rfl⟩
 rw [hb] at hf
 have HB:=Lib.hid hb
 clear hT hT6 hb
 go_enter Tryz.func69,Tryz.ntmps69
 go_wp2_with fail
 rw [← HW.out]
 refine (termsIn_any _ _ (a1,a2) _ H0.out.2.2.1 H0.out.2.2.2).mono ?_
 rw [HT.out.1]
 rintro e w1 ⟨rfl,hb1⟩
 have H1:=Lib.hid (And.intro (And.intro (box_keep H0.out.1.1 hb1) (box_keep H0.out.1.2 hb1)) (And.intro (bt H0.out.2.1 hb1) (And.intro (H0.out.2.2.1.keep hb1) (H0.out.2.2.2.keep hb1))))
 have a0:=box0 H1.out.1.1
 have a1':=box1 H1.out.1.1
 have al:=box_lt H1.out.1.1
 clear hb1
 have HF:=Lib.hid hf
 clear hf
 cases b with
 | false =>
   have hf:=HF.out
   rw [if_neg (by decide)] at hf
   have HR:=Lib.hid hf
   clear hf HF
   go_wp2_with fail
   refine (hasT_val _ HT.out.2 HB.out).mono ?_
   rintro e w2 ⟨rfl,rfl⟩
   go_wp2_with fail
   refine (copyAssertion_any _ _ (a1,a2) _ H1.out.2.2.1 H1.out.2.2.2 (by simp only;omega) (by simp only;omega)).mono ?_
   rintro e w2 ⟨x1,x2,rfl,ho,hb2⟩
   have q1:=ho.one
   have q2:=ho.two
   obtain ⟨d1,e1,rfl⟩:=q1.form
   obtain ⟨d2,e2,rfl⟩:=q2.form
   have hR:=box_keep H1.out.1.2 hb2
   have hRl:=box_lt hR
   obtain ⟨⟨r0,r1,r2,r3⟩,rz⟩:=box_four hR
   have h4:=box_four (cells_four (.slice d1 a1.length e1) (.slice d2 a2.length e2) (.int .i64 x) (.int .i64 x) hR)
   obtain ⟨⟨s0,s1,s2,s3⟩,_⟩:=h4
   have hz1:=H1.out.2.1.size
   have HE:=Lib.hid (And.intro (And.intro (q1.kept (fr_4c w2 (w.heap.size+1) (.slice d1 a1.length e1) (.slice d2 a2.length e2) (.int .i64 x) (.int .i64 x)) (fun k _ hk e=>by have h2:w1.heap.size≤k:=hk;have e2:k=w.heap.size+1:=e;have:=box_lt H1.out.1.2;omega)) (q2.kept (fr_4c w2 (w.heap.size+1) (.slice d1 a1.length e1) (.slice d2 a2.length e2) (.int .i64 x) (.int .i64 x)) (fun k _ hk e=>by have h2:w1.heap.size≤k:=hk;have e2:k=w.heap.size+1:=e;have:=box_lt H1.out.1.2;omega))) (below_four (b:=w.heap.size+1) (bt H1.out.2.1 hb2) (by omega) (.slice d1 a1.length e1) (.slice d2 a2.length e2) (.int .i64 x) (.int .i64 x)))
   clear ho q1 q2 hR hb2
   go_wp2
   refine bodyPost_ret (v:=.tuple #[.agg #[.slice d1 a1.length e1,.slice d2 a2.length e2,.int .i64 x,.int .i64 x],.bool true]) (by simp [results,Tryz.results69,go_sem,s0,s1,s2,s3]) rfl ?_
   rw [HR.out]
   exact ⟨_,_,rfl,⟨HE.out.1.1.more fun k _ hk=>Nat.le_trans hz1 hk,HE.out.1.2.more fun k _ hk=>Nat.le_trans hz1 hk⟩,HE.out.2⟩
 | true =>
   have hf:=HF.out
   rw [if_pos rfl] at hf
   obtain ⟨N,hN⟩:∃ N,newV (T ||| m)=N:=⟨_,rfl⟩
   rw [hN] at hf
   have HR:=Lib.hid hf
   have HN:=Lib.hid hN
   clear hf HF hN
   go_wp2_with fail
   refine (hasT_val _ HT.out.2 HB.out).mono ?_
   rintro e w2 ⟨rfl,rfl⟩
   have hTe:=newVariable_any (S1:=S1) (S2:=S2) (.slice p1 a1.length c1) (.slice p2 a2.length c2) (a1,a2) m w1 H1.out.2.2.1 H1.out.2.2.2 hm
   rw [HT.out.1,HN.out] at hTe
   have HTE:=Lib.hid hTe
   clear hTe
   go_wp2_with fail
   refine HTE.out.mono ?_
   rintro e w2 ⟨rfl,hb2⟩
   have H2:=Lib.hid (And.intro (And.intro (box_keep H1.out.1.1 hb2) (box_keep H1.out.1.2 hb2)) (And.intro (bt H1.out.2.1 hb2) (And.intro (H1.out.2.2.1.keep hb2) (H1.out.2.2.2.keep hb2))))
   have hz2:=H2.out.2.1.size
   clear hb2 a0 a1' al H1 HTE
   have a0:=box0 H2.out.1.1
   have a1':=box1 H2.out.1.1
   have al:=box_lt H2.out.1.1
   cases N with
   | none =>
     have hRl:=box_lt H2.out.1.2
     obtain ⟨⟨r0,r1,r2,r3⟩,rz⟩:=box_four H2.out.1.2
     have h4:=box_four (cells_four (.slice none 0 0) (.slice none 0 0) (.int .i64 0) (.int .i64 0) H2.out.1.2)
     obtain ⟨⟨s0,s1,s2,s3⟩,_⟩:=h4
     have HE:=Lib.hid (below_four (b:=w.heap.size+1) H2.out.2.1 (by omega) (.slice none 0 0) (.slice none 0 0) (.int .i64 0) (.int .i64 0))
     go_wp2
     refine bodyPost_ret (v:=.tuple #[.agg #[.slice none 0 0,.slice none 0 0,.int .i64 0,.int .i64 0],.bool false]) (by simp [results,Tryz.results69,go_sem,s0,s1,s2,s3]) rfl ?_
     rw [HR.out]
     exact ⟨_,_,rfl,⟨RL.nil _ _,RL.nil _ _⟩,HE.out⟩
   | some n =>
     rw [show nvV (some n)=.int .i64 n from rfl]
     go_wp2_with fail
     refine (replaceIn_any _ _ (a1,a2) x n _ H2.out.2.2.1 H2.out.2.2.2 hl1 hl2).mono ?_
     rintro e w3 ⟨x1,x2,rfl,⟨q1,q2⟩,hb3⟩
     obtain ⟨d1,e1,rfl⟩:=q1.form
     obtain ⟨d2,e2,rfl⟩:=q2.form
     have hR:=box_keep H2.out.1.2 hb3
     have hRl:=box_lt hR
     obtain ⟨⟨r0,r1,r2,r3⟩,rz⟩:=box_four hR
     obtain ⟨n1,hn1⟩:∃ n1,(subB (a1,a2) x n).1.length=n1:=⟨_,rfl⟩
     obtain ⟨n2,hn2⟩:∃ n2,(subB (a1,a2) x n).2.length=n2:=⟨_,rfl⟩
     rw [hn1] at q1
     rw [hn2] at q2
     rw [hn1,hn2]
     have h4:=box_four (cells_four (.slice d1 n1 e1) (.slice d2 n2 e2) (.int .i64 x) (.int .i64 n) hR)
     obtain ⟨⟨s0,s1,s2,s3⟩,_⟩:=h4
     have HE:=Lib.hid (And.intro (And.intro (q1.kept (fr_4c w3 (w.heap.size+1) (.slice d1 n1 e1) (.slice d2 n2 e2) (.int .i64 x) (.int .i64 n)) (fun k _ hk e=>by have h2:w2.heap.size≤k:=hk;have e2:k=w.heap.size+1:=e;have:=box_lt H2.out.1.2;omega)) (q2.kept (fr_4c w3 (w.heap.size+1) (.slice d1 n1 e1) (.slice d2 n2 e2) (.int .i64 x) (.int .i64 n)) (fun k _ hk e=>by have h2:w2.heap.size≤k:=hk;have e2:k=w.heap.size+1:=e;have:=box_lt H2.out.1.2;omega))) (below_four (b:=w.heap.size+1) (bt H2.out.2.1 hb3) (by omega) (.slice d1 n1 e1) (.slice d2 n2 e2) (.int .i64 x) (.int .i64 n)))
     clear q1 q2 hR hb3 hn1 hn2
     go_wp2
     refine bodyPost_ret (v:=.tuple #[.agg #[.slice d1 n1 e1,.slice d2 n2 e2,.int .i64 x,.int .i64 n],.bool true]) (by simp [results,Tryz.results69,go_sem,s0,s1,s2,s3]) rfl ?_
     rw [HR.out]
     exact ⟨_,_,rfl,⟨HE.out.1.1.more fun k _ hk=>Nat.le_trans hz2 hk,HE.out.1.2.more fun k _ hk=>Nat.le_trans hz2 hk⟩,HE.out.2⟩
end Go.Proofs.YtkbbmjcfgcfejaaGreat
