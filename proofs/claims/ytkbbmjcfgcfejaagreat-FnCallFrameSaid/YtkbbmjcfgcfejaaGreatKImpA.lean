/- Fam3: texts StarI, StarS, StarI2 in one. -/
import Derived.Test.YtkbbmjcfgcfejaaGreatKDHolds2
import Derived.Deep.RegionHeld3
import Derived.Test.YtkbbmjcfgcfejaaGreatKBtxA
import Derived.Test.YtkbbmjcfgcfejaaGreatKEnt1
import Derived.Deep.Cut
import Derived.Test.YtkbbmjcfgcfejaaGreatKCase14
import Derived.Test.YtkbbmjcfgcfejaaGreatKItrB
namespace Go.Proofs.YtkbbmjcfgcfejaaGreat
open Go.RowKit
def starA (a b:Asn):Asn:=(a.1 ++ b.1,a.2 ++ b.2)
def starOk (a b:Asn):Bool:=asnB a && (asnB b && asnB (starA a b))
def starR (a b:Asn):Asn:=if starOk a b=true then starA a b else ([],[])
theorem asn_sz {a:Asn} (h:asnB a=true):asSz a:=by
 simp only [asnB,factsB,Bool.and_eq_true,decide_eq_true_eq] at h
 unfold asSz;omega
theorem oa_nil (w:World) (B:Nat):OA w B (.slice none 0 0) (.slice none 0 0) (([],[]):Asn):=⟨[],[],OL.nil _ _,OL.nil _ _,by simp⟩
theorem OL.set2 {α:Type} [Own α] [Tid α] {w:World} {B:Nat} {v:Value} {l:List α} {fp:List Nat} (h:OL w B v l fp) {t:Nat} (ht:∀ k ∈ fp,¬ k=t) (x y:Value) :
 OL ((w.setCell ⟨t,0,none⟩ x).setCell ⟨t,1,none⟩ y) B v l fp :=
 (h.okept (fr_set _ _ _) fun k hk e=>ht k hk e).okept (fr_set _ _ _) fun k hk e=>ht k hk e
def Pack (w0 W:World) (t:Nat) (x y:Value) (a:Asn):Prop :=
 (W.cell? ⟨t,0,none⟩=some x∧W.cell? ⟨t,1,none⟩=some y)∧(OA W w0.heap.size x y a∧(Below w0.heap.size w0 W∧(t < W.heap.size∧w0.heap.size≤t)))
theorem packA {w0 w5 w6:World} {B1 B2 t:Nat} {x y u v:Value} {l1:List Fact} {l2:List Atom} {f1 f2:List Nat} {T:TypeId} (o1:OL w5 B1 x l1 f1) (n1:f1.Nodup) (o2:OL w6 B2 y l2 f2) (n2:f2.Nodup) (hb:Below w5.heap.size w5 w6) (hb6:Below w0.heap.size w0 w6)
 (h1:w0.heap.size≤B1) (h2:w5.heap.size≤B2) (hT:w6.heap[t]?=some (.cells #[u,v] T (0,0))) (t1:∀ k ∈ f1,¬ k=t) (t2:∀ k ∈ f2,¬ k=t) (h0:w0.heap.size≤t) (h5:w0.heap.size≤w5.heap.size) :
 Pack w0 ((w6.setCell ⟨t,0,none⟩ x).setCell ⟨t,1,none⟩ y) t x y (l1,l2):=by
 have r:=box_two x y (box0 hT) (box1 hT)
 have hl:=box_lt hT
 refine ⟨r,⟨f1,f2,((o1.keep hb).set2 t1 x y).mono h1,(o2.set2 t2 x y).mono (by omega),List.nodup_append.2 ⟨n1,n2,fun p hp q hq e=>?_⟩⟩,(hb6.setCell h0 _).setCell h0 _,by simpa using hl,h0⟩
 have q1:=(o1.lt p hp).2
 have q2:=(o2.lt q hq).1
 omega
theorem packC {w0 w5 w6:World} {B1 B2:Nat} {x y:Value} {l1:List Fact} {l2:List Atom} {f1 f2:List Nat} (T:TypeId) (o1:OL w5 B1 x l1 f1) (n1:f1.Nodup) (o2:OL w6 B2 y l2 f2) (n2:f2.Nodup) (hb:Below w5.heap.size w5 w6) (hb6:Below w0.heap.size w0 w6)
 (h1:w0.heap.size≤B1) (h2:w5.heap.size≤B2) (h5:w0.heap.size≤w5.heap.size):Pack w0 (w6.alloc (.cells #[x,y] T)) w6.heap.size x y (l1,l2):=by
 have hz:=hb6.size
 refine ⟨⟨by simp,by simp⟩,⟨f1,f2,((o1.keep hb).keep (below_alloc _ _)).mono h1,(o2.keep (below_alloc _ _)).mono (by omega),List.nodup_append.2 ⟨n1,n2,fun p hp q hq e=>?_⟩⟩,ba hb6 _,by simp,hz⟩
 have q1:=(o1.lt p hp).2
 have q2:=(o2.lt q hq).1
 omega
set_option maxRecDepth 100000 in
set_option maxHeartbeats 3200000 in
theorem starAssertionsI_any {S1 S2 S3 S4:Nat→Prop} (v1 v2 u1 u2:Value) (a b:Asn) (w:World) (h1:RL w S1 v1 a.1) (h2:RL w S2 v2 a.2) (k1:RL w S3 u1 b.1) (k2:RL w S4 u2 b.2) :
 Calls Tryz.prog 82 #[.agg #[v1,v2],.agg #[u1,u2]] w fun e w'=>∃ x1 x2,e=.returned (.tuple #[.agg #[x1,x2],.bool (starOk a b)])∧OA w' w.heap.size x1 x2 (starR a b)∧Below w.heap.size w w':=by
 obtain ⟨p1,c1,rfl⟩:=h1.form
 obtain ⟨p2,c2,rfl⟩:=h2.form
 obtain ⟨p3,c3,rfl⟩:=k1.form
 obtain ⟨p4,c4,rfl⟩:=k2.form
 obtain ⟨w0,hw0⟩:∃ w0,w0=(((w.alloc (.cells #[.slice p1 a.1.length c1,.slice p2 a.2.length c2] 26)).alloc (.cells #[.slice p3 b.1.length c3,.slice p4 b.2.length c4] 26)).alloc (.cells #[.slice none 0 0,.slice none 0 0] 26)):=⟨_,rfl⟩
 have hc0:w0.cell? ⟨w.heap.size,0,none⟩=some (.slice p1 a.1.length c1):=by rw [hw0];simp [go_sem]
 have hc1:w0.cell? ⟨w.heap.size,1,none⟩=some (.slice p2 a.2.length c2):=by rw [hw0];simp [go_sem]
 have hd0:w0.cell? ⟨w.heap.size+1,0,none⟩=some (.slice p3 b.1.length c3):=by rw [hw0];simp [go_sem]
 have hd1:w0.cell? ⟨w.heap.size+1,1,none⟩=some (.slice p4 b.2.length c4):=by rw [hw0];simp [go_sem]
 have hA:w0.heap[w.heap.size+2]?=some (.cells #[.slice none 0 0,.slice none 0 0] 26 (0,0)):=by
  rw [hw0]
  have:=heap_alloc_new ((w.alloc (.cells #[.slice p1 a.1.length c1,.slice p2 a.2.length c2] 26)).alloc (.cells #[.slice p3 b.1.length c3,.slice p4 b.2.length c4] 26)) (.cells #[.slice none 0 0,.slice none 0 0] 26)
  simpa using this
 have hz:w0.heap.size=w.heap.size+3:=by rw [hw0];simp
 have hW:Below w.heap.size w w0:=by rw [hw0];exact ba (ba (below_alloc _ _) _) _
 have q1:=h1.keep hW
 have q2:=h2.keep hW
 have q3:=k1.keep hW
 have q4:=k2.keep hW
 have HZ:=Lib.hid (And.intro hz hw0)
 clear h1 h2 k1 k2 hz hw0
 cases ha:asnB a
 · have hf:starOk a b=false:=by simp [starOk,ha]
   have hL:starR a b=([],[]):=by simp [starR,hf]
   have HF:=Lib.hid (And.intro hf (And.intro hL ha))
   clear hf hL ha
   go_enter Tryz.func82,Tryz.ntmps82
   go_wp2_with fail
   rw [← HZ.out.2]
   refine (cb (asnValidI_any _ _ a _ q1 q2) HF.out.2.2).mono ?_
   rintro e w1 ⟨rfl,hb⟩
   have hA1:=box_keep hA hb
   have ha0:=box0 hA1
   have ha1:=box1 hA1
   have haz:∀ i,w1.frozen? ⟨w.heap.size+2,i,none⟩=false:=boxz hA1
   have r:=box_two (.slice none 0 0) (.slice none 0 0) ha0 ha1
   have hbb:=((bt hW hb).setCell (p:=⟨w.heap.size+2,0,none⟩) (by simp) (.slice none 0 0)).setCell (p:=⟨w.heap.size+2,1,none⟩) (by simp) (.slice none 0 0)
   go_wp2
   refine bodyPost_ret (v:=.tuple #[.agg #[.slice none 0 0,.slice none 0 0],.bool false]) (by simp [results,Tryz.results82,go_sem,r.1,r.2]) rfl ?_
   exact ⟨_,_,by rw [HF.out.1],by rw [HF.out.2.1];exact oa_nil _ _,hbb⟩
 have HVA:=Lib.hid ha
 cases hb:asnB b
 · have hf:starOk a b=false:=by simp [starOk,hb]
   have hL:starR a b=([],[]):=by simp [starR,hf]
   have HF:=Lib.hid (And.intro hf (And.intro hL hb))
   clear hf hL ha hb
   go_enter Tryz.func82,Tryz.ntmps82
   go_wp2_with fail
   rw [← HZ.out.2]
   refine (cb (asnValidI_any _ _ a _ q1 q2) HVA.out).mono ?_
   rintro e w1 ⟨rfl,hb1⟩
   replace hd0:=cell_keep hb1 hd0
   replace hd1:=cell_keep hb1 hd1
   have hz1:=World.block_lt_of_cell? w1 _ hd0
   simp only at hz1
   go_wp2_with fail
   refine (cb (asnValidI_any _ _ b _ (q3.keep hb1) (q4.keep hb1)) HF.out.2.2).mono ?_
   rintro e w2 ⟨rfl,hb2⟩
   have hb:=bt hb1 hb2
   have hA1:=box_keep hA hb
   have ha0:=box0 hA1
   have ha1:=box1 hA1
   have haz:∀ i,w2.frozen? ⟨w.heap.size+2,i,none⟩=false:=boxz hA1
   have r:=box_two (.slice none 0 0) (.slice none 0 0) ha0 ha1
   have hbb:=((bt hW hb).setCell (p:=⟨w.heap.size+2,0,none⟩) (by simp) (.slice none 0 0)).setCell (p:=⟨w.heap.size+2,1,none⟩) (by simp) (.slice none 0 0)
   go_wp2
   refine bodyPost_ret (v:=.tuple #[.agg #[.slice none 0 0,.slice none 0 0],.bool false]) (by simp [results,Tryz.results82,go_sem,r.1,r.2]) rfl ?_
   exact ⟨_,_,by rw [HF.out.1],by rw [HF.out.2.1];exact oa_nil _ _,hbb⟩
 have hsa:=asn_sz ha
 have hsb:=asn_sz hb
 have HVB:=Lib.hid hb
 clear ha hb
 have HSZ:=Lib.hid (And.intro hsa hsb)
 clear hsa hsb
 go_enter Tryz.func82,Tryz.ntmps82
 go_wp2_with fail
 rw [← HZ.out.2]
 refine (cb (asnValidI_any _ _ a _ q1 q2) HVA.out).mono ?_
 rintro e w1 ⟨rfl,hb1⟩
 replace hd0:=cell_keep hb1 hd0
 replace hd1:=cell_keep hb1 hd1
 have hz1:=World.block_lt_of_cell? w1 _ hd0
 simp only at hz1
 go_wp2_with fail
 refine (cb (asnValidI_any _ _ b _ (q3.keep hb1) (q4.keep hb1)) HVB.out).mono ?_
 rintro e w2 ⟨rfl,hb2⟩
 have hb:=bt hb1 hb2
 replace hc0:=cell_keep hb hc0
 replace hc1:=cell_keep hb hc1
 replace hd0:=cell_keep hb2 hd0
 replace hd1:=cell_keep hb2 hd1
 replace hA:=box_keep hA hb
 replace q1:=q1.keep hb
 replace q2:=q2.keep hb
 replace q3:=q3.keep hb
 replace q4:=q4.keep hb
 replace hW:=bt hW hb
 have hzA:=box_lt hA
 have HA:=Lib.hid hA
 clear hA hb1 hb2 hb
 go_wp2_with fail
 go_region_held3 (fun w'=>(w'.cell? ⟨w.heap.size,0,none⟩=some (.slice p1 a.1.length c1)∧w'.cell? ⟨w.heap.size,1,none⟩=some (.slice p2 a.2.length c2))∧(w'.cell? ⟨w.heap.size+1,0,none⟩=some (.slice p3 b.1.length c3)∧w'.cell? ⟨w.heap.size+1,1,none⟩=some (.slice p4 b.2.length c4)))
  (exact ⟨⟨(by repeat (first | with_reducible exact hc0 | (with_reducible refine (fr_set _ _ _).cell (by first | (simp;done) | (simp;omega) | omega) ?_) | exact cell_keep Bl hc0)),(by repeat (first | with_reducible exact hc1 | (with_reducible refine (fr_set _ _ _).cell (by first | (simp;done) | (simp;omega) | omega) ?_) | exact cell_keep Bl hc1))⟩,⟨(by repeat (first | with_reducible exact hd0 | (with_reducible refine (fr_set _ _ _).cell (by first | (simp;done) | (simp;omega) | omega) ?_) | exact cell_keep Bl hd0)),(by repeat (first | with_reducible exact hd1 | (with_reducible refine (fr_set _ _ _).cell (by first | (simp;done) | (simp;omega) | omega) ?_) | exact cell_keep Bl hd1))⟩⟩)
  (first
    | (go_at_call 68;go_must (refine (joinFacts_any _ _ a.1 b.1 _ (q1.keep Bl) (q3.keep Bl) (by have:=HSZ.out.1.1;have:=HSZ.out.2.1;omega)).mono ?_;rintro e w5 ⟨x1,rfl,⟨f1,o1,n1⟩,hb5'⟩;obtain ⟨d1,m1,k1,rfl⟩:=o1.read.forms;have hb5:Below w2.heap.size w2 w5:=bt Bl hb5';have hz5:=hb5.size;(first | have hT5:w5.heap[w2.heap.size]?=some (.cells #[.slice none 0 0,.slice none 0 0] 26 (0,0)):=box_keep (heap_alloc_new w2 (.cells #[.slice none 0 0,.slice none 0 0] 26)) hb5' | have hT5:w5.heap[w2.heap.size]?=some (.cells #[.slice none 0 0,.slice none 0 0] 26 (0,0)):=box_keep (heap_alloc_new w2.drew (.cells #[.slice none 0 0,.slice none 0 0] 26)) hb5' | skip)))
    | (go_at_call 70;go_must (refine (joinAtoms_any _ _ a.2 b.2 _ (q2.keep Bl) (q4.keep Bl) (by have:=HSZ.out.1.2;have:=HSZ.out.2.2;omega)).mono ?_;rintro e w6 ⟨y1,rfl,⟨f2,o2,n2⟩,hb6'⟩;obtain ⟨d2,m2,k2,rfl⟩:=o2.read.forms;have hb6:Below w2.heap.size w2 w6:=bt Bl hb6';have hb56:Below w5.heap.size w5 w6:=bt Bl hb6';(first | have hT6:=box_keep hT5 hb56 | have hT6:=box_keep (heap_alloc_new w5 (.cells #[.slice none 0 0,.slice none 0 0] 26)) hb6' | skip);(first | (have ht0:=box0 hT6;have ht1:=box1 hT6;have htz:=boxz hT6;have htl:=box_lt hT6) | skip))))
 all_goals
  first
    | (have _h:=hT5
       clear _h
       have V:=packA (t:=w2.heap.size) o1 n1 o2 n2 hb56 hb6 (by simp) (by simp) hT6 (fun k hk=>by have:=(o1.lt k hk).1;simp at this;omega) (fun k hk=>by have:=(o2.lt k hk).1;have:=box_lt hT5;omega) (Nat.le_refl _) hz5
       obtain ⟨W,hWd⟩:∃ W,W=(w6.setCell ⟨w2.heap.size,0,none⟩ (.slice d1 m1 k1)).setCell ⟨w2.heap.size,1,none⟩ (.slice d2 m2 k2):=⟨_,rfl⟩
       rw [← hWd] at V ⊢
       clear hWd
       obtain ⟨t,ht⟩:∃ t,t=w2.heap.size:=⟨_,rfl⟩
       rw [← ht] at V ⊢
       have HP:=Lib.hid V
       clear V o1 o2 n1 n2 hb5 hb5' hb6 hb6' hb56 hz5 hT6 ht0 ht1 htz htl hT5 ht)
    | (have _h:=hT6
       clear _h
       have V:=packA (t:=w5.heap.size) o1 n1 o2 n2 hb56 hb6 (by simp) (by simp) hT6 (fun k hk=>by have:=(o1.lt k hk).2;omega) (fun k hk=>by have:=(o2.lt k hk).1;simp at this;omega) hz5 hz5
       generalize (w6.setCell ⟨w5.heap.size,0,none⟩ (.slice d1 m1 k1)).setCell ⟨w5.heap.size,1,none⟩ (.slice d2 m2 k2)=W at *
       generalize w5.heap.size=t at *
       have HP:=Lib.hid V
       clear V o1 o2 n1 n2 hb5 hb5' hb6 hb6' hb56 hz5 hT6 ht0 ht1 htz htl)
    | (have V:=packC 26 o1 n1 o2 n2 hb56 hb6 (by simp) (by simp) hz5
       generalize w6.alloc (.cells #[.slice d1 m1 k1,.slice d2 m2 k2] 26)=W at *
       generalize w6.heap.size=t at *
       have HP:=Lib.hid V
       clear V o1 o2 n1 n2 hb5 hb5' hb6 hb6' hb56 hz5)
  obtain ⟨⟨hx0,hx1⟩,hOA,hbW,htW,_⟩:=HP.out
  have hzW:=hbW.size
  have HOA:=Lib.hid hOA
  have HAW:=Lib.hid (box_keep HA.out hbW)
  have rx1:=hOA.one
  have rx2:=hOA.two
  clear hOA
  cases hv:asnB (starA a b)
  · have hf:starOk a b=false:=by simp [starOk,HVA.out,HVB.out,hv]
    have hL:starR a b=([],[]):=by simp [starR,hf]
    have HF:=Lib.hid (And.intro hf (And.intro hL hv))
    clear hf hL hv
    go_wp2_with fail
    refine (cb (asnValidI_any _ _ (starA a b) _ rx1 rx2) HF.out.2.2).mono ?_
    rintro e w8 ⟨rfl,hb8⟩
    have hA1:=box_keep HAW.out hb8
    have ha0:=box0 hA1
    have ha1:=box1 hA1
    have haz:∀ i,w8.frozen? ⟨w.heap.size+2,i,none⟩=false:=boxz hA1
    have hl8:=box_lt hA1
    have r:=box_two (.slice none 0 0) (.slice none 0 0) ha0 ha1
    have hbb:=((bt (bt hW hbW) hb8).setCell (p:=⟨w.heap.size+2,0,none⟩) (by simp) (.slice none 0 0)).setCell (p:=⟨w.heap.size+2,1,none⟩) (by simp) (.slice none 0 0)
    clear rx1 rx2 hA1
    go_wp2
    refine bodyPost_ret (v:=.tuple #[.agg #[.slice none 0 0,.slice none 0 0],.bool false]) (by simp [results,Tryz.results82,go_sem,r.1,r.2]) rfl ?_
    exact ⟨_,_,by rw [HF.out.1],by rw [HF.out.2.1];exact oa_nil _ _,hbb⟩
  · have hf:starOk a b=true:=by simp [starOk,HVA.out,HVB.out,hv]
    have hL:starR a b=starA a b:=by simp [starR,hf]
    have HF:=Lib.hid (And.intro hf (And.intro hL hv))
    clear hf hL hv
    go_wp2_with fail
    refine (cb (asnValidI_any _ _ (starA a b) _ rx1 rx2) HF.out.2.2).mono ?_
    rintro e w8 ⟨rfl,hb8⟩
    have hA1:=box_keep HAW.out hb8
    have ha0:=box0 hA1
    have ha1:=box1 hA1
    have haz:∀ i,w8.frozen? ⟨w.heap.size+2,i,none⟩=false:=boxz hA1
    have hl8:=box_lt hA1
    have hz8:=hb8.size
    have ht8:t < w8.heap.size:=by omega
    replace hx0:=cell_keep hb8 hx0
    replace hx1:=cell_keep hb8 hx1
    have r:=box_two (.slice d1 m1 k1) (.slice d2 m2 k2) ha0 ha1
    have HO:=Lib.hid ((HOA.out.keep hb8).res (w:=w) (R:=w.heap.size+2) hzA (by omega) (bt (bt hW hbW) hb8) (.slice d1 m1 k1) (.slice d2 m2 k2))
    clear rx1 rx2 hA1
    go_wp2
    refine bodyPost_ret (v:=.tuple #[.agg #[.slice d1 m1 k1,.slice d2 m2 k2],.bool true]) (by simp [results,Tryz.results82,go_sem,r.1,r.2]) rfl ?_
    exact ⟨_,_,by rw [HF.out.1],by rw [HF.out.2.1];exact HO.out.1,HO.out.2⟩
end Go.Proofs.YtkbbmjcfgcfejaaGreat
namespace Go.Proofs.YtkbbmjcfgcfejaaGreat
open Go.RowKit
end Go.Proofs.YtkbbmjcfgcfejaaGreat
namespace Go.Proofs.YtkbbmjcfgcfejaaGreat
open Go.RowKit
end Go.Proofs.YtkbbmjcfgcfejaaGreat
namespace Go.Proofs.YtkbbmjcfgcfejaaGreat
open Go.RowKit
end Go.Proofs.YtkbbmjcfgcfejaaGreat
namespace Go.Proofs.YtkbbmjcfgcfejaaGreat
open Go.RowKit
section
variable {α:Type} [Own α] [Tid α] {w w':World} {B:Nat} {v:Value} {l:List α} {F F':List Nat}
end
end Go.Proofs.YtkbbmjcfgcfejaaGreat
namespace Go.Proofs.YtkbbmjcfgcfejaaGreat
open Go.RowKit
def impM (a:Asn) (f:Fact):Nat:=termM (termsM a) 0 ||| termM (termM 0 f.2.1) f.2.2
def impB (a:Asn) (f:Fact):Bool:=asnB a && (factB f && (casesL (impM a f) a).all fun cl=>factC cl f)
end Go.Proofs.YtkbbmjcfgcfejaaGreat
namespace Go.Proofs.YtkbbmjcfgcfejaaGreat
open Go Go.RowKit
attribute [local go_sem] Oper.semAt_some
end Go.Proofs.YtkbbmjcfgcfejaaGreat
