/- Walks: an assertion with one atom in the place of two. -/
import Derived.Test.YtkbbmjcfgcfejaaGreatKChains
import Derived.Deep.RegionLaw
namespace Go.Proofs.YtkbbmjcfgcfejaaGreat
open Go.RowKit
structure DB (w0 w:World) (bR bA:Nat) (v1 v2:Value) (l1:List Fact) (l2:List Atom):Prop where
 f:FE w w0.heap.size v1 l1
 a:FE w w0.heap.size v2 l2
 boxR:w.heap[bR]?=some (.cells #[.slice none 0 0,.slice none 0 0] 26 (0,0))
 boxA:w.heap[bA]?=some (.cells #[v1,v2] 26 (0,0))
 fr:Below w0.heap.size w0 w
section
variable {w0 w w':World} {bR bA:Nat} {v1 v2 v':Value} {l1 m1:List Fact} {l2 m2:List Atom}
theorem DB.keep (h:DB w0 w bR bA v1 v2 l1 l2) (hb:Below w.heap.size w w'):DB w0 w' bR bA v1 v2 l1 l2 :=
 ⟨h.f.keep hb,h.a.keep hb,box_keep h.boxR hb,box_keep h.boxA hb,bt h.fr hb⟩
theorem DB.app2 (h:DB w0 w bR bA v1 v2 l1 l2) (hne:¬ bR=bA) (hlo:w0.heap.size≤bA) (h1:FE w' w0.heap.size v' m2) (hf:Fr (TF w w0.heap.size 118) w w') :
 DB w0 (w'.setCell ⟨bA,1,none⟩ v') bR bA v1 v' l1 m2:=by
 have hA:=box_tf h.boxA hf (by decide)
 have hS:∀ {e:TypeId},26 ≠ e→¬ TF w' w0.heap.size e bA:=fun hne=>tf_ne hA hne
 exact ⟨(h.f.tf hf (by decide)).setB (hS (by decide)),h1.setB (hS (by decide)),box_other (box_tf h.boxR hf (by decide)) _ _ hne,box_set1 hA _,
  (h.fr.trans (tf_below hf h.fr.size)).setCell (by simp;omega) _⟩
theorem DB.done (h:DB w0 w bR bA v1 v2 l1 l2) (hlo:w0.heap.size≤bR) (x y:Value) :
 (FE ((w.setCell ⟨bR,0,none⟩ x).setCell ⟨bR,1,none⟩ y) w0.heap.size v1 l1∧FE ((w.setCell ⟨bR,0,none⟩ x).setCell ⟨bR,1,none⟩ y) w0.heap.size v2 l2) ∧
 Below w0.heap.size w0 ((w.setCell ⟨bR,0,none⟩ x).setCell ⟨bR,1,none⟩ y) :=
 ⟨⟨h.f.set2 h.boxR (by decide),h.a.set2 h.boxR (by decide)⟩,(h.fr.setCell (by simp;omega) _).setCell (by simp;omega) _⟩
end
theorem heap_at {w:World} {o:Obj} {g:Nat} (h:w.heap.size=g):(w.alloc o).heap[g]?=some o:=h ▸ heap_alloc_new w o
theorem FE.litA {w:World} {B g:Nat} {K A C:Int} (h:w.heap[g]?=some (.cells #[.int .i64 K,.int .i64 A,.int .i64 C] 118 (0,0))) (hB:B≤g):FE w B (.slice (some ⟨g,0,none⟩) 1 1) [((K,A,C):Atom)]:=by
 refine ⟨[.int .i64 K,.int .i64 A,.int .i64 C],.inr ⟨rfl,.inr ⟨g,1,#[.int .i64 K,.int .i64 A,.int .i64 C],rfl,hB,h,Nat.le_refl _,by unfold maxLen;omega,rfl,rfl⟩⟩,fun i hi=>?_⟩
 obtain rfl:i=0:=by simpa using hi
 exact rd_atom_mk w _ (K,A,C)
section
variable {w0 w:World} {bR bA:Nat} {v1 v2:Value} {l1:List Fact} {l2:List Atom}
theorem DB.mkA (h1:FE w w0.heap.size v1 l1) (h2:FE w w0.heap.size v2 l2) (hR:w.heap[bR]?=some (.cells #[.slice none 0 0,.slice none 0 0] 26 (0,0))) (hb:Below w0.heap.size w0 w) (hg:w.heap.size=bA) :
 DB w0 (w.alloc (.cells #[v1,v2] 26)) bR bA v1 v2 l1 l2 :=
 ⟨h1.alloc _,h2.alloc _,box_keep hR (below_alloc _ _),heap_at hg,ba hb _⟩
theorem DB.mkC {K A C:Int} (h1:FE w w0.heap.size v1 l1) (hR:w.heap[bR]?=some (.cells #[.slice none 0 0,.slice none 0 0] 26 (0,0))) (hb:Below w0.heap.size w0 w) (hg:w.heap.size=bA) :
 DB w0 ((w.alloc (.cells #[v1,.slice (some ⟨bA+1,0,none⟩) 1 1] 26)).alloc (.cells #[.int .i64 K,.int .i64 A,.int .i64 C] 118)) bR bA v1 (.slice (some ⟨bA+1,0,none⟩) 1 1) l1 [(K,A,C)] :=
 ⟨(h1.alloc _).alloc _,FE.litA (heap_at (by simp [hg])) (by have:=hb.size;omega),box_keep (box_keep hR (below_alloc _ _)) (below_alloc _ _),box_keep (heap_at hg) (below_alloc _ _),ba (ba hb _) _⟩
theorem DB.mkD {K A C:Int} {g:Nat} (h1:FE w w0.heap.size v1 l1) (hR:w.heap[bR]?=some (.cells #[.slice none 0 0,.slice none 0 0] 26 (0,0))) (hb:Below w0.heap.size w0 w)
 (hA:w.heap[bA]?=some (.cells #[.slice none 0 0,.slice none 0 0] 26 (0,0))) (hne:¬ bR=bA) (hlo:w0.heap.size≤bA) (hg:w.heap.size=g) :
 DB w0 (((w.setCell ⟨bA,0,none⟩ v1).setCell ⟨bA,1,none⟩ (.slice (some ⟨g,0,none⟩) 1 1)).alloc (.cells #[.int .i64 K,.int .i64 A,.int .i64 C] 118)) bR bA v1 (.slice (some ⟨g,0,none⟩) 1 1) l1 [(K,A,C)] :=
 ⟨(h1.set2 hA (by decide)).alloc _,FE.litA (heap_at (by simp [hg])) (by have:=hb.size;omega),box_keep (box_other (box_other hR _ _ hne) _ _ hne) (below_alloc _ _),box_keep (box_set1 (box_set0 hA _) _) (below_alloc _ _),ba ((hb.setCell hlo _).setCell hlo _) _⟩
theorem DB.mkB (h1:FE w w0.heap.size v1 l1) (h2:FE w w0.heap.size v2 l2) (hR:w.heap[bR]?=some (.cells #[.slice none 0 0,.slice none 0 0] 26 (0,0))) (hb:Below w0.heap.size w0 w)
 (hA:w.heap[bA]?=some (.cells #[.slice none 0 0,.slice none 0 0] 26 (0,0))) (hne:¬ bR=bA) (hlo:w0.heap.size≤bA) :
 DB w0 ((w.setCell ⟨bA,0,none⟩ v1).setCell ⟨bA,1,none⟩ v2) bR bA v1 v2 l1 l2 :=
 ⟨h1.set2 hA (by decide),h2.set2 hA (by decide),box_other (box_other hR _ _ hne) _ _ hne,box_set1 (box_set0 hA _) _,(hb.setCell hlo _).setCell hlo _⟩
end
theorem wout_mk {w w0 wc:World} {bO:Nat} {y1 y2:Value} {a1:List Fact} {x:Atom} (hlo:w.heap.size+3≤bO) (D:DB w wc (w.heap.size+2) bO y1 y2 a1 [x]) (hb:Below w0.heap.size w0 wc) :
 ∃ (bO':Nat) (z1 z2:Value) (b:Asn),Value.pointer (some ⟨bO,0,none⟩)=.pointer (some ⟨bO',0,none⟩)∧w.heap.size+3≤bO'∧(b.1.length≤a1.length∧b.2.length≤1)∧DB w wc (w.heap.size+2) bO' z1 z2 b.1 b.2∧Below w0.heap.size w0 wc :=
 ⟨_,_,_,(a1,[x]),rfl,hlo,⟨Nat.le_refl _,Nat.le_refl _⟩,D,hb⟩
set_option linter.unusedSimpArgs false in
set_option maxRecDepth 100000 in
set_option maxHeartbeats 3200000 in
theorem l6Without_any {S1 S2:Nat→Prop} (v1 v2:Value) (a:Asn) (i k K A B:Int) (w:World) (h1:RL w S1 v1 a.1) (h2:RL w S2 v2 a.2) (n1:a.1.length≤1048576) (n2:a.2.length≤1048576) :
 Calls Tryz.prog 220 #[.agg #[v1,v2],.int .i64 i,.int .i64 k,.agg #[.int .i64 K,.int .i64 A,.int .i64 B]] w fun e w'=>∃ (x1 x2:Value) (b:Asn),e=.returned (.agg #[x1,x2])∧(b.1.length≤a.1.length∧b.2.length≤a.2.length+1)∧FE w' w.heap.size x1 b.1∧FE w' w.heap.size x2 b.2∧Below w.heap.size w w':=by
 obtain ⟨a1,a2⟩:=a
 simp only at h1 h2 n1 n2
 obtain ⟨p1,c1,rfl⟩:=h1.form
 obtain ⟨p2,c2,rfl⟩:=h2.form
 go_enter Tryz.func220,Tryz.ntmps220
 go_upto_region 1 with fail
 generalize hw0:(((w.alloc (.cells #[.slice p1 a1.length c1,.slice p2 a2.length c2] 26)).alloc (.cells #[.int .i64 K,.int .i64 A,.int .i64 B] 118)).alloc (.cells #[.slice none 0 0,.slice none 0 0] 26))=w0
 have hc0:w0.cell? ⟨w.heap.size,0,none⟩=some (.slice p1 a1.length c1):=by rw [← hw0];simp [go_sem]
 have hc1:w0.cell? ⟨w.heap.size,1,none⟩=some (.slice p2 a2.length c2):=by rw [← hw0];simp [go_sem]
 have hx:w0.heap[w.heap.size+1]?=some (.cells #[.int .i64 K,.int .i64 A,.int .i64 B] 118 (0,0)):=by
  rw [← hw0]
  have:=heap_alloc_new (w.alloc (.cells #[.slice p1 a1.length c1,.slice p2 a2.length c2] 26)) (.cells #[.int .i64 K,.int .i64 A,.int .i64 B] 118)
  simp only [World.size_alloc] at this
  exact box_keep this (below_alloc _ _)
 have hBX:w0.heap[w.heap.size]?=some (.cells #[.slice p1 a1.length c1,.slice p2 a2.length c2] 26 (0,0)):=by
  rw [← hw0]
  exact box_keep (box_keep (heap_alloc_new w _) (below_alloc _ _)) (below_alloc _ _)
 have hR:w0.heap[w.heap.size+2]?=some (.cells #[.slice none 0 0,.slice none 0 0] 26 (0,0)):=by
  rw [← hw0]
  have:=heap_alloc_new ((w.alloc (.cells #[.slice p1 a1.length c1,.slice p2 a2.length c2] 26)).alloc (.cells #[.int .i64 K,.int .i64 A,.int .i64 B] 118)) (.cells #[.slice none 0 0,.slice none 0 0] 26)
  simpa using this
 have hz:w0.heap.size=w.heap.size+3:=by rw [← hw0];simp
 have hW:Below w.heap.size w w0:=by rw [← hw0];exact ba (ba (below_alloc _ _) _) _
 clear hw0
 have q1:=h1.keep hW
 have q2:=h2.keep hW
 have x0:=c30 hx
 have x1:=c31 hx
 have x2:=c32 hx
 have HZ:=Lib.hid (And.intro hz hR)
 have HBX:=Lib.hid hBX
 clear hBX
 have zz0:=World.block_lt_of_cell? w0 _ hc0
 have zz1:=World.block_lt_of_cell? w0 _ x0
 simp only at zz0 zz1
 have za0:w.heap.size < w0.heap.size+1:=by omega
 have za1:w.heap.size < w0.heap.size+1+1:=by omega
 have za2:w.heap.size+1 < w0.heap.size+1:=by omega
 have za3:w.heap.size+1 < w0.heap.size+1+1:=by omega
 have HH2:=Lib.hid h2
 clear hz hR h1 h2
 go_cut [9] from 10 (fun s9 wc=>∃ (bO:Nat) (y1 y2:Value) (b:Asn),s9=.pointer (some ⟨bO,0,none⟩)∧w.heap.size+3≤bO∧(b.1.length≤a1.length∧b.2.length≤1)∧DB w wc (w.heap.size+2) bO y1 y2 b.1 b.2∧Below w0.heap.size w0 wc)
 case first =>
  go_region_held3 (fun w'=>w'.cell? ⟨w.heap.size,0,none⟩=some (.slice p1 a1.length c1)∧(w'.cell? ⟨w.heap.size+1,0,none⟩=some (.int .i64 K)∧w'.cell? ⟨w.heap.size+1,1,none⟩=some (.int .i64 A)∧w'.cell? ⟨w.heap.size+1,2,none⟩=some (.int .i64 B)))
   (exact ⟨cell_keep Bl hc0,cell_keep Bl x0,cell_keep Bl x1,cell_keep Bl x2⟩)
   (first
     | (refine step_F (l:=([]:List Fact)) (m:=a1) (B:=w0.heap.size) (by rfl) (.tmp 11) (.tmp 13) _ (by rfl) ti_fact (by rfl) (FE.nil _ _ _) (by rfl) (q1.keep Bl) (by simp;omega) (Below.size (w:=w0) (B:=w0.heap.size) Bl) ?_;intro v5 w5 o5 hb5';rw [List.nil_append] at o5;obtain ⟨d5,m5,k5,rfl⟩:=o5.forms;have hb5:Below w0.heap.size w0 w5:=Below.trans Bl (tf_below hb5' (Below.size (w:=w0) (B:=w0.heap.size) Bl));have y0:=cell_keep hb5 x0;have y1:=cell_keep hb5 x1;have y2:=cell_keep hb5 x2;have yh:=cell_keep hb5 hc0;have yz:=World.block_lt_of_cell? w5 _ y0;simp only at yz;(first | (have hA5:=box_tf (heap_alloc_new ((w0.drew.alloc _).alloc _) (.cells #[.slice none 0 0,.slice none 0 0] 26)) hb5' (by decide);(try simp only [World.size_alloc,World.size_drew] at hA5);have ht0:=box0 hA5;have ht1:=box1 hA5;have htz:=boxz hA5;have htl:=box_lt hA5;have HA5:=Lib.hid hA5;clear hA5) | (have hA5:=box_tf (heap_alloc_new (w0.drew.alloc _) (.cells #[.slice none 0 0,.slice none 0 0] 26)) hb5' (by decide);(try simp only [World.size_alloc,World.size_drew] at hA5);have ht0:=box0 hA5;have ht1:=box1 hA5;have htz:=boxz hA5;have htl:=box_lt hA5;have HA5:=Lib.hid hA5;clear hA5) | (have hA5:=box_tf (box_keep (heap_alloc_new (w0.drew.alloc _) (.cells #[.slice none 0 0,.slice none 0 0] 26)) (below_alloc _ _)) hb5' (by decide);(try simp only [World.size_alloc,World.size_drew] at hA5);have ht0:=box0 hA5;have ht1:=box1 hA5;have htz:=boxz hA5;have htl:=box_lt hA5;have HA5:=Lib.hid hA5;clear hA5) | (have hA5:=box_tf (box_keep (box_keep (heap_alloc_new w0.drew (.cells #[.slice none 0 0,.slice none 0 0] 26)) (below_alloc _ _)) (below_alloc _ _)) hb5' (by decide);(try simp only [World.size_alloc,World.size_drew] at hA5);have ht0:=box0 hA5;have ht1:=box1 hA5;have htz:=boxz hA5;have htl:=box_lt hA5;have HA5:=Lib.hid hA5;clear hA5) | (have hA5:=box_tf (box_keep (heap_alloc_new w0.drew (.cells #[.slice none 0 0,.slice none 0 0] 26)) (below_alloc _ _)) hb5' (by decide);(try simp only [World.size_alloc,World.size_drew] at hA5);have ht0:=box0 hA5;have ht1:=box1 hA5;have htz:=boxz hA5;have htl:=box_lt hA5;have HA5:=Lib.hid hA5;clear hA5) | skip);(first | (have hL5:=box_tf (heap_alloc_new ((w0.drew.alloc _).alloc _) (.cells #[.int .i64 K,.int .i64 A,.int .i64 B] 118)) hb5' (by decide);(try simp only [World.size_alloc,World.size_drew] at hL5);have HL5:=Lib.hid hL5;clear hL5) | (have hL5:=box_tf (heap_alloc_new (w0.drew.alloc _) (.cells #[.int .i64 K,.int .i64 A,.int .i64 B] 118)) hb5' (by decide);(try simp only [World.size_alloc,World.size_drew] at hL5);have HL5:=Lib.hid hL5;clear hL5) | (have hL5:=box_tf (box_keep (heap_alloc_new (w0.drew.alloc _) (.cells #[.int .i64 K,.int .i64 A,.int .i64 B] 118)) (below_alloc _ _)) hb5' (by decide);(try simp only [World.size_alloc,World.size_drew] at hL5);have HL5:=Lib.hid hL5;clear hL5) | (have hL5:=box_tf (box_keep (box_keep (heap_alloc_new w0.drew (.cells #[.int .i64 K,.int .i64 A,.int .i64 B] 118)) (below_alloc _ _)) (below_alloc _ _)) hb5' (by decide);(try simp only [World.size_alloc,World.size_drew] at hL5);have HL5:=Lib.hid hL5;clear hL5) | (have hL5:=box_tf (box_keep (heap_alloc_new w0.drew (.cells #[.int .i64 K,.int .i64 A,.int .i64 B] 118)) (below_alloc _ _)) hb5' (by decide);(try simp only [World.size_alloc,World.size_drew] at hL5);have HL5:=Lib.hid hL5;clear hL5) | skip);clear hb5')
     | fail)
  all_goals
   have hz0:=HZ.out.1
   have hs5:=hb5.size
   have HR5:=Lib.hid (box_keep HZ.out.2 hb5)
   have HO:=Lib.hid (And.intro (o5.mono (B':=w.heap.size) (by omega)) (And.intro (bt hW hb5) hb5))
   clear o5 hb5 q1 q2
   go_wp2
   go_meet
   case rel =>
    first
      | exact wout_mk (by omega) (DB.mkA HO.out.1 (FE.litA HL5.out (by omega)) HR5.out HO.out.2.1 rfl) (ba HO.out.2.2 _)
      | exact wout_mk (by omega) (DB.mkA (HO.out.1.alloc _) (FE.litA (heap_alloc_new w5 _) (by omega)) (box_keep HR5.out (below_alloc _ _)) (ba HO.out.2.1 _) (by simp)) (ba (ba HO.out.2.2 _) _)
      | exact wout_mk (by omega) (DB.mkB HO.out.1 (FE.litA HL5.out (by omega)) HR5.out HO.out.2.1 HA5.out (by omega) (by omega)) ((HO.out.2.2.setCell (by simp;try omega) _).setCell (by simp;try omega) _)
      | exact wout_mk (by omega) (DB.mkB (HO.out.1.alloc _) (FE.litA (heap_alloc_new w5 _) (by omega)) (box_keep HR5.out (below_alloc _ _)) (ba HO.out.2.1 _) (box_keep HA5.out (below_alloc _ _)) (by omega) (by omega)) (((ba HO.out.2.2 _).setCell (by simp;try omega) _).setCell (by simp;try omega) _)
      | exact wout_mk (by omega) (DB.mkC HO.out.1 HR5.out HO.out.2.1 rfl) (ba (ba HO.out.2.2 _) _)
      | exact wout_mk (by omega) (DB.mkD HO.out.1 HR5.out HO.out.2.1 HA5.out (by omega) (by omega) rfl) (ba ((HO.out.2.2.setCell (by simp;try omega) _).setCell (by simp;try omega) _) _)
 case rest =>
  obtain ⟨bO,y1,y2,b,rfl,hbO,hbl,D,hbb⟩:=hcut
  have hz0:=HZ.out.1
  have hBX:=box_keep HBX.out hbb
  have HL:=Lib.hid hbl
  clear hbl hW hbb q1 q2 x0 x1 x2 hc0 hc1 HBX
  have H0:=Lib.hid (And.intro D hBX)
  clear D hBX
  go_wp2
  go_loopg [10] a2.length (fun q i' wr=>∃ (k':Nat) (y1 y2:Value) (b:Asn),k'+q=a2.length∧i'=.int .i64 k'∧(b.1.length≤a1.length∧b.2.length≤k'+1)∧DB w wr (w.heap.size+2) bO y1 y2 b.1 b.2∧wr.heap[w.heap.size]?=some (.cells #[.slice p1 a1.length c1,.slice p2 a2.length c2] 26 (0,0)))
  case atStart=>exact ⟨0,y1,y2,b,by omega,rfl,⟨HL.out.1,by have:=HL.out.2;omega⟩,H0.out.1,H0.out.2⟩
  case round =>
   clear H0 HL
   obtain ⟨n,y1,y2,b,hn,rfl,hbl,D,hBX⟩:=hrel
   have HN:=Lib.hid hn
   have HL:=Lib.hid hbl
   clear hn hbl
   obtain ⟨ua1,uc1,rfl⟩:=D.f.form
   obtain ⟨ua2,uc2,rfl⟩:=D.a.form
   have hc1:=box1 hBX
   have zc:=World.block_lt_of_cell? wr _ hc1
   simp only at zc
   by_cases hn8:n < a2.length
   · have hni:(n:Int) < (a2.length:Int):=by omega
     have hcase:((n:Int) != i)=false∨(((n:Int) != i)=true∧((n:Int) != k)=false)∨(((n:Int) != i)=true∧((n:Int) != k)=true):=by
      cases ((n:Int) != i) <;> cases ((n:Int) != k) <;> simp
     rcases hcase with e1 | ⟨e1,e2⟩ | ⟨e1,e2⟩
     · have HD:=Lib.hid (And.intro D hBX)
       clear D hBX
       go_wp2
       go_roundg (gk - 1)
       case rel=>exact ⟨n+1,_,_,b,by have:=HN.out;omega,by go_num,⟨HL.out.1,by have:=HL.out.2;omega⟩,HD.out.1,HD.out.2⟩
       case measure=>have:=HN.out;omega
     · have HD:=Lib.hid (And.intro D hBX)
       clear D hBX
       go_wp2
       go_roundg (gk - 1)
       case rel=>exact ⟨n+1,_,_,b,by have:=HN.out;omega,by go_num,⟨HL.out.1,by have:=HL.out.2;omega⟩,HD.out.1,HD.out.2⟩
       case measure=>have:=HN.out;omega
     · obtain ⟨q2a,q2c,hqe,_,_,hqf⟩:=(HH2.out.keep D.fr).atomAt
       simp only [Value.slice.injEq] at hqe
       obtain ⟨rfl,_,rfl⟩:=hqe
       obtain ⟨b1,o1,rfl,_,hz1,hp1,hp2,hp3⟩:=hqf n hn8
       obtain ⟨X,hX⟩:∃ X,gd a2 n=X:=⟨_,rfl⟩
       obtain ⟨X1,X2,X3⟩:=X
       rw [hX] at hp1 hp2 hp3
       simp only at hp1 hp2 hp3
       have d1:=box1 D.boxA
       have dz:=boxz D.boxA 1
       have dl:=box_lt D.boxA
       have HD:=Lib.hid (And.intro D hBX)
       have hlo:w.heap.size≤wr.heap.size:=D.fr.size
       have HLE:=Lib.hid (show b.2.length≤n+1∧n≤1048576 from ⟨HL.out.2,by omega⟩)
       clear D hBX hqf hX
       go_wp2
       go_region_law (first
        | (refine step_F (l:=b.2) (m:=[((X1,X2,X3):Atom)]) (B:=w.heap.size) (by rfl) (.tmp 34) (.tmp 40) _ (by rfl) ti_atom (by rfl) (HD.out.1.a.keep Bl) (by rfl) (lit_atom _ _ _ _ _) (by have:=HLE.out;simp;omega) (by simp;omega) ?_;intro v' w7 o7 hf7;obtain ⟨a7,n7,c7,rfl⟩:=o7.forms;have hA7:=box_tf (box_keep HD.out.1.boxA (w':=wr.drew.alloc (.cells #[.int .i64 X1,.int .i64 X2,.int .i64 X3] 118)) Bl) hf7 (by decide);have hb0:=box1 hA7;have hbz:=boxz hA7 1;have hbl7:=box_lt hA7;clear hA7)
        | fail)
       all_goals
        have hkp:Below wr.heap.size wr (wr.drew.alloc (.cells #[.int .i64 X1,.int .i64 X2,.int .i64 X3] 118)):=Bl
        have D9:=(HD.out.1.keep hkp).app2 (by omega) (by omega) o7 hf7
        have hB9:=box_other (box_tf (box_keep HD.out.2 hkp) hf7 (by decide)) ⟨bO,1,none⟩ (.slice a7 n7 c7) (by show ¬ w.heap.size=bO;omega)
        have H9:=Lib.hid (And.intro D9 hB9)
        clear D9 hB9 o7 hf7 hkp
        go_wp2
        go_roundg (gk - 1)
        case rel=>exact ⟨n+1,_,_,(b.1,b.2 ++ [(X1,X2,X3)]),by have:=HN.out;omega,by go_num,⟨HL.out.1,by have:=HL.out.2;simp;omega⟩,H9.out.1,H9.out.2⟩
        case measure=>have:=HN.out;omega
   · obtain rfl:n=a2.length:=by have:=HN.out;omega
     have b0:=box0 D.boxA
     have b1:=box1 D.boxA
     have bz:=boxz D.boxA
     have bl:=box_lt D.boxA
     have r0:=box0 D.boxR
     have r1:=box1 D.boxR
     have rz:=boxz D.boxR
     have rl:=box_lt D.boxR
     have r:=box_two (.slice ua1 b.1.length uc1) (.slice ua2 b.2.length uc2) r0 r1
     have HO:=Lib.hid (D.done (by omega) (.slice ua1 b.1.length uc1) (.slice ua2 b.2.length uc2))
     clear D hBX
     go_wp2
     refine bodyPost_ret (v:=.agg #[.slice ua1 b.1.length uc1,.slice ua2 b.2.length uc2]) (by simp [results,Tryz.results220,go_sem,r.1,r.2]) rfl ?_
     exact ⟨_,_,b,rfl,⟨HL.out.1,HL.out.2⟩,HO.out.1.1,HO.out.1.2,HO.out.2⟩
end Go.Proofs.YtkbbmjcfgcfejaaGreat
