/- WkA: texts WeakD, Fold, Wk in one. -/
import Derived.Test.YtkbbmjcfgcfejaaGreatKWout
import Derived.Deep.Cut
import Derived.Deep.CutRange
import Derived.Test.YtkbbmjcfgcfejaaGreatKEnt1
import Derived.Deep.RegionLaw
import Derived.Test.YtkbbmjcfgcfejaaGreatKMut1
namespace Go.Proofs.YtkbbmjcfgcfejaaGreat
open Go.RowKit
theorem asn_len2 {a:Asn} (h:asnB a=true):a.1.length≤12∧a.2.length≤6:=by
 simp only [asnB,factsB,Bool.and_eq_true,decide_eq_true_eq] at h
 exact ⟨h.1.1,h.2.1⟩
def FT {α:Type} [Dat α] [Tid α] (w:World) (B:Nat) (v:Value) (l:List α):Prop:=RL w (TF w B (Tid.tid α)) v l
section
variable {α:Type} [Flat α] [Tid α] {w w':World} {B:Nat} {v:Value} {l:List α} {S:Nat→Prop}
theorem FE.ft (h:FE w B v l):FT w B v l:=by
 obtain ⟨xs,h1,h2⟩:=h
 rcases h1 with ⟨h0,_,a,rfl⟩ | h
 · exact .inl ⟨a,0,rfl,List.eq_nil_of_length_eq_zero h0,Nat.zero_le _,fun _=>rfl⟩
 · have hlt:=fun k hk=>own_lt h (k:=k) hk
   have htf:=row_tf h
   rcases own_rsl h with ⟨a,cap,rfl,h0,h1,h2⟩ | ⟨b,o,cap,rfl,h1,h2',h3⟩
   · exact .inl ⟨a,cap,rfl,List.eq_nil_of_length_eq_zero h0,h1,h2⟩
   · refine .inr ⟨b,o,cap,rfl,h1,h2',fun hp=>⟨htf b rfl,(hlt b rfl).2⟩,fun i hi=>⟨_,Dat.more (h2 i hi) fun k _ hk=>hk.elim,fun j u hj=>?_⟩⟩
     have hx2:=nth_at hj
     have hlen:i * Dat.sz α+j < xs.length:=(List.getElem?_eq_some_iff.1 hx2).1
     rw [h3 (i * Dat.sz α+j) (by rw [← h.1];exact hlen)]
     simp [hx2]
theorem FT.kept (h:FT w B v l) (hf:Fr S w w') (hs:∀ k,TF w B (Tid.tid α) k→¬ S k):FT w' B v l:=by
 refine (RL.kept (RL.more (S':=fun k=>TF w B (Tid.tid α) k∧TF w' B (Tid.tid α) k) h fun k hk ht=>⟨ht,ht.1,?_⟩) hf fun k _ ht=>hs k ht.1).more fun k _ ht=>ht.2
 obtain ⟨cs,hc⟩:=ht.2
 exact ⟨cs,box_kept hc hf (hs k ht)⟩
theorem FT.keep (h:FT w B v l) (hb:Below w.heap.size w w'):FT w' B v l:=h.kept (Below.fr hb) fun _ _ h=>h
theorem FT.rl (h:FT w B v l):RL w (fun k=>B≤k) v l:=RL.more h fun _ _ ht=>ht.1
theorem FT.tf {B':Nat} {e':TypeId} (h:FT w B v l) (hf:Fr (TF w B' e') w w') (hne:Tid.tid α ≠ e'):FT w' B v l:=h.kept hf fun k hk hk2=>by
 obtain ⟨_,cs,hc⟩:=hk
 exact tf_ne hc hne hk2
theorem FT.setB (h:FT w B v l) {p:Addr} {u:Value} (hp:¬ TF w B (Tid.tid α) p.block):FT (w.setCell p u) B v l:=h.kept (fr_set _ _ _) fun _ hk e=>hp (e ▸ hk)
end
theorem RL.tail {α:Type} [Dat α] {w:World} {S:Nat→Prop} {b o n c:Nat} {x:α} {l:List α} (h:RL w S (.slice (some ⟨b,o,none⟩) n c) (x :: l)):RL w S (.slice (some ⟨b,o+Dat.sz α,none⟩) (n - 1) (c - 1)) l:=by
 rcases h with ⟨_,_,e,h,_⟩ | ⟨b',o',c',e,h1,h2,h3,h4⟩
 · cases h
 · injection e with e1 e2 e3
   injection e1 with e1
   injection e1 with e1 e4
   subst e1;subst e4;subst e2;subst e3
   refine .inr ⟨b,o+Dat.sz α,c - 1,by simp,by simp at h1;omega,by omega,fun hp=>h3 (by simp),fun i hi=>?_⟩
   obtain ⟨cs,hrd,hc⟩:=h4 (i+1) (by simpa using hi)
   refine ⟨cs,hrd,fun j u hj=>?_⟩
   have:=hc j u hj
   rw [← this,Nat.add_mul,Nat.one_mul]
   congr 2
   omega
theorem RL.empty0 {α:Type} [Dat α] (w:World) (S:Nat→Prop) (a:Addr) (c:Nat) (hc:c≤maxLen):RL w S (.slice (some a) 0 c) ([]:List α):=.inl ⟨some a,c,rfl,rfl,hc,fun h=>by cases h⟩
theorem FE.kind {w:World} {B g n c k:Nat} {l:List Atom} (h:FE w B (.slice (some ⟨g,0,none⟩) n c) l) (hk:k < l.length) (K:Int) :
 FE (w.setCell ⟨g,k * 3,none⟩ (.int .i64 K)) B (.slice (some ⟨g,0,none⟩) n c) (l.set k (K,(gd l k).2))∧(∃ u,w.cell? ⟨g,k * 3,none⟩=some u)∧w.frozen? ⟨g,k * 3,none⟩=false∧TF w B 118 g:=by
 obtain ⟨xs,h1,h2⟩:=h
 rcases h1 with ⟨h0,_⟩ | h1
 · omega
 · obtain ⟨a,cap,e,_⟩:=row_form h1
   injection e with e1 e2 e3
   subst e2;subst e3
   have hst:=(h1.stored (k * 3) (.int .i64 K)).1
   refine ⟨⟨xs.set (k * 3) (.int .i64 K),.inr (by rw [List.length_set];exact hst),fun i hi=>?_⟩,row_cell h1 (by show k * 3 < l.length * 3;omega),h1.frozenAt _,row_tf h1 g rfl⟩
   rw [List.length_set] at hi
   have hn:nth 3 (xs.set (k * 3) (.int .i64 K)) i=if i=k then (nth 3 xs k).set 0 (.int .i64 K) else nth 3 xs i:=nth_set0 (by decide)
   show Dat.rd _ _ (gd (l.set k (K,(gd l k).2)) i) (nth 3 (xs.set (k * 3) (.int .i64 K)) i)
   rw [hn,gd_set hk]
   by_cases e:i=k
   · subst e
     rw [if_pos rfl,if_pos rfl]
     have h3:=h2 i hk
     have h4:=rd_atom (flat_conv (w:=w) h3)
     rw [show nth 3 xs i=nth (Dat.sz Atom) xs i from rfl,h4]
     exact rd_atom_mk _ _ (K,(gd l i).2)
   · rw [if_neg e,if_neg e]
     exact flat_conv (h2 i hi)
structure DW (w0 w:World) (g q bR bA:Nat) (v1 v2:Value) (l1:List Fact) (l2:List Atom):Prop where
 f:FT w w0.heap.size v1 l1
 a:FE w w0.heap.size v2 l2
 boxR:w.heap[bR]?=some (.cells #[.slice none 0 0,.slice none 0 0] 26 (0,0))
 boxA:w.heap[bA]?=some (.cells #[v1,v2] 26 (0,0))
 rdr:Rdr w g q
 fr:Fr (fun j=>j=g) w0 w
section
variable {w0 w w':World} {g q q' bR bA:Nat} {v1 v2 v' x1 x2:Value} {l1 m1:List Fact} {l2 m2:List Atom}
theorem DW.keep (h:DW w0 w g q bR bA v1 v2 l1 l2) (hb:Below w.heap.size w w'):DW w0 w' g q bR bA v1 v2 l1 l2 :=
 ⟨h.f.keep hb,h.a.keep hb,box_keep h.boxR hb,box_keep h.boxA hb,h.rdr.keep hb,h.fr.thenB hb⟩
theorem DW.more (h:DW w0 w g q bR bA v1 v2 l1 l2) (hq:q≤q'):DW w0 w g q' bR bA v1 v2 l1 l2:=⟨h.f,h.a,h.boxR,h.boxA,h.rdr.more hq,h.fr⟩
theorem DW.drawn (h:DW w0 w g q bR bA v1 v2 l1 l2) (hr:Rdr w' g q') (hf:Fr (fun j=>j=g) w w') (hg:g < w0.heap.size) (hR:¬ bR=g) (hA:¬ bA=g):DW w0 w' g q' bR bA v1 v2 l1 l2 :=
 ⟨h.f.kept hf fun k hk e=>by have:=hk.1;omega,h.a.kept hf fun k hk e=>by have:=hk.1;omega,box_kept h.boxR hf hR,box_kept h.boxA hf hA,hr,h.fr.trans hf⟩
theorem DW.app2 (h:DW w0 w g q bR bA v1 v2 l1 l2) (hg:g < w0.heap.size) (hne:¬ bR=bA) (hlo:w0.heap.size≤bA) (h1:FE w' w0.heap.size v' m2) (hf:Fr (TF w w0.heap.size 118) w w') :
 DW w0 (w'.setCell ⟨bA,1,none⟩ v') g q bR bA v1 v' l1 m2:=by
 have hA:=box_tf h.boxA hf (by decide)
 have hS:∀ {e:TypeId},26 ≠ e→¬ TF w' w0.heap.size e bA:=fun hne=>tf_ne hA hne
 exact ⟨(h.f.tf hf (by decide)).setB (hS (by decide)),h1.setB (hS (by decide)),box_other (box_tf h.boxR hf (by decide)) _ _ hne,box_set1 hA _,
  ((h.rdr.kept hf fun k hk e=>by have:=e.1;omega).kept (fr_set _ _ _) fun k hk e=>by simp at e;omega),
  (h.fr.then hf fun i hi e=>by have:=e.1;omega).then (fr_set _ _ _) fun i hi e=>by simp at e;omega⟩
theorem DW.facts (h:DW w0 w g q bR bA v1 v2 l1 l2) (hg:g < w0.heap.size) (hne:¬ bR=bA) (hlo:w0.heap.size≤bA) (h1:FT w w0.heap.size v' m1):DW w0 (w.setCell ⟨bA,0,none⟩ v') g q bR bA v' v2 m1 l2:=by
 have hS:∀ {e:TypeId},26 ≠ e→¬ TF w w0.heap.size e bA:=fun hne=>tf_ne h.boxA hne
 exact ⟨h1.setB (hS (by decide)),h.a.setB (hS (by decide)),box_other h.boxR _ _ hne,box_set0 h.boxA _,
  h.rdr.kept (fr_set _ _ _) (fun k hk e=>by simp at e;omega),h.fr.then (fr_set _ _ _) fun i hi e=>by simp at e;omega⟩
theorem DW.kind {gA n c k:Nat} (h:DW w0 w g q bR bA v1 (.slice (some ⟨gA,0,none⟩) n c) l1 l2) (hg:g < w0.heap.size) (hk:k < l2.length) (K:Int) :
 DW w0 (w.setCell ⟨gA,k * 3,none⟩ (.int .i64 K)) g q bR bA v1 (.slice (some ⟨gA,0,none⟩) n c) l1 (l2.set k (K,(gd l2 k).2)):=by
 obtain ⟨h1,_,_,ht⟩:=h.a.kind hk K
 have h0:=ht.1
 have nR:¬ bR=gA:=fun e=>tf_ne h.boxR (by decide) (e ▸ ht)
 have nA:¬ bA=gA:=fun e=>tf_ne h.boxA (by decide) (e ▸ ht)
 have hF:¬ TF w w0.heap.size 61 gA:=by
  obtain ⟨_,cs,hc⟩:=ht
  exact tf_ne hc (by decide)
 exact ⟨h.f.setB hF,h1,box_other h.boxR _ _ nR,box_other h.boxA _ _ nA,h.rdr.kept (fr_set _ _ _) (fun k hk e=>by simp at e;omega),h.fr.then (fr_set _ _ _) fun i hi e=>by simp at e;omega⟩
theorem DW.put (h:DW w0 w g q bR bA v1 v2 l1 l2) (hg:g < w0.heap.size) (hne:¬ bR=bA) (hlo:w0.heap.size≤bA) (o1:FE w w0.heap.size x1 m1) (o2:FE w w0.heap.size x2 m2) :
 DW w0 ((w.setCell ⟨bA,0,none⟩ x1).setCell ⟨bA,1,none⟩ x2) g q bR bA x1 x2 m1 m2 :=
 ⟨(o1.set2 h.boxA (by decide)).ft,o2.set2 h.boxA (by decide),box_other (box_other h.boxR _ _ hne) _ _ hne,box_set1 (box_set0 h.boxA _) _,
   (h.rdr.kept (fr_set _ _ _) (fun k hk e=>by simp at e;omega)).kept (fr_set _ _ _) (fun k hk e=>by simp at e;omega),
   (h.fr.then (fr_set _ _ _) (fun i hi e=>by simp at e;omega)).then (fr_set _ _ _) (fun i hi e=>by simp at e;omega)⟩
theorem DW.done (h:DW w0 w g q bR bA v1 v2 l1 l2) (hg:g < w0.heap.size) (hlo:w0.heap.size≤bR) (x y:Value) :
 (RL ((w.setCell ⟨bR,0,none⟩ x).setCell ⟨bR,1,none⟩ y) (fun k=>w0.heap.size≤k) v1 l1∧RL ((w.setCell ⟨bR,0,none⟩ x).setCell ⟨bR,1,none⟩ y) (fun k=>w0.heap.size≤k) v2 l2) ∧
 Rdr ((w.setCell ⟨bR,0,none⟩ x).setCell ⟨bR,1,none⟩ y) g q∧Fr (fun j=>j=g) w0 ((w.setCell ⟨bR,0,none⟩ x).setCell ⟨bR,1,none⟩ y):=by
 have hS:∀ {e:TypeId},26 ≠ e→¬ TF w w0.heap.size e bR:=fun hne=>tf_ne h.boxR hne
 have hS2:∀ {e:TypeId},26 ≠ e→¬ TF (w.setCell ⟨bR,0,none⟩ x) w0.heap.size e bR:=fun hne=>tf_ne (box_set0 h.boxR x) hne
 exact ⟨⟨((h.f.setB (hS (by decide))).setB (hS2 (by decide))).rl,((h.a.setB (hS (by decide))).setB (hS2 (by decide))).rl⟩,
  (h.rdr.kept (fr_set _ _ _) (fun k hk e=>by simp at e;omega)).kept (fr_set _ _ _) (fun k hk e=>by simp at e;omega),
  (h.fr.then (fr_set _ _ _) (fun i hi e=>by simp at e;omega)).then (fr_set _ _ _) (fun i hi e=>by simp at e;omega)⟩
end
end Go.Proofs.YtkbbmjcfgcfejaaGreat
namespace Go.Proofs.YtkbbmjcfgcfejaaGreat
open Go.RowKit
set_option maxRecDepth 100000 in
set_option maxHeartbeats 6400000 in
theorem foldCellsS_any {S1 S2:Nat→Prop} (v1 v2:Value) (a:Asn) (w:World) (h1:RL w S1 v1 a.1) (h2:RL w S2 v2 a.2) :
 Calls Tryz.prog 207 #[.agg #[v1,v2]] w fun e w'=>∃ (y1 y2:Value) (b:Asn) (ok:Bool),e=.returned (.tuple #[.agg #[y1,y2],.bool ok])∧asnB b=true∧FE w' w.heap.size y1 b.1∧FE w' w.heap.size y2 b.2∧Below w.heap.size w w':=by
 obtain ⟨a1,a2⟩:=a
 simp only at h1 h2
 obtain ⟨p1,c1,rfl⟩:=h1.form
 obtain ⟨p2,c2,rfl⟩:=h2.form
 obtain ⟨w0,hw0⟩:∃ w0,w0=((w.alloc (.cells #[.slice p1 a1.length c1,.slice p2 a2.length c2] 26)).alloc (.cells #[.slice none 0 0,.slice none 0 0] 26)):=⟨_,rfl⟩
 have hc0:w0.cell? ⟨w.heap.size,0,none⟩=some (.slice p1 a1.length c1):=by rw [hw0];simp [go_sem]
 have hc1:w0.cell? ⟨w.heap.size,1,none⟩=some (.slice p2 a2.length c2):=by rw [hw0];simp [go_sem]
 have hR:w0.heap[w.heap.size+1]?=some (.cells #[.slice none 0 0,.slice none 0 0] 26 (0,0)):=by
  rw [hw0]
  exact heap_at (by simp)
 have hW:Below w.heap.size w w0:=by rw [hw0];exact ba (below_alloc _ _) _
 have HW0:=Lib.hid (And.intro hw0 (And.intro (And.intro hc0 hc1) (And.intro hR hW)))
 have HEND:∀ (W:World),W.heap[w.heap.size+1]?=some (.cells #[.slice none 0 0,.slice none 0 0] 26 (0,0))→Below w.heap.size w W→∃ (y1 y2:Value) (b:Asn) (ok:Bool),Ending.returned (.tuple #[.agg #[.slice none 0 0,.slice none 0 0],.bool false])=.returned (.tuple #[.agg #[y1,y2],.bool ok])∧asnB b=true∧FE ((W.setCell ⟨w.heap.size+1,0,none⟩ (.slice none 0 0)).setCell ⟨w.heap.size+1,1,none⟩ (.slice none 0 0)) w.heap.size y1 b.1∧FE ((W.setCell ⟨w.heap.size+1,0,none⟩ (.slice none 0 0)).setCell ⟨w.heap.size+1,1,none⟩ (.slice none 0 0)) w.heap.size y2 b.2∧Below w.heap.size w ((W.setCell ⟨w.heap.size+1,0,none⟩ (.slice none 0 0)).setCell ⟨w.heap.size+1,1,none⟩ (.slice none 0 0)):=fun W _ hb =>
  ⟨_,_,([],[]),false,rfl,by decide,FE.nil _ _ _,FE.nil _ _ _,(hb.setCell (by simp) _).setCell (by simp) _⟩
 have HEN:=Lib.hid HEND
 clear hw0 hc0 hc1 hR hW HEND
 cases ha:asnB (a1,a2) with
 | false =>
   have HV:=Lib.hid ha
   clear ha
   go_enter Tryz.func207,Tryz.ntmps207
   go_upto_region 1 with fail
   rw [← HW0.out.1]
   obtain ⟨⟨hc0,hc1⟩,hR,hW⟩:=HW0.out.2
   go_wp2_with fail
   refine (cb (asnValidS_any _ _ (a1,a2) _ (h1.keep hW) (h2.keep hW)) HV.out).mono ?_
   rintro e w1 ⟨rfl,hb⟩
   have hR1:=box_keep hR hb
   have r0:=box0 hR1
   have r1:=box1 hR1
   have rz:=boxz hR1
   have rl:=box_lt hR1
   have HRR:=Lib.hid (And.intro hR1 (bt hW hb))
   clear hR1 hb hR hW hc0 hc1
   go_wp2
   refine bodyPost_ret (v:=.tuple #[.agg #[.slice none 0 0,.slice none 0 0],.bool false]) (by simp [results,Tryz.results207,go_sem,r0,r1]) rfl ?_
   exact HEN.out _ HRR.out.1 HRR.out.2
 | true =>
   have hsz:a1.length≤1048576∧a2.length≤1048576:=by
    have ha2:=ha
    simp only [asnB,factsB,Bool.and_eq_true,decide_eq_true_eq] at ha2
    omega
   have hl6:a2.length≤6:=(asn_all' ha).2
   have HV:=Lib.hid (And.intro ha hsz)
   clear ha hsz
   go_enter Tryz.func207,Tryz.ntmps207
   go_upto_region 1 with fail
   rw [← HW0.out.1]
   obtain ⟨⟨hc0,hc1⟩,hR,hW⟩:=HW0.out.2
   go_wp2_with fail
   refine (cb (asnValidS_any _ _ (a1,a2) _ (h1.keep hW) (h2.keep hW)) HV.out.1).mono ?_
   rintro e w1 ⟨rfl,hb⟩
   replace hc0:=cell_keep hb hc0
   replace hc1:=cell_keep hb hc1
   replace hR:=box_keep hR hb
   replace hW:=bt hW hb
   clear hb HW0
   have H0:=Lib.hid (And.intro (And.intro hc0 hc1) (And.intro hR hW))
   go_wp2
   go_loopg [4,5,6] a2.length (fun q i kk pp wr=>∃ k:Nat,k+q=a2.length∧i=.int .i64 k∧((wr.cell? ⟨w.heap.size,0,none⟩=some (.slice p1 a1.length c1)∧wr.cell? ⟨w.heap.size,1,none⟩=some (.slice p2 a2.length c2))∧wr.heap[w.heap.size+1]?=some (.cells #[.slice none 0 0,.slice none 0 0] 26 (0,0))∧Below w.heap.size w wr))
   case atStart=>exact ⟨0,by omega,rfl,H0.out⟩
   case round =>
    clear hc0 hc1 hR hW H0
    obtain ⟨i,hi,rfl,⟨hc0,hc1⟩,hR,hW⟩:=hrel
    have HI:=Lib.hid hi
    clear hi
    have zb:=World.block_lt_of_cell? wr _ hc0
    simp only at zb
    by_cases hi8:i < a2.length
    · have hii:(i:Int) < (a2.length:Int):=by omega
      obtain ⟨gO,hgO⟩:∃ g,g=gk:=⟨_,rfl⟩
      have HGO:=Lib.hid hgO
      clear hgO
      have H1:=Lib.hid (And.intro (And.intro hc0 hc1) (And.intro hR hW))
      go_wp2
      go_loopg [5,6] a2.length (fun q kk pp wr=>∃ k:Nat,k+q=a2.length∧kk=.int .i64 k∧((wr.cell? ⟨w.heap.size,0,none⟩=some (.slice p1 a1.length c1)∧wr.cell? ⟨w.heap.size,1,none⟩=some (.slice p2 a2.length c2))∧wr.heap[w.heap.size+1]?=some (.cells #[.slice none 0 0,.slice none 0 0] 26 (0,0))∧Below w.heap.size w wr))
      case atStart=>exact ⟨0,by omega,rfl,H1.out⟩
      case round =>
       clear hc0 hc1 hR hW H1
       obtain ⟨k,hk,rfl,⟨hc0,hc1⟩,hR,hW⟩:=hrel
       have HK:=Lib.hid hk
       clear hk
       have zb:=World.block_lt_of_cell? wr _ hc0
       simp only at zb
       by_cases hk8:k < a2.length
       · have hki:(k:Int) < (a2.length:Int):=by omega
         obtain ⟨q2a,q2c,hqe,_,_,hqf⟩:=(h2.keep hW).atomAt
         simp only [Value.slice.injEq] at hqe
         obtain ⟨rfl,_,rfl⟩:=hqe
         obtain ⟨b1,o1,rfl,_,hz1,hp1,hp2,hp3⟩:=hqf i hi8
         obtain ⟨b2,o2,hbe,_,hz2,hq1,hq2,hq3⟩:=hqf k hk8
         simp only [Option.some.injEq,Addr.mk.injEq,and_true] at hbe
         obtain ⟨rfl,rfl⟩:=hbe
         obtain ⟨X,hX⟩:∃ X,gd a2 i=X:=⟨_,rfl⟩
         obtain ⟨Y,hY⟩:∃ Y,gd a2 k=Y:=⟨_,rfl⟩
         rw [hX] at hp1 hp2 hp3
         rw [hY] at hq1 hq2 hq3
         have HB:=Lib.hid (And.intro (And.intro hc0 hc1) (And.intro hR hW))
         clear hqf hX hY
         have hcase:((i:Int) == (k:Int))=true∨(((i:Int) == (k:Int))=false∧(X.2.2 != Y.2.1)=true)∨(((i:Int) == (k:Int))=false∧(X.2.2 != Y.2.1)=false):=by
          cases ((i:Int) == (k:Int)) <;> cases (X.2.2 != Y.2.1) <;> simp
         rcases hcase with e1 | ⟨e1,e2⟩ | ⟨e1,e2⟩
         · go_wp2
           refine wp_region_ext (by kernel_rfl) (by kernel_rfl) ?_
           repeat (go_big_quiet_step ((fail)))
           refine wpQuiet_nil ?_
           intro w5 hb5
           go_wp2
           go_roundg (gk - 1)
           case rel=>exact ⟨k+1,by have:=HK.out;omega,by go_num,⟨cell_keep hb5 HB.out.1.1,cell_keep hb5 HB.out.1.2⟩,box_keep HB.out.2.1 hb5,bt HB.out.2.2 hb5⟩
           case measure=>have:=HK.out;omega
         · go_wp2
           refine wp_region_ext (by kernel_rfl) (by kernel_rfl) ?_
           repeat (go_big_quiet_step ((fail)))
           refine wpQuiet_nil ?_
           intro w5 hb5
           go_wp2
           go_roundg (gk - 1)
           case rel=>exact ⟨k+1,by have:=HK.out;omega,by go_num,⟨cell_keep hb5 HB.out.1.1,cell_keep hb5 HB.out.1.2⟩,box_keep HB.out.2.1 hb5,bt HB.out.2.2 hb5⟩
           case measure=>have:=HK.out;omega
         · go_wp2
           refine wp_region_ext (by kernel_rfl) (by kernel_rfl) ?_
           repeat (go_big_quiet_step ((fail)))
           refine wpQuiet_nil ?_
           intro w5 hb5
           have hc0:=cell_keep hb5 HB.out.1.1
           have hc1:=cell_keep hb5 HB.out.1.2
           replace hp1:=cell_keep hb5 hp1;replace hp2:=cell_keep hb5 hp2;replace hp3:=cell_keep hb5 hp3
           replace hq1:=cell_keep hb5 hq1;replace hq2:=cell_keep hb5 hq2;replace hq3:=cell_keep hb5 hq3
           have hR5:=box_keep HB.out.2.1 hb5
           have hW5:=bt HB.out.2.2 hb5
           have hz5:=hb5.size
           have zb5:=World.block_lt_of_cell? w5 _ hc0
           simp only at zb5
           have h15:=h1.keep hW5
           have h25:=h2.keep hW5
           have HB5:=Lib.hid (And.intro hR5 hW5)
           clear hR5 hW5 hb5 HB
           go_upto_region 10 with fail
           go_cut [6] from 43 to 63 (fun pp wc=>∃ (g:Nat) (y1 y2:Value) (b:Asn),pp=.pointer (some ⟨g,0,none⟩)∧(wc.cell? ⟨g,0,none⟩=some y1∧wc.cell? ⟨g,1,none⟩=some y2)∧(FE wc w5.heap.size y1 b.1∧FE wc w5.heap.size y2 b.2)∧Below w5.heap.size w5 wc)
           case first =>
            go_region_held3 (fun w'=>(w'.cell? ⟨w.heap.size,0,none⟩=some (.slice p1 a1.length c1)∧w'.cell? ⟨w.heap.size,1,none⟩=some (.slice (some ⟨b1,o1,none⟩) a2.length c2))∧(w'.cell? ⟨b1,o1+i * 3+1,none⟩=some (.int .i64 X.2.1)∧w'.cell? ⟨b1,o1+k * 3+2,none⟩=some (.int .i64 Y.2.2)))
             (exact ⟨⟨cell_keep Bl hc0,cell_keep Bl hc1⟩,cell_keep Bl hp2,cell_keep Bl hq3⟩)
             (first
               | (go_at_call 220;go_must (refine (l6Without_any _ _ (a1,a2) _ _ 2 X.2.1 Y.2.2 _ (h15.keep Bl) (h25.keep Bl) HV.out.2.1 HV.out.2.2).mono ?_;rintro e w6 ⟨y1,y2,b,rfl,hbl,t1,t2,hb6'⟩;obtain ⟨za1,zn1,zc1,rfl⟩:=t1.forms;obtain ⟨za2,zn2,zc2,rfl⟩:=t2.forms;have hb6:Below w5.heap.size w5 w6:=bt Bl hb6';have hz6:=hb6.size;(first | (have hTT:w6.heap[w5.heap.size]?=some (.cells #[.slice none 0 0,.slice none 0 0] 26 (0,0)):=box_keep (heap_alloc_new w5.drew _) hb6';have ht0:=box0 hTT;have ht1:=box1 hTT;have htz:=boxz hTT;have htl:=box_lt hTT;have HTT:=Lib.hid hTT;clear hTT) | skip);(try simp only [World.size_alloc,World.size_drew] at t1 t2);clear hb6'))
               | fail)
            all_goals
             have HQ:=Lib.hid (And.intro (t1.mono (B':=w5.heap.size) (by omega)) (t2.mono (B':=w5.heap.size) (by omega)))
             clear t1 t2
             go_wp2
             go_meet
             case rel =>
              obtain ⟨t1,t2⟩:=HQ.out
              refine ⟨_,.slice za1 zn1 zc1,.slice za2 zn2 zc2,b,rfl,⟨?_,?_⟩,⟨?_,?_⟩,?_⟩
              · first | exact (box_two _ _ ht0 ht1).1 | (simp;done) | (simp [go_sem];done)
              · first | exact (box_two _ _ ht0 ht1).2 | (simp;done) | (simp [go_sem];done)
              · first | exact t1.set2 HTT.out (by decide) | exact t1.keep Bl
              · first | exact t2.set2 HTT.out (by decide) | exact t2.keep Bl
              · first | (with_reducible refine Below.setCell (Below.setCell hb6 ?_ _) ?_ _ <;> first | omega | (simp;done) | (simp;omega)) | exact bt hb6 Bl
           case rest =>
            obtain ⟨gx,y1,y2,b,rfl,⟨hx0,hx1⟩,⟨f1,f2⟩,hb⟩:=hcut
            obtain ⟨ya1,yn1,yc1,rfl⟩:=f1.forms
            obtain ⟨ya2,yn2,yc2,rfl⟩:=f2.forms
            have hgx:=World.block_lt_of_cell? wc _ hx0
            simp only at hgx
            replace hc0:=cell_keep hb hc0
            replace hc1:=cell_keep hb hc1
            have hRc:=box_keep HB5.out.1 hb
            have hWc:=bt HB5.out.2 hb
            have hzc:=hb.size
            have g1:=h1.keep hWc
            have g2:=h2.keep hWc
            have HF:=Lib.hid (And.intro f1 f2)
            have HBC:=Lib.hid (And.intro hRc hWc)
            have r1:=f1.rl
            have r2:=f2.rl
            clear hb hRc hWc f1 f2 hp1 hp2 hp3 hq1 hq2 hq3 h15 h25 HB5
            cases hen:entB (a1,(a2:List Atom)) b with
            | false =>
              have HEN2:=Lib.hid hen
              clear hen
              go_wp2_with fail
              refine (cb (entailsS_any _ _ _ _ (a1,a2) b _ g1 g2 r1 r2) HEN2.out).mono ?_
              rintro e w8 ⟨rfl,hb8⟩
              have HB8:=Lib.hid (And.intro (And.intro (cell_keep hb8 hc0) (cell_keep hb8 hc1)) (And.intro (box_keep HBC.out.1 hb8) (bt HBC.out.2 hb8)))
              clear hb8 hc0 hc1 hx0 hx1 g1 g2 r1 r2
              go_wp2
              go_roundg (gk - 1)
              case rel=>exact ⟨k+1,by have:=HK.out;omega,by go_num,HB8.out.1,HB8.out.2.1,HB8.out.2.2⟩
              case measure=>have:=HK.out;omega
            | true =>
              have HEN2:=Lib.hid (And.intro hen (ent_valid hen).2)
              clear hen
              go_wp2_with fail
              refine (cb (entailsS_any _ _ _ _ (a1,a2) b _ g1 g2 r1 r2) HEN2.out.1).mono ?_
              rintro e w8 ⟨rfl,hb8⟩
              have hR8:=box_keep HBC.out.1 hb8
              have r0:=box0 hR8
              have r1':=box1 hR8
              have rz:=boxz hR8
              have rl:=box_lt hR8
              replace hx0:=cell_keep hb8 hx0
              replace hx1:=cell_keep hb8 hx1
              have hg8:=World.block_lt_of_cell? w8 _ hx0
              simp only at hg8
              have rr:=box_two (.slice ya1 yn1 yc1) (.slice ya2 yn2 yc2) r0 r1'
              have HO:=Lib.hid (And.intro ((HF.out.1.keep hb8).set2 (x:=.slice ya1 yn1 yc1) (y:=.slice ya2 yn2 yc2) hR8 (by decide)) (And.intro ((HF.out.2.keep hb8).set2 (x:=.slice ya1 yn1 yc1) (y:=.slice ya2 yn2 yc2) hR8 (by decide)) (((bt HBC.out.2 hb8).setCell (p:=⟨w.heap.size+1,0,none⟩) (by simp) (.slice ya1 yn1 yc1)).setCell (p:=⟨w.heap.size+1,1,none⟩) (by simp) (.slice ya2 yn2 yc2))))
              clear hb8 hR8 hc0 hc1 g1 g2 r1 r2
              go_wp2
              refine bodyPost_ret (v:=.tuple #[.agg #[.slice ya1 yn1 yc1,.slice ya2 yn2 yc2],.bool true]) (by simp [results,Tryz.results207,go_sem,rr.1,rr.2]) rfl ?_
              exact ⟨_,_,b,true,rfl,HEN2.out.2,HO.out.1.mono (by omega),HO.out.2.1.mono (by omega),HO.out.2.2⟩
       · obtain rfl:k=a2.length:=by have:=HK.out;omega
         go_wp2
         go_roundg (gO - 1)
         case rel=>exact ⟨i+1,by have:=HI.out;have:=HGO.out;omega,by go_num,⟨hc0,hc1⟩,hR,hW⟩
         case measure=>have:=HI.out;have:=HGO.out;omega
    · obtain rfl:i=a2.length:=by have:=HI.out;omega
      have r0:=box0 hR
      have r1:=box1 hR
      have rz:=boxz hR
      have rl:=box_lt hR
      have HRR:=Lib.hid (And.intro hR hW)
      clear hR hW
      go_wp2
      refine bodyPost_ret (v:=.tuple #[.agg #[.slice none 0 0,.slice none 0 0],.bool false]) (by simp [results,Tryz.results207,go_sem,r0,r1]) rfl ?_
      exact HEN.out _ HRR.out.1 HRR.out.2
end Go.Proofs.YtkbbmjcfgcfejaaGreat
namespace Go.Proofs.YtkbbmjcfgcfejaaGreat
open Go.RowKit
def WB (v:Bool) (l1:List Fact) (l2:List Atom):Prop:=(l1.length≤1000∧l2.length≤1000)∧(v=true→asnB (l1,l2)=true)
theorem WB.fold {v:Bool} {b:Asn} (h:asnB b=true):WB v b.1 b.2:=⟨by have:=asn_len2 h;omega,fun _=>h⟩
theorem WB.tail {v:Bool} {x:Fact} {r:List Fact} {l2:List Atom} (h:WB v (x :: r) l2):WB v r l2:=by
 obtain ⟨⟨h1,h2⟩,h3⟩:=h
 rw [List.length_cons] at h1
 refine ⟨⟨by omega,h2⟩,fun hv=>?_⟩
 have:=h3 hv
 simp only [asnB,factsB,Bool.and_eq_true,decide_eq_true_eq,List.length_cons,List.all_cons] at this ⊢
 exact ⟨⟨by omega,this.1.2.2⟩,this.2⟩
theorem WB.kind {v:Bool} {l1:List Fact} {l2:List Atom} (h:WB v l1 l2) (k:Nat):WB v l1 (l2.set k (2,(gd l2 k).2)):=by
 obtain ⟨h1,h3⟩:=h
 refine ⟨by rw [List.length_set];exact h1,fun hv=>?_⟩
 have:=h3 hv
 simp only [asnB,factsB,Bool.and_eq_true,decide_eq_true_eq,List.all_eq_true,List.length_set] at this ⊢
 refine ⟨this.1,this.2.1,fun y hy=>?_⟩
 by_cases hk:k < l2.length
 · rcases List.mem_or_eq_of_mem_set hy with hy | rfl
   · exact this.2.2 y hy
   · have h:=this.2.2 _ (gd_mem hk)
     simp only [atomB,Bool.and_eq_true] at h ⊢
     exact ⟨by decide,h.2⟩
 · rw [List.set_eq_of_length_le (by omega)] at hy
   exact this.2.2 y hy
theorem WB.rot {v:Bool} {l1:List Fact} {X:Atom} {r:List Atom} (h:WB v l1 (X :: r)):WB v l1 (r ++ [X]):=by
 obtain ⟨⟨h1,h2⟩,h3⟩:=h
 rw [List.length_cons] at h2
 refine ⟨⟨h1,by simp;omega⟩,fun hv=>?_⟩
 have:=h3 hv
 simp only [asnB,Bool.and_eq_true,decide_eq_true_eq,List.length_cons,List.all_cons,List.all_append,List.length_append,List.length_nil,List.all_nil,and_true] at this ⊢
 exact ⟨this.1,by omega,this.2.2.2,this.2.2.1⟩
set_option linter.unusedSimpArgs false in
set_option maxRecDepth 100000 in
set_option maxHeartbeats 12800000 in
theorem l6WeakV_any {S1 S2:Nat→Prop} (g q:Nat) (v1 v2:Value) (a:Asn) (w:World) (hr:Rdr w g q) (hq:q≤800000) (h1:RL w S1 v1 a.1) (h2:RL w S2 v2 a.2) (hs:a.1.length≤1000∧a.2.length≤1000) :
 Calls Tryz.prog 133 #[.pointer (some ⟨g,0,none⟩),.agg #[v1,v2]] w fun e w'=>∃ (x1 x2:Value) (b:Asn),e=.returned (.agg #[x1,x2])∧WB (asnB a) b.1 b.2∧RL w' (fun k=>w.heap.size≤k) x1 b.1∧RL w' (fun k=>w.heap.size≤k) x2 b.2∧Rdr w' g (q+5)∧Fr (fun j=>j=g) w w':=by
 have hgl:=hr.lt
 obtain ⟨p1,c1,rfl⟩:=h1.form
 obtain ⟨p2,c2,rfl⟩:=h2.form
 have HS:=Lib.hid (And.intro (show asSz a from ⟨by omega,by omega⟩) hs)
 clear hs
 go_enter Tryz.func133,Tryz.ntmps133
 go_wp2_with fail
 refine (l3CopyF_any _ _ a _ ((h1.alloc _).alloc _) ((h2.alloc _).alloc _) HS.out.1).mono ?_
 rintro e w5 ⟨x1,x2,rfl,o1,o2,hb⟩
 obtain ⟨d1,k1,rfl⟩:=o1.form
 obtain ⟨d2,k2,rfl⟩:=o2.form
 have hA:=box_keep (heap_alloc_new (w.alloc (.cells #[.slice p1 a.1.length c1,.slice p2 a.2.length c2] 26)) (.cells #[.slice none 0 0,.slice none 0 0] 26)) hb
 rw [World.size_alloc] at hA
 have hz5:w.heap.size+2≤w5.heap.size:=by have:=hb.size;simp at this;omega
 have D0:DW w (w5.alloc (.cells #[.slice d1 a.1.length k1,.slice d2 a.2.length k2] 26)) g q (w.heap.size+1) w5.heap.size (.slice d1 a.1.length k1) (.slice d2 a.2.length k2) a.1 a.2 :=
  ⟨((o1.mono (by simp;omega)).keep (below_alloc _ _)).ft,(o2.mono (by simp;omega)).keep (below_alloc _ _),box_keep hA (below_alloc _ _),heap_alloc_new w5 _,
    hr.keep (bt (bt (bt (below_alloc _ _) (below_alloc _ _)) hb) (below_alloc _ _)),(Below.fr (bt (bt (bt (below_alloc _ _) (below_alloc _ _)) hb) (below_alloc _ _))).mono fun _ _ h=>h.elim⟩
 clear hr h1 h2 o1 o2 hb hA
 go_wp2_with fail
 refine (pick_any g q _ _ D0.rdr (by omega) (by decide) (by decide)).mono ?_
 rintro e w6 ⟨m,rfl,hm,hr6,hf6⟩
 have D:=D0.drawn hr6 hf6 hgl (by omega) (by omega)
 obtain ⟨bA,hbA⟩:∃ b,w5.heap.size=b:=⟨_,rfl⟩
 rw [hbA] at D hz5 ⊢
 have HM:=Lib.hid hm
 have HD:=Lib.hid D
 clear D0 hr6 hf6 hbA hm D
 go_wp2
 go_loopg [6,7,8] m (fun k i p ok wr=>∃ (y1 y2:Value) (b:Asn),i=.int .i64 (k:Nat)∧k≤2∧WB (asnB a) b.1 b.2∧DW w wr g (q+1) (w.heap.size+1) bA y1 y2 b.1 b.2)
 case atStart=>exact ⟨_,_,a,rfl,by have:=HM.out;omega,⟨HS.out.2,fun h=>h⟩,HD.out⟩
 case round =>
  clear HD HM
  obtain ⟨y1,y2,b,rfl,hk2,hbl,D⟩:=hrel
  obtain ⟨ya1,yc1,rfl⟩:=D.f.rl.form
  obtain ⟨ya2,yc2,rfl⟩:=D.a.form
  have HBL:=Lib.hid hbl.1
  have HWB:=Lib.hid hbl
  have c0:=box0 D.boxA
  have c1':=box1 D.boxA
  have cl:=box_lt D.boxA
  clear hbl
  by_cases hk0:0 < gk
  · have hki:(0:Int) < (gk:Int):=by omega
    have HD:=Lib.hid D
    have r1:=D.f.rl
    have r2:=D.a.rl
    clear D
    go_wp2_with fail
    refine (foldCellsS_any _ _ b _ r1 r2).mono ?_
    rintro e w7 ⟨z1,z2,b2,ok,rfl,hval,t1,t2,hb7⟩
    obtain ⟨za1,zc1,rfl⟩:=t1.form
    obtain ⟨za2,zc2,rfl⟩:=t2.form
    have D7:=(HD.out.keep hb7).keep (below_alloc w7 (.cells #[.slice za1 b2.1.length zc1,.slice za2 b2.2.length zc2] 26))
    have hzw:=HD.out.fr.size
    cases ok with
    | false =>
      have HD7:=Lib.hid D7
      clear D7 t1 t2 hb7 r1 r2 c0 c1'
      go_wp2
      go_roundg (gk - 1)
      case rel=>exact ⟨_,_,b,by go_num,by omega,HWB.out,HD7.out⟩
      case measure=>omega
    | true =>
      have hlen:=asn_len2 hval
      have d0:=box0 D7.boxA
      have d1':=box1 D7.boxA
      have dz:=boxz D7.boxA
      have dl:=box_lt D7.boxA
      have D8:=D7.put hgl (by omega) (by omega) ((t1.mono (by omega)).keep (below_alloc w7 (.cells #[.slice za1 b2.1.length zc1,.slice za2 b2.2.length zc2] 26))) ((t2.mono (by omega)).keep (below_alloc w7 (.cells #[.slice za1 b2.1.length zc1,.slice za2 b2.2.length zc2] 26)))
      have HD8:=Lib.hid (And.intro D8 hval)
      clear D7 D8 t1 t2 hb7 r1 r2 c0 c1' hval hlen
      go_wp2
      go_roundg (gk - 1)
      case rel=>exact ⟨_,_,b2,by go_num,by omega,WB.fold HD8.out.2,HD8.out.1⟩
      case measure=>omega
  · obtain rfl:gk=0:=by omega
    have HD:=Lib.hid D
    clear hk2 hk0 D
    go_upto_region 8 with fail
    go_cut [33] from 10 (fun c wc=>∃ cb:Bool,c=.bool cb∧(cb=true→0 < b.1.length)∧DW w wc g (q+2) (w.heap.size+1) bA (.slice ya1 b.1.length yc1) (.slice ya2 b.2.length yc2) b.1 b.2)
    case first =>
     by_cases hl:0 < b.1.length
     · have hli:(0:Int) < (b.1.length:Int):=by omega
       go_wp2_with fail
       refine (pick_any g (q+1) _ _ HD.out.rdr (by omega) (by decide) (by decide)).mono ?_
       rintro e w9 ⟨k,rfl,hk,hr9,hf9⟩
       have HD9:=Lib.hid (HD.out.drawn hr9 hf9 hgl (by omega) (by omega))
       have HLL:=Lib.hid hl
       clear hk hr9 hf9 hl
       go_wp2
       go_meet
       case rel=>exact ⟨_,rfl,fun _=>HLL.out,HD9.out⟩
     · have hli:¬ (0:Int) < (b.1.length:Int):=by omega
       clear hl
       go_wp2
       go_meet
       case rel=>exact ⟨false,rfl,fun h=>(by cases h),HD.out.more (by omega)⟩
    case rest =>
     clear c0 c1' cl HD
     obtain ⟨cb,rfl,hcb,D⟩:=hcut
     have HD:=Lib.hid (And.intro hcb D)
     clear hcb D
     go_upto_if 33 with fail
     go_cut [] from 10 (fun wc=>∃ (y1:Value) (l1:List Fact),WB (asnB a) l1 b.2∧DW w wc g (q+2) (w.heap.size+1) bA y1 (.slice ya2 b.2.length yc2) l1 b.2)
     case first =>
      cases cb with
      | false =>
        go_wp2
        go_meet
        case rel=>exact ⟨_,_,HWB.out,HD.out.2⟩
      | true =>
        have hl:=HD.out.1 rfl
        have c0:=box0 HD.out.2.boxA
        have cz:=boxz HD.out.2.boxA 0
        have cl:=box_lt HD.out.2.boxA
        have hf:=HD.out.2.f
        obtain ⟨B1,B2⟩:=b
        simp only at hl hf c0 cz
        cases B1 with
        | nil=>simp at hl
        | cons x r =>
          rcases hf with ⟨_,_,_,h,_⟩ | ⟨gb,ob,cc,he,h1,h2,h3,h4⟩
          · cases h
          · injection he with e1 e2 e3
            subst e1;subst e3
            have hmm:yc1≤maxLen:=h2
            unfold maxLen at hmm
            have hlr:r.length+1≤yc1:=by simpa using h1
            have hln:r.length+1≤1000:=by have:=HBL.out.1;simpa using this
            clear h1 h2 h3 h4 hl
            rw [List.length_cons] at c0
            by_cases hy1:yc1=1
            · subst hy1
              obtain rfl:r=[]:=List.eq_nil_of_length_eq_zero (by omega)
              have hz0:=HD.out.2.fr.size
              have HN:=Lib.hid (HD.out.2.facts hgl (by omega) (by omega) (show FT wc w.heap.size (.slice (some ⟨gb,ob,none⟩) 0 0) ([]:List Fact) from RL.empty0 _ _ _ _ (by unfold maxLen;omega)))
              go_wp2
              go_meet
              case rel=>exact ⟨_,[],WB.tail HWB.out,HN.out⟩
            · have hy2:1 < yc1:=by omega
              have ht:=RL.tail (show RL wc _ (.slice (some ⟨gb,ob,none⟩) (x :: r).length yc1) (x :: r) from HD.out.2.f)
              rw [List.length_cons,Nat.add_sub_cancel] at ht
              have hz0:=HD.out.2.fr.size
              have HN:=Lib.hid (HD.out.2.facts hgl (by omega) (by omega) ht)
              clear ht
              go_wp2
              go_meet
              case rel=>exact ⟨_,r,WB.tail HWB.out,HN.out⟩
     case rest =>
      clear HD
      obtain ⟨y1,l1,hl1,D⟩:=hcut
      obtain ⟨yb1,yd1,rfl⟩:=D.f.rl.form
      have HL1:=Lib.hid hl1.1.1
      have HW1:=Lib.hid hl1
      have HD:=Lib.hid D
      have c1':=box1 D.boxA
      have cl:=box_lt D.boxA
      clear hl1 D
      go_upto_region 10 with fail
      go_cut [46] from 10 (fun c wc=>∃ cb:Bool,c=.bool cb∧(cb=true→0 < b.2.length)∧DW w wc g (q+3) (w.heap.size+1) bA (.slice yb1 l1.length yd1) (.slice ya2 b.2.length yc2) l1 b.2)
      case first =>
       by_cases hl:0 < b.2.length
       · have hli:(0:Int) < (b.2.length:Int):=by omega
         go_wp2_with fail
         refine (pick_any g (q+2) _ _ HD.out.rdr (by omega) (by decide) (by decide)).mono ?_
         rintro e w9 ⟨k,rfl,hk,hr9,hf9⟩
         have HD9:=Lib.hid (HD.out.drawn hr9 hf9 hgl (by omega) (by omega))
         have HLL:=Lib.hid hl
         clear hk hr9 hf9 hl
         go_wp2
         go_meet
         case rel=>exact ⟨_,rfl,fun _=>HLL.out,HD9.out⟩
       · have hli:¬ (0:Int) < (b.2.length:Int):=by omega
         clear hl
         go_wp2
         go_meet
         case rel=>exact ⟨false,rfl,fun h=>(by cases h),HD.out.more (by omega)⟩
      case rest =>
       clear c1' cl HD
       obtain ⟨cb,rfl,hcb,D⟩:=hcut
       have HD:=Lib.hid (And.intro hcb D)
       clear hcb D
       go_upto_if 46 with fail
       go_cut [] from 10 (fun wc=>∃ l2:List Atom,(l2.length=b.2.length∧WB (asnB a) l1 l2)∧DW w wc g (q+4) (w.heap.size+1) bA (.slice yb1 l1.length yd1) (.slice ya2 b.2.length yc2) l1 l2)
       case first =>
        cases cb with
        | false =>
          go_wp2
          go_meet
          case rel=>exact ⟨_,⟨rfl,HW1.out⟩,HD.out.2.more (by omega)⟩
        | true =>
          have hl:=HD.out.1 rfl
          have c1':=box1 HD.out.2.boxA
          have cl:=box_lt HD.out.2.boxA
          have hli:(1:Int)≤(b.2.length:Int):=by omega
          have hlm:(b.2.length:Int)≤1000:=by have:=HBL.out.2;omega
          go_wp2_with fail
          refine (pick_any g (q+3) _ _ HD.out.2.rdr (by omega) (by omega) (by omega)).mono ?_
          rintro e w9 ⟨k,rfl,hk,hr9,hf9⟩
          have D9:=HD.out.2.drawn hr9 hf9 hgl (by omega) (by omega)
          replace c1':=box1 D9.boxA
          replace cl:=box_lt D9.boxA
          have hkl:k < b.2.length:=by omega
          obtain ⟨ga,rfl⟩:∃ ga,ya2=some ⟨ga,0,none⟩:=by
           obtain ⟨xs,h1,_⟩:=D9.a
           rcases h1 with ⟨h0,_⟩ | h1
           · omega
           · obtain ⟨a',cap',e,hh⟩:=row_form h1
             injection e with e1 e2 e3
             obtain ⟨gg,e4⟩:=hh 0 (by omega)
             exact ⟨gg,e1.trans e4⟩
          obtain ⟨_,⟨u,hu⟩,huz,_⟩:=D9.a.kind hkl 2
          have hul:=World.block_lt_of_cell? w9 _ hu
          have HN:=Lib.hid (D9.kind hgl hkl 2)
          clear D9 hr9 hf9 hl
          go_wp2
          go_meet
          case rel=>exact ⟨_,⟨by simp,WB.kind HW1.out k⟩,HN.out⟩
       case rest =>
        clear HD
        obtain ⟨l2,hl2,D⟩:=hcut
        have HL2:=Lib.hid hl2.1
        have HW2:=Lib.hid hl2.2
        have HD:=Lib.hid D
        have c1':=box1 D.boxA
        have cl:=box_lt D.boxA
        clear hl2 D
        go_upto_region 13 with fail
        go_cut [65] from 10 (fun c wc=>∃ cb:Bool,c=.bool cb∧(cb=true→1 < b.2.length)∧DW w wc g (q+5) (w.heap.size+1) bA (.slice yb1 l1.length yd1) (.slice ya2 b.2.length yc2) l1 l2)
        case first =>
         by_cases hl:1 < b.2.length
         · have hli:(1:Int) < (b.2.length:Int):=by omega
           go_wp2_with fail
           refine (pick_any g (q+4) _ _ HD.out.rdr (by omega) (by decide) (by decide)).mono ?_
           rintro e w9 ⟨k,rfl,hk,hr9,hf9⟩
           have HD9:=Lib.hid (HD.out.drawn hr9 hf9 hgl (by omega) (by omega))
           have HLL:=Lib.hid hl
           clear hk hr9 hf9 hl
           go_wp2
           go_meet
           case rel=>exact ⟨_,rfl,fun _=>HLL.out,HD9.out⟩
         · have hli:¬ (1:Int) < (b.2.length:Int):=by omega
           clear hl
           go_wp2
           go_meet
           case rel=>exact ⟨false,rfl,fun h=>(by cases h),HD.out.more (by omega)⟩
        case rest =>
         clear c1' cl HD
         obtain ⟨cb,rfl,hcb,D⟩:=hcut
         have HD:=Lib.hid (And.intro hcb D)
         clear hcb D
         go_upto_if 65 with fail
         go_cut [] from 10 (fun wc=>∃ (y2:Value) (l3:List Atom),WB (asnB a) l1 l3∧DW w wc g (q+5) (w.heap.size+1) bA (.slice yb1 l1.length yd1) y2 l1 l3)
         case first =>
          cases cb with
          | false =>
            go_wp2
            go_meet
            case rel=>exact ⟨_,_,HW2.out,HD.out.2⟩
          | true =>
            have hl:=HD.out.1 rfl
            have c1':=box1 HD.out.2.boxA
            have cz:=boxz HD.out.2.boxA 1
            have cl:=box_lt HD.out.2.boxA
            have hn2:=HL2.out
            have hb2:=HBL.out.2
            have hlo:=HD.out.2.fr.size
            have ha:=HD.out.2.a
            cases l2 with
            | nil=>simp at hn2;omega
            | cons X r =>
              obtain ⟨X1,X2,X3⟩:=X
              have hbn:b.2.length=r.length+1:=by rw [← hn2];rfl
              rw [hbn] at c1' ha
              obtain ⟨ga,rfl⟩:∃ ga,ya2=some ⟨ga,0,none⟩:=by
               obtain ⟨xs,h1,_⟩:=ha
               rcases h1 with ⟨h0,_⟩ | h1
               · simp at h0
               · obtain ⟨a',cap',e,hh⟩:=row_form h1
                 injection e with e1 e2 e3
                 obtain ⟨gg,e4⟩:=hh 0 (by simp)
                 exact ⟨gg,e1.trans e4⟩
              have hrl:=ha.rl
              obtain ⟨ra,rc,hre,hcp1,hcp2,hrf⟩:=hrl.atomAt
              simp only [Value.slice.injEq] at hre
              obtain ⟨rfl,hx9,rfl⟩:=hre
              clear hx9
              obtain ⟨gb,ob,hbe,_,hzb,hp1,hp2,hp3⟩:=hrf 0 (by simp)
              simp only [Option.some.injEq,Addr.mk.injEq,and_true] at hbe
              obtain ⟨rfl,rfl⟩:=hbe
              simp only [Nat.zero_mul,Nat.zero_add,gd_cons0] at hp1 hp2 hp3
              have ht:=RL.tail hrl
              simp only [List.length_cons,Nat.add_sub_cancel,Nat.zero_add] at ht
              have ht3:RL wc (fun k=>w.heap.size≤k) (.slice (some ⟨ga,3,none⟩) r.length (yc2 - 1)) r:=ht
              unfold maxLen at hcp2
              rw [List.length_cons] at hcp1
              have hr1:0 < r.length:=by omega
              have hr2:r.length+1≤1000:=by omega
              have hI1:(1:Int)≤(r.length:Int)+1:=by omega
              have hy9:¬ yc2=1:=by omega
              have hy2:1 < yc2:=by omega
              have HS:∀ w',Below wc.heap.size wc w'→(w'.cell? ⟨bA,1,none⟩=some (.slice (some ⟨ga,0,none⟩) (r.length+1) yc2)∧w'.cell? ⟨ga,0,none⟩=some (.int .i64 X1)∧w'.cell? ⟨ga,1,none⟩=some (.int .i64 X2)∧w'.cell? ⟨ga,2,none⟩=some (.int .i64 X3)):=fun w' hb=>⟨cell_keep hb c1',cell_keep hb hp1,cell_keep hb hp2,cell_keep hb hp3⟩
              have HSH:=Lib.hid HS
              clear HS
              replace ht:=ht3
              clear ht3 hrf hrl ha hn2 hbn hcp1 hcp2
              go_wp2
              refine wp_region_late (S:=fun w'=>w'.cell? ⟨bA,1,none⟩=some (.slice (some ⟨ga,0,none⟩) (r.length+1) yc2)∧w'.cell? ⟨ga,0,none⟩=some (.int .i64 X1)∧w'.cell? ⟨ga,1,none⟩=some (.int .i64 X2)∧w'.cell? ⟨ga,2,none⟩=some (.int .i64 X3)) (dep:=[12]) (by kernel_rfl) (HSH.out _ (below_drew _)) (fun hHeld=>?_)
              refine wpAnyD_free (i:=1) (oi:=_) (v:=?_) rfl (by kernel_rfl) (by kernel_rfl) (by kernel_rfl) (by kernel_rfl) (fun _ _ _ h=>h) (Or.inl ⟨by rfl,?_⟩) hHeld (fun hHeld=>?_)
              rotate_left
              · (intro w _;first | (go_simp;done) | (go_simp;with_reducible rfl))
              try simp only [Act.put,List.setIfInBounds_toArray,List.set_cons_zero,List.set_cons_succ]
              refine wpAnyD_free (i:=5) (oi:=_) (v:=?_) rfl (by kernel_rfl) (by kernel_rfl) (by kernel_rfl) (by kernel_rfl) (fun _ _ _ h=>h) (Or.inl ⟨by rfl,?_⟩) hHeld (fun hHeld=>?_)
              rotate_left
              · (intro w _;first | (go_simp;done) | (go_simp;with_reducible rfl))
              try simp only [Act.put,List.setIfInBounds_toArray,List.set_cons_zero,List.set_cons_succ]
              refine wpAnyD_take (i:=2) (oi:=_) (v:=?_) rfl (by kernel_rfl) (by kernel_rfl) (by kernel_rfl) (by kernel_rfl) (by kernel_rfl) (fun _ _ _ h=>h) (Or.inl ⟨by rfl,?_⟩) (hHeld (early_of (by kernel_rfl))) ?_
              rotate_left
              · (intro w hSw;obtain ⟨s0,s1,s2,s3⟩:=hSw;first | (go_simp;done) | (go_simp;with_reducible rfl))
              try simp only [Act.put,List.setIfInBounds_toArray,List.set_cons_zero,List.set_cons_succ]
              replace hHeld:=fun (he:Early _ _)=>hHeld (Early.of_set (i:=2) he (by decide))
              refine wpAnyD_free (i:=3) (oi:=_) (v:=?_) rfl (by kernel_rfl) (by kernel_rfl) (by kernel_rfl) (by kernel_rfl) (fun _ _ _ h=>h) (Or.inl ⟨by rfl,?_⟩) hHeld (fun hHeld=>?_)
              rotate_left
              · (intro w _;first | (go_simp;done) | (go_simp;with_reducible rfl))
              try simp only [Act.put,List.setIfInBounds_toArray,List.set_cons_zero,List.set_cons_succ]
              refine wpAnyD_take (i:=6) (oi:=_) (v:=?_) rfl (by kernel_rfl) (by kernel_rfl) (by kernel_rfl) (by kernel_rfl) (by kernel_rfl) (fun _ _ _ h=>h) (Or.inl ⟨by rfl,?_⟩) (hHeld (early_of (by kernel_rfl))) ?_
              rotate_left
              · (intro w hSw;obtain ⟨s0,s1,s2,s3⟩:=hSw;first | (go_simp;done) | (go_simp;with_reducible rfl))
              try simp only [Act.put,List.setIfInBounds_toArray,List.set_cons_zero,List.set_cons_succ]
              replace hHeld:=fun (he:Early _ _)=>hHeld (Early.of_set (i:=6) he (by decide))
              refine wpAnyD_free (i:=7) (oi:=_) (v:=?_) rfl (by kernel_rfl) (by kernel_rfl) (by kernel_rfl) (by kernel_rfl) (fun _ _ _ h=>h) (Or.inl ⟨by rfl,?_⟩) hHeld (fun hHeld=>?_)
              rotate_left
              · (intro w _;first | (go_simp;done) | (go_simp;with_reducible rfl))
              try simp only [Act.put,List.setIfInBounds_toArray,List.set_cons_zero,List.set_cons_succ]
              refine wpAnyD_take (i:=8) (oi:=_) (v:=?_) rfl (by kernel_rfl) (by kernel_rfl) (by kernel_rfl) (by kernel_rfl) (by kernel_rfl) (fun _ _ _ h=>h) (Or.inl ⟨by rfl,?_⟩) (hHeld (early_of (by kernel_rfl))) ?_
              rotate_left
              · (intro w hSw;obtain ⟨s0,s1,s2,s3⟩:=hSw;first | (go_simp;done) | (go_simp;with_reducible rfl))
              try simp only [Act.put,List.setIfInBounds_toArray,List.set_cons_zero,List.set_cons_succ]
              replace hHeld:=fun (he:Early _ _)=>hHeld (Early.of_set (i:=8) he (by decide))
              refine wpAnyD_ready (rs:=[0,9]) (by kernel_rfl) (by simp) ?_
              refine (AllReadyD.cons (o:=_) rfl (fun K hK=>?_) (AllReadyD.cons (o:=_) rfl (fun K hK=>?_) AllReadyD.nil))
              · clear hHeld
                go_simp
                refine hK.out _ _ ?_ (fun hHeld=>?_)
                · exact fun _=>HSH.out _ Bl
                clear hK K
                try simp only [Act.put,List.setIfInBounds_toArray,List.set_cons_zero,List.set_cons_succ]
                refine wpAnyD_ready (rs:=[4,9]) (by kernel_rfl) (by simp) ?_
                refine (AllReadyD.cons (o:=_) rfl (fun K hK=>?_) (AllReadyD.cons (o:=_) rfl (fun K hK=>?_) AllReadyD.nil))
                · clear hHeld
                  refine step_F (l:=([]:List Atom)) (m:=r) (B:=wc.heap.size+1) (by rfl) (.tmp 66) (.tmp 69) _ (by rfl) ti_atom (by rfl) (FE.nil _ _ _) (by rfl) (ht.keep Bl) (by simp;omega) (by first | omega | (simp;omega) | simp) ?_
                  intro v7 w7 o7 hf7
                  rw [List.nil_append] at o7
                  obtain ⟨e7,n7,c7,rfl⟩:=o7.forms
                  have hb7:Below wc.heap.size wc w7:=Below.trans Bl ((tf_below hf7 (by first | omega | (simp;omega) | simp)).mono (by omega))
                  have hz7:=hb7.size
                  have hz7x:=hf7.size
                  simp only [World.size_alloc,World.size_drew] at hz7x
                  have HF7:=Lib.hid hf7
                  clear hf7
                  refine hK.out _ _ ?_ (fun hHeld=>?_)
                  · exact fun _=>HSH.out _ hb7
                  clear hK K
                  try simp only [Act.put,List.setIfInBounds_toArray,List.set_cons_zero,List.set_cons_succ]
                  refine wpAnyD_ready (rs:=[9]) (by kernel_rfl) (by simp) ?_
                  refine (AllReadyD.cons (o:=_) rfl (fun K hK=>?_) AllReadyD.nil)
                  clear hHeld
                  go_simp
                  refine hK.out _ _ ?_ (fun hHeld=>?_)
                  · exact fun _=>HSH.out _ Bl
                  clear hK K
                  try simp only [Act.put,List.setIfInBounds_toArray,List.set_cons_zero,List.set_cons_succ]
                  refine wpAnyD_ready (rs:=[10]) (by kernel_rfl) (by simp) ?_
                  refine (AllReadyD.cons (o:=_) rfl (fun K hK=>?_) AllReadyD.nil)
                  clear hHeld
                  refine step_F (l:=r) (m:=[((X1,X2,X3):Atom)]) (B:=wc.heap.size+1) (by rfl) (.tmp 70) (.tmp 75) _ (by rfl) ti_atom (by rfl) (o7.keep Bl) (by rfl) (lit_atom _ _ _ _ _) (by simp;omega) (by first | omega | (simp;omega) | simp) ?_
                  intro v8 w8 o8 hf8
                  obtain ⟨e8,n8,c8,rfl⟩:=o8.forms
                  have hb8:Below wc.heap.size wc w8:=Below.trans (ba hb7 _) ((tf_below hf8 (by first | omega | (simp;omega) | simp)).mono (by omega))
                  have hA8:=box_keep HD.out.2.boxA hb8
                  have u1:=box1 hA8
                  have uz:=boxz hA8 1
                  have ul:=box_lt hA8
                  clear hf8 hA8
                  refine hK.out _ _ ?_ (fun hHeld=>?_)
                  · exact fun _=>HSH.out _ hb8
                  clear hK K
                  try simp only [Act.put,List.setIfInBounds_toArray,List.set_cons_zero,List.set_cons_succ]
                  refine wpAnyD_free (i:=11) (oi:=_) (v:=?_) rfl (by kernel_rfl) (by kernel_rfl) (by kernel_rfl) (by kernel_rfl) (fun _ _ _ h=>h) (Or.inl ⟨by rfl,?_⟩) hHeld (fun hHeld=>?_)
                  rotate_left
                  · (intro w _;first | (go_simp;done) | (go_simp;with_reducible rfl))
                  try simp only [Act.put,List.setIfInBounds_toArray,List.set_cons_zero,List.set_cons_succ]
                  refine wpAnyD_ready (rs:=[12]) (by kernel_rfl) (by simp) ?_
                  refine (AllReadyD.cons (o:=_) rfl (fun K hK=>?_) AllReadyD.nil)
                  clear hHeld
                  go_simp
                  refine hK.out _ _ ?_ (fun hHeld=>?_)
                  · exact late_none (by kernel_rfl)
                  clear hK K
                  try simp only [Act.put,List.setIfInBounds_toArray,List.set_cons_zero,List.set_cons_succ]
                  refine wpAnyD_done (by kernel_rfl) ?_ _
                  clear hHeld
                  have hz8:=hb8.size
                  have D8:=(HD.out.2.keep hb8).app2 hgl (by omega) (by omega) (o8.mono (by omega)) (Fr.refl _ _)
                  have HN:=Lib.hid D8
                  clear D8 o8 hb8
                  go_wp2
                  go_meet
                  case rel=>exact ⟨_,_,WB.rot HW2.out,HN.out⟩
                · clear hHeld
                  go_simp
                  refine hK.out _ _ ?_ (fun hHeld=>?_)
                  · exact fun _=>HSH.out _ Bl
                  clear hK K
                  try simp only [Act.put,List.setIfInBounds_toArray,List.set_cons_zero,List.set_cons_succ]
                  refine wpAnyD_ready (rs:=[4]) (by kernel_rfl) (by simp) ?_
                  refine (AllReadyD.cons (o:=_) rfl (fun K hK=>?_) AllReadyD.nil)
                  clear hHeld
                  have HLT:=Lib.hid (show RL (((wc.alloc (.cells #[] 118)).alloc (.cells #[.int .i64 X1,.int .i64 X2,.int .i64 X3] 118)).drew) (fun k=>k=wc.heap.size+1) (.slice (some ⟨wc.heap.size+1,0,none⟩) 1 1) [((X1,X2,X3):Atom)] from by have h:=lit_atom (wc.drew.alloc (.cells #[] 118)) X1 X2 X3 118;simp only [World.size_alloc,World.size_drew] at h;exact h)
                  refine step_F (l:=([]:List Atom)) (m:=r) (B:=wc.heap.size+1+1) (by rfl) (.tmp 66) (.tmp 69) _ (by rfl) ti_atom (by rfl) (FE.nil _ _ _) (by rfl) (ht.keep Bl) (by simp;omega) (by first | omega | (simp;omega) | simp) ?_
                  intro v7 w7 o7 hf7
                  rw [List.nil_append] at o7
                  obtain ⟨e7,n7,c7,rfl⟩:=o7.forms
                  have hb7:Below wc.heap.size wc w7:=Below.trans Bl ((tf_below hf7 (by first | omega | (simp;omega) | simp)).mono (by omega))
                  have hz7:=hb7.size
                  have hz7x:=hf7.size
                  simp only [World.size_alloc,World.size_drew] at hz7x
                  have HF7:=Lib.hid hf7
                  clear hf7
                  refine hK.out _ _ ?_ (fun hHeld=>?_)
                  · exact fun _=>HSH.out _ hb7
                  clear hK K
                  try simp only [Act.put,List.setIfInBounds_toArray,List.set_cons_zero,List.set_cons_succ]
                  refine wpAnyD_ready (rs:=[10]) (by kernel_rfl) (by simp) ?_
                  refine (AllReadyD.cons (o:=_) rfl (fun K hK=>?_) AllReadyD.nil)
                  clear hHeld
                  refine step_F (l:=r) (m:=[((X1,X2,X3):Atom)]) (B:=wc.heap.size+1+1) (by rfl) (.tmp 70) (.tmp 75) _ (by rfl) ti_atom (by rfl) (o7.keep Bl) (by rfl) (HLT.out.kept HF7.out (fun k _ h e=>by have h2:=e.1;have h3:k=wc.heap.size+1:=h;omega)) (by simp;omega) (by first | omega | (simp;omega) | simp) ?_
                  intro v8 w8 o8 hf8
                  obtain ⟨e8,n8,c8,rfl⟩:=o8.forms
                  have hb8:Below wc.heap.size wc w8:=Below.trans hb7 ((tf_below hf8 (by first | omega | (simp;omega) | simp)).mono (by omega))
                  have hA8:=box_keep HD.out.2.boxA hb8
                  have u1:=box1 hA8
                  have uz:=boxz hA8 1
                  have ul:=box_lt hA8
                  clear hf8 hA8
                  refine hK.out _ _ ?_ (fun hHeld=>?_)
                  · exact fun _=>HSH.out _ hb8
                  clear hK K
                  try simp only [Act.put,List.setIfInBounds_toArray,List.set_cons_zero,List.set_cons_succ]
                  refine wpAnyD_free (i:=11) (oi:=_) (v:=?_) rfl (by kernel_rfl) (by kernel_rfl) (by kernel_rfl) (by kernel_rfl) (fun _ _ _ h=>h) (Or.inl ⟨by rfl,?_⟩) hHeld (fun hHeld=>?_)
                  rotate_left
                  · (intro w _;first | (go_simp;done) | (go_simp;with_reducible rfl))
                  try simp only [Act.put,List.setIfInBounds_toArray,List.set_cons_zero,List.set_cons_succ]
                  refine wpAnyD_ready (rs:=[12]) (by kernel_rfl) (by simp) ?_
                  refine (AllReadyD.cons (o:=_) rfl (fun K hK=>?_) AllReadyD.nil)
                  clear hHeld
                  go_simp
                  refine hK.out _ _ ?_ (fun hHeld=>?_)
                  · exact late_none (by kernel_rfl)
                  clear hK K
                  try simp only [Act.put,List.setIfInBounds_toArray,List.set_cons_zero,List.set_cons_succ]
                  refine wpAnyD_done (by kernel_rfl) ?_ _
                  clear hHeld
                  have hz8:=hb8.size
                  have D8:=(HD.out.2.keep hb8).app2 hgl (by omega) (by omega) (o8.mono (by omega)) (Fr.refl _ _)
                  have HN:=Lib.hid D8
                  clear D8 o8 hb8
                  go_wp2
                  go_meet
                  case rel=>exact ⟨_,_,WB.rot HW2.out,HN.out⟩
              · clear hHeld
                go_simp
                refine hK.out _ _ ?_ (fun hHeld=>?_)
                · exact fun _=>HSH.out _ Bl
                clear hK K
                try simp only [Act.put,List.setIfInBounds_toArray,List.set_cons_zero,List.set_cons_succ]
                refine wpAnyD_ready (rs:=[0]) (by kernel_rfl) (by simp) ?_
                refine (AllReadyD.cons (o:=_) rfl (fun K hK=>?_) AllReadyD.nil)
                clear hHeld
                go_simp
                refine hK.out _ _ ?_ (fun hHeld=>?_)
                · exact fun _=>HSH.out _ Bl
                clear hK K
                try simp only [Act.put,List.setIfInBounds_toArray,List.set_cons_zero,List.set_cons_succ]
                refine wpAnyD_ready (rs:=[4]) (by kernel_rfl) (by simp) ?_
                refine (AllReadyD.cons (o:=_) rfl (fun K hK=>?_) AllReadyD.nil)
                clear hHeld
                have HLT:=Lib.hid (show RL (((wc.alloc (.cells #[.int .i64 X1,.int .i64 X2,.int .i64 X3] 118)).alloc (.cells #[] 118)).drew) (fun k=>k=wc.heap.size) (.slice (some ⟨wc.heap.size,0,none⟩) 1 1) [((X1,X2,X3):Atom)] from by have h:=(lit_atom wc.drew X1 X2 X3 118).alloc (.cells #[] 118);simp only [World.size_drew] at h;exact h)
                refine step_F (l:=([]:List Atom)) (m:=r) (B:=wc.heap.size+1+1) (by rfl) (.tmp 66) (.tmp 69) _ (by rfl) ti_atom (by rfl) (FE.nil _ _ _) (by rfl) (ht.keep Bl) (by simp;omega) (by first | omega | (simp;omega) | simp) ?_
                intro v7 w7 o7 hf7
                rw [List.nil_append] at o7
                obtain ⟨e7,n7,c7,rfl⟩:=o7.forms
                have hb7:Below wc.heap.size wc w7:=Below.trans Bl ((tf_below hf7 (by first | omega | (simp;omega) | simp)).mono (by omega))
                have hz7:=hb7.size
                have hz7x:=hf7.size
                simp only [World.size_alloc,World.size_drew] at hz7x
                have HF7:=Lib.hid hf7
                clear hf7
                refine hK.out _ _ ?_ (fun hHeld=>?_)
                · exact fun _=>HSH.out _ hb7
                clear hK K
                try simp only [Act.put,List.setIfInBounds_toArray,List.set_cons_zero,List.set_cons_succ]
                refine wpAnyD_ready (rs:=[10]) (by kernel_rfl) (by simp) ?_
                refine (AllReadyD.cons (o:=_) rfl (fun K hK=>?_) AllReadyD.nil)
                clear hHeld
                refine step_F (l:=r) (m:=[((X1,X2,X3):Atom)]) (B:=wc.heap.size+1+1) (by rfl) (.tmp 70) (.tmp 75) _ (by rfl) ti_atom (by rfl) (o7.keep Bl) (by rfl) (HLT.out.kept HF7.out (fun k _ h e=>by have h2:=e.1;have h3:k=wc.heap.size:=h;omega)) (by simp;omega) (by first | omega | (simp;omega) | simp) ?_
                intro v8 w8 o8 hf8
                obtain ⟨e8,n8,c8,rfl⟩:=o8.forms
                have hb8:Below wc.heap.size wc w8:=Below.trans hb7 ((tf_below hf8 (by first | omega | (simp;omega) | simp)).mono (by omega))
                have hA8:=box_keep HD.out.2.boxA hb8
                have u1:=box1 hA8
                have uz:=boxz hA8 1
                have ul:=box_lt hA8
                clear hf8 hA8
                refine hK.out _ _ ?_ (fun hHeld=>?_)
                · exact fun _=>HSH.out _ hb8
                clear hK K
                try simp only [Act.put,List.setIfInBounds_toArray,List.set_cons_zero,List.set_cons_succ]
                refine wpAnyD_free (i:=11) (oi:=_) (v:=?_) rfl (by kernel_rfl) (by kernel_rfl) (by kernel_rfl) (by kernel_rfl) (fun _ _ _ h=>h) (Or.inl ⟨by rfl,?_⟩) hHeld (fun hHeld=>?_)
                rotate_left
                · (intro w _;first | (go_simp;done) | (go_simp;with_reducible rfl))
                try simp only [Act.put,List.setIfInBounds_toArray,List.set_cons_zero,List.set_cons_succ]
                refine wpAnyD_ready (rs:=[12]) (by kernel_rfl) (by simp) ?_
                refine (AllReadyD.cons (o:=_) rfl (fun K hK=>?_) AllReadyD.nil)
                clear hHeld
                go_simp
                refine hK.out _ _ ?_ (fun hHeld=>?_)
                · exact late_none (by kernel_rfl)
                clear hK K
                try simp only [Act.put,List.setIfInBounds_toArray,List.set_cons_zero,List.set_cons_succ]
                refine wpAnyD_done (by kernel_rfl) ?_ _
                clear hHeld
                have hz8:=hb8.size
                have D8:=(HD.out.2.keep hb8).app2 hgl (by omega) (by omega) (o8.mono (by omega)) (Fr.refl _ _)
                have HN:=Lib.hid D8
                clear D8 o8 hb8
                go_wp2
                go_meet
                case rel=>exact ⟨_,_,WB.rot HW2.out,HN.out⟩
         case rest =>
          clear HD
          obtain ⟨y2,l3,hl3,D⟩:=hcut
          obtain ⟨yb2,yd2,rfl⟩:=D.a.form
          have HL3:=Lib.hid hl3
          have b0:=box0 D.boxA
          have b1:=box1 D.boxA
          have bl:=box_lt D.boxA
          have r0:=box0 D.boxR
          have r1:=box1 D.boxR
          have rz:=boxz D.boxR
          have rl:=box_lt D.boxR
          have r:=box_two (.slice yb1 l1.length yd1) (.slice yb2 l3.length yd2) r0 r1
          have HO:=Lib.hid (D.done hgl (by omega) (.slice yb1 l1.length yd1) (.slice yb2 l3.length yd2))
          clear D hl3
          go_wp2
          refine bodyPost_ret (v:=.agg #[.slice yb1 l1.length yd1,.slice yb2 l3.length yd2]) (by simp [results,Tryz.results133,go_sem,r.1,r.2]) rfl ?_
          exact ⟨_,_,(l1,l3),rfl,HL3.out,HO.out.1.1,HO.out.1.2,HO.out.2.1,HO.out.2.2⟩
theorem l6Weak_any {S1 S2:Nat→Prop} (g q:Nat) (v1 v2:Value) (a:Asn) (w:World) (hr:Rdr w g q) (hq:q≤800000) (h1:RL w S1 v1 a.1) (h2:RL w S2 v2 a.2) (hs:a.1.length≤1000∧a.2.length≤1000) :
 Calls Tryz.prog 133 #[.pointer (some ⟨g,0,none⟩),.agg #[v1,v2]] w fun e w'=>∃ (x1 x2:Value) (b:Asn),e=.returned (.agg #[x1,x2])∧(b.1.length≤1000∧b.2.length≤1000)∧RL w' (fun k=>w.heap.size≤k) x1 b.1∧RL w' (fun k=>w.heap.size≤k) x2 b.2∧Rdr w' g (q+5)∧Fr (fun j=>j=g) w w' :=
 (l6WeakV_any g q v1 v2 a w hr hq h1 h2 hs).mono fun _ _ ⟨x1,x2,b,h0,hb,h⟩=>⟨x1,x2,b,h0,hb.1,h⟩
end Go.Proofs.YtkbbmjcfgcfejaaGreat
