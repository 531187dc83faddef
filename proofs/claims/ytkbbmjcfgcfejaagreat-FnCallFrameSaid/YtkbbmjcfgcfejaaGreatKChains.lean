/- Walks: draws of chains of atoms. (Printed by gen_chains.py.) -/
import Derived.Test.YtkbbmjcfgcfejaaGreatKMut2
namespace Go.Proofs.YtkbbmjcfgcfejaaGreat
open Go.RowKit
def FO {α:Type} [Flat α] [Tid α] (w:World) (B:Nat) (v:Value) (l:List α):Prop :=
 ∃ xs,w.ownsRow B (Tid.tid α) (Dat.sz α) v l.length xs∧∀ i,i < l.length→Dat.rd w (fun _=>False) (gd l i) (nth (Dat.sz α) xs i)
section
variable {α:Type} [Flat α] [Tid α] {w w':World} {B:Nat} {v v':Value} {l:List α} {S:Nat→Prop} {xs cs:List Value} {x:α}
theorem FO.nil (w:World) (B:Nat):FO w B (.slice none 0 0) ([]:List α):=⟨[],World.ownsRow_nil _ _ _ _,fun i hi=>absurd hi (by simp)⟩
theorem FO.fe (h:FO w B v l):FE w B v l:=by
 obtain ⟨xs,h1,h2⟩:=h
 exact ⟨xs,.inr h1,h2⟩
theorem FO.kept (h:FO w B v l) (hf:Fr S w w') (hs:∀ k,some k=v.ownBlock→¬ S k):FO w' B v l:=by
 obtain ⟨xs,h1,h2⟩:=h
 exact ⟨xs,own_kept h1 hf hs,fun i hi=>flat_conv (h2 i hi)⟩
theorem FO.keep (h:FO w B v l) (hb:Below w.heap.size w w'):FO w' B v l:=h.kept (Below.fr hb) fun _ _ h=>h
theorem FO.lt (h:FO w B v l):∀ k,some k=v.ownBlock→B≤k∧k < w.heap.size:=by
 obtain ⟨xs,h1,_⟩:=h
 exact fun k hk=>own_lt h1 hk
theorem FO.tf (h:FO w B v l):∀ k,some k=v.ownBlock→TF w B (Tid.tid α) k:=by
 obtain ⟨xs,h1,_⟩:=h
 exact fun k hk=>row_tf h1 k hk
theorem FO.app (hr:w.ownsRow B (Tid.tid α) (Dat.sz α) v l.length xs) (hx:∀ i,i < l.length→Dat.rd w (fun _=>False) (gd l i) (nth (Dat.sz α) xs i)) (hc:Dat.rd w (fun _=>False) x cs)
 (hr9:w'.ownsRow B (Tid.tid α) (Dat.sz α) v' (l.length+1) (xs ++ cs)):FO w' B v' (l ++ [x]):=by
 refine ⟨xs ++ cs,by rw [List.length_append];exact hr9,fun i hi=>?_⟩
 rw [List.length_append,List.length_singleton] at hi
 by_cases hlt:i < l.length
 · rw [gd_app1 hlt,nth_app1 hr.1 hlt];exact flat_conv (hx i hlt)
 · obtain rfl:i=l.length:=by omega
   rw [gd_snoc,nth_app2 hr.1 (Dat.len hc)]
   exact flat_conv hc
end
theorem newsC3 (w:World) (g:Nat) (x y z:Value) (e:TypeId) (h:w.heap.size=g):0 < 1→∃ b o,some (⟨g,0,none⟩:Addr)=some ⟨b,o,none⟩∧∀ j u,[x,y,z][j]?=some u→(w.alloc (.cells #[x,y,z] e)).cell? ⟨b,o+j,none⟩=some u:=fun _=>by
 subst h
 exact ⟨w.heap.size,0,rfl,fun j u hj=>by
  match j,hj with
  | 0,hj=>simp at hj;subst hj;simp
  | 1,hj=>simp at hj;subst hj;simp
  | 2,hj=>simp at hj;subst hj;simp⟩
theorem oneC3 (a b c:Int):∀ u ∈ [Value.int .i64 a,Value.int .i64 b,Value.int .i64 c],u.oneCell'=true:=fun u hu=>by
 simp at hu
 rcases hu with rfl | rfl | rfl <;> rfl
structure DC (w0 w:World) (g q bR bA:Nat) (v1 v2:Value) (l1:List Fact) (l2:List Atom):Prop where
 f:FO w w0.heap.size v1 l1
 a:FO w w0.heap.size v2 l2
 boxR:w.heap[bR]?=some (.cells #[.slice none 0 0,.slice none 0 0] 26 (0,0))
 boxA:w.heap[bA]?=some (.cells #[v1,v2] 26 (0,0))
 rdr:Rdr w g q
 fr:Fr (fun j=>j=g) w0 w
section
variable {w0 w w':World} {g q q' bR bA:Nat} {v1 v2 v':Value} {l1:List Fact} {l2 m2:List Atom}
theorem DC.da (h:DC w0 w g q bR bA v1 v2 l1 l2):DA w0 w g q bR bA v1 v2 l1 l2:=⟨h.f.fe,h.a.fe,h.boxR,h.boxA,h.rdr,h.fr⟩
theorem DC.keep (h:DC w0 w g q bR bA v1 v2 l1 l2) (hb:Below w.heap.size w w'):DC w0 w' g q bR bA v1 v2 l1 l2 :=
 ⟨h.f.keep hb,h.a.keep hb,box_keep h.boxR hb,box_keep h.boxA hb,h.rdr.keep hb,h.fr.thenB hb⟩
theorem DC.more (h:DC w0 w g q bR bA v1 v2 l1 l2) (hq:q≤q'):DC w0 w g q' bR bA v1 v2 l1 l2:=⟨h.f,h.a,h.boxR,h.boxA,h.rdr.more hq,h.fr⟩
theorem DC.drawn (h:DC w0 w g q bR bA v1 v2 l1 l2) (hr:Rdr w' g q') (hf:Fr (fun j=>j=g) w w') (hg:g < w0.heap.size) (hR:¬ bR=g) (hA:¬ bA=g):DC w0 w' g q' bR bA v1 v2 l1 l2 :=
 ⟨h.f.kept hf fun k hk e=>by have:=h.f.lt k hk;omega,h.a.kept hf fun k hk e=>by have:=h.a.lt k hk;omega,box_kept h.boxR hf hR,box_kept h.boxA hf hA,hr,h.fr.trans hf⟩
theorem DC.set (h:DC w0 w g q bR bA v1 v2 l1 l2) {p:Addr} (u:Value) (hp0:w0.heap.size≤p.block) (hg:g < w0.heap.size) (h1:∀ k,some k=v1.ownBlock→¬ k=p.block) (h2:∀ k,some k=v2.ownBlock→¬ k=p.block) (hR:¬ bR=p.block) (hA:¬ bA=p.block) :
 DC w0 (w.setCell p u) g q bR bA v1 v2 l1 l2 :=
 ⟨h.f.kept (fr_set _ _ _) fun k hk e=>h1 k hk e,h.a.kept (fr_set _ _ _) fun k hk e=>h2 k hk e,box_other h.boxR _ _ hR,box_other h.boxA _ _ hA,
   h.rdr.kept (fr_set _ _ _) (fun k hk e=>by have e':k=p.block:=e;omega),h.fr.then (fr_set _ _ _) fun i hi e=>by have e':i=p.block:=e;omega⟩
theorem DC.app (h:DC w0 w g q bR bA (.slice none 0 0) v2 l1 l2) (hg:g < w0.heap.size) (hne:¬ bR=bA) (hlo:w0.heap.size≤bA) (h9:FO w' w0.heap.size v' (l2 ++ m2)) (hf:Fr (fun k=>some k=v2.ownBlock) w w') :
 DC w0 (w'.setCell ⟨bA,1,none⟩ v') g q bR bA (.slice none 0 0) v' l1 (l2 ++ m2):=by
 have nA:¬ some bA=v2.ownBlock:=fun e=>tf_ne h.boxA (by decide) (h.a.tf _ e)
 have nR:¬ some bR=v2.ownBlock:=fun e=>tf_ne h.boxR (by decide) (h.a.tf _ e)
 have hA:=box_kept h.boxA hf nA
 have n9:∀ k,some k=v'.ownBlock→¬ k=bA:=fun k hk e=>by subst e;exact tf_ne hA (by decide) (h9.tf _ hk)
 exact ⟨(h.f.kept hf fun k hk=>by simp [Value.ownBlock] at hk).kept (fr_set _ _ _) fun k hk=>by simp [Value.ownBlock] at hk,h9.kept (fr_set _ _ _) fun k hk e=>n9 k hk e,
  box_other (box_kept h.boxR hf nR) _ _ hne,box_set1 hA _,(h.rdr.kept hf fun k hk e=>by have:=h.a.lt k e;omega).kept (fr_set _ _ _) (fun k hk e=>by simp at e;omega),
  (h.fr.then hf fun i hi e=>by have:=h.a.lt i e;omega).then (fr_set _ _ _) fun i hi e=>by simp at e;omega⟩
end
set_option linter.unusedSimpArgs false in
set_option maxRecDepth 100000 in
set_option maxHeartbeats 6400000 in
theorem l6Chains_any (g q:Nat) (w:World) (hr:Rdr w g q) (hq:q≤900000) :
 Calls Tryz.prog 248 #[.pointer (some ⟨g,0,none⟩)] w fun e w'=>∃ (v1 v2:Value) (a:Asn),e=.returned (.agg #[v1,v2])∧asnB a=true∧(a.1.length≤1∧a.2.length≤4)∧FE w' w.heap.size v1 a.1∧FE w' w.heap.size v2 a.2∧Rdr w' g (q+13)∧Fr (fun j=>j=g) w w':=by
 have hgl:=hr.lt
 have D0:DC w ((w.alloc (.cells #[.slice none 0 0,.slice none 0 0] 26)).alloc (.cells #[.slice none 0 0,.slice none 0 0] 26)) g q w.heap.size (w.heap.size+1) (.slice none 0 0) (.slice none 0 0) [] [] :=
  ⟨FO.nil _ _,FO.nil _ _,box_keep (heap_alloc_new w _) (below_alloc _ _),by have:=heap_alloc_new (w.alloc (.cells #[.slice none 0 0,.slice none 0 0] 26)) (.cells #[.slice none 0 0,.slice none 0 0] 26);rwa [World.size_alloc] at this,
    (hr.keep (below_alloc _ _)).keep (below_alloc _ _),(Below.fr (bt (below_alloc w _) (below_alloc _ _))).mono fun _ _ h=>h.elim⟩
 have hlit:=lit_ints ((w.alloc (.cells #[.slice none 0 0,.slice none 0 0] 26)).alloc (.cells #[.slice none 0 0,.slice none 0 0] 26)) [1,2,5] (by decide)
 simp only [World.size_alloc] at hlit
 have HLIT:=Lib.hid hlit
 clear hlit
 go_enter Tryz.func248,Tryz.ntmps248
 go_wp2_with fail
 refine (num_any g q _ [1,2,5] _ (D0.rdr.keep (below_alloc _ _)) HLIT.out (by omega) (by decide) (by decide) (fun k hk e=>by simp [Value.ownBlock] at hk;omega)).mono ?_
 rintro e w1 ⟨A0,hA0,rfl,hr1,hf1⟩
 have hA8:0≤A0∧A0≤8:=by simp at hA0;omega
 have D1:=(D0.keep (below_alloc _ _)).drawn hr1 hf1 hgl (by omega) (by omega)
 have hlit:=lit_ints w1 [2,3,1,4] (by decide)
 have HL1:=Lib.hid hlit
 have hg1:=hr1.lt
 have HA8:=Lib.hid hA8
 clear D0 hr1 hf1 hA0 hr HLIT hlit hA8
 go_wp2_with fail
 refine (num_any g (q+1) _ [2,3,1,4] _ (D1.rdr.keep (below_alloc _ _)) HL1.out (by omega) (by decide) (by decide) (fun k hk e=>by simp [Value.ownBlock] at hk;omega)).mono ?_
 rintro e w2 ⟨x,hx,rfl,hr2,hf2⟩
 obtain ⟨m,rfl,hm⟩:∃ m:Nat,x=(m:Int)∧m≤4:=⟨x.toNat,by simp at hx;omega,by simp at hx;omega⟩
 have D2:=(D1.keep (below_alloc _ _)).drawn hr2 hf2 hgl (by omega) (by omega)
 have HM:=Lib.hid hm
 clear D1 hr2 hf2 hx hm HL1
 go_wp2
 go_loopg [4,5] m (fun k at_ i wr=>∃ (A:Int) (v2:Value) (l2:List Atom),at_=.int .i64 A∧(0≤A∧A≤8)∧i=.int .i64 (k:Nat)∧l2.length+k≤4∧l2.all atomB=true∧DC w wr g (q+2+2 * l2.length) w.heap.size (w.heap.size+1) (.slice none 0 0) v2 [] l2)
 case atStart=>exact ⟨A0,_,[],rfl,HA8.out,rfl,by have:=HM.out;simpa using this,rfl,D2⟩
 case round =>
  clear D2
  obtain ⟨A,v2,l2,rfl,hA8,rfl,hle,hall,D⟩:=hrel
  obtain ⟨a2,c2,rfl⟩:=D.a.fe.form
  have HLE:=Lib.hid hle
  have HAL:=Lib.hid (And.intro hall hA8)
  have hll:l2.length≤4:=by omega
  have hg2:(gk:Int)≤4:=by omega
  have hzz:=box_lt D.boxA
  have hgr:=D.rdr.lt
  clear hle hall hA8
  by_cases hk0:0 < gk
  · have hki:(0:Int) < (gk:Int):=by omega
    have hlit:=lit_ints wr [2,5,0,3,6,1] (by decide)
    have HL:=Lib.hid hlit
    have DD:=Lib.hid (D.keep (below_alloc wr (.cells #[.int .i64 2,.int .i64 5,.int .i64 0,.int .i64 3,.int .i64 6,.int .i64 1] 3)))
    clear hlit D
    go_wp2_with fail
    refine (num_any g _ _ [2,5,0,3,6,1] _ DD.out.rdr HL.out (by omega) (by decide) (by decide) (fun k hk e=>by simp [Value.ownBlock] at hk;omega)).mono ?_
    rintro e w6 ⟨x,hx,rfl,hr6,hf6⟩
    have hx8:0≤x∧x≤8:=by simp at hx;omega
    have D6:=DD.out.drawn hr6 hf6 hgl (by omega) (by omega)
    have hz6:=box_lt D6.boxA
    have hg6:=D6.rdr.lt
    have hv6:=D6.a.lt
    have HX8:=Lib.hid hx8
    have DE:=Lib.hid (D6.keep (below_alloc w6 (.cells #[.int .i64 1,.int .i64 A,.int .i64 x] 118)))
    clear DD HL hx hr6 hf6 D6 hx8
    go_wp2_with fail
    refine (pick_any g _ 2 _ DE.out.rdr (by omega) (by decide) (by decide)).mono ?_
    rintro e w7 ⟨k,rfl,hk,hr7,hf7⟩
    have D7:=DE.out.drawn hr7 hf7 hgl (by omega) (by omega)
    have hX:=box_kept (heap3 w6 (.int .i64 1) (.int .i64 A) (.int .i64 x) 118) hf7 (by omega)
    have HV6:=Lib.hid hv6
    clear DE hr7 hf7 hv6
    go_upto_if 25 with fail
    go_cut [] from 14 to 34 (fun wc=>∃ K:Int,(K=1∨K=2)∧wc.heap[w6.heap.size]?=some (.cells #[.int .i64 K,.int .i64 A,.int .i64 x] 118 (0,0))∧DC w wc g (q+2+2 * l2.length+1+1) w.heap.size (w.heap.size+1) (.slice none 0 0) (.slice a2 l2.length c2) [] l2)
    case first =>
     by_cases hk0:k=0
     · subst hk0
       have x0:=c30 hX
       have xz:=c3z hX 0
       have xl:=box_lt hX
       have hX2:(w7.setCell ⟨w6.heap.size,0,none⟩ (.int .i64 2)).heap[w6.heap.size]?=some (.cells #[.int .i64 2,.int .i64 A,.int .i64 x] 118 (0,0)):=by
        rw [heap_setCell_same w7 w6.heap.size 0 _ _ _ hX];rfl
       have DX:=D7.set (p:=⟨w6.heap.size,0,none⟩) (.int .i64 2) (by simp;omega) hgl (fun k hk=>by simp [Value.ownBlock] at hk) (fun k hk e=>by have:=(HV6.out k hk).2;simp at e;omega) (by simp;omega) (by simp;omega)
       have HD:=Lib.hid (And.intro hX2 DX)
       clear hX D7 hX2 DX
       go_wp2_with fail
       go_meet
       case rel=>exact ⟨2,.inr rfl,HD.out.1,HD.out.2⟩
     · have kb0:((k:Int) == 0)=false:=by simp;omega
       have HD:=Lib.hid (And.intro hX D7)
       clear hX D7
       go_wp2_with fail
       go_meet
       case rel=>exact ⟨1,.inl rfl,HD.out.1,HD.out.2⟩
    case rest =>
     obtain ⟨K,hK,hXc,D8⟩:=hcut
     have hc1:=box1 D8.boxA
     have x0:=c30 hXc
     have x1:=c31 hXc
     have x2:=c32 hXc
     have xl:=box_lt hXc
     have DK:=Lib.hid (D8.keep (below_alloc wc (.cells #[.int .i64 K,.int .i64 A,.int .i64 x] 118)))
     have HXK:=Lib.hid (box_keep hXc (below_alloc wc (.cells #[.int .i64 K,.int .i64 A,.int .i64 x] 118)))
     obtain ⟨xs,hrw,hrd⟩:=DK.out.a
     have HRD:=Lib.hid (And.intro hrd hK)
     clear D7 D8 hX hXc hrd hK
     go_wp2_with (at_builtin;go_must (refine app_cells (n:=l2.length) (m:=1) (news:=[.int .i64 K,.int .i64 A,.int .i64 x]) rfl (.tmp 28) (.tmp 30) _ rfl (B:=w.heap.size) ti_atom rfl hrw rfl rfl (newsC3 _ _ _ _ _ _ (by simp)) (oneC3 _ _ _) (by omega) (by simp;omega) ?_;intro v' w9 hr9 hf9 hl9;have h9:=FO.app hrw HRD.out.1 (rd_atom_mk _ _ ((K,A,x):Atom)) hr9;obtain ⟨a9,n9,c9,rfl⟩:=h9.fe.forms;have hA9:=box_kept DK.out.boxA hf9 (fun e=>tf_ne DK.out.boxA (by decide) (row_tf hrw _ e));have e1:=box1 hA9;have ez:=boxz hA9 1;have el:=box_lt hA9;have hX9:=box_kept HXK.out hf9 (fun e=>by have:=(HV6.out _ e).2;omega);have y2:w9.cell? ⟨w6.heap.size,2,none⟩=some (.int .i64 x):=c32 hX9;have DZ:=Lib.hid (DK.out.app hgl (by omega) (by omega) h9 hf9);clear hr9 h9 hA9 hX9 hf9 hl9 hrw))
     go_roundg (gk - 1)
     case rel=>exact ⟨x,_,l2 ++ [(K,A,x)],rfl,HX8.out,by rw [show ((gk - 1:Nat):Int)=(gk:Int) - 1 by omega],by have:=HLE.out;simp;omega,by rw [List.all_append,HAL.out.1];simp [atomB_mk HRD.out.2 HAL.out.2.1 HAL.out.2.2 HX8.out.1 HX8.out.2],DZ.out.more (by simp;omega)⟩
     case measure=>omega
  · obtain rfl:gk=0:=by omega
    have D3:=D.da
    clear D
    have hz3:=D3.fr.size
    go_wp2_with fail
    refine (pick_any g _ 3 _ D3.rdr (by omega) (by decide) (by decide)).mono ?_
    rintro e w3 ⟨k,rfl,hk,hr3,hf3⟩
    have D4:=D3.drawn hr3 hf3 hgl (by omega) (by omega)
    have hz4:=D4.fr.size
    have hc0:=box0 D4.boxA
    clear hr3 hf3 D3
    go_upto_if 37 with fail
    go_cut [] from 7 (fun wc=>∃ (v1:Value) (l1:List Fact),(l1.all factB=true∧l1.length≤1)∧DA w wc g (q+13) w.heap.size (w.heap.size+1) v1 (.slice a2 l2.length c2) l1 l2)
    case first =>
     by_cases hk0:k=0
     · subst hk0
       obtain ⟨D,hDD⟩:∃ D:DA w w3 g (q+2+2 * l2.length+1) w.heap.size (w.heap.size+1) (.slice none 0 0) (.slice a2 l2.length c2) [] l2,True:=⟨D4,trivial⟩
       clear D4 hDD
       go_wp2
       refine wp_region_late (S:=(fun w'=>w'.cell? ⟨w.heap.size+1,0,none⟩=some (.slice none 0 0))) (dep:=[10,12]) (by kernel_rfl) (cell_keep (below_drew _) (box0 D.boxA)) (fun hHeld=>?_)
       refine wpAnyD_free (i:=0) (oi:=_) (v:=?_) rfl (by kernel_rfl) (by kernel_rfl) (by kernel_rfl) (by kernel_rfl) (fun _ _ _ h=>h) (Or.inl ⟨by rfl,?_⟩) hHeld (fun hHeld=>?_)
       rotate_left
       · (intro w _;first | (go_simp;done) | (go_simp;with_reducible rfl))
       try simp only [Act.put,List.setIfInBounds_toArray,List.set_cons_zero,List.set_cons_succ]
       refine wpAnyD_free (i:=2) (oi:=_) (v:=?_) rfl (by kernel_rfl) (by kernel_rfl) (by kernel_rfl) (by kernel_rfl) (fun _ _ _ h=>h) (Or.inl ⟨by rfl,?_⟩) hHeld (fun hHeld=>?_)
       rotate_left
       · (intro w _;first | (go_simp;done) | (go_simp;with_reducible rfl))
       try simp only [Act.put,List.setIfInBounds_toArray,List.set_cons_zero,List.set_cons_succ]
       refine wpAnyD_free (i:=5) (oi:=_) (v:=?_) rfl (by kernel_rfl) (by kernel_rfl) (by kernel_rfl) (by kernel_rfl) (fun _ _ _ h=>h) (Or.inl ⟨by rfl,?_⟩) hHeld (fun hHeld=>?_)
       rotate_left
       · (intro w _;first | (go_simp;done) | (go_simp;with_reducible rfl))
       try simp only [Act.put,List.setIfInBounds_toArray,List.set_cons_zero,List.set_cons_succ]
       refine wpAnyD_take (i:=1) (oi:=_) (v:=?_) rfl (by kernel_rfl) (by kernel_rfl) (by kernel_rfl) (by kernel_rfl) (by kernel_rfl) (fun _ _ _ h=>h) (Or.inl ⟨by rfl,?_⟩) (hHeld (early_of (by kernel_rfl))) ?_
       rotate_left
       · (intro w hSw;(try dsimp only at hSw);first | (go_simp;done) | (go_simp;with_reducible rfl))
       try simp only [Act.put,List.setIfInBounds_toArray,List.set_cons_zero,List.set_cons_succ]
       replace hHeld:=fun (he:Early _ _)=>hHeld (Early.of_set (i:=1) he (by decide))
       refine wpAnyD_ready (rs:=[3,6]) (by kernel_rfl) (by simp) ?_
       refine (AllReadyD.cons (o:=_) rfl (fun K hK=>?_) (AllReadyD.cons (o:=_) rfl (fun K hK=>?_) AllReadyD.nil))
       · clear hHeld
         go_simp
         refine hK.out _ _ ?_ (fun hHeld=>?_)
         · exact fun _=>cell_keep (w':=(w3.drew.alloc (.cells #[.int .i64 1,.int .i64 2,.int .i64 5] 3))) Bl (box0 D.boxA)
         clear hK K
         try simp only [Act.put,List.setIfInBounds_toArray,List.set_cons_zero,List.set_cons_succ]
         have L3:RInts (w3.drew.alloc (.cells #[.int .i64 1,.int .i64 2,.int .i64 5] 3)) (.slice (some ⟨w3.heap.size,0,none⟩) 3 3) [1,2,5]:=by have h:=lit_ints w3.drew [1,2,5] (by decide);(try simp only [World.size_alloc,World.size_drew] at h);exact h
         refine wpAnyD_ready (rs:=[4,6]) (by kernel_rfl) (by simp) ?_
         refine (AllReadyD.cons (o:=_) rfl (fun K hK=>?_) (AllReadyD.cons (o:=_) rfl (fun K hK=>?_) AllReadyD.nil))
         · clear hHeld
           go_simp
           (go_at_call 143;refine (num_any g (q+2+2 * l2.length+1) _ [1,2,5] _ (D.keep (w':=(w3.drew.alloc (.cells #[.int .i64 1,.int .i64 2,.int .i64 5] 3))) Bl).rdr (L3.keep (w':=(w3.drew.alloc (.cells #[.int .i64 1,.int .i64 2,.int .i64 5] 3))) Bl) (by omega) (by decide) (by decide) (fun k hk e=>by simp [Value.ownBlock] at hk;omega)).mono ?_;rintro e y1 ⟨x1,hx1,rfl,hr1,hf1⟩)
           have D1:=(D.keep (w':=(w3.drew.alloc (.cells #[.int .i64 1,.int .i64 2,.int .i64 5] 3))) Bl).drawn hr1 hf1 hgl (by omega) (by omega)
           have hg1:=D1.rdr.lt
           clear hr1 hf1 L3
           go_wp2_with fail
           refine hK.out _ _ ?_ (fun hHeld=>?_)
           · exact fun _=>(box0 D1.boxA)
           clear hK K
           try simp only [Act.put,List.setIfInBounds_toArray,List.set_cons_zero,List.set_cons_succ]
           refine wpAnyD_ready (rs:=[6]) (by kernel_rfl) (by simp) ?_
           refine (AllReadyD.cons (o:=_) rfl (fun K hK=>?_) AllReadyD.nil)
           clear hHeld
           go_simp
           refine hK.out _ _ ?_ (fun hHeld=>?_)
           · exact fun _=>cell_keep (w':=(y1.alloc (.cells #[.int .i64 0,.int .i64 2,.int .i64 3,.int .i64 5] 3))) Bl (box0 D1.boxA)
           clear hK K
           try simp only [Act.put,List.setIfInBounds_toArray,List.set_cons_zero,List.set_cons_succ]
           have L6:RInts (y1.alloc (.cells #[.int .i64 0,.int .i64 2,.int .i64 3,.int .i64 5] 3)) (.slice (some ⟨y1.heap.size,0,none⟩) 4 4) [0,2,3,5]:=by have h:=lit_ints y1 [0,2,3,5] (by decide);(try simp only [World.size_alloc,World.size_drew] at h);exact h
           refine wpAnyD_ready (rs:=[7]) (by kernel_rfl) (by simp) ?_
           refine (AllReadyD.cons (o:=_) rfl (fun K hK=>?_) AllReadyD.nil)
           clear hHeld
           go_simp
           (go_at_call 143;refine (num_any g (q+2+2 * l2.length+1+1) _ [0,2,3,5] _ (D1.keep (w':=(y1.alloc (.cells #[.int .i64 0,.int .i64 2,.int .i64 3,.int .i64 5] 3))) Bl).rdr (L6.keep (w':=(y1.alloc (.cells #[.int .i64 0,.int .i64 2,.int .i64 3,.int .i64 5] 3))) Bl) (by omega) (by decide) (by decide) (fun k hk e=>by simp [Value.ownBlock] at hk;omega)).mono ?_;rintro e y2 ⟨x2,hx2,rfl,hr2,hf2⟩)
           have D2:=(D1.keep (w':=(y1.alloc (.cells #[.int .i64 0,.int .i64 2,.int .i64 3,.int .i64 5] 3))) Bl).drawn hr2 hf2 hgl (by omega) (by omega)
           have hg2:=D2.rdr.lt
           clear hr2 hf2 L6
           go_wp2_with fail
           refine hK.out _ _ ?_ (fun hHeld=>?_)
           · exact fun _=>(box0 D2.boxA)
           clear hK K
           try simp only [Act.put,List.setIfInBounds_toArray,List.set_cons_zero,List.set_cons_succ]
           refine wpAnyD_free (i:=8) (oi:=_) (v:=?_) rfl (by kernel_rfl) (by kernel_rfl) (by kernel_rfl) (by kernel_rfl) (fun _ _ _ h=>h) (Or.inl ⟨by rfl,?_⟩) hHeld (fun hHeld=>?_)
           rotate_left
           · (intro w _;first | (go_simp;done) | (go_simp;with_reducible rfl))
           try simp only [Act.put,List.setIfInBounds_toArray,List.set_cons_zero,List.set_cons_succ]
           refine wpAnyD_ready (rs:=[9]) (by kernel_rfl) (by simp) ?_
           refine (AllReadyD.cons (o:=_) rfl (fun K hK=>?_) AllReadyD.nil)
           clear hHeld
           go_simp
           refine hK.out _ _ ?_ (fun hHeld=>?_)
           · exact fun _=>cell_keep (below_alloc _ _) (box0 D2.boxA)
           clear hK K
           try simp only [Act.put,List.setIfInBounds_toArray,List.set_cons_zero,List.set_cons_succ]
           refine wpAnyD_ready (rs:=[10]) (by kernel_rfl) (by simp) ?_
           refine (AllReadyD.cons (o:=_) rfl (fun K hK=>?_) AllReadyD.nil)
           clear hHeld
           refine step_F (by rfl) (.tmp 39) (.tmp 47) _ (by rfl) ti_fact (by rfl) (D2.f.keep (below_alloc _ _)) (by rfl) (lit_fact _ _ _ _ _) (by have:=hll;simp <;> omega) (by have:=D2.fr.size;simp <;> omega) ?_
           intro v' y9 hfe hfr
           obtain ⟨a',n',c',rfl⟩:=hfe.forms
           have DZ:=(D2.keep (below_alloc _ _)).app1 hgl (by omega) (by omega) hfe hfr
           have hbz:=box_tf (D2.keep (below_alloc _ _)).boxA hfr (by decide)
           have hbz0:=box0 hbz
           have hbzz:=boxz hbz 0
           clear hbz
           refine hK.out _ _ ?_ (fun hHeld=>?_)
           · exact late_none (by kernel_rfl)
           clear hK K
           try simp only [Act.put,List.setIfInBounds_toArray,List.set_cons_zero,List.set_cons_succ]
           refine wpAnyD_free (i:=11) (oi:=_) (v:=?_) rfl (by kernel_rfl) (by kernel_rfl) (by kernel_rfl) (by kernel_rfl) (fun _ _ _ h=>h) (Or.inl ⟨by rfl,?_⟩) hHeld (fun hHeld=>?_)
           rotate_left
           · (intro w _;first | (go_simp;done) | (go_simp;with_reducible rfl))
           try simp only [Act.put,List.setIfInBounds_toArray,List.set_cons_zero,List.set_cons_succ]
           refine wpAnyD_ready (rs:=[12]) (by kernel_rfl) (by simp) ?_
           refine (AllReadyD.cons (o:=_) rfl (fun K hK=>?_) AllReadyD.nil)
           clear hHeld
           go_simp
           refine hK.out _ _ ?_ (fun hHeld=>?_)
           · exact late_none (by kernel_rfl)
           clear hK K
           try simp only [Act.put,List.setIfInBounds_toArray,List.set_cons_zero,List.set_cons_succ]
           refine wpAnyD_done (by kernel_rfl) ?_ _
           clear hHeld
           have hDZ:=Lib.hid DZ
           have hx1:0≤x1∧x1≤8:=by simp at hx1;omega
           have hx2:0≤x2∧x2≤8:=by simp at hx2;omega
           have HX:=Lib.hid (And.intro hx1 hx2)
           clear DZ D D1 D2 hfe hfr hbz0 hbzz hx1 hx2
           go_wp2
           go_meet
           case rel=>exact ⟨_,[(false,x1,x2)],⟨by have h1:=isTermB_iff.2 HX.out.1;have h2:=isTermB_iff.2 HX.out.2;simp [factB,h1,h2],by simp⟩,da_more2 hDZ.out (by omega)⟩
         · clear hHeld
           go_simp
           refine hK.out _ _ ?_ (fun hHeld=>?_)
           · exact fun _=>cell_keep (w':=((w3.drew.alloc (.cells #[.int .i64 1,.int .i64 2,.int .i64 5] 3)).alloc (.cells #[.int .i64 0,.int .i64 2,.int .i64 3,.int .i64 5] 3))) Bl (box0 D.boxA)
           clear hK K
           try simp only [Act.put,List.setIfInBounds_toArray,List.set_cons_zero,List.set_cons_succ]
           have L6:RInts ((w3.drew.alloc (.cells #[.int .i64 1,.int .i64 2,.int .i64 5] 3)).alloc (.cells #[.int .i64 0,.int .i64 2,.int .i64 3,.int .i64 5] 3)) (.slice (some ⟨w3.heap.size+1,0,none⟩) 4 4) [0,2,3,5]:=by have h:=lit_ints (w3.drew.alloc (.cells #[.int .i64 1,.int .i64 2,.int .i64 5] 3)) [0,2,3,5] (by decide);(try simp only [World.size_alloc,World.size_drew] at h);exact h
           refine wpAnyD_ready (rs:=[4]) (by kernel_rfl) (by simp) ?_
           refine (AllReadyD.cons (o:=_) rfl (fun K hK=>?_) AllReadyD.nil)
           clear hHeld
           go_simp
           (go_at_call 143;refine (num_any g (q+2+2 * l2.length+1) _ [1,2,5] _ (D.keep (w':=((w3.drew.alloc (.cells #[.int .i64 1,.int .i64 2,.int .i64 5] 3)).alloc (.cells #[.int .i64 0,.int .i64 2,.int .i64 3,.int .i64 5] 3))) Bl).rdr (L3.keep (w':=((w3.drew.alloc (.cells #[.int .i64 1,.int .i64 2,.int .i64 5] 3)).alloc (.cells #[.int .i64 0,.int .i64 2,.int .i64 3,.int .i64 5] 3))) Bl) (by omega) (by decide) (by decide) (fun k hk e=>by simp [Value.ownBlock] at hk;omega)).mono ?_;rintro e y1 ⟨x1,hx1,rfl,hr1,hf1⟩)
           have D1:=(D.keep (w':=((w3.drew.alloc (.cells #[.int .i64 1,.int .i64 2,.int .i64 5] 3)).alloc (.cells #[.int .i64 0,.int .i64 2,.int .i64 3,.int .i64 5] 3))) Bl).drawn hr1 hf1 hgl (by omega) (by omega)
           have hg1:=D1.rdr.lt
           replace L6:=RInts.kept (L6.keep (w':=((w3.drew.alloc (.cells #[.int .i64 1,.int .i64 2,.int .i64 5] 3)).alloc (.cells #[.int .i64 0,.int .i64 2,.int .i64 3,.int .i64 5] 3))) Bl) hf1 (fun k hk e=>by simp [Value.ownBlock] at hk;omega)
           clear hr1 hf1 L3
           go_wp2_with fail
           refine hK.out _ _ ?_ (fun hHeld=>?_)
           · exact fun _=>(box0 D1.boxA)
           clear hK K
           try simp only [Act.put,List.setIfInBounds_toArray,List.set_cons_zero,List.set_cons_succ]
           refine wpAnyD_ready (rs:=[7]) (by kernel_rfl) (by simp) ?_
           refine (AllReadyD.cons (o:=_) rfl (fun K hK=>?_) AllReadyD.nil)
           clear hHeld
           go_simp
           (go_at_call 143;refine (num_any g (q+2+2 * l2.length+1+1) _ [0,2,3,5] _ (D1.keep (w':=y1) Bl).rdr (L6.keep (w':=y1) Bl) (by omega) (by decide) (by decide) (fun k hk e=>by simp [Value.ownBlock] at hk;omega)).mono ?_;rintro e y2 ⟨x2,hx2,rfl,hr2,hf2⟩)
           have D2:=(D1.keep (w':=y1) Bl).drawn hr2 hf2 hgl (by omega) (by omega)
           have hg2:=D2.rdr.lt
           clear hr2 hf2 L6
           go_wp2_with fail
           refine hK.out _ _ ?_ (fun hHeld=>?_)
           · exact fun _=>(box0 D2.boxA)
           clear hK K
           try simp only [Act.put,List.setIfInBounds_toArray,List.set_cons_zero,List.set_cons_succ]
           refine wpAnyD_free (i:=8) (oi:=_) (v:=?_) rfl (by kernel_rfl) (by kernel_rfl) (by kernel_rfl) (by kernel_rfl) (fun _ _ _ h=>h) (Or.inl ⟨by rfl,?_⟩) hHeld (fun hHeld=>?_)
           rotate_left
           · (intro w _;first | (go_simp;done) | (go_simp;with_reducible rfl))
           try simp only [Act.put,List.setIfInBounds_toArray,List.set_cons_zero,List.set_cons_succ]
           refine wpAnyD_ready (rs:=[9]) (by kernel_rfl) (by simp) ?_
           refine (AllReadyD.cons (o:=_) rfl (fun K hK=>?_) AllReadyD.nil)
           clear hHeld
           go_simp
           refine hK.out _ _ ?_ (fun hHeld=>?_)
           · exact fun _=>cell_keep (below_alloc _ _) (box0 D2.boxA)
           clear hK K
           try simp only [Act.put,List.setIfInBounds_toArray,List.set_cons_zero,List.set_cons_succ]
           refine wpAnyD_ready (rs:=[10]) (by kernel_rfl) (by simp) ?_
           refine (AllReadyD.cons (o:=_) rfl (fun K hK=>?_) AllReadyD.nil)
           clear hHeld
           refine step_F (by rfl) (.tmp 39) (.tmp 47) _ (by rfl) ti_fact (by rfl) (D2.f.keep (below_alloc _ _)) (by rfl) (lit_fact _ _ _ _ _) (by have:=hll;simp <;> omega) (by have:=D2.fr.size;simp <;> omega) ?_
           intro v' y9 hfe hfr
           obtain ⟨a',n',c',rfl⟩:=hfe.forms
           have DZ:=(D2.keep (below_alloc _ _)).app1 hgl (by omega) (by omega) hfe hfr
           have hbz:=box_tf (D2.keep (below_alloc _ _)).boxA hfr (by decide)
           have hbz0:=box0 hbz
           have hbzz:=boxz hbz 0
           clear hbz
           refine hK.out _ _ ?_ (fun hHeld=>?_)
           · exact late_none (by kernel_rfl)
           clear hK K
           try simp only [Act.put,List.setIfInBounds_toArray,List.set_cons_zero,List.set_cons_succ]
           refine wpAnyD_free (i:=11) (oi:=_) (v:=?_) rfl (by kernel_rfl) (by kernel_rfl) (by kernel_rfl) (by kernel_rfl) (fun _ _ _ h=>h) (Or.inl ⟨by rfl,?_⟩) hHeld (fun hHeld=>?_)
           rotate_left
           · (intro w _;first | (go_simp;done) | (go_simp;with_reducible rfl))
           try simp only [Act.put,List.setIfInBounds_toArray,List.set_cons_zero,List.set_cons_succ]
           refine wpAnyD_ready (rs:=[12]) (by kernel_rfl) (by simp) ?_
           refine (AllReadyD.cons (o:=_) rfl (fun K hK=>?_) AllReadyD.nil)
           clear hHeld
           go_simp
           refine hK.out _ _ ?_ (fun hHeld=>?_)
           · exact late_none (by kernel_rfl)
           clear hK K
           try simp only [Act.put,List.setIfInBounds_toArray,List.set_cons_zero,List.set_cons_succ]
           refine wpAnyD_done (by kernel_rfl) ?_ _
           clear hHeld
           have hDZ:=Lib.hid DZ
           have hx1:0≤x1∧x1≤8:=by simp at hx1;omega
           have hx2:0≤x2∧x2≤8:=by simp at hx2;omega
           have HX:=Lib.hid (And.intro hx1 hx2)
           clear DZ D D1 D2 hfe hfr hbz0 hbzz hx1 hx2
           go_wp2
           go_meet
           case rel=>exact ⟨_,[(false,x1,x2)],⟨by have h1:=isTermB_iff.2 HX.out.1;have h2:=isTermB_iff.2 HX.out.2;simp [factB,h1,h2],by simp⟩,da_more2 hDZ.out (by omega)⟩
       · clear hHeld
         go_simp
         refine hK.out _ _ ?_ (fun hHeld=>?_)
         · exact fun _=>cell_keep (w':=(w3.drew.alloc (.cells #[.int .i64 0,.int .i64 2,.int .i64 3,.int .i64 5] 3))) Bl (box0 D.boxA)
         clear hK K
         try simp only [Act.put,List.setIfInBounds_toArray,List.set_cons_zero,List.set_cons_succ]
         have L6:RInts (w3.drew.alloc (.cells #[.int .i64 0,.int .i64 2,.int .i64 3,.int .i64 5] 3)) (.slice (some ⟨w3.heap.size,0,none⟩) 4 4) [0,2,3,5]:=by have h:=lit_ints w3.drew [0,2,3,5] (by decide);(try simp only [World.size_alloc,World.size_drew] at h);exact h
         refine wpAnyD_ready (rs:=[3]) (by kernel_rfl) (by simp) ?_
         refine (AllReadyD.cons (o:=_) rfl (fun K hK=>?_) AllReadyD.nil)
         clear hHeld
         go_simp
         refine hK.out _ _ ?_ (fun hHeld=>?_)
         · exact fun _=>cell_keep (w':=((w3.drew.alloc (.cells #[.int .i64 0,.int .i64 2,.int .i64 3,.int .i64 5] 3)).alloc (.cells #[.int .i64 1,.int .i64 2,.int .i64 5] 3))) Bl (box0 D.boxA)
         clear hK K
         try simp only [Act.put,List.setIfInBounds_toArray,List.set_cons_zero,List.set_cons_succ]
         have L3:RInts ((w3.drew.alloc (.cells #[.int .i64 0,.int .i64 2,.int .i64 3,.int .i64 5] 3)).alloc (.cells #[.int .i64 1,.int .i64 2,.int .i64 5] 3)) (.slice (some ⟨w3.heap.size+1,0,none⟩) 3 3) [1,2,5]:=by have h:=lit_ints (w3.drew.alloc (.cells #[.int .i64 0,.int .i64 2,.int .i64 3,.int .i64 5] 3)) [1,2,5] (by decide);(try simp only [World.size_alloc,World.size_drew] at h);exact h
         refine wpAnyD_ready (rs:=[4]) (by kernel_rfl) (by simp) ?_
         refine (AllReadyD.cons (o:=_) rfl (fun K hK=>?_) AllReadyD.nil)
         clear hHeld
         go_simp
         (go_at_call 143;refine (num_any g (q+2+2 * l2.length+1) _ [1,2,5] _ (D.keep (w':=((w3.drew.alloc (.cells #[.int .i64 0,.int .i64 2,.int .i64 3,.int .i64 5] 3)).alloc (.cells #[.int .i64 1,.int .i64 2,.int .i64 5] 3))) Bl).rdr (L3.keep (w':=((w3.drew.alloc (.cells #[.int .i64 0,.int .i64 2,.int .i64 3,.int .i64 5] 3)).alloc (.cells #[.int .i64 1,.int .i64 2,.int .i64 5] 3))) Bl) (by omega) (by decide) (by decide) (fun k hk e=>by simp [Value.ownBlock] at hk;omega)).mono ?_;rintro e y1 ⟨x1,hx1,rfl,hr1,hf1⟩)
         have D1:=(D.keep (w':=((w3.drew.alloc (.cells #[.int .i64 0,.int .i64 2,.int .i64 3,.int .i64 5] 3)).alloc (.cells #[.int .i64 1,.int .i64 2,.int .i64 5] 3))) Bl).drawn hr1 hf1 hgl (by omega) (by omega)
         have hg1:=D1.rdr.lt
         replace L6:=RInts.kept (L6.keep (w':=((w3.drew.alloc (.cells #[.int .i64 0,.int .i64 2,.int .i64 3,.int .i64 5] 3)).alloc (.cells #[.int .i64 1,.int .i64 2,.int .i64 5] 3))) Bl) hf1 (fun k hk e=>by simp [Value.ownBlock] at hk;omega)
         clear hr1 hf1 L3
         go_wp2_with fail
         refine hK.out _ _ ?_ (fun hHeld=>?_)
         · exact fun _=>(box0 D1.boxA)
         clear hK K
         try simp only [Act.put,List.setIfInBounds_toArray,List.set_cons_zero,List.set_cons_succ]
         refine wpAnyD_ready (rs:=[7]) (by kernel_rfl) (by simp) ?_
         refine (AllReadyD.cons (o:=_) rfl (fun K hK=>?_) AllReadyD.nil)
         clear hHeld
         go_simp
         (go_at_call 143;refine (num_any g (q+2+2 * l2.length+1+1) _ [0,2,3,5] _ (D1.keep (w':=y1) Bl).rdr (L6.keep (w':=y1) Bl) (by omega) (by decide) (by decide) (fun k hk e=>by simp [Value.ownBlock] at hk;omega)).mono ?_;rintro e y2 ⟨x2,hx2,rfl,hr2,hf2⟩)
         have D2:=(D1.keep (w':=y1) Bl).drawn hr2 hf2 hgl (by omega) (by omega)
         have hg2:=D2.rdr.lt
         clear hr2 hf2 L6
         go_wp2_with fail
         refine hK.out _ _ ?_ (fun hHeld=>?_)
         · exact fun _=>(box0 D2.boxA)
         clear hK K
         try simp only [Act.put,List.setIfInBounds_toArray,List.set_cons_zero,List.set_cons_succ]
         refine wpAnyD_free (i:=8) (oi:=_) (v:=?_) rfl (by kernel_rfl) (by kernel_rfl) (by kernel_rfl) (by kernel_rfl) (fun _ _ _ h=>h) (Or.inl ⟨by rfl,?_⟩) hHeld (fun hHeld=>?_)
         rotate_left
         · (intro w _;first | (go_simp;done) | (go_simp;with_reducible rfl))
         try simp only [Act.put,List.setIfInBounds_toArray,List.set_cons_zero,List.set_cons_succ]
         refine wpAnyD_ready (rs:=[9]) (by kernel_rfl) (by simp) ?_
         refine (AllReadyD.cons (o:=_) rfl (fun K hK=>?_) AllReadyD.nil)
         clear hHeld
         go_simp
         refine hK.out _ _ ?_ (fun hHeld=>?_)
         · exact fun _=>cell_keep (below_alloc _ _) (box0 D2.boxA)
         clear hK K
         try simp only [Act.put,List.setIfInBounds_toArray,List.set_cons_zero,List.set_cons_succ]
         refine wpAnyD_ready (rs:=[10]) (by kernel_rfl) (by simp) ?_
         refine (AllReadyD.cons (o:=_) rfl (fun K hK=>?_) AllReadyD.nil)
         clear hHeld
         refine step_F (by rfl) (.tmp 39) (.tmp 47) _ (by rfl) ti_fact (by rfl) (D2.f.keep (below_alloc _ _)) (by rfl) (lit_fact _ _ _ _ _) (by have:=hll;simp <;> omega) (by have:=D2.fr.size;simp <;> omega) ?_
         intro v' y9 hfe hfr
         obtain ⟨a',n',c',rfl⟩:=hfe.forms
         have DZ:=(D2.keep (below_alloc _ _)).app1 hgl (by omega) (by omega) hfe hfr
         have hbz:=box_tf (D2.keep (below_alloc _ _)).boxA hfr (by decide)
         have hbz0:=box0 hbz
         have hbzz:=boxz hbz 0
         clear hbz
         refine hK.out _ _ ?_ (fun hHeld=>?_)
         · exact late_none (by kernel_rfl)
         clear hK K
         try simp only [Act.put,List.setIfInBounds_toArray,List.set_cons_zero,List.set_cons_succ]
         refine wpAnyD_free (i:=11) (oi:=_) (v:=?_) rfl (by kernel_rfl) (by kernel_rfl) (by kernel_rfl) (by kernel_rfl) (fun _ _ _ h=>h) (Or.inl ⟨by rfl,?_⟩) hHeld (fun hHeld=>?_)
         rotate_left
         · (intro w _;first | (go_simp;done) | (go_simp;with_reducible rfl))
         try simp only [Act.put,List.setIfInBounds_toArray,List.set_cons_zero,List.set_cons_succ]
         refine wpAnyD_ready (rs:=[12]) (by kernel_rfl) (by simp) ?_
         refine (AllReadyD.cons (o:=_) rfl (fun K hK=>?_) AllReadyD.nil)
         clear hHeld
         go_simp
         refine hK.out _ _ ?_ (fun hHeld=>?_)
         · exact late_none (by kernel_rfl)
         clear hK K
         try simp only [Act.put,List.setIfInBounds_toArray,List.set_cons_zero,List.set_cons_succ]
         refine wpAnyD_done (by kernel_rfl) ?_ _
         clear hHeld
         have hDZ:=Lib.hid DZ
         have hx1:0≤x1∧x1≤8:=by simp at hx1;omega
         have hx2:0≤x2∧x2≤8:=by simp at hx2;omega
         have HX:=Lib.hid (And.intro hx1 hx2)
         clear DZ D D1 D2 hfe hfr hbz0 hbzz hx1 hx2
         go_wp2
         go_meet
         case rel=>exact ⟨_,[(false,x1,x2)],⟨by have h1:=isTermB_iff.2 HX.out.1;have h2:=isTermB_iff.2 HX.out.2;simp [factB,h1,h2],by simp⟩,da_more2 hDZ.out (by omega)⟩
     · have kb0:((k:Int) == 0)=false:=by simp;omega
       have HD:=Lib.hid D4
       clear D4
       go_wp2_with fail
       go_meet
       case rel=>exact ⟨_,[],⟨rfl,by simp⟩,da_more2 HD.out (by omega)⟩
    case rest =>
     obtain ⟨v1,l1,hl1,D⟩:=hcut
     obtain ⟨e1,m1,rfl⟩:=D.f.form
     have ha0:=box0 D.boxR
     have ha1:=box1 D.boxR
     have haz:=boxz D.boxR
     have hal:=box_lt D.boxR
     have hb0:=box0 D.boxA
     have hb1:=box1 D.boxA
     have hblt:=box_lt D.boxA
     have HD:=Lib.hid (And.intro D hl1)
     clear D hl1 hc0 D4
     go_wp2
     have hD:=HD.out.1.done hgl (by omega) (.slice e1 l1.length m1) (.slice a2 l2.length c2)
     refine bodyPost_ret (v:=.agg #[.slice e1 l1.length m1,.slice a2 l2.length c2]) (by simp [results,Tryz.results248,go_sem,ha0,ha1]) rfl ?_
     have h12:=HD.out.2
     have h22:=HLE.out
     exact ⟨_,_,(l1,l2),rfl,by simp only [asnB,factsB,h12.1,HAL.out.1,decide_eq_true (show l1.length≤12 by omega),decide_eq_true (show l2.length≤6 by omega)];rfl,⟨h12.2,by omega⟩,hD.1.1,hD.1.2,hD.2.1,hD.2.2⟩
end Go.Proofs.YtkbbmjcfgcfejaaGreat
