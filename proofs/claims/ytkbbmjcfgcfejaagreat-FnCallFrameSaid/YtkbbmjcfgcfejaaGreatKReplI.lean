/- Walk: impl.replaceIn: a term of an assertion replaced, in a copy. -/
import Derived.Test.YtkbbmjcfgcfejaaGreatKFrm
import Derived.Test.YtkbbmjcfgcfejaaGreatKMut1
import Derived.Test.YtkbbmjcfgcfejaaGreatKList1
import Derived.Laws.StructEq
import Derived.Deep.Cut
import Derived.Deep.RegionLaw
import Derived.Handy
import Derived.BigQuiet
set_option linter.unusedVariables false
set_option linter.unusedSimpArgs false
namespace Go.Proofs.YtkbbmjcfgcfejaaGreat
open Go.RowKit
def fcl (l:List Fact):List Value:=(l.map fun x=>[Value.bool x.1,.int .i64 x.2.1,.int .i64 x.2.2]).flatten
theorem fcl_nth {l:List Fact} {i:Nat} (h:i < l.length):nth 3 (fcl l) i=[.bool (gd l i).1,.int .i64 (gd l i).2.1,.int .i64 (gd l i).2.2]:=by
 rw [fcl,nth_flat (by intro c hc;obtain ⟨x,_,rfl⟩:=List.mem_map.1 hc;rfl) (by simpa using h)]
 simp [gd,h]
theorem fcl_len (l:List Fact):(fcl l).length=l.length * 3:=by
 induction l with
 | nil=>rfl
 | cons x l ih=>show (fcl l).length+1+1+1=(l.length+1) * 3;rw [ih];omega
theorem fcl_of {l:List Fact} {xs:List Value} {w:World} {S:Nat→Prop} (hx:xs.length=l.length * 3) (h:∀ i,i < l.length→Dat.rd w S (gd l i) (nth 3 xs i)):xs=fcl l :=
 rows_eq hx (fcl_len l) fun i hi=>by
  rw [fcl_nth hi]
  obtain ⟨c1,c2,e,h1,c3,c4,e2,h3,h4⟩:=h i hi
  rw [e,e2,show c1=[.bool (gd l i).1] from h1,show c3=[.int .i64 (gd l i).2.1] from h3,show c4=[.int .i64 (gd l i).2.2] from h4];rfl
def FW (w:World) (B:Nat) (v:Value) (l:List Fact):Prop:=w.ownsRow B 61 3 v l.length (fcl l)
section
variable {w w':World} {B g n cap:Nat} {l:List Fact} {m:List Atom} {v:Value}
theorem FW.rl (h:FW w B v l):RL w (fun k=>B≤k) v l:=by
 refine (RowE.rl (α:=Fact) (S:=fun _=>False) (.inr h) fun i hi=>?_).more fun k _ hk=>?_
 · rw [show Dat.sz Fact=3 from rfl,fcl_nth hi]
   exact ⟨[.bool (gd l i).1],[.int .i64 (gd l i).2.1,.int .i64 (gd l i).2.2],rfl,rfl,⟨[.int .i64 (gd l i).2.1],[.int .i64 (gd l i).2.2],rfl,rfl,rfl⟩⟩
 · rcases hk with hk | hk
   · exact hk.elim
   · exact hk
theorem FW.keep (h:FW w B v l) (hb:Below w.heap.size w w'):FW w' B v l:=own_keep h hb
theorem FW.at (h:FW w B (.slice (some ⟨g,0,none⟩) n cap) l) (hn:n=l.length) {k:Nat} (hk:k < l.length) :
 (w.cell? ⟨g,k * 3,none⟩=some (.bool (gd l k).1)∧w.cell? ⟨g,k * 3+1,none⟩=some (.int .i64 (gd l k).2.1)∧w.cell? ⟨g,k * 3+2,none⟩=some (.int .i64 (gd l k).2.2))∧∀ i,w.frozen? ⟨g,i,none⟩=false:=by
 subst hn
 have h2:w.ownsRow B 61 3 (.slice (some ⟨g,0,none⟩) l.length cap) l.length (fcl l):=h
 have hx:=fcl_nth hk
 refine ⟨⟨?_,?_,?_⟩,h2.frozenAt⟩
 · rw [h2.cellAt (k * 3) (by omega)];exact nth_at (j:=0) (by rw [hx];rfl)
 · rw [h2.cellAt (k * 3+1) (by omega)];exact nth_at (j:=1) (by rw [hx];rfl)
 · rw [h2.cellAt (k * 3+2) (by omega)];exact nth_at (j:=2) (by rw [hx];rfl)
theorem FW.form (h:FW w B v l):∃ a cap,v=.slice a l.length cap∧∀ k,k < l.length→∃ g,a=some ⟨g,0,none⟩:=row_form h
theorem fcl_set12 {k:Nat} (hk:k < l.length) (a b:Int):((fcl l).set (k * 3+1) (.int .i64 a)).set (k * 3+2) (.int .i64 b)=fcl (l.set k ((gd l k).1,a,b)):=by
 refine rows_eq (n:=l.length) (by rw [List.length_set,List.length_set,fcl_len]) (by rw [fcl_len,List.length_set]) fun i hi=>?_
 have hi2:i < (l.set k ((gd l k).1,a,b)).length:=by rw [List.length_set];exact hi
 rw [nth_set (by omega),fcl_nth hi2]
 by_cases e:i=k
 · subst e;rw [if_pos rfl,nth_set (by omega),if_pos rfl,fcl_nth hi,gd_of hi2,List.getElem_set_self];rfl
 · rw [if_neg e,nth_set (by omega),if_neg e,fcl_nth hi,gd_of hi2,List.getElem_set_ne (Ne.symm e),← gd_of hi]
theorem acl_set12 {k:Nat} (hk:k < m.length) (a b:Int):((acl m).set (k * 3+1) (.int .i64 a)).set (k * 3+2) (.int .i64 b)=acl (m.set k ((gd m k).1,a,b)):=by
 refine rows_eq (n:=m.length) (by rw [List.length_set,List.length_set,acl_len]) (by rw [acl_len,List.length_set]) fun i hi=>?_
 have hi2:i < (m.set k ((gd m k).1,a,b)).length:=by rw [List.length_set];exact hi
 rw [nth_set (by omega),acl_nth hi2]
 by_cases e:i=k
 · subst e;rw [if_pos rfl,nth_set (by omega),if_pos rfl,acl_nth hi,gd_of hi2,List.getElem_set_self];rfl
 · rw [if_neg e,nth_set (by omega),if_neg e,acl_nth hi,gd_of hi2,List.getElem_set_ne (Ne.symm e),← gd_of hi]
theorem FW.set12 (h:FW w B (.slice (some ⟨g,0,none⟩) n cap) l) (hn:n=l.length) {k:Nat} (hk:k < l.length) (a b:Int) :
 FW ((w.setCell ⟨g,k * 3+1,none⟩ (.int .i64 a)).setCell ⟨g,k * 3+2,none⟩ (.int .i64 b)) B (.slice (some ⟨g,0,none⟩) n cap) (l.set k ((gd l k).1,a,b)):=by
 subst hn
 have t1:=((show w.ownsRow B 61 3 (.slice (some ⟨g,0,none⟩) l.length cap) l.length (fcl l) from h).stored (k * 3+1) (.int .i64 a)).1
 have t2:=(t1.stored (k * 3+2) (.int .i64 b)).1
 rw [fcl_set12 hk] at t2
 unfold FW;rw [List.length_set];exact t2
theorem AO.set12 (h:AO w B (.slice (some ⟨g,0,none⟩) n cap) m) (hn:n=m.length) {k:Nat} (hk:k < m.length) (a b:Int) :
 AO ((w.setCell ⟨g,k * 3+1,none⟩ (.int .i64 a)).setCell ⟨g,k * 3+2,none⟩ (.int .i64 b)) B (.slice (some ⟨g,0,none⟩) n cap) (m.set k ((gd m k).1,a,b)):=by
 subst hn
 have t1:=((show w.ownsRow B 118 3 (.slice (some ⟨g,0,none⟩) m.length cap) m.length (acl m) from h).stored (k * 3+1) (.int .i64 a)).1
 have t2:=(t1.stored (k * 3+2) (.int .i64 b)).1
 rw [acl_set12 hk] at t2
 unfold AO;rw [List.length_set];exact t2
theorem OL.FW {fp:List Nat} (h:OL w B v l fp):FW w B v l∧fp=v.ownBlock.toList:=by
 obtain ⟨xs,hr,hx⟩:=flat_parts h
 obtain rfl:xs=fcl l:=fcl_of hr.1 hx
 exact ⟨hr,flat_fp h⟩
theorem FW.set_other (h:FW w B v l) (p:Addr) (u:Value) (hp:∀ k,some k=v.ownBlock→¬ k=p.block):FW (w.setCell p u) B v l:=own_kept h (fr_set _ _ _) fun k hk e=>hp k hk e
theorem AO.set_other (h:AO w B v m) (p:Addr) (u:Value) (hp:∀ k,some k=v.ownBlock→¬ k=p.block):AO (w.setCell p u) B v m:=own_kept h (fr_set _ _ _) fun k hk e=>hp k hk e
end
theorem fr_twoR (w:World) (R:Nat) (x y:Value):Fr (fun k=>k=R) w ((w.setCell ⟨R,0,none⟩ x).setCell ⟨R,1,none⟩ y):=(fr_set w ⟨R,0,none⟩ x).trans (fr_set _ ⟨R,1,none⟩ y)
theorem cell_set_far {w:World} {p r:Addr} {u c:Value} (h:w.cell? p=some c) (hne:¬ p.block=r.block):(w.setCell r u).cell? p=some c :=
 (World.cell?_setCell_other _ _ _ _ fun e=>hne (by rw [← e])).trans h
set_option linter.unusedSectionVars false
def mapK {α:Type} (f:α→α) (l:List α) (k:Nat):List α:=(l.take k).map f ++ l.drop k
section
variable {α:Type} [Inhabited α] {f:α→α} {l:List α} {k:Nat}
theorem mapK_len (h:k≤l.length):(mapK f l k).length=l.length:=by rw [mapK,List.length_append,List.length_map,List.length_take,List.length_drop];omega
theorem mapK_gd (h:k < l.length):gd (mapK f l k) k=gd l k:=by
 rw [gd_of (by rw [mapK_len (by omega)];exact h),gd_of h]
 simp only [mapK]
 rw [List.getElem_append_right (by simp;omega)]
 simp [Nat.min_eq_left (Nat.le_of_lt h)]
theorem mapK_set (h:k < l.length):(mapK f l k).set k (f (gd l k))=mapK f l (k+1):=by
 have hlen:(List.map f (l.take k)).length=k:=by simp;omega
 rw [mapK,mapK,List.set_append,if_neg (by omega),hlen,Nat.sub_self,take_gd h,List.map_append,List.append_assoc]
 congr 1
 rw [List.drop_eq_getElem_cons h];rfl
theorem mapK_all:mapK f l l.length=l.map f:=by rw [mapK,List.take_length,List.drop_length,List.append_nil]
theorem mapK_zero:mapK f l 0=l:=by rw [mapK,List.take_zero,List.map_nil,List.drop_zero,List.nil_append]
end
set_option maxRecDepth 100000 in
set_option maxHeartbeats 6400000 in
theorem replaceIn_any {S1 S2:Nat→Prop} (v1 v2:Value) (a:Asn) (x t:Int) (w:World) (h1:RL w S1 v1 a.1) (h2:RL w S2 v2 a.2) (hl1:(a.1.length:Int)≤12) (hl2:(a.2.length:Int)≤8) :
 Calls Tryz.prog 151 #[.agg #[v1,v2],.int .i64 x,.int .i64 t] w fun e w'=>∃ x1 x2,e=.returned (.agg #[x1,x2])∧(RL w' (fun k=>w.heap.size≤k) x1 (subB a x t).1∧RL w' (fun k=>w.heap.size≤k) x2 (subB a x t).2)∧Below w.heap.size w w':=by
 obtain ⟨a1,a2⟩:=a
 simp only at h1 h2 hl1 hl2
 obtain ⟨p1,c1,rfl⟩:=h1.form
 obtain ⟨p2,c2,rfl⟩:=h2.form
 have hbA:=box_keep (heap_alloc_new w (.cells #[.slice p1 a1.length c1,.slice p2 a2.length c2] 26)) (below_alloc _ (.cells #[.slice none 0 0,.slice none 0 0] 26))
 have hbR:=heap_alloc_new (w.alloc (.cells #[.slice p1 a1.length c1,.slice p2 a2.length c2] 26)) (.cells #[.slice none 0 0,.slice none 0 0] 26)
 rw [World.size_alloc] at hbR
 have hB0:Below w.heap.size w ((w.alloc (.cells #[.slice p1 a1.length c1,.slice p2 a2.length c2] 26)).alloc (.cells #[.slice none 0 0,.slice none 0 0] 26)):=Bl
 have H1:=Lib.hid (And.intro (And.intro hbA hbR) hB0)
 have HH:=Lib.hid (And.intro h1 h2)
 clear hbA hbR hB0 h1 h2
 go_enter Tryz.func151,Tryz.ntmps151
 go_wp2_with fail
 refine (copyAssertion_any _ _ (a1,a2) _ (HH.out.1.keep Bl) (HH.out.2.keep Bl) (by simp only;omega) (by simp only;omega)).mono ?_
 rintro e w2 ⟨x1,x2,rfl,⟨f1,f2,o1,o2,hn⟩,hb⟩
 obtain ⟨ao,hf2⟩:=o2.AO
 obtain ⟨fo,hf1⟩:=o1.FW
 obtain ⟨xa,xc,rfl,hxa⟩:=fo.form
 obtain ⟨ya,yc,rfl,hya⟩:=ao.form
 simp only at hxa hya
 have hlo:w.heap.size+2≤w2.heap.size:=by have:=hb.size;simp at this;omega
 have hxg:∀ g,some g=(Value.slice xa a1.length xc).ownBlock→w.heap.size+2≤g∧g < w2.heap.size:=fun g hg=>by
  have:=own_lt fo hg;simp only [World.size_alloc] at this;omega
 have hyg:∀ g,some g=(Value.slice ya a2.length yc).ownBlock→w.heap.size+2≤g∧g < w2.heap.size:=fun g hg=>by
  have:=own_lt ao hg;simp only [World.size_alloc] at this;omega
 have hxy:∀ g k,some g=(Value.slice xa a1.length xc).ownBlock→some k=(Value.slice ya a2.length yc).ownBlock→¬ g=k:=fun g k hg hk e=>by
  rw [hf1,hf2] at hn
  exact (List.nodup_append.1 hn).2.2 g (mem_ownBlock.2 hg) k (mem_ownBlock.2 hk) e
 have HG:=Lib.hid (And.intro (And.intro hxa hya) (And.intro hxg (And.intro hyg hxy)))
 have hb2:Below w2.heap.size w2 (w2.alloc (.cells #[.slice xa a1.length xc,.slice ya a2.length yc] 26)):=below_alloc _ _
 have H2:=Lib.hid (And.intro (And.intro (heap_alloc_new w2 (.cells #[.slice xa a1.length xc,.slice ya a2.length yc] 26)) (box_keep (box_keep H1.out.1.2 hb) hb2)) (And.intro (And.intro (fo.keep hb2) (ao.keep hb2)) (bt (bt H1.out.2 hb) hb2)))
 have HLO:=Lib.hid hlo
 clear hxa hya hxg hyg hxy hf1 hf2 hn o1 o2 fo ao hb hb2 H1 HH
 go_wp2
 go_loopg [17] a1.length (fun q i wr=>∃ k:Nat,k+q=a1.length∧i=.int .i64 k∧(wr.heap[w2.heap.size]?=some (.cells #[.slice xa a1.length xc,.slice ya a2.length yc] 26 (0,0))∧wr.heap[w.heap.size+1]?=some (.cells #[.slice none 0 0,.slice none 0 0] 26 (0,0)))∧(FW wr (w.heap.size+2) (.slice xa a1.length xc) (mapK (sbF x t) a1 k)∧AO wr (w.heap.size+2) (.slice ya a2.length yc) a2)∧Below w.heap.size w wr)
 case atStart=>exact ⟨0,by omega,rfl,H2.out.1,by rw [mapK_zero];have:=H2.out.2.1;simp at this;exact this,H2.out.2.2⟩
 case round =>
  clear H2
  obtain ⟨k,hk,rfl,hBB,hFA,hW⟩:=hrel
  have HK:=Lib.hid hk
  have HR:=Lib.hid (And.intro hBB (And.intro hFA hW))
  clear hk hBB hFA hW
  by_cases hk8:k < a1.length
  · have hki:(k:Int) < (a1.length:Int):=by omega
    obtain ⟨g,rfl⟩:=HG.out.1.1 k hk8
    have hg:=HG.out.2.1 g rfl
    have hgy:∀ j,some j=(Value.slice ya a2.length yc).ownBlock→¬ j=g:=fun j hj e=>HG.out.2.2.2 g j rfl hj e.symm
    have hml:=mapK_len (f:=sbF x t) (Nat.le_of_lt hk8)
    have hmg:=mapK_gd (f:=sbF x t) hk8
    have hms:=mapK_set (f:=sbF x t) hk8
    obtain ⟨⟨q0,q1,q2⟩,hfz⟩:=HR.out.2.1.1.at hml.symm (k:=k) (by omega)
    have hst:=fun c d=>HR.out.2.1.1.set12 hml.symm (k:=k) (by omega) c d
    rw [hmg] at q0 q1 q2
    obtain ⟨X,hX⟩:∃ X,gd a1 k=X:=⟨_,rfl⟩
    obtain ⟨X1,X2,X3⟩:=X
    rw [hX] at q0 q1 q2 hms
    simp only [sbF] at q0 q1 q2 hms
    have hzg:g < wr.heap.size:=World.block_lt_of_cell? wr _ q0
    have hb0:=box0 HR.out.1.1
    have hbl:=box_lt HR.out.1.1
    have HM:=Lib.hid (And.intro hmg (And.intro hms hX))
    have HFZ:=Lib.hid hfz
    clear hml hmg hms hX hst hfz
    go_upto_region 5 with fail
    have hwo:Below wr.heap.size wr (wr.alloc (.cells #[.bool X1,.int .i64 X2,.int .i64 X3] 61)):=below_alloc _ _
    have hF:=heap_alloc_new wr (.cells #[.bool X1,.int .i64 X2,.int .i64 X3] 61)
    generalize wr.alloc (.cells #[.bool X1,.int .i64 X2,.int .i64 X3] 61)=we at hwo hF ⊢
    have HE:=Lib.hid (And.intro (And.intro (box_keep HR.out.1.1 hwo) (box_keep HR.out.1.2 hwo)) (And.intro (And.intro (HR.out.2.1.1.keep hwo) (HR.out.2.1.2.keep hwo)) (bt HR.out.2.2 hwo)))
    obtain ⟨⟨e0,e1,e2⟩,hfz⟩:=HE.out.2.1.1.at (mapK_len (f:=sbF x t) (Nat.le_of_lt hk8)).symm (k:=k) (by rw [mapK_len (Nat.le_of_lt hk8)];exact hk8)
    have z1:=hfz (k * 3+1)
    have z2:=hfz (k * 3+2)
    have hwz:=hwo.size
    have hbg:¬ wr.heap.size=g:=by omega
    have hbg2:¬ w2.heap.size=g:=by omega
    clear q0 q1 q2 hb0 hbl hwo hfz e0
    rw [HM.out.1,HM.out.2.2] at e1 e2
    simp only at e1 e2
    generalize wr.heap.size=bF at hF hbg hwz ⊢
    have gz:=box_lt hF
    have ge:=box_lt HE.out.1.1
    have HF:=Lib.hid (And.intro (And.intro hbg hbg2) hF)
    have HS:=Lib.hid (And.intro (cell_keep (below_drew we) (box0 HE.out.1.1)) (cell_keep (below_drew we) (c31 hF)))
    clear hF hbg hbg2
    refine wp_region_late (S:=(fun w'=>w'.cell? ⟨w2.heap.size,0,none⟩=some (.slice (some ⟨g,0,none⟩) a1.length xc)∧w'.cell? ⟨bF,1,none⟩=some (.int .i64 X2))) (dep:=[10]) (by kernel_rfl) HS.out (fun hHeld=>?_)
    refine wpAnyD_free (i:=0) (oi:=_) (v:=?_) rfl (by kernel_rfl) (by kernel_rfl) (by kernel_rfl) (by kernel_rfl) (fun _ _ _ h=>h) (Or.inl ⟨by rfl,?_⟩) hHeld (fun hHeld=>?_)
    rotate_left
    · (intro w _;first | (go_simp;done) | (go_simp;with_reducible rfl))
    try simp only [Act.put,List.setIfInBounds_toArray,List.set_cons_zero,List.set_cons_succ]
    refine wpAnyD_free (i:=2) (oi:=_) (v:=?_) rfl (by kernel_rfl) (by kernel_rfl) (by kernel_rfl) (by kernel_rfl) (fun _ _ _ h=>h) (Or.inl ⟨by rfl,?_⟩) hHeld (fun hHeld=>?_)
    rotate_left
    · (intro w _;first | (go_simp;done) | (go_simp;with_reducible rfl))
    try simp only [Act.put,List.setIfInBounds_toArray,List.set_cons_zero,List.set_cons_succ]
    refine wpAnyD_free (i:=3) (oi:=_) (v:=?_) rfl (by kernel_rfl) (by kernel_rfl) (by kernel_rfl) (by kernel_rfl) (fun _ _ _ h=>h) (Or.inl ⟨by rfl,?_⟩) hHeld (fun hHeld=>?_)
    rotate_left
    · (intro w _;first | (go_simp;done) | (go_simp;with_reducible rfl))
    try simp only [Act.put,List.setIfInBounds_toArray,List.set_cons_zero,List.set_cons_succ]
    refine wpAnyD_free (i:=5) (oi:=_) (v:=?_) rfl (by kernel_rfl) (by kernel_rfl) (by kernel_rfl) (by kernel_rfl) (fun _ _ _ h=>h) (Or.inl ⟨by rfl,?_⟩) hHeld (fun hHeld=>?_)
    rotate_left
    · (intro w _;first | (go_simp;done) | (go_simp;with_reducible rfl))
    try simp only [Act.put,List.setIfInBounds_toArray,List.set_cons_zero,List.set_cons_succ]
    refine wpAnyD_free (i:=6) (oi:=_) (v:=?_) rfl (by kernel_rfl) (by kernel_rfl) (by kernel_rfl) (by kernel_rfl) (fun _ _ _ h=>h) (Or.inl ⟨by rfl,?_⟩) hHeld (fun hHeld=>?_)
    rotate_left
    · (intro w _;first | (go_simp;done) | (go_simp;with_reducible rfl))
    try simp only [Act.put,List.setIfInBounds_toArray,List.set_cons_zero,List.set_cons_succ]
    refine wpAnyD_take (i:=1) (oi:=_) (v:=?_) rfl (by kernel_rfl) (by kernel_rfl) (by kernel_rfl) (by kernel_rfl) (by kernel_rfl) (fun _ _ _ h=>h) (Or.inl ⟨by rfl,?_⟩) (hHeld (early_of (by kernel_rfl))) ?_
    rotate_left
    · (intro w hSw;obtain ⟨hS0,hS1⟩:=hSw;first | (go_simp;done) | (go_simp;with_reducible rfl))
    try simp only [Act.put,List.setIfInBounds_toArray,List.set_cons_zero,List.set_cons_succ]
    replace hHeld:=fun (he:Early _ _)=>hHeld (Early.of_set (i:=1) he (by decide))
    refine wpAnyD_take (i:=4) (oi:=_) (v:=?_) rfl (by kernel_rfl) (by kernel_rfl) (by kernel_rfl) (by kernel_rfl) (by kernel_rfl) (fun _ _ _ h=>h) (Or.inl ⟨by rfl,?_⟩) (hHeld (early_of (by kernel_rfl))) ?_
    rotate_left
    · (intro w hSw;obtain ⟨hS0,hS1⟩:=hSw;first | (go_simp;done) | (go_simp;with_reducible rfl))
    try simp only [Act.put,List.setIfInBounds_toArray,List.set_cons_zero,List.set_cons_succ]
    replace hHeld:=fun (he:Early _ _)=>hHeld (Early.of_set (i:=4) he (by decide))
    refine wpAnyD_ready (rs:=[7]) (by kernel_rfl) (by simp) ?_
    refine (AllReadyD.cons (o:=_) rfl (fun K hK=>?_) AllReadyD.nil)
    clear hHeld
    go_simp
    (go_at_call 212;refine (replaceTerm_any _ _ _ _).mono ?_;rintro e y1 ⟨rfl,rfl⟩)
    go_wp2_with fail
    refine hK.out _ _ ?_ (fun hHeld=>?_)
    · exact fun _=>HS.out
    clear hK K
    try simp only [Act.put,List.setIfInBounds_toArray,List.set_cons_zero,List.set_cons_succ]
    refine wpAnyD_free (i:=8) (oi:=_) (v:=?_) rfl (by kernel_rfl) (by kernel_rfl) (by kernel_rfl) (by kernel_rfl) (fun _ _ _ h=>h) (Or.inl ⟨by rfl,?_⟩) hHeld (fun hHeld=>?_)
    rotate_left
    · (intro w _;first | (go_simp;done) | (go_simp;with_reducible rfl))
    try simp only [Act.put,List.setIfInBounds_toArray,List.set_cons_zero,List.set_cons_succ]
    refine wpAnyD_free (i:=9) (oi:=_) (v:=?_) rfl (by kernel_rfl) (by kernel_rfl) (by kernel_rfl) (by kernel_rfl) (fun _ _ _ h=>h) (Or.inl ⟨by rfl,?_⟩) hHeld (fun hHeld=>?_)
    rotate_left
    · (intro w _;first | (go_simp;done) | (go_simp;with_reducible rfl))
    try simp only [Act.put,List.setIfInBounds_toArray,List.set_cons_zero,List.set_cons_succ]
    refine wpAnyD_ready (rs:=[10]) (by kernel_rfl) (by simp) ?_
    refine (AllReadyD.cons (o:=_) rfl (fun K hK=>?_) AllReadyD.nil)
    clear hHeld
    go_simp
    refine hK.out _ _ ?_ (fun hHeld=>?_)
    · exact late_none (by kernel_rfl)
    clear hK K
    try simp only [Act.put,List.setIfInBounds_toArray,List.set_cons_zero,List.set_cons_succ]
    refine wpAnyD_done (by kernel_rfl) ?_ _
    clear hHeld
    clear HS
    have HS:=Lib.hid (And.intro (cell_keep (below_drew _) (cell_keep (below_drew _) (cell_set_far (r:=⟨g,k * 3+1,none⟩) (u:=.int .i64 (swT x t X2)) (box0 HE.out.1.1) HF.out.1.2))) (cell_keep (below_drew _) (cell_keep (below_drew _) (cell_set_far (r:=⟨g,k * 3+1,none⟩) (u:=.int .i64 (swT x t X2)) (c32 HF.out.2) HF.out.1.1))))
    go_upto_region 6 with fail
    refine wp_region_late (S:=(fun w'=>w'.cell? ⟨w2.heap.size,0,none⟩=some (.slice (some ⟨g,0,none⟩) a1.length xc)∧w'.cell? ⟨bF,2,none⟩=some (.int .i64 X3))) (dep:=[10]) (by kernel_rfl) HS.out (fun hHeld=>?_)
    refine wpAnyD_free (i:=0) (oi:=_) (v:=?_) rfl (by kernel_rfl) (by kernel_rfl) (by kernel_rfl) (by kernel_rfl) (fun _ _ _ h=>h) (Or.inl ⟨by rfl,?_⟩) hHeld (fun hHeld=>?_)
    rotate_left
    · (intro w _;first | (go_simp;done) | (go_simp;with_reducible rfl))
    try simp only [Act.put,List.setIfInBounds_toArray,List.set_cons_zero,List.set_cons_succ]
    refine wpAnyD_free (i:=2) (oi:=_) (v:=?_) rfl (by kernel_rfl) (by kernel_rfl) (by kernel_rfl) (by kernel_rfl) (fun _ _ _ h=>h) (Or.inl ⟨by rfl,?_⟩) hHeld (fun hHeld=>?_)
    rotate_left
    · (intro w _;first | (go_simp;done) | (go_simp;with_reducible rfl))
    try simp only [Act.put,List.setIfInBounds_toArray,List.set_cons_zero,List.set_cons_succ]
    refine wpAnyD_free (i:=3) (oi:=_) (v:=?_) rfl (by kernel_rfl) (by kernel_rfl) (by kernel_rfl) (by kernel_rfl) (fun _ _ _ h=>h) (Or.inl ⟨by rfl,?_⟩) hHeld (fun hHeld=>?_)
    rotate_left
    · (intro w _;first | (go_simp;done) | (go_simp;with_reducible rfl))
    try simp only [Act.put,List.setIfInBounds_toArray,List.set_cons_zero,List.set_cons_succ]
    refine wpAnyD_free (i:=5) (oi:=_) (v:=?_) rfl (by kernel_rfl) (by kernel_rfl) (by kernel_rfl) (by kernel_rfl) (fun _ _ _ h=>h) (Or.inl ⟨by rfl,?_⟩) hHeld (fun hHeld=>?_)
    rotate_left
    · (intro w _;first | (go_simp;done) | (go_simp;with_reducible rfl))
    try simp only [Act.put,List.setIfInBounds_toArray,List.set_cons_zero,List.set_cons_succ]
    refine wpAnyD_free (i:=6) (oi:=_) (v:=?_) rfl (by kernel_rfl) (by kernel_rfl) (by kernel_rfl) (by kernel_rfl) (fun _ _ _ h=>h) (Or.inl ⟨by rfl,?_⟩) hHeld (fun hHeld=>?_)
    rotate_left
    · (intro w _;first | (go_simp;done) | (go_simp;with_reducible rfl))
    try simp only [Act.put,List.setIfInBounds_toArray,List.set_cons_zero,List.set_cons_succ]
    refine wpAnyD_take (i:=1) (oi:=_) (v:=?_) rfl (by kernel_rfl) (by kernel_rfl) (by kernel_rfl) (by kernel_rfl) (by kernel_rfl) (fun _ _ _ h=>h) (Or.inl ⟨by rfl,?_⟩) (hHeld (early_of (by kernel_rfl))) ?_
    rotate_left
    · (intro w hSw;obtain ⟨hS0,hS1⟩:=hSw;first | (go_simp;done) | (go_simp;with_reducible rfl))
    try simp only [Act.put,List.setIfInBounds_toArray,List.set_cons_zero,List.set_cons_succ]
    replace hHeld:=fun (he:Early _ _)=>hHeld (Early.of_set (i:=1) he (by decide))
    refine wpAnyD_take (i:=4) (oi:=_) (v:=?_) rfl (by kernel_rfl) (by kernel_rfl) (by kernel_rfl) (by kernel_rfl) (by kernel_rfl) (fun _ _ _ h=>h) (Or.inl ⟨by rfl,?_⟩) (hHeld (early_of (by kernel_rfl))) ?_
    rotate_left
    · (intro w hSw;obtain ⟨hS0,hS1⟩:=hSw;first | (go_simp;done) | (go_simp;with_reducible rfl))
    try simp only [Act.put,List.setIfInBounds_toArray,List.set_cons_zero,List.set_cons_succ]
    replace hHeld:=fun (he:Early _ _)=>hHeld (Early.of_set (i:=4) he (by decide))
    refine wpAnyD_ready (rs:=[7]) (by kernel_rfl) (by simp) ?_
    refine (AllReadyD.cons (o:=_) rfl (fun K hK=>?_) AllReadyD.nil)
    clear hHeld
    go_simp
    (go_at_call 212;refine (replaceTerm_any _ _ _ _).mono ?_;rintro e y1 ⟨rfl,rfl⟩)
    go_wp2_with fail
    refine hK.out _ _ ?_ (fun hHeld=>?_)
    · exact fun _=>HS.out
    clear hK K
    try simp only [Act.put,List.setIfInBounds_toArray,List.set_cons_zero,List.set_cons_succ]
    refine wpAnyD_free (i:=8) (oi:=_) (v:=?_) rfl (by kernel_rfl) (by kernel_rfl) (by kernel_rfl) (by kernel_rfl) (fun _ _ _ h=>h) (Or.inl ⟨by rfl,?_⟩) hHeld (fun hHeld=>?_)
    rotate_left
    · (intro w _;first | (go_simp;done) | (go_simp;with_reducible rfl))
    try simp only [Act.put,List.setIfInBounds_toArray,List.set_cons_zero,List.set_cons_succ]
    refine wpAnyD_free (i:=9) (oi:=_) (v:=?_) rfl (by kernel_rfl) (by kernel_rfl) (by kernel_rfl) (by kernel_rfl) (fun _ _ _ h=>h) (Or.inl ⟨by rfl,?_⟩) hHeld (fun hHeld=>?_)
    rotate_left
    · (intro w _;first | (go_simp;done) | (go_simp;with_reducible rfl))
    try simp only [Act.put,List.setIfInBounds_toArray,List.set_cons_zero,List.set_cons_succ]
    refine wpAnyD_ready (rs:=[10]) (by kernel_rfl) (by simp) ?_
    refine (AllReadyD.cons (o:=_) rfl (fun K hK=>?_) AllReadyD.nil)
    clear hHeld
    go_simp
    refine hK.out _ _ ?_ (fun hHeld=>?_)
    · exact late_none (by kernel_rfl)
    clear hK K
    try simp only [Act.put,List.setIfInBounds_toArray,List.set_cons_zero,List.set_cons_succ]
    refine wpAnyD_done (by kernel_rfl) ?_ _
    clear hHeld
    clear HS
    have hst:=HE.out.2.1.1.set12 (mapK_len (f:=sbF x t) (Nat.le_of_lt hk8)).symm (k:=k) (by rw [mapK_len (Nat.le_of_lt hk8)];exact hk8) (swT x t X2) (swT x t X3)
    rw [HM.out.1,HM.out.2.2] at hst
    rw [HM.out.2.1] at hst
    have hA9:=box_other (box_other HE.out.1.1 ⟨g,k * 3+1,none⟩ (.int .i64 (swT x t X2)) HF.out.1.2) ⟨g,k * 3+2,none⟩ (.int .i64 (swT x t X3)) HF.out.1.2
    have hR9:=box_other (box_other HE.out.1.2 ⟨g,k * 3+1,none⟩ (.int .i64 (swT x t X2)) (by show ¬ w.heap.size+1=g;omega)) ⟨g,k * 3+2,none⟩ (.int .i64 (swT x t X3)) (by show ¬ w.heap.size+1=g;omega)
    have hY9:=(HE.out.2.1.2.set_other ⟨g,k * 3+1,none⟩ (.int .i64 (swT x t X2)) hgy).set_other ⟨g,k * 3+2,none⟩ (.int .i64 (swT x t X3)) hgy
    have hW9:=(HE.out.2.2.setCell (p:=⟨g,k * 3+1,none⟩) (by show w.heap.size≤g;omega) (.int .i64 (swT x t X2))).setCell (p:=⟨g,k * 3+2,none⟩) (by show w.heap.size≤g;omega) (.int .i64 (swT x t X3))
    have H9:=Lib.hid (And.intro (And.intro hA9 hR9) (And.intro (And.intro hst hY9) hW9))
    clear hst hA9 hR9 hY9 hW9
    go_wp2
    go_roundg (gk - 1)
    case rel=>exact ⟨k+1,by have:=HK.out;omega,by go_num,⟨H9.out.1.1,H9.out.1.2⟩,⟨H9.out.2.1.1.keep Bl,H9.out.2.1.2.keep Bl⟩,bt H9.out.2.2 Bl⟩
    case measure=>have:=HK.out;omega
  · obtain rfl:k=a1.length:=by have:=HK.out;omega
    rw [mapK_all] at HR
    have b0:=box0 HR.out.1.1
    have b1:=box1 HR.out.1.1
    have bl:=box_lt HR.out.1.1
    obtain ⟨wm,rfl⟩:∃ wm:World,wm=wr:=⟨_,rfl⟩
    go_wp2
    clear b0 b1 bl
    go_loopg [46] a2.length (fun q i wr=>∃ n:Nat,n+q=a2.length∧i=.int .i64 n∧(wr.heap[w2.heap.size]?=some (.cells #[.slice xa a1.length xc,.slice ya a2.length yc] 26 (0,0))∧wr.heap[w.heap.size+1]?=some (.cells #[.slice none 0 0,.slice none 0 0] 26 (0,0)))∧(FW wr (w.heap.size+2) (.slice xa a1.length xc) (a1.map (sbF x t))∧AO wr (w.heap.size+2) (.slice ya a2.length yc) (mapK (sbA x t) a2 n))∧Below w.heap.size w wr)
    case atStart=>exact ⟨0,by omega,rfl,HR.out.1,by rw [mapK_zero];exact HR.out.2.1,HR.out.2.2⟩
    case round =>
     clear HR
     obtain ⟨n,hk,rfl,hBB,hFA,hW⟩:=hrel
     have HN:=Lib.hid hk
     have HR:=Lib.hid (And.intro hBB (And.intro hFA hW))
     clear hk hBB hFA hW
     by_cases hn8:n < a2.length
     · have hni:(n:Int) < (a2.length:Int):=by omega
       obtain ⟨g,rfl⟩:=HG.out.1.2 n hn8
       have hg:=HG.out.2.2.1 g rfl
       have hgy:∀ j,some j=(Value.slice xa a1.length xc).ownBlock→¬ j=g:=fun j hj e=>HG.out.2.2.2 j g hj rfl e
       have hml:=mapK_len (f:=sbA x t) (Nat.le_of_lt hn8)
       have hmg:=mapK_gd (f:=sbA x t) hn8
       have hms:=mapK_set (f:=sbA x t) hn8
       obtain ⟨⟨q0,q1,q2⟩,hfz⟩:=HR.out.2.1.2.at hml.symm (k:=n) (by omega)
       rw [hmg] at q0 q1 q2
       obtain ⟨X,hX⟩:∃ X,gd a2 n=X:=⟨_,rfl⟩
       obtain ⟨X1,X2,X3⟩:=X
       rw [hX] at q0 q1 q2 hms
       simp only [sbA] at q0 q1 q2 hms
       have hzg:g < wr.heap.size:=World.block_lt_of_cell? wr _ q0
       have hb1:=box1 HR.out.1.1
       have hbl:=box_lt HR.out.1.1
       have HM:=Lib.hid (And.intro hmg (And.intro hms hX))
       clear hml hmg hms hX hfz
       go_upto_region 11 with fail
       have hwo:Below wr.heap.size wr (wr.alloc (.cells #[.int .i64 X1,.int .i64 X2,.int .i64 X3] 118)):=below_alloc _ _
       have hF:=heap_alloc_new wr (.cells #[.int .i64 X1,.int .i64 X2,.int .i64 X3] 118)
       generalize wr.alloc (.cells #[.int .i64 X1,.int .i64 X2,.int .i64 X3] 118)=we at hwo hF ⊢
       have HE:=Lib.hid (And.intro (And.intro (box_keep HR.out.1.1 hwo) (box_keep HR.out.1.2 hwo)) (And.intro (And.intro (HR.out.2.1.1.keep hwo) (HR.out.2.1.2.keep hwo)) (bt HR.out.2.2 hwo)))
       obtain ⟨⟨e0,e1,e2⟩,hfz⟩:=HE.out.2.1.2.at (mapK_len (f:=sbA x t) (Nat.le_of_lt hn8)).symm (k:=n) (by rw [mapK_len (Nat.le_of_lt hn8)];exact hn8)
       have z1:=hfz (n * 3+1)
       have z2:=hfz (n * 3+2)
       have hwz:=hwo.size
       have hbg:¬ wr.heap.size=g:=by omega
       have hbg2:¬ w2.heap.size=g:=by omega
       clear q0 q1 q2 hb1 hbl hwo hfz e0
       rw [HM.out.1,HM.out.2.2] at e1 e2
       simp only at e1 e2
       generalize wr.heap.size=bF at hF hbg hwz ⊢
       have gz:=box_lt hF
       have ge:=box_lt HE.out.1.1
       have HF:=Lib.hid (And.intro (And.intro hbg hbg2) hF)
       have HS:=Lib.hid (And.intro (cell_keep (below_drew we) (box1 HE.out.1.1)) (cell_keep (below_drew we) (c31 hF)))
       clear hF hbg hbg2
       refine wp_region_late (S:=(fun w'=>w'.cell? ⟨w2.heap.size,1,none⟩=some (.slice (some ⟨g,0,none⟩) a2.length yc)∧w'.cell? ⟨bF,1,none⟩=some (.int .i64 X2))) (dep:=[10]) (by kernel_rfl) HS.out (fun hHeld=>?_)
       refine wpAnyD_free (i:=0) (oi:=_) (v:=?_) rfl (by kernel_rfl) (by kernel_rfl) (by kernel_rfl) (by kernel_rfl) (fun _ _ _ h=>h) (Or.inl ⟨by rfl,?_⟩) hHeld (fun hHeld=>?_)
       rotate_left
       · (intro w _;first | (go_simp;done) | (go_simp;with_reducible rfl))
       try simp only [Act.put,List.setIfInBounds_toArray,List.set_cons_zero,List.set_cons_succ]
       refine wpAnyD_free (i:=2) (oi:=_) (v:=?_) rfl (by kernel_rfl) (by kernel_rfl) (by kernel_rfl) (by kernel_rfl) (fun _ _ _ h=>h) (Or.inl ⟨by rfl,?_⟩) hHeld (fun hHeld=>?_)
       rotate_left
       · (intro w _;first | (go_simp;done) | (go_simp;with_reducible rfl))
       try simp only [Act.put,List.setIfInBounds_toArray,List.set_cons_zero,List.set_cons_succ]
       refine wpAnyD_free (i:=3) (oi:=_) (v:=?_) rfl (by kernel_rfl) (by kernel_rfl) (by kernel_rfl) (by kernel_rfl) (fun _ _ _ h=>h) (Or.inl ⟨by rfl,?_⟩) hHeld (fun hHeld=>?_)
       rotate_left
       · (intro w _;first | (go_simp;done) | (go_simp;with_reducible rfl))
       try simp only [Act.put,List.setIfInBounds_toArray,List.set_cons_zero,List.set_cons_succ]
       refine wpAnyD_free (i:=5) (oi:=_) (v:=?_) rfl (by kernel_rfl) (by kernel_rfl) (by kernel_rfl) (by kernel_rfl) (fun _ _ _ h=>h) (Or.inl ⟨by rfl,?_⟩) hHeld (fun hHeld=>?_)
       rotate_left
       · (intro w _;first | (go_simp;done) | (go_simp;with_reducible rfl))
       try simp only [Act.put,List.setIfInBounds_toArray,List.set_cons_zero,List.set_cons_succ]
       refine wpAnyD_free (i:=6) (oi:=_) (v:=?_) rfl (by kernel_rfl) (by kernel_rfl) (by kernel_rfl) (by kernel_rfl) (fun _ _ _ h=>h) (Or.inl ⟨by rfl,?_⟩) hHeld (fun hHeld=>?_)
       rotate_left
       · (intro w _;first | (go_simp;done) | (go_simp;with_reducible rfl))
       try simp only [Act.put,List.setIfInBounds_toArray,List.set_cons_zero,List.set_cons_succ]
       refine wpAnyD_take (i:=1) (oi:=_) (v:=?_) rfl (by kernel_rfl) (by kernel_rfl) (by kernel_rfl) (by kernel_rfl) (by kernel_rfl) (fun _ _ _ h=>h) (Or.inl ⟨by rfl,?_⟩) (hHeld (early_of (by kernel_rfl))) ?_
       rotate_left
       · (intro w hSw;obtain ⟨hS0,hS1⟩:=hSw;first | (go_simp;done) | (go_simp;with_reducible rfl))
       try simp only [Act.put,List.setIfInBounds_toArray,List.set_cons_zero,List.set_cons_succ]
       replace hHeld:=fun (he:Early _ _)=>hHeld (Early.of_set (i:=1) he (by decide))
       refine wpAnyD_take (i:=4) (oi:=_) (v:=?_) rfl (by kernel_rfl) (by kernel_rfl) (by kernel_rfl) (by kernel_rfl) (by kernel_rfl) (fun _ _ _ h=>h) (Or.inl ⟨by rfl,?_⟩) (hHeld (early_of (by kernel_rfl))) ?_
       rotate_left
       · (intro w hSw;obtain ⟨hS0,hS1⟩:=hSw;first | (go_simp;done) | (go_simp;with_reducible rfl))
       try simp only [Act.put,List.setIfInBounds_toArray,List.set_cons_zero,List.set_cons_succ]
       replace hHeld:=fun (he:Early _ _)=>hHeld (Early.of_set (i:=4) he (by decide))
       refine wpAnyD_ready (rs:=[7]) (by kernel_rfl) (by simp) ?_
       refine (AllReadyD.cons (o:=_) rfl (fun K hK=>?_) AllReadyD.nil)
       clear hHeld
       go_simp
       (go_at_call 212;refine (replaceTerm_any _ _ _ _).mono ?_;rintro e y1 ⟨rfl,rfl⟩)
       go_wp2_with fail
       refine hK.out _ _ ?_ (fun hHeld=>?_)
       · exact fun _=>HS.out
       clear hK K
       try simp only [Act.put,List.setIfInBounds_toArray,List.set_cons_zero,List.set_cons_succ]
       refine wpAnyD_free (i:=8) (oi:=_) (v:=?_) rfl (by kernel_rfl) (by kernel_rfl) (by kernel_rfl) (by kernel_rfl) (fun _ _ _ h=>h) (Or.inl ⟨by rfl,?_⟩) hHeld (fun hHeld=>?_)
       rotate_left
       · (intro w _;first | (go_simp;done) | (go_simp;with_reducible rfl))
       try simp only [Act.put,List.setIfInBounds_toArray,List.set_cons_zero,List.set_cons_succ]
       refine wpAnyD_free (i:=9) (oi:=_) (v:=?_) rfl (by kernel_rfl) (by kernel_rfl) (by kernel_rfl) (by kernel_rfl) (fun _ _ _ h=>h) (Or.inl ⟨by rfl,?_⟩) hHeld (fun hHeld=>?_)
       rotate_left
       · (intro w _;first | (go_simp;done) | (go_simp;with_reducible rfl))
       try simp only [Act.put,List.setIfInBounds_toArray,List.set_cons_zero,List.set_cons_succ]
       refine wpAnyD_ready (rs:=[10]) (by kernel_rfl) (by simp) ?_
       refine (AllReadyD.cons (o:=_) rfl (fun K hK=>?_) AllReadyD.nil)
       clear hHeld
       go_simp
       refine hK.out _ _ ?_ (fun hHeld=>?_)
       · exact late_none (by kernel_rfl)
       clear hK K
       try simp only [Act.put,List.setIfInBounds_toArray,List.set_cons_zero,List.set_cons_succ]
       refine wpAnyD_done (by kernel_rfl) ?_ _
       clear hHeld
       clear HS
       have HS:=Lib.hid (And.intro (cell_keep (below_drew _) (cell_keep (below_drew _) (cell_set_far (r:=⟨g,n * 3+1,none⟩) (u:=.int .i64 (swT x t X2)) (box1 HE.out.1.1) HF.out.1.2))) (cell_keep (below_drew _) (cell_keep (below_drew _) (cell_set_far (r:=⟨g,n * 3+1,none⟩) (u:=.int .i64 (swT x t X2)) (c32 HF.out.2) HF.out.1.1))))
       go_upto_region 12 with fail
       refine wp_region_late (S:=(fun w'=>w'.cell? ⟨w2.heap.size,1,none⟩=some (.slice (some ⟨g,0,none⟩) a2.length yc)∧w'.cell? ⟨bF,2,none⟩=some (.int .i64 X3))) (dep:=[10]) (by kernel_rfl) HS.out (fun hHeld=>?_)
       refine wpAnyD_free (i:=0) (oi:=_) (v:=?_) rfl (by kernel_rfl) (by kernel_rfl) (by kernel_rfl) (by kernel_rfl) (fun _ _ _ h=>h) (Or.inl ⟨by rfl,?_⟩) hHeld (fun hHeld=>?_)
       rotate_left
       · (intro w _;first | (go_simp;done) | (go_simp;with_reducible rfl))
       try simp only [Act.put,List.setIfInBounds_toArray,List.set_cons_zero,List.set_cons_succ]
       refine wpAnyD_free (i:=2) (oi:=_) (v:=?_) rfl (by kernel_rfl) (by kernel_rfl) (by kernel_rfl) (by kernel_rfl) (fun _ _ _ h=>h) (Or.inl ⟨by rfl,?_⟩) hHeld (fun hHeld=>?_)
       rotate_left
       · (intro w _;first | (go_simp;done) | (go_simp;with_reducible rfl))
       try simp only [Act.put,List.setIfInBounds_toArray,List.set_cons_zero,List.set_cons_succ]
       refine wpAnyD_free (i:=3) (oi:=_) (v:=?_) rfl (by kernel_rfl) (by kernel_rfl) (by kernel_rfl) (by kernel_rfl) (fun _ _ _ h=>h) (Or.inl ⟨by rfl,?_⟩) hHeld (fun hHeld=>?_)
       rotate_left
       · (intro w _;first | (go_simp;done) | (go_simp;with_reducible rfl))
       try simp only [Act.put,List.setIfInBounds_toArray,List.set_cons_zero,List.set_cons_succ]
       refine wpAnyD_free (i:=5) (oi:=_) (v:=?_) rfl (by kernel_rfl) (by kernel_rfl) (by kernel_rfl) (by kernel_rfl) (fun _ _ _ h=>h) (Or.inl ⟨by rfl,?_⟩) hHeld (fun hHeld=>?_)
       rotate_left
       · (intro w _;first | (go_simp;done) | (go_simp;with_reducible rfl))
       try simp only [Act.put,List.setIfInBounds_toArray,List.set_cons_zero,List.set_cons_succ]
       refine wpAnyD_free (i:=6) (oi:=_) (v:=?_) rfl (by kernel_rfl) (by kernel_rfl) (by kernel_rfl) (by kernel_rfl) (fun _ _ _ h=>h) (Or.inl ⟨by rfl,?_⟩) hHeld (fun hHeld=>?_)
       rotate_left
       · (intro w _;first | (go_simp;done) | (go_simp;with_reducible rfl))
       try simp only [Act.put,List.setIfInBounds_toArray,List.set_cons_zero,List.set_cons_succ]
       refine wpAnyD_take (i:=1) (oi:=_) (v:=?_) rfl (by kernel_rfl) (by kernel_rfl) (by kernel_rfl) (by kernel_rfl) (by kernel_rfl) (fun _ _ _ h=>h) (Or.inl ⟨by rfl,?_⟩) (hHeld (early_of (by kernel_rfl))) ?_
       rotate_left
       · (intro w hSw;obtain ⟨hS0,hS1⟩:=hSw;first | (go_simp;done) | (go_simp;with_reducible rfl))
       try simp only [Act.put,List.setIfInBounds_toArray,List.set_cons_zero,List.set_cons_succ]
       replace hHeld:=fun (he:Early _ _)=>hHeld (Early.of_set (i:=1) he (by decide))
       refine wpAnyD_take (i:=4) (oi:=_) (v:=?_) rfl (by kernel_rfl) (by kernel_rfl) (by kernel_rfl) (by kernel_rfl) (by kernel_rfl) (fun _ _ _ h=>h) (Or.inl ⟨by rfl,?_⟩) (hHeld (early_of (by kernel_rfl))) ?_
       rotate_left
       · (intro w hSw;obtain ⟨hS0,hS1⟩:=hSw;first | (go_simp;done) | (go_simp;with_reducible rfl))
       try simp only [Act.put,List.setIfInBounds_toArray,List.set_cons_zero,List.set_cons_succ]
       replace hHeld:=fun (he:Early _ _)=>hHeld (Early.of_set (i:=4) he (by decide))
       refine wpAnyD_ready (rs:=[7]) (by kernel_rfl) (by simp) ?_
       refine (AllReadyD.cons (o:=_) rfl (fun K hK=>?_) AllReadyD.nil)
       clear hHeld
       go_simp
       (go_at_call 212;refine (replaceTerm_any _ _ _ _).mono ?_;rintro e y1 ⟨rfl,rfl⟩)
       go_wp2_with fail
       refine hK.out _ _ ?_ (fun hHeld=>?_)
       · exact fun _=>HS.out
       clear hK K
       try simp only [Act.put,List.setIfInBounds_toArray,List.set_cons_zero,List.set_cons_succ]
       refine wpAnyD_free (i:=8) (oi:=_) (v:=?_) rfl (by kernel_rfl) (by kernel_rfl) (by kernel_rfl) (by kernel_rfl) (fun _ _ _ h=>h) (Or.inl ⟨by rfl,?_⟩) hHeld (fun hHeld=>?_)
       rotate_left
       · (intro w _;first | (go_simp;done) | (go_simp;with_reducible rfl))
       try simp only [Act.put,List.setIfInBounds_toArray,List.set_cons_zero,List.set_cons_succ]
       refine wpAnyD_free (i:=9) (oi:=_) (v:=?_) rfl (by kernel_rfl) (by kernel_rfl) (by kernel_rfl) (by kernel_rfl) (fun _ _ _ h=>h) (Or.inl ⟨by rfl,?_⟩) hHeld (fun hHeld=>?_)
       rotate_left
       · (intro w _;first | (go_simp;done) | (go_simp;with_reducible rfl))
       try simp only [Act.put,List.setIfInBounds_toArray,List.set_cons_zero,List.set_cons_succ]
       refine wpAnyD_ready (rs:=[10]) (by kernel_rfl) (by simp) ?_
       refine (AllReadyD.cons (o:=_) rfl (fun K hK=>?_) AllReadyD.nil)
       clear hHeld
       go_simp
       refine hK.out _ _ ?_ (fun hHeld=>?_)
       · exact late_none (by kernel_rfl)
       clear hK K
       try simp only [Act.put,List.setIfInBounds_toArray,List.set_cons_zero,List.set_cons_succ]
       refine wpAnyD_done (by kernel_rfl) ?_ _
       clear hHeld
       clear HS
       have hst:=HE.out.2.1.2.set12 (mapK_len (f:=sbA x t) (Nat.le_of_lt hn8)).symm (k:=n) (by rw [mapK_len (Nat.le_of_lt hn8)];exact hn8) (swT x t X2) (swT x t X3)
       rw [HM.out.1,HM.out.2.2] at hst
       rw [HM.out.2.1] at hst
       have hA9:=box_other (box_other HE.out.1.1 ⟨g,n * 3+1,none⟩ (.int .i64 (swT x t X2)) HF.out.1.2) ⟨g,n * 3+2,none⟩ (.int .i64 (swT x t X3)) HF.out.1.2
       have hR9:=box_other (box_other HE.out.1.2 ⟨g,n * 3+1,none⟩ (.int .i64 (swT x t X2)) (by show ¬ w.heap.size+1=g;omega)) ⟨g,n * 3+2,none⟩ (.int .i64 (swT x t X3)) (by show ¬ w.heap.size+1=g;omega)
       have hY9:=(HE.out.2.1.1.set_other ⟨g,n * 3+1,none⟩ (.int .i64 (swT x t X2)) hgy).set_other ⟨g,n * 3+2,none⟩ (.int .i64 (swT x t X3)) hgy
       have hW9:=(HE.out.2.2.setCell (p:=⟨g,n * 3+1,none⟩) (by show w.heap.size≤g;omega) (.int .i64 (swT x t X2))).setCell (p:=⟨g,n * 3+2,none⟩) (by show w.heap.size≤g;omega) (.int .i64 (swT x t X3))
       have H9:=Lib.hid (And.intro (And.intro hA9 hR9) (And.intro (And.intro hst hY9) hW9))
       clear hst hA9 hR9 hY9 hW9
       go_wp2
       go_roundg (gk - 1)
       case rel=>exact ⟨n+1,by have:=HN.out;omega,by go_num,⟨H9.out.1.1,H9.out.1.2⟩,⟨H9.out.2.1.2.keep Bl,H9.out.2.1.1.keep Bl⟩,bt H9.out.2.2 Bl⟩
       case measure=>have:=HN.out;omega
     · obtain rfl:n=a2.length:=by have:=HN.out;omega
       rw [mapK_all] at HR
       have b0:=box0 HR.out.1.1
       have b1:=box1 HR.out.1.1
       have bz:=boxz HR.out.1.1
       have bl:=box_lt HR.out.1.1
       have r0:=box0 HR.out.1.2
       have r1:=box1 HR.out.1.2
       have rz:=boxz HR.out.1.2
       have rl:=box_lt HR.out.1.2
       have r:=box_two (.slice xa a1.length xc) (.slice ya a2.length yc) r0 r1
       have hs6:=fr_twoR wr (w.heap.size+1) (.slice xa a1.length xc) (.slice ya a2.length yc)
       have kS:∀ k,k < wr.heap.size→(fun k=>w.heap.size+2≤k) k→¬ (fun j=>j=w.heap.size+1) k:=fun k _ h e=>by
        have h2:w.heap.size+2≤k:=h
        have e2:k=w.heap.size+1:=e
        omega
       have HO:=Lib.hid (And.intro (And.intro ((HR.out.2.1.1.rl.kept hs6 kS).more fun k _ h=>(show w.heap.size≤k from Nat.le_trans (by omega) h)) ((HR.out.2.1.2.rl.kept hs6 kS).more fun k _ h=>(show w.heap.size≤k from Nat.le_trans (by omega) h))) (HR.out.2.2.trans (hs6.below (by have:=HR.out.2.2.size;omega) fun k hk e=>by have e2:k=w.heap.size+1:=e;omega)))
       clear hs6 kS
       go_wp2
       refine bodyPost_ret (v:=.agg #[.slice xa a1.length xc,.slice ya a2.length yc]) (by simp [results,Tryz.results151,go_sem,r.1,r.2]) rfl ?_
       exact ⟨_,_,rfl,HO.out.1,HO.out.2⟩
end Go.Proofs.YtkbbmjcfgcfejaaGreat
