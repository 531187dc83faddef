/- Walk: impl.replaceIn: a term of an assertion replaced, in a copy. -/
import Derived.Test.YtkbbmjcfgcfejaaGreatLList1
set_option linter.unusedVariables false
set_option linter.unusedSectionVars false
set_option linter.unusedSimpArgs false
set_option maxRecDepth 100000
set_option maxHeartbeats 12800000
namespace Go.Proofs.YtkbbmjcfgcfejaaGreat
open Go.RowKit
def TC (l:List Ap):List Value:=(l.map fun x=>[Value.bool x.1,.int .i64 x.2.1,.int .i64 x.2.2]).flatten
theorem GP {l:List Ap} {i:Nat} (h:i < l.length):Bz 3 (TC l) i=[.bool (gd l i).1,.int .i64 (gd l i).2.1,.int .i64 (gd l i).2.2]:=by
 rw [TC,Ia (by intro c hc;obtain ⟨x,_,rfl⟩:=List.mem_map.1 hc;rfl) (by simpa using h)];simp [gd,h]
theorem MX (l:List Ap):(TC l).length=l.length * 3:=by
 induction l with
 | nil=>rfl
 | cons x l ih=>show (TC l).length+1+1+1=(l.length+1) * 3;rw [ih];omega
theorem V4 {l:List Ap} {xs:List Value} {w:World} {S:Nat→Prop} (hx:xs.length=l.length * 3) (h:∀ i,i < l.length→Dat.rd w S (gd l i) (Bz 3 xs i)):xs=TC l :=
 Iw hx (MX l) fun i hi=>by
  rw [GP hi];obtain ⟨c1,c2,e,h1,c3,c4,e2,h3,h4⟩:=h i hi;rw [e,e2,show c1=[.bool (gd l i).1] from h1,show c3=[.int .i64 (gd l i).2.1] from h3,show c4=[.int .i64 (gd l i).2.2] from h4];rfl
def FW (w:World) (B:Nat) (v:Value) (l:List Ap):Prop:=w.ownsRow B 61 3 v l.length (TC l)
section
variable {w w':World} {B g n cap:Nat} {l:List Ap} {m:List Am} {v:Value}
theorem FW.rl (h:FW w B v l):RL w (fun k=>B≤k) v l:=by
 refine (RowE.rl (α:=Ap) (S:=fun _=>False) (.inr h) fun i hi=>?_).more fun k _ hk=>?_
 · rw [show Dat.sz Ap=3 from rfl,GP hi]
   exact ⟨[.bool (gd l i).1],[.int .i64 (gd l i).2.1,.int .i64 (gd l i).2.2],rfl,rfl,⟨[.int .i64 (gd l i).2.1],[.int .i64 (gd l i).2.2],rfl,rfl,rfl⟩⟩
 · rcases hk with hk | hk
   · exact hk.elim
   · exact hk
theorem FW.keep (h:FW w B v l) (hb:Below w.heap.size w w'):FW w' B v l:=Ag h hb
theorem FW.at (h:FW w B (.slice (some ⟨g,0,none⟩) n cap) l) (hn:n=l.length) {k:Nat} (hk:k < l.length) :
 (w.cell? ⟨g,k * 3,none⟩=some (.bool (gd l k).1)∧w.cell? ⟨g,k * 3+1,none⟩=some (.int .i64 (gd l k).2.1)∧w.cell? ⟨g,k * 3+2,none⟩=some (.int .i64 (gd l k).2.2))∧∀ i,w.frozen? ⟨g,i,none⟩=false:=by
 subst hn;have h2:w.ownsRow B 61 3 (.slice (some ⟨g,0,none⟩) l.length cap) l.length (TC l):=h;have hx:=GP hk;refine ⟨⟨?_,?_,?_⟩,h2.frozenAt⟩
 · rw [h2.cellAt (k * 3) (by omega)];exact E3 (j:=0) (by rw [hx];rfl)
 · rw [h2.cellAt (k * 3+1) (by omega)];exact E3 (j:=1) (by rw [hx];rfl)
 · rw [h2.cellAt (k * 3+2) (by omega)];exact E3 (j:=2) (by rw [hx];rfl)
theorem FW.form (h:FW w B v l):∃ a cap,v=.slice a l.length cap∧∀ k,k < l.length→∃ g,a=some ⟨g,0,none⟩:=Hy h
theorem RW {k:Nat} (hk:k < l.length) (a b:Int):((TC l).set (k * 3+1) (.int .i64 a)).set (k * 3+2) (.int .i64 b)=TC (l.set k ((gd l k).1,a,b)):=by
 refine Iw (n:=l.length) (by rw [List.length_set,List.length_set,MX]) (by rw [MX,List.length_set]) fun i hi=>?_;have hi2:i < (l.set k ((gd l k).1,a,b)).length:=by rw [List.length_set];exact hi
 rw [C0 Om,GP hi2];by_cases e:i=k
 · subst e;rw [if_pos rfl,C0 Om,if_pos rfl,GP hi,BT hi2,List.getElem_set_self];rfl
 · rw [if_neg e,C0 Om,if_neg e,GP hi,BT hi2,List.getElem_set_ne (Ne.symm e),← BT hi]
theorem RX {k:Nat} (hk:k < m.length) (a b:Int):((LR m).set (k * 3+1) (.int .i64 a)).set (k * 3+2) (.int .i64 b)=LR (m.set k ((gd m k).1,a,b)):=by
 refine Iw (n:=m.length) (by rw [List.length_set,List.length_set,Iy]) (by rw [Iy,List.length_set]) fun i hi=>?_;have hi2:i < (m.set k ((gd m k).1,a,b)).length:=by rw [List.length_set];exact hi
 rw [C0 Om,Ei hi2];by_cases e:i=k
 · subst e;rw [if_pos rfl,C0 Om,if_pos rfl,Ei hi,BT hi2,List.getElem_set_self];rfl
 · rw [if_neg e,C0 Om,if_neg e,Ei hi,BT hi2,List.getElem_set_ne (Ne.symm e),← BT hi]
theorem FW.set12 (h:FW w B (.slice (some ⟨g,0,none⟩) n cap) l) (hn:n=l.length) {k:Nat} (hk:k < l.length) (a b:Int) :
 FW ((w.setCell ⟨g,k * 3+1,none⟩ (.int .i64 a)).setCell ⟨g,k * 3+2,none⟩ (.int .i64 b)) B (.slice (some ⟨g,0,none⟩) n cap) (l.set k ((gd l k).1,a,b)):=by
 subst hn;have t1:=((show w.ownsRow B 61 3 (.slice (some ⟨g,0,none⟩) l.length cap) l.length (TC l) from h).stored (k * 3+1) (.int .i64 a)).1;have t2:=(t1.stored (k * 3+2) (.int .i64 b)).1;rw [RW hk] at t2;unfold FW;rw [List.length_set];exact t2
theorem AO.set12 (h:AO w B (.slice (some ⟨g,0,none⟩) n cap) m) (hn:n=m.length) {k:Nat} (hk:k < m.length) (a b:Int) :
 AO ((w.setCell ⟨g,k * 3+1,none⟩ (.int .i64 a)).setCell ⟨g,k * 3+2,none⟩ (.int .i64 b)) B (.slice (some ⟨g,0,none⟩) n cap) (m.set k ((gd m k).1,a,b)):=by
 subst hn;have t1:=((show w.ownsRow B 118 3 (.slice (some ⟨g,0,none⟩) m.length cap) m.length (LR m) from h).stored (k * 3+1) (.int .i64 a)).1;have t2:=(t1.stored (k * 3+2) (.int .i64 b)).1;rw [RX hk] at t2;unfold AO;rw [List.length_set];exact t2
theorem OL.FW {fp:List Nat} (h:OL w B v l fp):FW w B v l∧fp=v.ownBlock.toList:=by
 obtain ⟨xs,hr,hx⟩:=Fz h;obtain rfl:xs=TC l:=V4 hr.1 hx;exact ⟨hr,JW h⟩
theorem FW.set_other (h:FW w B v l) (p:Addr) (u:Value) (hp:∀ k,some k=v.ownBlock→¬ k=p.block):FW (w.setCell p u) B v l:=BR h (Aw _ _ _) fun k hk e=>hp k hk e
theorem AO.set_other (h:AO w B v m) (p:Addr) (u:Value) (hp:∀ k,some k=v.ownBlock→¬ k=p.block):AO (w.setCell p u) B v m:=BR h (Aw _ _ _) fun k hk e=>hp k hk e
end
theorem El (w:World) (R:Nat) (x y:Value):Fr (fun k=>k=R) w ((w.setCell ⟨R,0,none⟩ x).setCell ⟨R,1,none⟩ y):=(Aw w ⟨R,0,none⟩ x).trans (Aw _ ⟨R,1,none⟩ y)
theorem Em {w:World} {p r:Addr} {u c:Value} (h:w.cell? p=some c) (hne:¬ p.block=r.block):(w.setCell r u).cell? p=some c :=
 (World.cell?_setCell_other _ _ _ _ fun e=>hne (by rw [← e])).trans h
def Iz {α:Type} (f:α→α) (l:List α) (k:Nat):List α:=(l.take k).map f ++ l.drop k
section
variable {α:Type} [Inhabited α] {f:α→α} {l:List α} {k:Nat}
theorem CL (h:k≤l.length):(Iz f l k).length=l.length:=by rw [Iz,List.length_append,List.length_map,List.length_take,List.length_drop];omega
theorem Q8 (h:k < l.length):gd (Iz f l k) k=gd l k:=by
 rw [BT (by rw [CL (by omega)];exact h),BT h];simp only [Iz];rw [List.getElem_append_right (by simp;omega)];simp [Nat.min_eq_left (Nat.le_of_lt h)]
theorem Oi (h:k < l.length):(Iz f l k).set k (f (gd l k))=Iz f l (k+1):=by
 have hlen:(List.map f (l.take k)).length=k:=by simp;omega
 rw [Iz,Iz,List.set_append,if_neg Om,hlen,Nat.sub_self,AT h,List.map_append,List.append_assoc];congr 1
 rw [List.drop_eq_getElem_cons h];rfl
theorem Oj:Iz f l l.length=l.map f:=by rw [Iz,List.take_length,List.drop_length,List.append_nil]
theorem L6:Iz f l 0=l:=by rw [Iz,List.take_zero,List.map_nil,List.drop_zero,List.nil_append]
end
theorem G7 {S1 S2:Nat→Prop} (v1 v2:Value) (a:Aj) (x t:Int) (w:World) (h1:RL w S1 v1 a.1) (h2:RL w S2 v2 a.2) (hl1:(a.1.length:Int)≤12) (hl2:(a.2.length:Int)≤8) :
 Calls Tryz.prog 151 #[.agg #[v1,v2],.int .i64 x,.int .i64 t] w fun e w'=>∃ x1 x2,e=.returned (.agg #[x1,x2])∧(RL w' (fun k=>w.heap.size≤k) x1 (Cb a x t).1∧RL w' (fun k=>w.heap.size≤k) x2 (Cb a x t).2)∧Below w.heap.size w w':=by
 obtain ⟨a1,a2⟩:=a;simp only at h1 h2 hl1 hl2;obtain ⟨p1,c1,rfl⟩:=h1.form;obtain ⟨p2,c2,rfl⟩:=h2.form;have hbA:=Ac (heap_alloc_new w (.cells #[.slice p1 a1.length c1,.slice p2 a2.length c2] 26)) (Aa _ (.cells #[.slice none 0 0,.slice none 0 0] 26));have hbR:=heap_alloc_new (w.alloc (.cells #[.slice p1 a1.length c1,.slice p2 a2.length c2] 26)) (.cells #[.slice none 0 0,.slice none 0 0] 26);rw [World.size_alloc] at hbR;have hB0:Below w.heap.size w ((w.alloc (.cells #[.slice p1 a1.length c1,.slice p2 a2.length c2] 26)).alloc (.cells #[.slice none 0 0,.slice none 0 0] 26)):=Bl;have H1:=Ad (An (An hbA hbR) hB0);have HH:=Ad (An h1 h2);clear hbA hbR hB0 h1 h2;go_enter Tryz.func151,Tryz.ntmps151
 go_wp2_with fail
 refine (BG _ _ (a1,a2) _ (HH.o.1.keep Bl) (HH.o.2.keep Bl) (by simp only;omega) (by simp only;omega)).mono ?_;rintro e w2 ⟨x1,x2,rfl,⟨f1,f2,o1,o2,hn⟩,hb⟩;obtain ⟨ao,hf2⟩:=o2.AO;obtain ⟨fo,hf1⟩:=o1.FW;obtain ⟨xa,xc,rfl,hxa⟩:=fo.form;obtain ⟨ya,yc,rfl,hya⟩:=ao.form;simp only at hxa hya;have hlo:w.heap.size+2≤w2.heap.size:=by have:=hb.size;simp at this;omega
 have hxg:∀ g,some g=(Value.slice xa a1.length xc).ownBlock→w.heap.size+2≤g∧g < w2.heap.size:=fun g hg=>by
  have:=AD fo hg;simp only [World.size_alloc] at this;omega
 have hyg:∀ g,some g=(Value.slice ya a2.length yc).ownBlock→w.heap.size+2≤g∧g < w2.heap.size:=fun g hg=>by
  have:=AD ao hg;simp only [World.size_alloc] at this;omega
 have hxy:∀ g k,some g=(Value.slice xa a1.length xc).ownBlock→some k=(Value.slice ya a2.length yc).ownBlock→¬ g=k:=fun g k hg hk e=>by
  rw [hf1,hf2] at hn;exact (List.nodup_append.1 hn).2.2 g (Ba.2 hg) k (Ba.2 hk) e
 have HG:=Ad (An (An hxa hya) (An hxg (An hyg hxy)));have hb2:Below w2.heap.size w2 (w2.alloc (.cells #[.slice xa a1.length xc,.slice ya a2.length yc] 26)):=Aa _ _;have H2:=Ad (An (An (heap_alloc_new w2 (.cells #[.slice xa a1.length xc,.slice ya a2.length yc] 26)) (Ac (Ac H1.o.1.2 hb) hb2)) (An (An (fo.keep hb2) (ao.keep hb2)) (bt (bt H1.o.2 hb) hb2)));have HLO:=Ad hlo;clear hxa hya hxg hyg hxy hf1 hf2 hn o1 o2 fo ao hb hb2 H1 HH;go_wp2;go_loopg [17] a1.length (fun q i wr=>∃ k:Nat,k+q=a1.length∧i=.int .i64 k∧(wr.heap[w2.heap.size]?=some (.cells #[.slice xa a1.length xc,.slice ya a2.length yc] 26 (0,0))∧wr.heap[w.heap.size+1]?=some (.cells #[.slice none 0 0,.slice none 0 0] 26 (0,0)))∧(FW wr (w.heap.size+2) (.slice xa a1.length xc) (Iz (O6 x t) a1 k)∧AO wr (w.heap.size+2) (.slice ya a2.length yc) a2)∧Below w.heap.size w wr)
 case atStart=>exact ⟨0,by omega,rfl,H2.o.1,by rw [L6];have:=H2.o.2.1;simp at this;exact this,H2.o.2.2⟩
 case round =>
  clear H2;obtain ⟨k,hk,rfl,hBB,hFA,hW⟩:=hrel;have HK:=Ad hk;have HR:=Ad (An hBB (An hFA hW));clear hk hBB hFA hW;by_cases hk8:k < a1.length
  · have hki:(k:Int) < (a1.length:Int):=by omega
    obtain ⟨g,rfl⟩:=HG.o.1.1 k hk8;have hg:=HG.o.2.1 g rfl;have hgy:∀ j,some j=(Value.slice ya a2.length yc).ownBlock→¬ j=g:=fun j hj e=>HG.o.2.2.2 g j rfl hj e.symm;have hml:=CL (f:=O6 x t) (Nat.le_of_lt hk8);have hmg:=Q8 (f:=O6 x t) hk8;have hms:=Oi (f:=O6 x t) hk8;obtain ⟨⟨q0,q1,q2⟩,hfz⟩:=HR.o.2.1.1.at hml.symm (k:=k) Om;have hst:=fun c d=>HR.o.2.1.1.set12 hml.symm (k:=k) Om c d;rw [hmg] at q0 q1 q2;obtain ⟨X,hX⟩:=Ex (gd a1 k);obtain ⟨X1,X2,X3⟩:=X;rw [hX] at q0 q1 q2 hms;simp only [O6] at q0 q1 q2 hms;have hzg:g < wr.heap.size:=World.block_lt_of_cell? wr _ q0;have hb0:=Bd HR.o.1.1;have hbl:=Ae HR.o.1.1;have HM:=Ad (An hmg (An hms hX));have HFZ:=Ad hfz;clear hml hmg hms hX hst hfz;(go_upto_region 5 with fail);have hwo:Below wr.heap.size wr (wr.alloc (.cells #[.bool X1,.int .i64 X2,.int .i64 X3] 61)):=Aa _ _;have hF:=heap_alloc_new wr (.cells #[.bool X1,.int .i64 X2,.int .i64 X3] 61);generalize wr.alloc (.cells #[.bool X1,.int .i64 X2,.int .i64 X3] 61)=we at hwo hF ⊢;have HE:=Ad (An (An (Ac HR.o.1.1 hwo) (Ac HR.o.1.2 hwo)) (An (An (HR.o.2.1.1.keep hwo) (HR.o.2.1.2.keep hwo)) (bt HR.o.2.2 hwo)));obtain ⟨⟨e0,e1,e2⟩,hfz⟩:=HE.o.2.1.1.at (CL (f:=O6 x t) (Nat.le_of_lt hk8)).symm (k:=k) (by rw [CL (Nat.le_of_lt hk8)];exact hk8);have z1:=hfz (k * 3+1);have z2:=hfz (k * 3+2);have hwz:=hwo.size;(have hbg:¬ wr.heap.size=g:=by omega);(have hbg2:¬ w2.heap.size=g:=by omega);clear q0 q1 q2 hb0 hbl hwo hfz e0;rw [HM.o.1,HM.o.2.2] at e1 e2;simp only at e1 e2;generalize wr.heap.size=bF at hF hbg hwz ⊢;have gz:=Ae hF;have ge:=Ae HE.o.1.1;have HF:=Ad (An (An hbg hbg2) hF);have HS:=Ad (An (Ab (Ai we) (Bd HE.o.1.1)) (Ab (Ai we) (JZ hF)));clear hF hbg hbg2;refine Cj (S:=(fun w'=>w'.cell? ⟨w2.heap.size,0,none⟩=some (.slice (some ⟨g,0,none⟩) a1.length xc)∧w'.cell? ⟨bF,1,none⟩=some (.int .i64 X2))) (dep:=[10]) Kr HS.o (fun hHeld=>?_);refine Ao (i:=0) (oi:=_) (v:=?_) rfl Kr Kr Kr Kr (fun _ _ _ h=>h) (Or.inl ⟨by rfl,?_⟩) hHeld (fun hHeld=>?_);rotate_left
    · (intro w _;first | (go_simp;done) | (go_simp;with_reducible rfl))
    refine Pt ?_;refine Ao (i:=2) (oi:=_) (v:=?_) rfl Kr Kr Kr Kr (fun _ _ _ h=>h) (Or.inl ⟨by rfl,?_⟩) hHeld (fun hHeld=>?_);rotate_left
    · (intro w _;first | (go_simp;done) | (go_simp;with_reducible rfl))
    refine Pt ?_;refine Ao (i:=3) (oi:=_) (v:=?_) rfl Kr Kr Kr Kr (fun _ _ _ h=>h) (Or.inl ⟨by rfl,?_⟩) hHeld (fun hHeld=>?_);rotate_left
    · (intro w _;first | (go_simp;done) | (go_simp;with_reducible rfl))
    refine Pt ?_;refine Ao (i:=5) (oi:=_) (v:=?_) rfl Kr Kr Kr Kr (fun _ _ _ h=>h) (Or.inl ⟨by rfl,?_⟩) hHeld (fun hHeld=>?_);rotate_left
    · (intro w _;first | (go_simp;done) | (go_simp;with_reducible rfl))
    refine Pt ?_;refine Ao (i:=6) (oi:=_) (v:=?_) rfl Kr Kr Kr Kr (fun _ _ _ h=>h) (Or.inl ⟨by rfl,?_⟩) hHeld (fun hHeld=>?_);rotate_left
    · (intro w _;first | (go_simp;done) | (go_simp;with_reducible rfl))
    refine Pt ?_;refine AW (i:=1) (oi:=_) (v:=?_) rfl Kr Kr Kr Kr Kr (fun _ _ _ h=>h) (Or.inl ⟨by rfl,?_⟩) (hHeld (BC Kr)) ?_;rotate_left
    · (intro w hSw;obtain ⟨hS0,hS1⟩:=hSw;first | (go_simp;done) | (go_simp;with_reducible rfl))
    refine Pt ?_;replace hHeld:=fun (he:Early _ _)=>hHeld (Early.of_set (i:=1) he Dc);refine AW (i:=4) (oi:=_) (v:=?_) rfl Kr Kr Kr Kr Kr (fun _ _ _ h=>h) (Or.inl ⟨by rfl,?_⟩) (hHeld (BC Kr)) ?_;rotate_left
    · (intro w hSw;obtain ⟨hS0,hS1⟩:=hSw;first | (go_simp;done) | (go_simp;with_reducible rfl))
    refine Pt ?_;replace hHeld:=fun (he:Early _ _)=>hHeld (Early.of_set (i:=4) he Dc);refine AK (rs:=[7]) Kr Sp ?_;refine (AllReadyD.cons (o:=_) rfl (fun K hK=>?_) AllReadyD.nil);clear hHeld;go_simp
    (go_at_call 212;refine (Ct _ _ _ _).mono ?_;rintro e y1 ⟨rfl,rfl⟩)
    (go_wp2_with fail);refine hK.out _ _ ?_ (fun hHeld=>?_)
    · exact fun _=>HS.o
    clear hK K;refine Pt ?_;refine Ao (i:=8) (oi:=_) (v:=?_) rfl Kr Kr Kr Kr (fun _ _ _ h=>h) (Or.inl ⟨by rfl,?_⟩) hHeld (fun hHeld=>?_);rotate_left
    · (intro w _;first | (go_simp;done) | (go_simp;with_reducible rfl))
    refine Pt ?_;refine Ao (i:=9) (oi:=_) (v:=?_) rfl Kr Kr Kr Kr (fun _ _ _ h=>h) (Or.inl ⟨by rfl,?_⟩) hHeld (fun hHeld=>?_);rotate_left
    · (intro w _;first | (go_simp;done) | (go_simp;with_reducible rfl))
    refine Pt ?_;refine AK (rs:=[10]) Kr Sp ?_;refine (AllReadyD.cons (o:=_) rfl (fun K hK=>?_) AllReadyD.nil);clear hHeld;go_simp
    refine hK.out _ _ ?_ (fun hHeld=>?_)
    · exact Dd Kr
    clear hK K;refine Pt ?_;refine Db Kr ?_ _;clear hHeld;clear HS;have HS:=Ad (An (Ab (Ai _) (Ab (Ai _) (Em (r:=⟨g,k * 3+1,none⟩) (u:=.int .i64 (DL x t X2)) (Bd HE.o.1.1) HF.o.1.2))) (Ab (Ai _) (Ab (Ai _) (Em (r:=⟨g,k * 3+1,none⟩) (u:=.int .i64 (DL x t X2)) (J0 HF.o.2) HF.o.1.1))));(go_upto_region 6 with fail);refine Cj (S:=(fun w'=>w'.cell? ⟨w2.heap.size,0,none⟩=some (.slice (some ⟨g,0,none⟩) a1.length xc)∧w'.cell? ⟨bF,2,none⟩=some (.int .i64 X3))) (dep:=[10]) Kr HS.o (fun hHeld=>?_);refine Ao (i:=0) (oi:=_) (v:=?_) rfl Kr Kr Kr Kr (fun _ _ _ h=>h) (Or.inl ⟨by rfl,?_⟩) hHeld (fun hHeld=>?_);rotate_left
    · (intro w _;first | (go_simp;done) | (go_simp;with_reducible rfl))
    refine Pt ?_;refine Ao (i:=2) (oi:=_) (v:=?_) rfl Kr Kr Kr Kr (fun _ _ _ h=>h) (Or.inl ⟨by rfl,?_⟩) hHeld (fun hHeld=>?_);rotate_left
    · (intro w _;first | (go_simp;done) | (go_simp;with_reducible rfl))
    refine Pt ?_;refine Ao (i:=3) (oi:=_) (v:=?_) rfl Kr Kr Kr Kr (fun _ _ _ h=>h) (Or.inl ⟨by rfl,?_⟩) hHeld (fun hHeld=>?_);rotate_left
    · (intro w _;first | (go_simp;done) | (go_simp;with_reducible rfl))
    refine Pt ?_;refine Ao (i:=5) (oi:=_) (v:=?_) rfl Kr Kr Kr Kr (fun _ _ _ h=>h) (Or.inl ⟨by rfl,?_⟩) hHeld (fun hHeld=>?_);rotate_left
    · (intro w _;first | (go_simp;done) | (go_simp;with_reducible rfl))
    refine Pt ?_;refine Ao (i:=6) (oi:=_) (v:=?_) rfl Kr Kr Kr Kr (fun _ _ _ h=>h) (Or.inl ⟨by rfl,?_⟩) hHeld (fun hHeld=>?_);rotate_left
    · (intro w _;first | (go_simp;done) | (go_simp;with_reducible rfl))
    refine Pt ?_;refine AW (i:=1) (oi:=_) (v:=?_) rfl Kr Kr Kr Kr Kr (fun _ _ _ h=>h) (Or.inl ⟨by rfl,?_⟩) (hHeld (BC Kr)) ?_;rotate_left
    · (intro w hSw;obtain ⟨hS0,hS1⟩:=hSw;first | (go_simp;done) | (go_simp;with_reducible rfl))
    refine Pt ?_;replace hHeld:=fun (he:Early _ _)=>hHeld (Early.of_set (i:=1) he Dc);refine AW (i:=4) (oi:=_) (v:=?_) rfl Kr Kr Kr Kr Kr (fun _ _ _ h=>h) (Or.inl ⟨by rfl,?_⟩) (hHeld (BC Kr)) ?_;rotate_left
    · (intro w hSw;obtain ⟨hS0,hS1⟩:=hSw;first | (go_simp;done) | (go_simp;with_reducible rfl))
    refine Pt ?_;replace hHeld:=fun (he:Early _ _)=>hHeld (Early.of_set (i:=4) he Dc);refine AK (rs:=[7]) Kr Sp ?_;refine (AllReadyD.cons (o:=_) rfl (fun K hK=>?_) AllReadyD.nil);clear hHeld;go_simp
    (go_at_call 212;refine (Ct _ _ _ _).mono ?_;rintro e y1 ⟨rfl,rfl⟩)
    (go_wp2_with fail);refine hK.out _ _ ?_ (fun hHeld=>?_)
    · exact fun _=>HS.o
    clear hK K;refine Pt ?_;refine Ao (i:=8) (oi:=_) (v:=?_) rfl Kr Kr Kr Kr (fun _ _ _ h=>h) (Or.inl ⟨by rfl,?_⟩) hHeld (fun hHeld=>?_);rotate_left
    · (intro w _;first | (go_simp;done) | (go_simp;with_reducible rfl))
    refine Pt ?_;refine Ao (i:=9) (oi:=_) (v:=?_) rfl Kr Kr Kr Kr (fun _ _ _ h=>h) (Or.inl ⟨by rfl,?_⟩) hHeld (fun hHeld=>?_);rotate_left
    · (intro w _;first | (go_simp;done) | (go_simp;with_reducible rfl))
    refine Pt ?_;refine AK (rs:=[10]) Kr Sp ?_;refine (AllReadyD.cons (o:=_) rfl (fun K hK=>?_) AllReadyD.nil);clear hHeld;go_simp
    refine hK.out _ _ ?_ (fun hHeld=>?_)
    · exact Dd Kr
    clear hK K;refine Pt ?_;refine Db Kr ?_ _;clear hHeld;clear HS;have hst:=HE.o.2.1.1.set12 (CL (f:=O6 x t) (Nat.le_of_lt hk8)).symm (k:=k) (by rw [CL (Nat.le_of_lt hk8)];exact hk8) (DL x t X2) (DL x t X3);rw [HM.o.1,HM.o.2.2] at hst;rw [HM.o.2.1] at hst;have hA9:=Ax (Ax HE.o.1.1 ⟨g,k * 3+1,none⟩ (.int .i64 (DL x t X2)) HF.o.1.2) ⟨g,k * 3+2,none⟩ (.int .i64 (DL x t X3)) HF.o.1.2;have hR9:=Ax (Ax HE.o.1.2 ⟨g,k * 3+1,none⟩ (.int .i64 (DL x t X2)) (by show ¬ w.heap.size+1=g;omega)) ⟨g,k * 3+2,none⟩ (.int .i64 (DL x t X3)) (by show ¬ w.heap.size+1=g;omega);have hY9:=(HE.o.2.1.2.set_other ⟨g,k * 3+1,none⟩ (.int .i64 (DL x t X2)) hgy).set_other ⟨g,k * 3+2,none⟩ (.int .i64 (DL x t X3)) hgy;have hW9:=(HE.o.2.2.setCell (p:=⟨g,k * 3+1,none⟩) (by show w.heap.size≤g;omega) (.int .i64 (DL x t X2))).setCell (p:=⟨g,k * 3+2,none⟩) (by show w.heap.size≤g;omega) (.int .i64 (DL x t X3));have H9:=Ad (An (An hA9 hR9) (An (An hst hY9) hW9));clear hst hA9 hR9 hY9 hW9;go_wp2;go_roundg (gk - 1)
    case rel=>exact ⟨k+1,by have:=HK.o;omega,by go_num,⟨H9.o.1.1,H9.o.1.2⟩,⟨H9.o.2.1.1.keep Bl,H9.o.2.1.2.keep Bl⟩,bt H9.o.2.2 Bl⟩
    case measure=>have:=HK.o;omega
  · obtain rfl:k=a1.length:=by have:=HK.o;omega
    rw [Oj] at HR;obtain ⟨b0,b1,bl⟩:=B3 HR.o.1.1;obtain ⟨wm,rfl⟩:∃ wm:World,wm=wr:=⟨_,rfl⟩;go_wp2;clear b0 b1 bl;go_loopg [46] a2.length (fun q i wr=>∃ n:Nat,n+q=a2.length∧i=.int .i64 n∧(wr.heap[w2.heap.size]?=some (.cells #[.slice xa a1.length xc,.slice ya a2.length yc] 26 (0,0))∧wr.heap[w.heap.size+1]?=some (.cells #[.slice none 0 0,.slice none 0 0] 26 (0,0)))∧(FW wr (w.heap.size+2) (.slice xa a1.length xc) (a1.map (O6 x t))∧AO wr (w.heap.size+2) (.slice ya a2.length yc) (Iz (Q0 x t) a2 n))∧Below w.heap.size w wr)
    case atStart=>exact ⟨0,by omega,rfl,HR.o.1,by rw [L6];exact HR.o.2.1,HR.o.2.2⟩
    case round =>
     clear HR;obtain ⟨n,hk,rfl,hBB,hFA,hW⟩:=hrel;have HN:=Ad hk;have HR:=Ad (An hBB (An hFA hW));clear hk hBB hFA hW;by_cases hn8:n < a2.length
     · have hni:(n:Int) < (a2.length:Int):=by omega
       obtain ⟨g,rfl⟩:=HG.o.1.2 n hn8;have hg:=HG.o.2.2.1 g rfl;have hgy:∀ j,some j=(Value.slice xa a1.length xc).ownBlock→¬ j=g:=fun j hj e=>HG.o.2.2.2 j g hj rfl e;have hml:=CL (f:=Q0 x t) (Nat.le_of_lt hn8);have hmg:=Q8 (f:=Q0 x t) hn8;have hms:=Oi (f:=Q0 x t) hn8;obtain ⟨⟨q0,q1,q2⟩,hfz⟩:=HR.o.2.1.2.at hml.symm (k:=n) Om;rw [hmg] at q0 q1 q2;obtain ⟨X,hX⟩:=Ex (gd a2 n);obtain ⟨X1,X2,X3⟩:=X;rw [hX] at q0 q1 q2 hms;simp only [Q0] at q0 q1 q2 hms;have hzg:g < wr.heap.size:=World.block_lt_of_cell? wr _ q0;have hb1:=AY HR.o.1.1;have hbl:=Ae HR.o.1.1;have HM:=Ad (An hmg (An hms hX));clear hml hmg hms hX hfz;(go_upto_region 11 with fail);have hwo:Below wr.heap.size wr (wr.alloc (.cells #[.int .i64 X1,.int .i64 X2,.int .i64 X3] 118)):=Aa _ _;have hF:=heap_alloc_new wr (.cells #[.int .i64 X1,.int .i64 X2,.int .i64 X3] 118);generalize wr.alloc (.cells #[.int .i64 X1,.int .i64 X2,.int .i64 X3] 118)=we at hwo hF ⊢;have HE:=Ad (An (An (Ac HR.o.1.1 hwo) (Ac HR.o.1.2 hwo)) (An (An (HR.o.2.1.1.keep hwo) (HR.o.2.1.2.keep hwo)) (bt HR.o.2.2 hwo)));obtain ⟨⟨e0,e1,e2⟩,hfz⟩:=HE.o.2.1.2.at (CL (f:=Q0 x t) (Nat.le_of_lt hn8)).symm (k:=n) (by rw [CL (Nat.le_of_lt hn8)];exact hn8);have z1:=hfz (n * 3+1);have z2:=hfz (n * 3+2);have hwz:=hwo.size;(have hbg:¬ wr.heap.size=g:=by omega);(have hbg2:¬ w2.heap.size=g:=by omega);clear q0 q1 q2 hb1 hbl hwo hfz e0;rw [HM.o.1,HM.o.2.2] at e1 e2;simp only at e1 e2;generalize wr.heap.size=bF at hF hbg hwz ⊢;have gz:=Ae hF;have ge:=Ae HE.o.1.1;have HF:=Ad (An (An hbg hbg2) hF);have HS:=Ad (An (Ab (Ai we) (AY HE.o.1.1)) (Ab (Ai we) (JZ hF)));clear hF hbg hbg2;refine Cj (S:=(fun w'=>w'.cell? ⟨w2.heap.size,1,none⟩=some (.slice (some ⟨g,0,none⟩) a2.length yc)∧w'.cell? ⟨bF,1,none⟩=some (.int .i64 X2))) (dep:=[10]) Kr HS.o (fun hHeld=>?_);refine Ao (i:=0) (oi:=_) (v:=?_) rfl Kr Kr Kr Kr (fun _ _ _ h=>h) (Or.inl ⟨by rfl,?_⟩) hHeld (fun hHeld=>?_);rotate_left
       · (intro w _;first | (go_simp;done) | (go_simp;with_reducible rfl))
       refine Pt ?_;refine Ao (i:=2) (oi:=_) (v:=?_) rfl Kr Kr Kr Kr (fun _ _ _ h=>h) (Or.inl ⟨by rfl,?_⟩) hHeld (fun hHeld=>?_);rotate_left
       · (intro w _;first | (go_simp;done) | (go_simp;with_reducible rfl))
       refine Pt ?_;refine Ao (i:=3) (oi:=_) (v:=?_) rfl Kr Kr Kr Kr (fun _ _ _ h=>h) (Or.inl ⟨by rfl,?_⟩) hHeld (fun hHeld=>?_);rotate_left
       · (intro w _;first | (go_simp;done) | (go_simp;with_reducible rfl))
       refine Pt ?_;refine Ao (i:=5) (oi:=_) (v:=?_) rfl Kr Kr Kr Kr (fun _ _ _ h=>h) (Or.inl ⟨by rfl,?_⟩) hHeld (fun hHeld=>?_);rotate_left
       · (intro w _;first | (go_simp;done) | (go_simp;with_reducible rfl))
       refine Pt ?_;refine Ao (i:=6) (oi:=_) (v:=?_) rfl Kr Kr Kr Kr (fun _ _ _ h=>h) (Or.inl ⟨by rfl,?_⟩) hHeld (fun hHeld=>?_);rotate_left
       · (intro w _;first | (go_simp;done) | (go_simp;with_reducible rfl))
       refine Pt ?_;refine AW (i:=1) (oi:=_) (v:=?_) rfl Kr Kr Kr Kr Kr (fun _ _ _ h=>h) (Or.inl ⟨by rfl,?_⟩) (hHeld (BC Kr)) ?_;rotate_left
       · (intro w hSw;obtain ⟨hS0,hS1⟩:=hSw;first | (go_simp;done) | (go_simp;with_reducible rfl))
       refine Pt ?_;replace hHeld:=fun (he:Early _ _)=>hHeld (Early.of_set (i:=1) he Dc);refine AW (i:=4) (oi:=_) (v:=?_) rfl Kr Kr Kr Kr Kr (fun _ _ _ h=>h) (Or.inl ⟨by rfl,?_⟩) (hHeld (BC Kr)) ?_;rotate_left
       · (intro w hSw;obtain ⟨hS0,hS1⟩:=hSw;first | (go_simp;done) | (go_simp;with_reducible rfl))
       refine Pt ?_;replace hHeld:=fun (he:Early _ _)=>hHeld (Early.of_set (i:=4) he Dc);refine AK (rs:=[7]) Kr Sp ?_;refine (AllReadyD.cons (o:=_) rfl (fun K hK=>?_) AllReadyD.nil);clear hHeld;go_simp
       (go_at_call 212;refine (Ct _ _ _ _).mono ?_;rintro e y1 ⟨rfl,rfl⟩)
       (go_wp2_with fail);refine hK.out _ _ ?_ (fun hHeld=>?_)
       · exact fun _=>HS.o
       clear hK K;refine Pt ?_;refine Ao (i:=8) (oi:=_) (v:=?_) rfl Kr Kr Kr Kr (fun _ _ _ h=>h) (Or.inl ⟨by rfl,?_⟩) hHeld (fun hHeld=>?_);rotate_left
       · (intro w _;first | (go_simp;done) | (go_simp;with_reducible rfl))
       refine Pt ?_;refine Ao (i:=9) (oi:=_) (v:=?_) rfl Kr Kr Kr Kr (fun _ _ _ h=>h) (Or.inl ⟨by rfl,?_⟩) hHeld (fun hHeld=>?_);rotate_left
       · (intro w _;first | (go_simp;done) | (go_simp;with_reducible rfl))
       refine Pt ?_;refine AK (rs:=[10]) Kr Sp ?_;refine (AllReadyD.cons (o:=_) rfl (fun K hK=>?_) AllReadyD.nil);clear hHeld;go_simp
       refine hK.out _ _ ?_ (fun hHeld=>?_)
       · exact Dd Kr
       clear hK K;refine Pt ?_;refine Db Kr ?_ _;clear hHeld;clear HS;have HS:=Ad (An (Ab (Ai _) (Ab (Ai _) (Em (r:=⟨g,n * 3+1,none⟩) (u:=.int .i64 (DL x t X2)) (AY HE.o.1.1) HF.o.1.2))) (Ab (Ai _) (Ab (Ai _) (Em (r:=⟨g,n * 3+1,none⟩) (u:=.int .i64 (DL x t X2)) (J0 HF.o.2) HF.o.1.1))));(go_upto_region 12 with fail);refine Cj (S:=(fun w'=>w'.cell? ⟨w2.heap.size,1,none⟩=some (.slice (some ⟨g,0,none⟩) a2.length yc)∧w'.cell? ⟨bF,2,none⟩=some (.int .i64 X3))) (dep:=[10]) Kr HS.o (fun hHeld=>?_);refine Ao (i:=0) (oi:=_) (v:=?_) rfl Kr Kr Kr Kr (fun _ _ _ h=>h) (Or.inl ⟨by rfl,?_⟩) hHeld (fun hHeld=>?_);rotate_left
       · (intro w _;first | (go_simp;done) | (go_simp;with_reducible rfl))
       refine Pt ?_;refine Ao (i:=2) (oi:=_) (v:=?_) rfl Kr Kr Kr Kr (fun _ _ _ h=>h) (Or.inl ⟨by rfl,?_⟩) hHeld (fun hHeld=>?_);rotate_left
       · (intro w _;first | (go_simp;done) | (go_simp;with_reducible rfl))
       refine Pt ?_;refine Ao (i:=3) (oi:=_) (v:=?_) rfl Kr Kr Kr Kr (fun _ _ _ h=>h) (Or.inl ⟨by rfl,?_⟩) hHeld (fun hHeld=>?_);rotate_left
       · (intro w _;first | (go_simp;done) | (go_simp;with_reducible rfl))
       refine Pt ?_;refine Ao (i:=5) (oi:=_) (v:=?_) rfl Kr Kr Kr Kr (fun _ _ _ h=>h) (Or.inl ⟨by rfl,?_⟩) hHeld (fun hHeld=>?_);rotate_left
       · (intro w _;first | (go_simp;done) | (go_simp;with_reducible rfl))
       refine Pt ?_;refine Ao (i:=6) (oi:=_) (v:=?_) rfl Kr Kr Kr Kr (fun _ _ _ h=>h) (Or.inl ⟨by rfl,?_⟩) hHeld (fun hHeld=>?_);rotate_left
       · (intro w _;first | (go_simp;done) | (go_simp;with_reducible rfl))
       refine Pt ?_;refine AW (i:=1) (oi:=_) (v:=?_) rfl Kr Kr Kr Kr Kr (fun _ _ _ h=>h) (Or.inl ⟨by rfl,?_⟩) (hHeld (BC Kr)) ?_;rotate_left
       · (intro w hSw;obtain ⟨hS0,hS1⟩:=hSw;first | (go_simp;done) | (go_simp;with_reducible rfl))
       refine Pt ?_;replace hHeld:=fun (he:Early _ _)=>hHeld (Early.of_set (i:=1) he Dc);refine AW (i:=4) (oi:=_) (v:=?_) rfl Kr Kr Kr Kr Kr (fun _ _ _ h=>h) (Or.inl ⟨by rfl,?_⟩) (hHeld (BC Kr)) ?_;rotate_left
       · (intro w hSw;obtain ⟨hS0,hS1⟩:=hSw;first | (go_simp;done) | (go_simp;with_reducible rfl))
       refine Pt ?_;replace hHeld:=fun (he:Early _ _)=>hHeld (Early.of_set (i:=4) he Dc);refine AK (rs:=[7]) Kr Sp ?_;refine (AllReadyD.cons (o:=_) rfl (fun K hK=>?_) AllReadyD.nil);clear hHeld;go_simp
       (go_at_call 212;refine (Ct _ _ _ _).mono ?_;rintro e y1 ⟨rfl,rfl⟩)
       (go_wp2_with fail);refine hK.out _ _ ?_ (fun hHeld=>?_)
       · exact fun _=>HS.o
       clear hK K;refine Pt ?_;refine Ao (i:=8) (oi:=_) (v:=?_) rfl Kr Kr Kr Kr (fun _ _ _ h=>h) (Or.inl ⟨by rfl,?_⟩) hHeld (fun hHeld=>?_);rotate_left
       · (intro w _;first | (go_simp;done) | (go_simp;with_reducible rfl))
       refine Pt ?_;refine Ao (i:=9) (oi:=_) (v:=?_) rfl Kr Kr Kr Kr (fun _ _ _ h=>h) (Or.inl ⟨by rfl,?_⟩) hHeld (fun hHeld=>?_);rotate_left
       · (intro w _;first | (go_simp;done) | (go_simp;with_reducible rfl))
       refine Pt ?_;refine AK (rs:=[10]) Kr Sp ?_;refine (AllReadyD.cons (o:=_) rfl (fun K hK=>?_) AllReadyD.nil);clear hHeld;go_simp
       refine hK.out _ _ ?_ (fun hHeld=>?_)
       · exact Dd Kr
       clear hK K;refine Pt ?_;refine Db Kr ?_ _;clear hHeld;clear HS;have hst:=HE.o.2.1.2.set12 (CL (f:=Q0 x t) (Nat.le_of_lt hn8)).symm (k:=n) (by rw [CL (Nat.le_of_lt hn8)];exact hn8) (DL x t X2) (DL x t X3);rw [HM.o.1,HM.o.2.2] at hst;rw [HM.o.2.1] at hst;have hA9:=Ax (Ax HE.o.1.1 ⟨g,n * 3+1,none⟩ (.int .i64 (DL x t X2)) HF.o.1.2) ⟨g,n * 3+2,none⟩ (.int .i64 (DL x t X3)) HF.o.1.2;have hR9:=Ax (Ax HE.o.1.2 ⟨g,n * 3+1,none⟩ (.int .i64 (DL x t X2)) (by show ¬ w.heap.size+1=g;omega)) ⟨g,n * 3+2,none⟩ (.int .i64 (DL x t X3)) (by show ¬ w.heap.size+1=g;omega);have hY9:=(HE.o.2.1.1.set_other ⟨g,n * 3+1,none⟩ (.int .i64 (DL x t X2)) hgy).set_other ⟨g,n * 3+2,none⟩ (.int .i64 (DL x t X3)) hgy;have hW9:=(HE.o.2.2.setCell (p:=⟨g,n * 3+1,none⟩) (by show w.heap.size≤g;omega) (.int .i64 (DL x t X2))).setCell (p:=⟨g,n * 3+2,none⟩) (by show w.heap.size≤g;omega) (.int .i64 (DL x t X3));have H9:=Ad (An (An hA9 hR9) (An (An hst hY9) hW9));clear hst hA9 hR9 hY9 hW9;go_wp2;go_roundg (gk - 1)
       case rel=>exact ⟨n+1,by have:=HN.o;omega,by go_num,⟨H9.o.1.1,H9.o.1.2⟩,⟨H9.o.2.1.2.keep Bl,H9.o.2.1.1.keep Bl⟩,bt H9.o.2.2 Bl⟩
       case measure=>have:=HN.o;omega
     · obtain rfl:n=a2.length:=by have:=HN.o;omega
       rw [Oj] at HR;obtain ⟨b0,b1,bz,bl⟩:=B4 HR.o.1.1;obtain ⟨r0,r1,rz,rl⟩:=B4 HR.o.1.2;have r:=Au (.slice xa a1.length xc) (.slice ya a2.length yc) r0 r1;have hs6:=El wr (w.heap.size+1) (.slice xa a1.length xc) (.slice ya a2.length yc);have kS:∀ k,k < wr.heap.size→(fun k=>w.heap.size+2≤k) k→¬ (fun j=>j=w.heap.size+1) k:=fun k _ h e=>by
        have h2:w.heap.size+2≤k:=h;have e2:k=w.heap.size+1:=e;omega
       have HO:=Ad (An (An ((HR.o.2.1.1.rl.kept hs6 kS).more fun k _ h=>(show w.heap.size≤k from Nat.le_trans Om h)) ((HR.o.2.1.2.rl.kept hs6 kS).more fun k _ h=>(show w.heap.size≤k from Nat.le_trans Om h))) (HR.o.2.2.trans (hs6.below (by have:=HR.o.2.2.size;omega) fun k hk e=>by have e2:k=w.heap.size+1:=e;omega)));clear hs6 kS;go_wp2;refine bodyPost_ret (v:=.agg #[.slice xa a1.length xc,.slice ya a2.length yc]) (by simp [results,Tryz.results151,go_sem,r.1,r.2]) rfl ?_;exact ⟨_,_,rfl,HO.o.1,HO.o.2⟩
end Go.Proofs.YtkbbmjcfgcfejaaGreat
