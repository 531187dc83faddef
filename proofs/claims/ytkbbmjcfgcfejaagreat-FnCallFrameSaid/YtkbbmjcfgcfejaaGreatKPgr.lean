/- Walks: an assertion of lists is drawn (reference: l10Pre). (Printed by gen_pre.py.) -/
import Derived.Test.YtkbbmjcfgcfejaaGreatKPas
import Derived.Test.YtkbbmjcfgcfejaaGreatKDHolds2
import Derived.Test.YtkbbmjcfgcfejaaGreatKChains
import Derived.Handy
import Derived.Deep.DeepMust
import Derived.Test.YtkbbmjcfgcfejaaGreatKBtxA
import Derived.Test.YtkbbmjcfgcfejaaGreatKData3
import Derived.Test.YtkbbmjcfgcfejaaGreatKAppF
set_option linter.unusedVariables false
set_option linter.unusedSimpArgs false
namespace Go.Proofs.YtkbbmjcfgcfejaaGreat
open Go.RowKit
def pre10:List (List UInt8):=[[116,114,117,101,32,124,32,97,126,110,105,108],[97,33,61,110,105,108,32,124,32,97,126,110,105,108],[116,114,117,101,32,124,32,97,126,110,105,108,32,42,32,98,126,110,105,108],[116,114,117,101,32,124,32,97,62,98,32,42,32,98,126,110,105,108],[116,114,117,101,32,124,32,97,62,110,105,108],[97,61,98,32,124,32,97,126,110,105,108],[116,114,117,101,32,124,32,97,62,112,32,42,32,112,126,110,105,108],[116,114,117,101,32,124,32,101,109,112],[116,114,117,101,32,124,32,97,126,98,32,42,32,98,62,110,105,108]]
theorem pre10_lit (w:World):RStrs (w.alloc (.cells #[.string ⟨#[116,114,117,101,32,124,32,97,126,110,105,108]⟩,.string ⟨#[97,33,61,110,105,108,32,124,32,97,126,110,105,108]⟩,.string ⟨#[116,114,117,101,32,124,32,97,126,110,105,108,32,42,32,98,126,110,105,108]⟩,.string ⟨#[116,114,117,101,32,124,32,97,62,98,32,42,32,98,126,110,105,108]⟩,.string ⟨#[116,114,117,101,32,124,32,97,62,110,105,108]⟩,.string ⟨#[97,61,98,32,124,32,97,126,110,105,108]⟩,.string ⟨#[116,114,117,101,32,124,32,97,62,112,32,42,32,112,126,110,105,108]⟩,.string ⟨#[116,114,117,101,32,124,32,101,109,112]⟩,.string ⟨#[116,114,117,101,32,124,32,97,126,98,32,42,32,98,62,110,105,108]⟩] 9)) w.heap.size pre10:=fun i hi=>by
 rw [World.cell?_alloc_mark]
 match i,hi with
 | 0,_=>rfl
 | 1,_=>rfl
 | 2,_=>rfl
 | 3,_=>rfl
 | 4,_=>rfl
 | 5,_=>rfl
 | 6,_=>rfl
 | 7,_=>rfl
 | 8,_=>rfl
theorem pre10_len:∀ x ∈ pre10,x.length≤1048576:=by decide
def AsnRes (g q:Nat) (w:World) (e:Ending) (w':World):Prop :=
 ∃ (v1 v2:Value) (a:Asn),e=.returned (.agg #[v1,v2])∧asnB a=true∧FE w' w.heap.size v1 a.1∧FE w' w.heap.size v2 a.2∧Rdr w' g q∧Fr (fun j=>j=g) w w'
theorem fe_drawn {α:Type} [Flat α] [Tid α] {w w':World} {B g:Nat} {v:Value} {l:List α} (h:FE w B v l) (hf:Fr (fun j=>j=g) w w') (hg:g < B):FE w' B v l :=
 h.kept hf fun k hk e=>by
  have e2:k=g:=e
  have:=hk.1
  omega
theorem pre_res {g q:Nat} {w w':World} {v1 v2:Value} {a:Asn} (ha:asnB a=true) (h1:FE w' w.heap.size v1 a.1) (h2:FE w' w.heap.size v2 a.2) (hr:Rdr w' g q) (hf:Fr (fun j=>j=g) w w') (hR:w'.heap[w.heap.size]?=some (.cells #[.slice none 0 0,.slice none 0 0] 26 (0,0))) (hg:g < w.heap.size) (x y:Value) :
 asnB a=true∧FE ((w'.setCell ⟨w.heap.size,0,none⟩ x).setCell ⟨w.heap.size,1,none⟩ y) w.heap.size v1 a.1∧FE ((w'.setCell ⟨w.heap.size,0,none⟩ x).setCell ⟨w.heap.size,1,none⟩ y) w.heap.size v2 a.2∧Rdr ((w'.setCell ⟨w.heap.size,0,none⟩ x).setCell ⟨w.heap.size,1,none⟩ y) g q∧Fr (fun j=>j=g) w ((w'.setCell ⟨w.heap.size,0,none⟩ x).setCell ⟨w.heap.size,1,none⟩ y) :=
 ⟨ha,h1.set2 hR (by decide),h2.set2 hR (by decide),(hr.kept (fr_set _ _ _) (fun j h e=>by simp at e;omega)).kept (fr_set _ _ _) (fun j h e=>by simp at e;omega),
   (hf.then (fr_set _ _ _) (fun i hi e=>by simp at e;omega)).then (fr_set _ _ _) (fun i hi e=>by simp at e;omega)⟩
set_option maxRecDepth 100000 in
set_option maxHeartbeats 3200000 in
theorem l10Pre_any (g q:Nat) (w:World) (hr:Rdr w g q) (hq:q≤800000) :
 Calls Tryz.prog 203 #[.pointer (some ⟨g,0,none⟩)] w (AsnRes g (q+16) w):=by
 have hgl:=hr.lt
 have hlit:=pre10_lit (w.alloc (.cells #[.slice none 0 0,.slice none 0 0] 26))
 have hz0:(w.alloc (.cells #[.slice none 0 0,.slice none 0 0] 26)).heap.size=w.heap.size+1:=World.size_alloc _ _
 rw [hz0] at hlit
 have HLIT:=Lib.hid hlit
 have hF0:Fr (fun j=>j=g) w ((w.alloc (.cells #[.slice none 0 0,.slice none 0 0] 26)).alloc (.cells #[.string ⟨#[116,114,117,101,32,124,32,97,126,110,105,108]⟩,.string ⟨#[97,33,61,110,105,108,32,124,32,97,126,110,105,108]⟩,.string ⟨#[116,114,117,101,32,124,32,97,126,110,105,108,32,42,32,98,126,110,105,108]⟩,.string ⟨#[116,114,117,101,32,124,32,97,62,98,32,42,32,98,126,110,105,108]⟩,.string ⟨#[116,114,117,101,32,124,32,97,62,110,105,108]⟩,.string ⟨#[97,61,98,32,124,32,97,126,110,105,108]⟩,.string ⟨#[116,114,117,101,32,124,32,97,62,112,32,42,32,112,126,110,105,108]⟩,.string ⟨#[116,114,117,101,32,124,32,101,109,112]⟩,.string ⟨#[116,114,117,101,32,124,32,97,126,98,32,42,32,98,62,110,105,108]⟩] 9)):=(Below.fr (bt (below_alloc w _) (below_alloc _ _))).mono fun _ _ h=>h.elim
 have HF0:=Lib.hid hF0
 have HR0:=Lib.hid (box_keep (heap_alloc_new w (.cells #[.slice none 0 0,.slice none 0 0] 26)) (below_alloc (w.alloc (.cells #[.slice none 0 0,.slice none 0 0] 26)) (.cells #[.string ⟨#[116,114,117,101,32,124,32,97,126,110,105,108]⟩,.string ⟨#[97,33,61,110,105,108,32,124,32,97,126,110,105,108]⟩,.string ⟨#[116,114,117,101,32,124,32,97,126,110,105,108,32,42,32,98,126,110,105,108]⟩,.string ⟨#[116,114,117,101,32,124,32,97,62,98,32,42,32,98,126,110,105,108]⟩,.string ⟨#[116,114,117,101,32,124,32,97,62,110,105,108]⟩,.string ⟨#[97,61,98,32,124,32,97,126,110,105,108]⟩,.string ⟨#[116,114,117,101,32,124,32,97,62,112,32,42,32,112,126,110,105,108]⟩,.string ⟨#[116,114,117,101,32,124,32,101,109,112]⟩,.string ⟨#[116,114,117,101,32,124,32,97,126,98,32,42,32,98,62,110,105,108]⟩] 9)))
 clear hF0 hlit hz0
 go_enter Tryz.func203,Tryz.ntmps203
 go_wp2_with fail
 refine (of_any g q _ 9 9 pre10 _ ((hr.keep (below_alloc _ _)).keep (below_alloc _ _)) (by omega) rfl (by decide) (by decide) (by omega) HLIT.out).mono ?_
 rintro e w1 ⟨t,ht,rfl,hr1,hf1⟩
 have HF1:=Lib.hid (HF0.out.trans hf1)
 have hz1:=HF1.out.size
 have HT:=Lib.hid (pre10_len t ht)
 have HR1:=Lib.hid (box_kept HR0.out hf1 (by omega))
 clear hr hf1 ht HLIT HR0
 go_wp2_with fail
 refine (parseAsnS_any t _ HT.out).mono ?_
 rintro e w2 ⟨y1,y2,rfl,⟨o1,o2⟩,hb2⟩
 obtain ⟨ya,yc,rfl⟩:=o1.form
 obtain ⟨za,zc,rfl⟩:=o2.form
 have hz2:=hb2.size
 have HF2:=Lib.hid (HF1.out.thenB hb2)
 have HR2:=Lib.hid (box_keep HR1.out hb2)
 have hr2:=hr1.keep hb2
 have HO:=Lib.hid (And.intro (o1.mono (B':=w.heap.size+1) (by have:=box_lt HR1.out;omega)) (o2.mono (B':=w.heap.size+1) (by have:=box_lt HR1.out;omega)))
 clear hr1 o1 o2 hb2
 cases hp:asnO t with
 | none =>
   have hs0:(none:Option Asn).isSome=false:=rfl
   clear hp
   have HR2b:=Lib.hid (box_keep HR2.out (below_alloc w2 (.cells #[.slice ya (asnR t).1.length yc,.slice za (asnR t).2.length zc] 26)))
   go_wp2_with fail
   refine (l6Chains_any g (q+1) _ (hr2.keep (below_alloc _ _)) (by omega)).mono ?_
   rintro e w3 ⟨x1,x2,a,rfl,hva,hla,p1,p2,hr3,hf3⟩
   obtain ⟨xa,xc,rfl⟩:=p1.form
   obtain ⟨ua,uc,rfl⟩:=p2.form
   have hR3:=box_kept HR2b.out hf3 (by omega)
   have r0:=box0 hR3
   have r1:=box1 hR3
   have rz:=boxz hR3
   have rl:=box_lt hR3
   have rr:=box_two (.slice xa a.1.length xc) (.slice ua a.2.length uc) r0 r1
   have HP:=Lib.hid (pre_res hva (p1.mono (B':=w.heap.size) (by simp;omega)) (p2.mono (B':=w.heap.size) (by simp;omega)) (hr3.more (show q+1+13≤q+16 by omega)) ((HF2.out.thenB (below_alloc _ _)).trans hf3) hR3 hgl (.slice xa a.1.length xc) (.slice ua a.2.length uc))
   clear hva hla p1 p2 hr3 hf3 hr2 hR3 HR2b
   go_wp2
   refine bodyPost_ret (v:=.agg #[.slice xa a.1.length xc,.slice ua a.2.length uc]) (by simp [results,Tryz.results203,go_sem,rr.1,rr.2]) rfl ?_
   exact ⟨_,_,a,rfl,HP.out⟩
 | some a =>
   have hs0:(some a).isSome=true:=rfl
   have HV:=Lib.hid (asnO_valid hp).1
   have hpr:asnR t=a:=by rw [asnR,hp];rfl
   rw [hpr] at HO ⊢
   clear hp hpr
   have hbA:=heap_alloc_new w2 (.cells #[.slice ya a.1.length yc,.slice za a.2.length zc] 26)
   have HR2b:=Lib.hid (box_keep HR2.out (below_alloc w2 (.cells #[.slice ya a.1.length yc,.slice za a.2.length zc] 26)))
   go_wp2_with fail
   refine (pick_any g (q+1) 4 _ (hr2.keep (below_alloc _ _)) (by omega) (by decide) (by decide)).mono ?_
   rintro e w3 ⟨k,rfl,hk,hr3,hf3⟩
   have hgw2:=hr2.lt
   have hA3:=box_kept hbA hf3 (show ¬ w2.heap.size=g by omega)
   have a0:=box0 hA3
   have a1:=box1 hA3
   have al:=box_lt hA3
   have hR3:=box_kept HR2b.out hf3 (by omega)
   have HL:=Lib.hid (And.intro (And.intro (fe_drawn (HO.out.1.alloc _) hf3 (by omega)) (fe_drawn (HO.out.2.alloc _) hf3 (by omega))) ((HF2.out.thenB (below_alloc _ _)).trans hf3))
   have HR3:=Lib.hid hR3
   clear hf3 hA3 hbA hr2 HR2b hR3
   by_cases hk0:0 < k
   · have i1:(0:Int) < (k:Int):=by omega
     have r0:=box0 HR3.out
     have r1:=box1 HR3.out
     have rz:=boxz HR3.out
     have rl:=box_lt HR3.out
     have rr:=box_two (.slice ya a.1.length yc) (.slice za a.2.length zc) r0 r1
     have HP:=Lib.hid (pre_res HV.out (HL.out.1.1.mono (B':=w.heap.size) (by omega)) (HL.out.1.2.mono (B':=w.heap.size) (by omega)) (hr3.more (show q+1+1≤q+16 by omega)) HL.out.2 HR3.out hgl (.slice ya a.1.length yc) (.slice za a.2.length zc))
     clear hr3
     go_wp2
     refine bodyPost_ret (v:=.agg #[.slice ya a.1.length yc,.slice za a.2.length zc]) (by simp [results,Tryz.results203,go_sem,rr.1,rr.2]) rfl ?_
     exact ⟨_,_,a,rfl,HP.out⟩
   · have i1:¬ (0:Int) < (k:Int):=by omega
     have hz3:=HL.out.2.size
     clear a0 a1 al
     go_wp2_with fail
     refine (l6Chains_any g (q+1+1) _ hr3 (by omega)).mono ?_
     rintro e w4 ⟨x1,x2,b,rfl,hva,hla,p1,p2,hr4,hf4⟩
     obtain ⟨xa,xc,rfl⟩:=p1.form
     obtain ⟨ua,uc,rfl⟩:=p2.form
     have hR4:=box_kept HR3.out hf4 (by omega)
     have r0:=box0 hR4
     have r1:=box1 hR4
     have rz:=boxz hR4
     have rl:=box_lt hR4
     have rr:=box_two (.slice xa b.1.length xc) (.slice ua b.2.length uc) r0 r1
     have HP:=Lib.hid (pre_res hva (p1.mono (B':=w.heap.size) (by omega)) (p2.mono (B':=w.heap.size) (by omega)) (hr4.more (show q+1+1+13≤q+16 by omega)) (HL.out.2.trans hf4) hR4 hgl (.slice xa b.1.length xc) (.slice ua b.2.length uc))
     clear hva hla p1 p2 hr4 hf4 hr3 hR4
     go_wp2
     refine bodyPost_ret (v:=.agg #[.slice xa b.1.length xc,.slice ua b.2.length uc]) (by simp [results,Tryz.results203,go_sem,rr.1,rr.2]) rfl ?_
     exact ⟨_,_,b,rfl,HP.out⟩
end Go.Proofs.YtkbbmjcfgcfejaaGreat
set_option linter.unusedVariables false
namespace Go.Proofs.YtkbbmjcfgcfejaaGreat
open Go.RowKit
def FW2 {α:Type} [Flat α] [Tid α] (w:World) (B:Nat) (v:Value) (l:List α) (fp:List Nat):Prop:=(l=[]∧fp=[]∧∃ a,v=.slice a 0 0)∨(OL w B v l fp∧fp=v.ownBlock.toList)
section
variable {α:Type} [Flat α] [Tid α] {w w':World} {B B':Nat} {v:Value} {l:List α} {fp:List Nat} {T:Nat→Prop}
theorem FW2.lt (h:FW2 w B v l fp):∀ k ∈ fp,B≤k∧k < w.heap.size:=by
 rcases h with ⟨_,rfl,_⟩ | ⟨h,_⟩
 · intro k hk;cases hk
 · exact h.lt
theorem FW2.read (h:FW2 w B v l fp):RL w (· ∈ fp) v l:=by
 rcases h with ⟨rfl,rfl,a,rfl⟩ | ⟨h,_⟩
 · exact .inl ⟨a,0,rfl,rfl,by unfold maxLen;omega,fun _=>rfl⟩
 · exact h.read
theorem FW2.okept (h:FW2 w B v l fp) (hf:Fr T w w') (hs:∀ k ∈ fp,¬ T k):FW2 w' B v l fp:=by
 rcases h with h | ⟨h,e⟩
 · exact .inl h
 · exact .inr ⟨h.okept hf hs,e⟩
theorem FW2.mono (h:FW2 w B v l fp) (hB:B'≤B):FW2 w B' v l fp:=by
 rcases h with h | ⟨h,e⟩
 · exact .inl h
 · exact .inr ⟨h.mono hB,e⟩
end
def InvA:Type:=Asn
instance:Own InvA where
 default:=(([],[]):Asn)
 sz:=2
 rd:=fun w S a cs=>Dat.rd (α:=Asn) w S a cs
 len:=fun h=>Dat.len (α:=Asn) h
 kept:=fun h hf hs=>Dat.kept (α:=Asn) h hf hs
 more:=fun h hs=>Dat.more (α:=Asn) h hs
 one:=fun h=>Dat.one (α:=Asn) h
 own:=fun w B (a:Asn) cs fp=>∃ v1 v2 f1 f2,cs=[v1,v2]∧fp=f1 ++ f2∧FW2 w B v1 a.1 f1∧FW2 w B v2 a.2 f2
 lt:=fun h k hk=>by
  obtain ⟨v1,v2,f1,f2,_,rfl,h1,h2⟩:=h
  rcases List.mem_append.1 hk with hk | hk
  · exact h1.lt k hk
  · exact h2.lt k hk
 read:=fun h=>by
  obtain ⟨v1,v2,f1,f2,rfl,rfl,h1,h2⟩:=h
  exact rd_asn_mk (h1.read.more fun k _ hk=>List.mem_append_left _ hk) (h2.read.more fun k _ hk=>List.mem_append_right _ hk)
 okept:=fun h hf hs=>by
  obtain ⟨v1,v2,f1,f2,e1,rfl,h1,h2⟩:=h
  exact ⟨v1,v2,f1,f2,e1,rfl,h1.okept hf fun k hk=>hs k (List.mem_append_left _ hk),h2.okept hf fun k hk=>hs k (List.mem_append_right _ hk)⟩
 mono:=fun h hB=>by
  obtain ⟨v1,v2,f1,f2,e1,e2,h1,h2⟩:=h
  exact ⟨v1,v2,f1,f2,e1,e2,h1.mono hB,h2.mono hB⟩
def Cm:Nat→Type
 | 0=>Unit
 | d+1=>Int × Int × Int × Fact × InvA × List (Cm d) × List (Cm d)
instance tidCm (d:Nat):Tid (Cm d):=⟨63⟩
instance ownCm:(d:Nat)→Own (Cm d)
 | 0=>{ default:=(),sz:=10,rd:=fun _ _ _ _=>False,len:=fun h=>h.elim,kept:=fun h _ _=>h,more:=fun h _=>h,one:=fun h=>h.elim,
        own:=fun _ _ _ _ _=>False,lt:=fun h=>h.elim,read:=fun h=>h,okept:=fun h _ _=>h,mono:=fun h _=>h }
 | d+1=>by
   haveI:=ownCm d
   exact inferInstanceAs (Own (Int × Int × Int × Fact × InvA × List (Cm d) × List (Cm d)))
section
variable {d:Nat}
def Cm.kind (c:Cm (d+1)):Int:=c.1
def Cm.a (c:Cm (d+1)):Int:=c.2.1
def Cm.b (c:Cm (d+1)):Int:=c.2.2.1
def Cm.test (c:Cm (d+1)):Fact:=c.2.2.2.1
def Cm.inv (c:Cm (d+1)):Asn:=c.2.2.2.2.1
def Cm.body (c:Cm (d+1)):List (Cm d):=c.2.2.2.2.2.1
def Cm.els (c:Cm (d+1)):List (Cm d):=c.2.2.2.2.2.2
def Cm.mk (k a b:Int) (t:Fact) (i:Asn) (x y:List (Cm d)):Cm (d+1):=(k,a,b,t,i,x,y)
def cmCells (k a b:Int) (t:Fact) (f1 f2 x y:Value):List Value:=[.int .i64 k,.int .i64 a,.int .i64 b,.bool t.1,.int .i64 t.2.1,.int .i64 t.2.2,f1,f2,x,y]
end
theorem sz_cm (d:Nat):Dat.sz (Cm d)=10:=by cases d <;> rfl
section
variable {d:Nat} {w:World} {S:Nat→Prop} {B:Nat} {v:Value}
theorem rd_cm {c:Cm (d+1)} {cs:List Value} (h:Dat.rd w S c cs) :
 ∃ f1 f2 x y,cs=cmCells c.kind c.a c.b c.test f1 f2 x y∧(RL w S f1 c.inv.1∧RL w S f2 c.inv.2)∧(RL w S x c.body∧RL w S y c.els):=by
 obtain ⟨c1,r1,rfl,h1,c2,r2,rfl,h2,c3,r3,rfl,h3,c4,r4,rfl,h4,c5,r5,rfl,h5,c6,r6,rfl,h6,h7⟩:=h
 obtain ⟨x,e6,k6⟩:=rd_list h6
 obtain ⟨y,e7,k7⟩:=rd_list h7
 subst e6 e7
 obtain ⟨f1,f2,rfl,g1,g2⟩:=rd_asn h5
 have e4:=rd_fact h4
 subst e4
 have e1:c1=[.int .i64 c.1]:=h1
 have e2:c2=[.int .i64 c.2.1]:=h2
 have e3:c3=[.int .i64 c.2.2.1]:=h3
 subst e1 e2 e3
 exact ⟨f1,f2,x,y,rfl,⟨g1,g2⟩,k6,k7⟩
theorem rd_cm_mk {c:Cm (d+1)} {f1 f2 x y:Value} (h1:RL w S f1 c.inv.1) (h2:RL w S f2 c.inv.2) (h3:RL w S x c.body) (h4:RL w S y c.els):Dat.rd w S c (cmCells c.kind c.a c.b c.test f1 f2 x y) :=
 ⟨[.int .i64 c.1],_,rfl,rfl,[.int .i64 c.2.1],_,rfl,rfl,[.int .i64 c.2.2.1],_,rfl,rfl,[.bool c.test.1,.int .i64 c.test.2.1,.int .i64 c.test.2.2],_,rfl,rd_fact_mk w S c.test,[f1,f2],[x,y],rfl,⟨[f1],[f2],rfl,⟨f1,rfl,h1⟩,f2,rfl,h2⟩,[x],[y],rfl,⟨x,rfl,h3⟩,y,rfl,h4⟩
theorem RL.cmAt {l:List (Cm (d+1))} (h:RL w S v l):∃ a cap,v=.slice a l.length cap∧l.length≤cap∧cap≤maxLen ∧
 ∀ i,i < l.length→∃ b o f1 f2 x y,a=some ⟨b,o,none⟩∧S b∧b < w.heap.size∧(∀ j u,(cmCells (gd l i).kind (gd l i).a (gd l i).b (gd l i).test f1 f2 x y)[j]?=some u→w.cell? ⟨b,o+i * 10+j,none⟩=some u) ∧
   (RL w S f1 (gd l i).inv.1∧RL w S f2 (gd l i).inv.2)∧(RL w S x (gd l i).body∧RL w S y (gd l i).els):=by
 obtain ⟨a,cap,e,h1,h2,h3⟩:=h.cells
 refine ⟨a,cap,e,h1,h2,fun i hi=>?_⟩
 obtain ⟨b,o,ea,hs,hb,cs,hr,hc⟩:=h3 i hi
 obtain ⟨f1,f2,x,y,rfl,g1,g2⟩:=rd_cm hr
 refine ⟨b,o,f1,f2,x,y,ea,hs,hb,fun j u hj=>?_,g1,g2⟩
 have:=hc j u hj
 rw [sz_cm] at this
 rwa [← Nat.add_assoc] at this
theorem RL.cm0 {l:List (Cm 0)} (h:RL w S v l):l=[]:=by
 cases l with
 | nil=>rfl
 | cons c l =>
   obtain ⟨a,cap,e,h1,h2,h3⟩:=h.cells
   obtain ⟨b,o,ea,hs,hb,cs,hr,hc⟩:=h3 0 (by simp)
   exact hr.elim
end
end Go.Proofs.YtkbbmjcfgcfejaaGreat
namespace Go.Proofs.YtkbbmjcfgcfejaaGreat
open Go.RowKit
theorem OO.ints {w:World} {B:Nat} {v:Value} {l:List Int} (h:w.ownsRow B 3 1 v l.length (ints l)):OO w B v l:=⟨_,ints_OL h,nodup_own v⟩
section
variable {α:Type} [Own α] [Tid α] {w0 w2:World} {B:Nat} {v:Value} {l:List α} {T:Nat→Prop}
theorem PL.grow (h:PL w0 B v l.length l l.length) (hf0:Fr T w0 w2) (hT:∀ k,B≤k→k < w0.heap.size→¬ T k) (hB:B≤w0.heap.size) :
 ∃ xs,w2.ownsRow B (Tid.tid α) (Dat.sz α) v l.length xs∧∀ (x:α) (cs:List Value) (fx:List Nat) (v':Value) (w3:World),Own.own w2 w0.heap.size x cs fx→fx.Nodup→Fr (fun k=>some k=v.ownBlock) w2 w3 →
   w3.ownsRow B (Tid.tid α) (Dat.sz α) v' (l.length+1) (xs ++ cs)→(v'.ownBlock=v.ownBlock∨v'.ownBlock=some w2.heap.size)→PL w3 B v' (l ++ [x]).length (l ++ [x]) (l ++ [x]).length:=by
 obtain ⟨xs,fps,hr,hfl,hn,ho⟩:=h
 have hr2:=own_kept hr hf0 (fun k hk=>hT k (own_lt hr hk).1 (own_lt hr hk).2)
 refine ⟨xs,hr2,fun x cs fx v' w3 hx hfx hf hr3 hlie=>?_⟩
 have ho2:∀ i,i < l.length→Own.own w2 B (gd l i) (nth (Dat.sz α) xs i) (gd fps i):=fun i hi=>Own.okept (ho i hi) hf0 fun k hk=>hT k (Own.lt (ho i hi) k hk).1 (Own.lt (ho i hi) k hk).2
 have hlt1:∀ k ∈ fps.flatten,k < w0.heap.size:=fun k hk=>by
  obtain ⟨i,hi,hm⟩:=flat_mem hk
  exact (Own.lt (ho i (by omega)) k hm).2
 have hlt2:∀ k ∈ fx,w0.heap.size≤k∧k < w2.heap.size:=fun k hk=>Own.lt hx k hk
 have hn0:=List.nodup_append.1 hn
 have hz:=hf0.size
 have hvl:∀ k,some k=v.ownBlock→k < w0.heap.size:=fun k hk=>(own_lt hr hk).2
 refine ⟨xs ++ cs,fps ++ [fx],by rw [List.length_append];exact hr3,by simp [hfl],?_,fun i hi=>?_⟩
 · rw [List.flatten_append,List.flatten_cons,List.flatten_nil,List.append_nil]
   refine List.nodup_append.2 ⟨nodup_own v',List.nodup_append.2 ⟨hn0.2.1,hfx,fun a ha b hb e=>by
    have:=hlt1 a ha
    have:=(hlt2 b hb).1
    omega⟩,fun a ha b hb2 e=>?_⟩
   subst e
   have ha':=mem_ownBlock.1 ha
   rcases hlie with h | h
   · rw [h] at ha'
     rcases List.mem_append.1 hb2 with hm | hm
     · exact hn0.2.2 a (mem_ownBlock.2 ha') a hm rfl
     · have:=hvl a ha'
       have:=(hlt2 a hm).1
       omega
   · rw [h] at ha'
     injection ha' with ha'
     rcases List.mem_append.1 hb2 with hm | hm
     · have:=hlt1 a hm;omega
     · have:=(hlt2 a hm).2;omega
 · rw [List.length_append,List.length_singleton] at hi
   by_cases hlt:i < l.length
   · rw [gd_app1 hlt,gd_app1 (by omega),nth_app1 hr.1 hlt]
     refine Own.okept (ho2 i hlt) hf fun k hk e=>?_
     exact hn0.2.2 k (mem_ownBlock.2 e) k (mem_flat (by omega) hk) rfl
   · obtain rfl:i=l.length:=by omega
     rw [gd_snoc,nth_app2 hr.1 (Dat.len (Own.read hx)),← hfl,gd_snoc]
     exact Own.mono (Own.okept hx hf fun k hk e=>by have:=hvl k e;have:=(hlt2 k hk).1;omega) hB
theorem OO.pl (h:OO w0 B v l):PL w0 B v l.length l l.length:=by
 obtain ⟨fp,⟨xs,fps,hr,hl,rfl,ho⟩,hn⟩:=h
 exact ⟨xs,fps,hr,hl,hn,ho⟩
theorem OO.nil (w:World) (B:Nat):OO w B (.slice none 0 0) ([]:List α):=⟨[],OL.nil _ _,List.nodup_nil⟩
end
theorem ti_ints:TI 238 27 1:=ti_mk Tryz.underlying238 info_IntSS (by decide) rfl (by decide)
theorem news1 (w:World) (u:Value) (e:TypeId):0 < 1→∃ b o,some (⟨w.heap.size,0,none⟩:Addr)=some ⟨b,o,none⟩∧∀ j x,[u][j]?=some x→(w.alloc (.cells #[u] e)).cell? ⟨b,o+j,none⟩=some x:=fun _ =>
 ⟨w.heap.size,0,rfl,fun j x hj=>by
   match j,hj with
   | 0,hj=>simp at hj;subst hj;simp⟩
theorem one1 (a:Option Addr) (n c:Nat):∀ u ∈ [Value.slice a n c],u.oneCell'=true:=fun u hu=>by
 simp at hu;subst hu;rfl
end Go.Proofs.YtkbbmjcfgcfejaaGreat
namespace Go.Proofs.YtkbbmjcfgcfejaaGreat
open Go.RowKit
end Go.Proofs.YtkbbmjcfgcfejaaGreat
