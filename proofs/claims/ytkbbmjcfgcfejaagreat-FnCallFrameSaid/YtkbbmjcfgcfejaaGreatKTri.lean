/- Walks: a triple is drawn (reference: l11Triple). (Printed by gen_tri.py.) -/
import Derived.Test.YtkbbmjcfgcfejaaGreatKPgr
import Derived.Test.YtkbbmjcfgcfejaaGreatKCmdB
import Derived.Test.YtkbbmjcfgcfejaaGreatKWkA
import Derived.Handy
import Derived.Deep.DeepMust
import Derived.Deep.Cut
import Derived.Deep.DeepCutAuto
set_option linter.unusedVariables false
set_option linter.unusedSimpArgs false
namespace Go.Proofs.YtkbbmjcfgcfejaaGreat
open Go.RowKit
def tri11:List (List (List UInt8)):=[[[116,114,117,101,32,124,32,97,126,110,105,108],[119,104,105,108,101,32,97,33,61,110,105,108,32,119,105,116,104,32,116,114,117,101,32,124,32,97,126,110,105,108,10,99,58,61,91,97,93,10,102,114,101,101,32,97,10,97,58,61,99,10,101,110,100,10],[116,114,117,101,32,124,32,101,109,112]],[[116,114,117,101,32,124,32,97,126,110,105,108],[99,58,61,110,105,108,10,119,104,105,108,101,32,97,33,61,110,105,108,32,119,105,116,104,32,116,114,117,101,32,124,32,97,126,110,105,108,32,42,32,99,126,110,105,108,10,100,58,61,91,97,93,10,91,97,93,58,61,99,10,99,58,61,97,10,97,58,61,100,10,101,110,100,10],[116,114,117,101,32,124,32,99,126,110,105,108]],[[116,114,117,101,32,124,32,97,126,110,105,108,32,42,32,98,126,110,105,108],[105,102,32,97,33,61,110,105,108,10,99,58,61,91,97,93,10,91,97,93,58,61,98,10,98,58,61,97,10,97,58,61,99,10,101,110,100,10],[116,114,117,101,32,124,32,97,126,110,105,108,32,42,32,98,126,110,105,108]],[[116,114,117,101,32,124,32,97,126,110,105,108],[110,101,119,32,99,10,91,99,93,58,61,97,10,97,58,61,99,10],[116,114,117,101,32,124,32,97,126,110,105,108]],[[116,114,117,101,32,124,32,97,126,110,105,108],[99,58,61,97,10,119,104,105,108,101,32,99,33,61,110,105,108,32,119,105,116,104,32,116,114,117,101,32,124,32,97,126,99,32,42,32,99,126,110,105,108,10,99,58,61,91,99,93,10,101,110,100,10],[99,61,110,105,108,32,124,32,97,126,110,105,108]],[[112,61,97,32,124,32,97,126,110,105,108],[98,58,61,97,10],[98,61,112,32,124,32,98,126,110,105,108]],[[116,114,117,101,32,124,32,97,126,110,105,108,32,42,32,112,126,110,105,108],[119,104,105,108,101,32,97,33,61,110,105,108,32,119,105,116,104,32,116,114,117,101,32,124,32,97,126,110,105,108,10,99,58,61,91,97,93,10,102,114,101,101,32,97,10,97,58,61,99,10,101,110,100,10],[116,114,117,101,32,124,32,112,126,110,105,108]],[[116,114,117,101,32,124,32,97,62,112],[98,58,61,91,97,93,10,102,114,101,101,32,97,10],[98,61,112,32,124,32,101,109,112]]]
def allocs (w:World):List Obj→World
 | []=>w
 | o :: r=>allocs (w.alloc o) r
theorem allocs_below:∀ (os:List Obj) (w:World),Below w.heap.size w (allocs w os)
 | [],w=>Below.refl _ _
 | o :: r,w=>bt (below_alloc w o) (allocs_below r (w.alloc o))
theorem allocs_at:∀ (os:List Obj) (i:Nat) (w:World) (cs:Array Value) (T:TypeId),os[i]?=some (.cells cs T (0,0))→(allocs w os).heap[w.heap.size+i]?=some (.cells cs T (0,0))
 | [],i,w,cs,T,h=>by simp at h
 | o :: r,0,w,cs,T,h=>by
   have e:o=.cells cs T (0,0):=by simpa using h
   subst e
   exact box_keep (heap_alloc_new w _) (allocs_below r _)
 | o :: r,i+1,w,cs,T,h=>by
   have:=allocs_at r i (w.alloc o) cs T (by simpa using h)
   rw [World.size_alloc] at this
   rw [show w.heap.size+(i+1)=w.heap.size+1+i by omega];exact this
theorem rstrs_of {w:World} {b:Nat} {x y z:List UInt8} {T:TypeId} (h:w.heap[b]?=some (.cells #[.string (btx x),.string (btx y),.string (btx z)] T (0,0))):RStrs w b [x,y,z]:=fun i hi=>by
 match i,hi with
 | 0,_=>exact cell_of_row w b 0 _ _ _ h
 | 1,_=>exact cell_of_row w b 1 _ _ _ h
 | 2,_=>exact cell_of_row w b 2 _ _ _ h
def triO (g:Nat):List Obj:=[.cells #[.string ⟨#[116,114,117,101,32,124,32,97,126,110,105,108]⟩,.string ⟨#[119,104,105,108,101,32,97,33,61,110,105,108,32,119,105,116,104,32,116,114,117,101,32,124,32,97,126,110,105,108,10,99,58,61,91,97,93,10,102,114,101,101,32,97,10,97,58,61,99,10,101,110,100,10]⟩,.string ⟨#[116,114,117,101,32,124,32,101,109,112]⟩] 9,.cells #[.string ⟨#[116,114,117,101,32,124,32,97,126,110,105,108]⟩,.string ⟨#[99,58,61,110,105,108,10,119,104,105,108,101,32,97,33,61,110,105,108,32,119,105,116,104,32,116,114,117,101,32,124,32,97,126,110,105,108,32,42,32,99,126,110,105,108,10,100,58,61,91,97,93,10,91,97,93,58,61,99,10,99,58,61,97,10,97,58,61,100,10,101,110,100,10]⟩,.string ⟨#[116,114,117,101,32,124,32,99,126,110,105,108]⟩] 9,.cells #[.string ⟨#[116,114,117,101,32,124,32,97,126,110,105,108,32,42,32,98,126,110,105,108]⟩,.string ⟨#[105,102,32,97,33,61,110,105,108,10,99,58,61,91,97,93,10,91,97,93,58,61,98,10,98,58,61,97,10,97,58,61,99,10,101,110,100,10]⟩,.string ⟨#[116,114,117,101,32,124,32,97,126,110,105,108,32,42,32,98,126,110,105,108]⟩] 9,.cells #[.string ⟨#[116,114,117,101,32,124,32,97,126,110,105,108]⟩,.string ⟨#[110,101,119,32,99,10,91,99,93,58,61,97,10,97,58,61,99,10]⟩,.string ⟨#[116,114,117,101,32,124,32,97,126,110,105,108]⟩] 9,.cells #[.string ⟨#[116,114,117,101,32,124,32,97,126,110,105,108]⟩,.string ⟨#[99,58,61,97,10,119,104,105,108,101,32,99,33,61,110,105,108,32,119,105,116,104,32,116,114,117,101,32,124,32,97,126,99,32,42,32,99,126,110,105,108,10,99,58,61,91,99,93,10,101,110,100,10]⟩,.string ⟨#[99,61,110,105,108,32,124,32,97,126,110,105,108]⟩] 9,.cells #[.string ⟨#[112,61,97,32,124,32,97,126,110,105,108]⟩,.string ⟨#[98,58,61,97,10]⟩,.string ⟨#[98,61,112,32,124,32,98,126,110,105,108]⟩] 9,.cells #[.string ⟨#[116,114,117,101,32,124,32,97,126,110,105,108,32,42,32,112,126,110,105,108]⟩,.string ⟨#[119,104,105,108,101,32,97,33,61,110,105,108,32,119,105,116,104,32,116,114,117,101,32,124,32,97,126,110,105,108,10,99,58,61,91,97,93,10,102,114,101,101,32,97,10,97,58,61,99,10,101,110,100,10]⟩,.string ⟨#[116,114,117,101,32,124,32,112,126,110,105,108]⟩] 9,.cells #[.string ⟨#[116,114,117,101,32,124,32,97,62,112]⟩,.string ⟨#[98,58,61,91,97,93,10,102,114,101,101,32,97,10]⟩,.string ⟨#[98,61,112,32,124,32,101,109,112]⟩] 9,.cells #[.slice (some ⟨g,0,none⟩) 3 3,.slice (some ⟨g+1,0,none⟩) 3 3,.slice (some ⟨g+1+1,0,none⟩) 3 3,.slice (some ⟨g+1+1+1,0,none⟩) 3 3,.slice (some ⟨g+1+1+1+1,0,none⟩) 3 3,.slice (some ⟨g+1+1+1+1+1,0,none⟩) 3 3,.slice (some ⟨g+1+1+1+1+1+1,0,none⟩) 3 3,.slice (some ⟨g+1+1+1+1+1+1+1,0,none⟩) 3 3] 231]
theorem tri_lit (w:World) (g:Nat) (hg:w.heap.size=g):(∀ K,K < 8→(allocs w (triO g)).cell? ⟨g+8,K,none⟩=some (.slice (some ⟨g+K,0,none⟩) 3 3))∧(∀ K,K < 8→RStrs (allocs w (triO g)) (g+K) (gd tri11 K)):=by
 subst hg
 refine ⟨fun K hK=>?_,fun K hK=>?_⟩
 · have h:=allocs_at (triO w.heap.size) 8 w _ _ rfl
   match K,hK with
   | 0,_=>exact cell_of_row _ _ 0 _ _ _ h
   | 1,_=>exact cell_of_row _ _ 1 _ _ _ h
   | 2,_=>exact cell_of_row _ _ 2 _ _ _ h
   | 3,_=>exact cell_of_row _ _ 3 _ _ _ h
   | 4,_=>exact cell_of_row _ _ 4 _ _ _ h
   | 5,_=>exact cell_of_row _ _ 5 _ _ _ h
   | 6,_=>exact cell_of_row _ _ 6 _ _ _ h
   | 7,_=>exact cell_of_row _ _ 7 _ _ _ h
 · match K,hK with
   | 0,_=>exact rstrs_of (x:=[116,114,117,101,32,124,32,97,126,110,105,108]) (y:=[119,104,105,108,101,32,97,33,61,110,105,108,32,119,105,116,104,32,116,114,117,101,32,124,32,97,126,110,105,108,10,99,58,61,91,97,93,10,102,114,101,101,32,97,10,97,58,61,99,10,101,110,100,10]) (z:=[116,114,117,101,32,124,32,101,109,112]) (allocs_at (triO w.heap.size) 0 w _ _ rfl)
   | 1,_=>exact rstrs_of (x:=[116,114,117,101,32,124,32,97,126,110,105,108]) (y:=[99,58,61,110,105,108,10,119,104,105,108,101,32,97,33,61,110,105,108,32,119,105,116,104,32,116,114,117,101,32,124,32,97,126,110,105,108,32,42,32,99,126,110,105,108,10,100,58,61,91,97,93,10,91,97,93,58,61,99,10,99,58,61,97,10,97,58,61,100,10,101,110,100,10]) (z:=[116,114,117,101,32,124,32,99,126,110,105,108]) (allocs_at (triO w.heap.size) 1 w _ _ rfl)
   | 2,_=>exact rstrs_of (x:=[116,114,117,101,32,124,32,97,126,110,105,108,32,42,32,98,126,110,105,108]) (y:=[105,102,32,97,33,61,110,105,108,10,99,58,61,91,97,93,10,91,97,93,58,61,98,10,98,58,61,97,10,97,58,61,99,10,101,110,100,10]) (z:=[116,114,117,101,32,124,32,97,126,110,105,108,32,42,32,98,126,110,105,108]) (allocs_at (triO w.heap.size) 2 w _ _ rfl)
   | 3,_=>exact rstrs_of (x:=[116,114,117,101,32,124,32,97,126,110,105,108]) (y:=[110,101,119,32,99,10,91,99,93,58,61,97,10,97,58,61,99,10]) (z:=[116,114,117,101,32,124,32,97,126,110,105,108]) (allocs_at (triO w.heap.size) 3 w _ _ rfl)
   | 4,_=>exact rstrs_of (x:=[116,114,117,101,32,124,32,97,126,110,105,108]) (y:=[99,58,61,97,10,119,104,105,108,101,32,99,33,61,110,105,108,32,119,105,116,104,32,116,114,117,101,32,124,32,97,126,99,32,42,32,99,126,110,105,108,10,99,58,61,91,99,93,10,101,110,100,10]) (z:=[99,61,110,105,108,32,124,32,97,126,110,105,108]) (allocs_at (triO w.heap.size) 4 w _ _ rfl)
   | 5,_=>exact rstrs_of (x:=[112,61,97,32,124,32,97,126,110,105,108]) (y:=[98,58,61,97,10]) (z:=[98,61,112,32,124,32,98,126,110,105,108]) (allocs_at (triO w.heap.size) 5 w _ _ rfl)
   | 6,_=>exact rstrs_of (x:=[116,114,117,101,32,124,32,97,126,110,105,108,32,42,32,112,126,110,105,108]) (y:=[119,104,105,108,101,32,97,33,61,110,105,108,32,119,105,116,104,32,116,114,117,101,32,124,32,97,126,110,105,108,10,99,58,61,91,97,93,10,102,114,101,101,32,97,10,97,58,61,99,10,101,110,100,10]) (z:=[116,114,117,101,32,124,32,112,126,110,105,108]) (allocs_at (triO w.heap.size) 6 w _ _ rfl)
   | 7,_=>exact rstrs_of (x:=[116,114,117,101,32,124,32,97,62,112]) (y:=[98,58,61,91,97,93,10,102,114,101,101,32,97,10]) (z:=[98,61,112,32,124,32,101,109,112]) (allocs_at (triO w.heap.size) 7 w _ _ rfl)
def TriRes (g q:Nat) (w:World) (e:Ending) (w':World):Prop :=
 ∃ (v1 v2 vp u1 u2:Value) (a b:Asn) (d:Nat) (p:List (Cm d)),e=.returned (.tuple #[.agg #[v1,v2],vp,.agg #[u1,u2]])∧(asnB a=true∧(b.1.length≤1000∧b.2.length≤1000)∧d≤5∧FewC d p) ∧
   ((RL w' (fun k=>w.heap.size≤k) v1 a.1∧RL w' (fun k=>w.heap.size≤k) v2 a.2)∧RL w' (fun k=>w.heap.size≤k) vp p∧(RL w' (fun k=>w.heap.size≤k) u1 b.1∧RL w' (fun k=>w.heap.size≤k) u2 b.2))∧Rdr w' g q∧Fr (fun j=>j=g) w w'
theorem asnR_valid (x:List UInt8):asnB (asnR x)=true:=by
 rw [asnR]
 cases h:asnO x with
 | none=>rfl
 | some a=>exact (asnO_valid h).1
theorem progR_few (x:List UInt8):FewC 5 (progR x):=by
 rw [progR]
 cases h:progO x with
 | none=>exact ⟨by simp,fun c hc=>by simp at hc⟩
 | some l =>
   have h1:=progOk_iff (progO_ok h).1
   exact few_shape 5 l 4 h1.1 (by omega)
theorem gd_tri {K:Nat} (hK:K < 8):(gd tri11 K).length=3∧(∀ y ∈ gd tri11 K,y.length≤1048576):=by
 match K,hK with
 | 0,_=>decide
 | 1,_=>decide
 | 2,_=>decide
 | 3,_=>decide
 | 4,_=>decide
 | 5,_=>decide
 | 6,_=>decide
 | 7,_=>decide
theorem fr_pair (w:World) (R P:Nat) (x1 x2 y1 y2:Value):Fr (fun k=>k=R∨k=P) w ((((w.setCell ⟨R,0,none⟩ x1).setCell ⟨R,1,none⟩ x2).setCell ⟨P,0,none⟩ y1).setCell ⟨P,1,none⟩ y2) :=
 (((fr_set w ⟨R,0,none⟩ x1).trans (fr_set _ ⟨R,1,none⟩ x2)).mono fun _ _ e=>.inl e).trans (((fr_set _ ⟨P,0,none⟩ y1).trans (fr_set _ ⟨P,1,none⟩ y2)).mono fun _ _ e=>.inr e)
structure TwoRes (w w9:World) (a1 a2 b1 b2:Value):Prop where
 r0:((((w9.setCell ⟨w.heap.size,0,none⟩ a1).setCell ⟨w.heap.size,1,none⟩ a2).setCell ⟨w.heap.size+1,0,none⟩ b1).setCell ⟨w.heap.size+1,1,none⟩ b2).cell? ⟨w.heap.size,0,none⟩=some a1
 r1:((((w9.setCell ⟨w.heap.size,0,none⟩ a1).setCell ⟨w.heap.size,1,none⟩ a2).setCell ⟨w.heap.size+1,0,none⟩ b1).setCell ⟨w.heap.size+1,1,none⟩ b2).cell? ⟨w.heap.size,1,none⟩=some a2
 s0:((((w9.setCell ⟨w.heap.size,0,none⟩ a1).setCell ⟨w.heap.size,1,none⟩ a2).setCell ⟨w.heap.size+1,0,none⟩ b1).setCell ⟨w.heap.size+1,1,none⟩ b2).cell? ⟨w.heap.size+1,0,none⟩=some b1
 s1:((((w9.setCell ⟨w.heap.size,0,none⟩ a1).setCell ⟨w.heap.size,1,none⟩ a2).setCell ⟨w.heap.size+1,0,none⟩ b1).setCell ⟨w.heap.size+1,1,none⟩ b2).cell? ⟨w.heap.size+1,1,none⟩=some b2
theorem two_res {w w9:World} {a1 a2 b1 b2:Value} (hR:w9.heap[w.heap.size]?=some (.cells #[.slice none 0 0,.slice none 0 0] 26 (0,0))) (hP:w9.heap[w.heap.size+1]?=some (.cells #[.slice none 0 0,.slice none 0 0] 26 (0,0))):TwoRes w w9 a1 a2 b1 b2:=by
 have h1:=box_set1 (box_set0 hR a1) a2
 have h2:=box_other (box_other hP ⟨w.heap.size,0,none⟩ a1 (by simp)) ⟨w.heap.size,1,none⟩ a2 (by simp)
 have h3:=box_other (box_other h1 ⟨w.heap.size+1,0,none⟩ b1 (by simp)) ⟨w.heap.size+1,1,none⟩ b2 (by simp)
 have h4:=box_set1 (box_set0 h2 b1) b2
 exact ⟨box0 h3,box1 h3,box0 h4,box1 h4⟩
theorem tri_res {g q d:Nat} {w w9:World} {v1 v2 vp u1 u2:Value} {a b:Asn} {p:List (Cm d)} (hg:g < w.heap.size) (ha:asnB a=true) (hb:b.1.length≤1000∧b.2.length≤1000) (hd:d≤5) (hp:FewC d p)
 (r1:RL w9 (fun k=>w.heap.size+1+1≤k) v1 a.1) (r2:RL w9 (fun k=>w.heap.size+1+1≤k) v2 a.2) (rp:RL w9 (fun k=>w.heap.size+1+1≤k) vp p) (s1:RL w9 (fun k=>w.heap.size+1+1≤k) u1 b.1) (s2:RL w9 (fun k=>w.heap.size+1+1≤k) u2 b.2)
 (hr:Rdr w9 g q) (hf:Fr (fun j=>j=g) w w9) :
 TriRes g q w (.returned (.tuple #[.agg #[v1,v2],vp,.agg #[u1,u2]])) ((((w9.setCell ⟨w.heap.size,0,none⟩ v1).setCell ⟨w.heap.size,1,none⟩ v2).setCell ⟨w.heap.size+1,0,none⟩ u1).setCell ⟨w.heap.size+1,1,none⟩ u2):=by
 have hk:=fr_pair w9 w.heap.size (w.heap.size+1) v1 v2 u1 u2
 have far:∀ k,k < w9.heap.size→(fun k=>w.heap.size+1+1≤k) k→¬ (fun k=>k=w.heap.size∨k=w.heap.size+1) k:=fun k _ h e=>by
  have h1:w.heap.size+1+1≤k:=h
  rcases e with e | e <;> omega
 have up:∀ k,k < ((((w9.setCell ⟨w.heap.size,0,none⟩ v1).setCell ⟨w.heap.size,1,none⟩ v2).setCell ⟨w.heap.size+1,0,none⟩ u1).setCell ⟨w.heap.size+1,1,none⟩ u2).heap.size→(fun k=>w.heap.size+1+1≤k) k→(fun k=>w.heap.size≤k) k:=fun k _ h=>by
  have h1:w.heap.size+1+1≤k:=h
  show w.heap.size≤k
  omega
 exact ⟨_,_,_,_,_,a,b,d,p,rfl,⟨ha,hb,hd,hp⟩,⟨⟨(r1.kept hk far).more up,(r2.kept hk far).more up⟩,(rp.kept hk far).more up,(s1.kept hk far).more up,(s2.kept hk far).more up⟩,
  hr.kept hk (fun j h e=>by rcases e with e | e <;> omega),hf.then hk fun i hi e=>by rcases e with e | e <;> omega⟩
theorem tri_drew {g q:Nat} {w w':World} {e:Ending} (h:TriRes g q w e w'):TriRes g q w e w'.drew:=by
 obtain ⟨v1,v2,vp,u1,u2,a,b,d,p,h0,h1,⟨⟨r1,r2⟩,rp,s1,s2⟩,hr,hf⟩:=h
 have hb:=below_drew w'
 exact ⟨v1,v2,vp,u1,u2,a,b,d,p,h0,h1,⟨⟨r1.keep hb,r2.keep hb⟩,rp.keep hb,s1.keep hb,s2.keep hb⟩,hr.keep hb,hf.thenB hb⟩
set_option maxRecDepth 100000 in
set_option maxHeartbeats 6400000 in
theorem l11Triple_any (g q:Nat) (w:World) (hr:Rdr w g q) (hq:q≤600000) :
 Calls Tryz.prog 137 #[.pointer (some ⟨g,0,none⟩)] w (TriRes g (q+11800) w):=by
 have hgl:=hr.lt
 obtain ⟨W,hW⟩:∃ W,W=(((((((((((w.alloc (.cells #[.slice none 0 0,.slice none 0 0] 26)).alloc (.cells #[.slice none 0 0,.slice none 0 0] 26)).alloc (.cells #[.string ⟨#[116,114,117,101,32,124,32,97,126,110,105,108]⟩,.string ⟨#[119,104,105,108,101,32,97,33,61,110,105,108,32,119,105,116,104,32,116,114,117,101,32,124,32,97,126,110,105,108,10,99,58,61,91,97,93,10,102,114,101,101,32,97,10,97,58,61,99,10,101,110,100,10]⟩,.string ⟨#[116,114,117,101,32,124,32,101,109,112]⟩] 9)).alloc (.cells #[.string ⟨#[116,114,117,101,32,124,32,97,126,110,105,108]⟩,.string ⟨#[99,58,61,110,105,108,10,119,104,105,108,101,32,97,33,61,110,105,108,32,119,105,116,104,32,116,114,117,101,32,124,32,97,126,110,105,108,32,42,32,99,126,110,105,108,10,100,58,61,91,97,93,10,91,97,93,58,61,99,10,99,58,61,97,10,97,58,61,100,10,101,110,100,10]⟩,.string ⟨#[116,114,117,101,32,124,32,99,126,110,105,108]⟩] 9)).alloc (.cells #[.string ⟨#[116,114,117,101,32,124,32,97,126,110,105,108,32,42,32,98,126,110,105,108]⟩,.string ⟨#[105,102,32,97,33,61,110,105,108,10,99,58,61,91,97,93,10,91,97,93,58,61,98,10,98,58,61,97,10,97,58,61,99,10,101,110,100,10]⟩,.string ⟨#[116,114,117,101,32,124,32,97,126,110,105,108,32,42,32,98,126,110,105,108]⟩] 9)).alloc (.cells #[.string ⟨#[116,114,117,101,32,124,32,97,126,110,105,108]⟩,.string ⟨#[110,101,119,32,99,10,91,99,93,58,61,97,10,97,58,61,99,10]⟩,.string ⟨#[116,114,117,101,32,124,32,97,126,110,105,108]⟩] 9)).alloc (.cells #[.string ⟨#[116,114,117,101,32,124,32,97,126,110,105,108]⟩,.string ⟨#[99,58,61,97,10,119,104,105,108,101,32,99,33,61,110,105,108,32,119,105,116,104,32,116,114,117,101,32,124,32,97,126,99,32,42,32,99,126,110,105,108,10,99,58,61,91,99,93,10,101,110,100,10]⟩,.string ⟨#[99,61,110,105,108,32,124,32,97,126,110,105,108]⟩] 9)).alloc (.cells #[.string ⟨#[112,61,97,32,124,32,97,126,110,105,108]⟩,.string ⟨#[98,58,61,97,10]⟩,.string ⟨#[98,61,112,32,124,32,98,126,110,105,108]⟩] 9)).alloc (.cells #[.string ⟨#[116,114,117,101,32,124,32,97,126,110,105,108,32,42,32,112,126,110,105,108]⟩,.string ⟨#[119,104,105,108,101,32,97,33,61,110,105,108,32,119,105,116,104,32,116,114,117,101,32,124,32,97,126,110,105,108,10,99,58,61,91,97,93,10,102,114,101,101,32,97,10,97,58,61,99,10,101,110,100,10]⟩,.string ⟨#[116,114,117,101,32,124,32,112,126,110,105,108]⟩] 9)).alloc (.cells #[.string ⟨#[116,114,117,101,32,124,32,97,62,112]⟩,.string ⟨#[98,58,61,91,97,93,10,102,114,101,101,32,97,10]⟩,.string ⟨#[98,61,112,32,124,32,101,109,112]⟩] 9)).alloc (.cells #[.slice (some ⟨w.heap.size+1+1,0,none⟩) 3 3,.slice (some ⟨w.heap.size+1+1+1,0,none⟩) 3 3,.slice (some ⟨w.heap.size+1+1+1+1,0,none⟩) 3 3,.slice (some ⟨w.heap.size+1+1+1+1+1,0,none⟩) 3 3,.slice (some ⟨w.heap.size+1+1+1+1+1+1,0,none⟩) 3 3,.slice (some ⟨w.heap.size+1+1+1+1+1+1+1,0,none⟩) 3 3,.slice (some ⟨w.heap.size+1+1+1+1+1+1+1+1,0,none⟩) 3 3,.slice (some ⟨w.heap.size+1+1+1+1+1+1+1+1+1,0,none⟩) 3 3] 231)):=⟨_,rfl⟩
 have hWa:W=allocs ((w.alloc (.cells #[.slice none 0 0,.slice none 0 0] 26)).alloc (.cells #[.slice none 0 0,.slice none 0 0] 26)) (triO (w.heap.size+1+1)):=hW.trans rfl
 have hlit:=tri_lit ((w.alloc (.cells #[.slice none 0 0,.slice none 0 0] 26)).alloc (.cells #[.slice none 0 0,.slice none 0 0] 26)) (w.heap.size+1+1) (by simp)
 have hbl:=allocs_below (triO (w.heap.size+1+1)) ((w.alloc (.cells #[.slice none 0 0,.slice none 0 0] 26)).alloc (.cells #[.slice none 0 0,.slice none 0 0] 26))
 rw [← hWa] at hlit hbl
 have hR:=box_keep (box_keep (heap_alloc_new w (.cells #[.slice none 0 0,.slice none 0 0] 26)) (below_alloc _ (.cells #[.slice none 0 0,.slice none 0 0] 26))) hbl
 have hP:=heap_alloc_new (w.alloc (.cells #[.slice none 0 0,.slice none 0 0] 26)) (.cells #[.slice none 0 0,.slice none 0 0] 26)
 rw [World.size_alloc] at hP
 replace hP:=box_keep hP hbl
 have hbw:Below w.heap.size w W:=bt (bt (below_alloc w _) (below_alloc _ _)) hbl
 have hz:w.heap.size+1+1≤W.heap.size:=by have:=hbl.size;simpa using this
 have HW:=Lib.hid hW
 have H0:=Lib.hid (And.intro (And.intro hR hP) (And.intro (hr.keep hbw) (And.intro ((Below.fr hbw).mono (S':=fun j=>j=g) fun _ _ h=>h.elim) (And.intro hlit hz))))
 clear hR hP hbl hlit hWa hbw hW hr hz
 go_enter Tryz.func137,Tryz.ntmps137
 go_upto_region 2 with fail
 rw [← HW.out]
 obtain ⟨gO,hgO⟩:∃ gO,w.heap.size+1+1+1+1+1+1+1+1+1+1=gO:=⟨_,rfl⟩
 have hrd:=H0.out.2.1
 have HGO:=Lib.hid hgO
 rw [hgO]
 clear hgO
 go_wp2_with fail
 refine (pick_any g q 8 _ hrd (by omega) (by decide) (by decide)).mono ?_
 rintro e w1 ⟨K,rfl,hK,hr1,hf1⟩
 obtain ⟨bI,hbI⟩:∃ bI,w.heap.size+1+1+K=bI:=⟨_,rfl⟩
 have hKn:K < 8:=by omega
 have hstr:=H0.out.2.2.2.1.2 K hKn
 have hcO:W.cell? ⟨gO,K,none⟩=some (.slice (some ⟨bI,0,none⟩) 3 3):=by
  have:=H0.out.2.2.2.1.1 K hKn
  rw [hbI] at this
  rw [← HGO.out];exact this
 rw [hbI] at hstr
 have hgd:=gd_tri hKn
 have hl3:=hgd.1
 have hneI:¬ bI=g:=by omega
 have hneO:¬ gO=g:=by have:=HGO.out;omega
 obtain ⟨t0,ht0⟩:∃ t,gd (gd tri11 K) 0=t:=⟨_,rfl⟩
 obtain ⟨t1,ht1⟩:∃ t,gd (gd tri11 K) 1=t:=⟨_,rfl⟩
 obtain ⟨t2,ht2⟩:∃ t,gd (gd tri11 K) 2=t:=⟨_,rfl⟩
 have c0:w1.cell? ⟨bI,0,none⟩=some (.string (btx t0)):=by rw [← ht0];exact hf1.cell (by simpa using hneI) (hstr 0 (by omega))
 have c1:w1.cell? ⟨bI,1,none⟩=some (.string (btx t1)):=by rw [← ht1];exact hf1.cell (by simpa using hneI) (hstr 1 (by omega))
 have c2:w1.cell? ⟨bI,2,none⟩=some (.string (btx t2)):=by rw [← ht2];exact hf1.cell (by simpa using hneI) (hstr 2 (by omega))
 have cO:=hf1.cell (p:=⟨gO,K,none⟩) (by simpa using hneO) hcO
 have HT:=Lib.hid (show t0.length≤1048576∧t1.length≤1048576∧t2.length≤1048576 from ⟨ht0 ▸ hgd.2 _ (gd_mem (by omega)),ht1 ▸ hgd.2 _ (gd_mem (by omega)),ht2 ▸ hgd.2 _ (gd_mem (by omega))⟩)
 have hK8:(K:Int) < 8:=by omega
 have H1:=Lib.hid (And.intro (And.intro (box_kept H0.out.1.1 hf1 (by omega)) (box_kept H0.out.1.2 hf1 (by omega))) (And.intro (H0.out.2.2.1.trans hf1) H0.out.2.2.2.2))
 have hz1:=hf1.size
 have HZ:=Lib.hid (And.intro H0.out.2.2.2.2 hz1)
 clear hrd hstr hcO hgd hl3 hneI hneO ht0 ht1 ht2 hbI hf1 hz1 H0 HW
 go_wp2_with fail
 refine (parseAsnS_any t0 _ HT.out.1).mono ?_
 obtain ⟨A0,hA0⟩:∃ A,asnR t0=A:=⟨_,rfl⟩
 have HA0:=Lib.hid (And.intro (asnR_valid t0) hA0)
 rw [hA0]
 clear hA0
 obtain ⟨s0,hs0⟩:∃ s,(asnO t0).isSome=s:=⟨_,rfl⟩
 rw [hs0]
 clear hs0
 rintro e w2 ⟨y1,y2,rfl,⟨o1,o2⟩,hb2⟩
 obtain ⟨ya,yc,rfl⟩:=o1.form
 obtain ⟨za,zc,rfl⟩:=o2.form
 have hbA:=below_alloc w2 (.cells #[.slice ya A0.1.length yc,.slice za A0.2.length zc] 26)
 have hAX:=heap_alloc_new w2 (.cells #[.slice ya A0.1.length yc,.slice za A0.2.length zc] 26)
 have hb2':=bt hb2 hbA
 have hzw2:=hb2.size
 have H2:=Lib.hid (And.intro (And.intro (box_keep H1.out.1.1 hb2') (box_keep H1.out.1.2 hb2')) (And.intro (H1.out.2.1.thenB hb2') (And.intro hAX (And.intro ((o1.rl.more (S':=fun k=>w.heap.size+1+1≤k) fun k _ hk=>by have h1:w1.heap.size≤k:=hk;have:=HZ.out;omega).keep hbA) ((o2.rl.more (S':=fun k=>w.heap.size+1+1≤k) fun k _ hk=>by have h1:w1.heap.size≤k:=hk;have:=HZ.out;omega).keep hbA)))))
 have hr2:=hr1.keep hb2'
 have hz2:=hb2'.size
 replace c1:=cell_keep hb2' c1
 replace c2:=cell_keep hb2' c2
 replace cO:=cell_keep hb2' cO
 clear o1 o2 hbA hAX hb2 hb2' c0 hr1
 generalize hW2:w2.alloc (.cells #[.slice ya A0.1.length yc,.slice za A0.2.length zc] 26)=W2 at H2 hr2 hz2 c1 c2 cO
 go_upto_region 4 with fail
 clear hW2
 have hbAz:w.heap.size+1+1≤w2.heap.size:=by have:=HZ.out;have:=hzw2;omega
 have hbAl:=box_lt H2.out.2.2.1
 generalize w2.heap.size=bA at H2 hbAz hbAl hzw2 ⊢
 go_wp2_with fail
 refine (parseProgS_any t1 _ HT.out.2.1).mono ?_
 obtain ⟨P1,hP1⟩:∃ P,progR t1=P:=⟨_,rfl⟩
 have HP1:=Lib.hid (show FewC 5 P1 from hP1 ▸ progR_few t1)
 rw [hP1]
 clear hP1
 obtain ⟨s1,hs1⟩:∃ s,(progO t1).isSome=s:=⟨_,rfl⟩
 rw [hs1]
 clear hs1
 rintro e w3 ⟨u,rfl,huc,hb3⟩
 obtain ⟨ua,ucp,rfl⟩:=huc.form
 have hz3:=hb3.size
 have H3:=Lib.hid (And.intro (And.intro (box_keep H2.out.1.1 hb3) (box_keep H2.out.1.2 hb3)) (And.intro (H2.out.2.1.thenB hb3) (And.intro (box_keep H2.out.2.2.1 hb3) (And.intro (And.intro (H2.out.2.2.2.1.keep hb3) (H2.out.2.2.2.2.keep hb3)) (huc.rl.more (S':=fun k=>w.heap.size+1+1≤k) fun k _ hk=>by have h1:W2.heap.size≤k:=hk;have:=HZ.out;omega)))))
 have hr3:=hr2.keep hb3
 replace c2:=cell_keep hb3 c2
 replace cO:=cell_keep hb3 cO
 clear huc hb3 hr2 c1 H2
 go_wp2_with fail
 refine (parseAsnS_any t2 _ HT.out.2.2).mono ?_
 obtain ⟨A2,hA2⟩:∃ A,asnR t2=A:=⟨_,rfl⟩
 have HA2:=Lib.hid (And.intro (asnR_valid t2) hA2)
 rw [hA2]
 clear hA2
 obtain ⟨s2,hs2⟩:∃ s,(asnO t2).isSome=s:=⟨_,rfl⟩
 rw [hs2]
 clear hs2
 rintro e w4 ⟨x1,x2,rfl,⟨o1,o2⟩,hb4⟩
 obtain ⟨xa,xc,rfl⟩:=o1.form
 obtain ⟨va,vc,rfl⟩:=o2.form
 have hbB:=below_alloc w4 (.cells #[.slice xa A2.1.length xc,.slice va A2.2.length vc] 26)
 have hBX:=heap_alloc_new w4 (.cells #[.slice xa A2.1.length xc,.slice va A2.2.length vc] 26)
 have hb4':=bt hb4 hbB
 have hzw4:=hb4.size
 have hz4:=hb4'.size
 have H4:=Lib.hid (And.intro (And.intro (box_keep H3.out.1.1 hb4') (box_keep H3.out.1.2 hb4')) (And.intro (H3.out.2.1.thenB hb4') (And.intro (And.intro (box_keep H3.out.2.2.1 hb4') hBX) (And.intro (And.intro (((H3.out.2.2.2.1.1.keep hb4).more (S':=fun k=>w.heap.size+1+1≤k∧¬ k=w4.heap.size) fun k hk h=>⟨h,by omega⟩).keep hbB) (((H3.out.2.2.2.1.2.keep hb4).more (S':=fun k=>w.heap.size+1+1≤k∧¬ k=w4.heap.size) fun k hk h=>⟨h,by omega⟩).keep hbB)) (And.intro (((H3.out.2.2.2.2.keep hb4).more (S':=fun k=>w.heap.size+1+1≤k∧¬ k=w4.heap.size) fun k hk h=>⟨h,by omega⟩).keep hbB) (And.intro ((o1.rl.more (S':=fun k=>w.heap.size+1+1≤k∧¬ k=w4.heap.size) fun k hk0 hk=>by have h1:w3.heap.size≤k:=hk;have:=HZ.out;exact ⟨by omega,by omega⟩).keep hbB) ((o2.rl.more (S':=fun k=>w.heap.size+1+1≤k∧¬ k=w4.heap.size) fun k hk0 hk=>by have h1:w3.heap.size≤k:=hk;have:=HZ.out;exact ⟨by omega,by omega⟩).keep hbB)))))))
 have hr4:=hr3.keep hb4'
 clear o1 o2 hbB hBX hb4 hb4' c2 cO hr3 H3
 generalize hW4:w4.alloc (.cells #[.slice xa A2.1.length xc,.slice va A2.2.length vc] 26)=W4 at H4 hr4 hz4
 go_upto_region 6 with fail
 clear hW4
 have HBA:=Lib.hid (show w.heap.size+1+1≤bA∧bA < w4.heap.size from ⟨hbAz,by have:=hz3;have:=hzw4;omega⟩)
 generalize w4.heap.size=bB at H4 HBA ⊢
 go_cut [70] (fun s70 wx=>∃ c:Bool,s70=.bool c∧Rdr wx g (q+1+1)∧Fr (fun j=>j=g) W4 wx)
 case first =>
  cases s0 with
  | false =>
    go_wp2
    go_meet
    case rel=>exact ⟨true,rfl,hr4.more (by omega),Fr.refl _ _⟩
  | true =>
    cases s1 with
    | false =>
      go_wp2
      go_meet
      case rel=>exact ⟨true,rfl,hr4.more (by omega),Fr.refl _ _⟩
    | true =>
      cases s2 with
      | false =>
        go_wp2
        go_meet
        case rel=>exact ⟨true,rfl,hr4.more (by omega),Fr.refl _ _⟩
      | true =>
        go_wp2_with (first | (go_at_call 134;refine (pick_any g (q+1) 5 _ hr4 (by omega) (by decide) (by decide)).mono ?_;rintro e w5 ⟨k5,rfl,hk5,hr5,hf5⟩))
        go_meet
        case rel=>exact ⟨_,rfl,hr5,hf5⟩
 case rest =>
  obtain ⟨c,rfl,hr5,hf5⟩:=hcut
  obtain ⟨wo,rfl⟩:∃ wo:World,wo=wc:=⟨_,rfl⟩
  have hgW:g < W4.heap.size:=hr4.lt
  have hwz:=H4.out.2.1.size
  have H5:=Lib.hid (And.intro (And.intro (box_kept H4.out.1.1 hf5 (by omega)) (box_kept H4.out.1.2 hf5 (by omega))) (H4.out.2.1.trans hf5))
  cases c with
  | true =>
    go_wp2_with fail
    refine (l10Pre_any g (q+1+1) _ hr5 (by omega)).mono ?_
    rintro e w6 ⟨v1,v2,a,rfl,hva,o1,o2,hr6,hf6⟩
    obtain ⟨aa1,an1,ac1,rfl⟩:=o1.forms
    obtain ⟨aa2,an2,ac2,rfl⟩:=o2.forms
    have hzc:=hf5.size
    have hz6:=hf6.size
    have H6:=Lib.hid (And.intro (And.intro (box_kept H5.out.1.1 hf6 (by omega)) (box_kept H5.out.1.2 hf6 (by omega))) (And.intro (H5.out.2.trans hf6) (And.intro hva (And.intro (o1.rl.more (S':=fun k=>w.heap.size+1+1≤k) fun k _ hk=>by have h1:wo.heap.size≤k:=hk;have:=HZ.out;show w.heap.size+1+1≤k;omega) (o2.rl.more (S':=fun k=>w.heap.size+1+1≤k) fun k _ hk=>by have h1:wo.heap.size≤k:=hk;have:=HZ.out;show w.heap.size+1+1≤k;omega)))))
    clear o1 o2 hf6 hva hr5
    go_wp2_with fail
    refine (l9Code_any g _ _ hr6 (by omega)).mono ?_
    rintro e w7 ⟨d,vp,p,rfl,hd,hp,hfw,hr7,hf7⟩
    obtain ⟨pa,pc,rfl⟩:=hp.form
    have hz7:=hf7.size
    have far:∀ k,k < w6.heap.size→(fun k=>w.heap.size+1+1≤k) k→¬ (fun j=>j=g) k:=fun k _ h e=>by
     have h1:w.heap.size+1+1≤k:=h
     have e2:k=g:=e
     omega
    have H7:=Lib.hid (And.intro (And.intro (box_kept H6.out.1.1 hf7 (by omega)) (box_kept H6.out.1.2 hf7 (by omega))) (And.intro (H6.out.2.1.trans hf7) (And.intro (And.intro H6.out.2.2.1 (And.intro hd hfw)) (And.intro (And.intro (H6.out.2.2.2.1.kept hf7 far) (H6.out.2.2.2.2.kept hf7 far)) (hp.more (S':=fun k=>w.heap.size+1+1≤k) fun k _ hk=>by have h1:w6.heap.size≤k:=hk;have:=HZ.out;show w.heap.size+1+1≤k;omega)))))
    clear hp hd hfw hf7 hr6 far H6
    go_wp2_with fail
    refine (l10Pre_any g _ _ hr7 (by omega)).mono ?_
    rintro e w8 ⟨b1,b2,bb,rfl,hvb,o1,o2,hr8,hf8⟩
    obtain ⟨ba1,bc1,rfl⟩:=o1.form
    obtain ⟨ba2,bc2,rfl⟩:=o2.form
    have hz8:=hf8.size
    have far:∀ k,k < w7.heap.size→(fun k=>w.heap.size+1+1≤k) k→¬ (fun j=>j=g) k:=fun k _ h e=>by
     have h1:w.heap.size+1+1≤k:=h
     have e2:k=g:=e
     omega
    have hlb:=asn_len2 hvb
    have H8:=Lib.hid (And.intro (And.intro (box_kept H7.out.1.1 hf8 (by omega)) (box_kept H7.out.1.2 hf8 (by omega))) (And.intro (H7.out.2.1.trans hf8) (And.intro H7.out.2.2.1 (And.intro (And.intro (And.intro (H7.out.2.2.2.1.1.kept hf8 far) (H7.out.2.2.2.1.2.kept hf8 far)) (H7.out.2.2.2.2.kept hf8 far)) (And.intro (And.intro o1.rl o2.rl) (show bb.1.length≤1000∧bb.2.length≤1000 by omega))))))
    clear o1 o2 hvb hf8 hr7 far hlb H7
    go_wp2_with fail
    refine (l6Weak_any g _ _ _ bb _ hr8 (by omega) H8.out.2.2.2.2.1.1 H8.out.2.2.2.2.1.2 H8.out.2.2.2.2.2).mono ?_
    rintro e w9 ⟨x1,x2,b,rfl,hlb,q1,q2,hr9,hf9⟩
    obtain ⟨xa1,xn1,xc1,rfl⟩:=q1.forms
    obtain ⟨xa2,xn2,xc2,rfl⟩:=q2.forms
    have hz9:=hf9.size
    have far:∀ k,k < w8.heap.size→(fun k=>w.heap.size+1+1≤k) k→¬ (fun j=>j=g) k:=fun k _ h e=>by
     have h1:w.heap.size+1+1≤k:=h
     have e2:k=g:=e
     omega
    have hR9:=box_kept H8.out.1.1 hf9 (by omega)
    have hP9:=box_kept H8.out.1.2 hf9 (by omega)
    have r0:=box0 hR9
    have r1:=box1 hR9
    have rz:=boxz hR9
    have rl:=box_lt hR9
    have s0':=box0 hP9
    have s1':=box1 hP9
    have sz:=boxz hP9
    have sl:=box_lt hP9
    have H9:=Lib.hid (And.intro (And.intro (And.intro (H8.out.2.2.2.1.1.1.kept hf9 far) (H8.out.2.2.2.1.1.2.kept hf9 far)) (H8.out.2.2.2.1.2.kept hf9 far)) (And.intro (And.intro (q1.more (S':=fun k=>w.heap.size+1+1≤k) fun k _ hk=>by have h1:w8.heap.size≤k:=hk;have:=HZ.out;omega) (q2.more (S':=fun k=>w.heap.size+1+1≤k) fun k _ hk=>by have h1:w8.heap.size≤k:=hk;have:=HZ.out;omega)) (And.intro (H8.out.2.1.trans hf9) (And.intro hlb (And.intro hr9 (And.intro hR9 hP9))))))
    clear q1 q2 hr9 hf9 hr8 far hlb hR9 hP9
    have T:=two_res (a1:=.slice aa1 an1 ac1) (a2:=.slice aa2 an2 ac2) (b1:=.slice xa1 xn1 xc1) (b2:=.slice xa2 xn2 xc2) H9.out.2.2.2.2.2.1 H9.out.2.2.2.2.2.2
    obtain ⟨w1',w2',w3',w4'⟩:=T
    have HFIN:=Lib.hid (tri_res hgl H8.out.2.2.1.1 H9.out.2.2.2.1 H8.out.2.2.1.2.1 H8.out.2.2.1.2.2 H9.out.1.1.1 H9.out.1.1.2 H9.out.1.2 H9.out.2.1.1 H9.out.2.1.2 (H9.out.2.2.2.2.1.more (show _≤q+11800 by omega)) H9.out.2.2.1)
    go_wp2
    refine bodyPost_ret (v:=.tuple #[.agg #[.slice aa1 an1 ac1,.slice aa2 an2 ac2],.slice pa p.length pc,.agg #[.slice xa1 xn1 xc1,.slice xa2 xn2 xc2]]) (by simp [results,Tryz.results137,go_sem,w1',w2',w3',w4']) rfl ?_
    exact HFIN.out
  | false =>
    have far:∀ k,k < W4.heap.size→(fun k=>w.heap.size+1+1≤k∧¬ k=bB) k→¬ (fun j=>j=g) k:=fun k _ h e=>by
     have h1:w.heap.size+1+1≤k:=h.1
     have e2:k=g:=e
     omega
    have hgA:w.heap.size+1+1≤bA:=HBA.out.1
    have hgB:bA < bB:=HBA.out.2
    have H6:=Lib.hid (And.intro (And.intro (H4.out.2.2.2.1.1.kept hf5 far) (H4.out.2.2.2.1.2.kept hf5 far)) (And.intro (H4.out.2.2.2.2.1.kept hf5 far) (And.intro (And.intro (H4.out.2.2.2.2.2.1.kept hf5 far) (H4.out.2.2.2.2.2.2.kept hf5 far)) (And.intro (box_kept H4.out.2.2.1.1 hf5 (by omega)) (box_kept H4.out.2.2.1.2 hf5 (by omega))))))
    clear far
    have hsB:=asn_len2 HA2.out.1
    rw [HA2.out.2] at hsB
    have HSB:=Lib.hid (show A2.1.length≤1000∧A2.2.length≤1000 by omega)
    clear hsB
    go_wp2_with fail
    refine (pick_any g (q+1+1) 6 _ hr5 (by omega) (by decide) (by decide)).mono ?_
    rintro e w6 ⟨k6,rfl,hk6,hr6,hf6⟩
    have hzc:=hf5.size
    have hz6:=hf6.size
    have hB6:=box_kept H6.out.2.2.2.2 hf6 (by omega)
    have d0:=box0 hB6
    have d1:=box1 hB6
    have dz:=boxz hB6
    have dl:=box_lt hB6
    have far:∀ k,k < wo.heap.size→(fun k=>w.heap.size+1+1≤k∧¬ k=bB) k→¬ (fun j=>j=g) k:=fun k _ h e=>by
     have h1:w.heap.size+1+1≤k:=h.1
     have e2:k=g:=e
     omega
    have H7:=Lib.hid (And.intro (And.intro (H6.out.2.2.1.1.kept hf6 far) (H6.out.2.2.1.2.kept hf6 far)) (And.intro hB6 hf6))
    clear far hB6 hf6 hr5
    go_upto_if 81 with fail
    go_cut [] (fun wx=>∃ (x1 x2:Value) (b:Asn),wx.heap[bB]?=some (.cells #[x1,x2] 26 (0,0))∧(RL wx (fun k=>w.heap.size+1+1≤k∧¬ k=bB) x1 b.1∧RL wx (fun k=>w.heap.size+1+1≤k∧¬ k=bB) x2 b.2)∧(b.1.length≤1000∧b.2.length≤1000)∧Rdr wx g (q+1+1+1+5)∧Fr (fun k=>k=g∨k=bB) wo wx)
    case first =>
     by_cases h0:k6=0
     · have h1:((k6:Int) == 0)=true:=by simp [h0]
       go_wp2_with fail
       refine (l6Weak_any g _ _ _ A2 _ hr6 (by omega) H7.out.1.1 H7.out.1.2 HSB.out).mono ?_
       rintro e w7 ⟨x1,x2,b,rfl,hlb,q1,q2,hr7,hf7⟩
       obtain ⟨xa1,xn1,xc1,rfl⟩:=q1.forms
       obtain ⟨xa2,xn2,xc2,rfl⟩:=q2.forms
       have hB7:=box_kept H7.out.2.1 hf7 (by omega)
       have d0:=box0 hB7
       have d1:=box1 hB7
       have dz:=boxz hB7
       have dl:=box_lt hB7
       have hset:=(fr_set w7 ⟨bB,0,none⟩ (.slice xa1 xn1 xc1)).trans (fr_set _ ⟨bB,1,none⟩ (.slice xa2 xn2 xc2))
       have hz7:=hf7.size
       have up:∀ k,k < w7.heap.size→(fun k=>w6.heap.size≤k) k→(fun k=>w.heap.size+1+1≤k∧¬ k=bB) k:=fun k _ h=>by
        have h1:w6.heap.size≤k:=h
        have:=box_lt H7.out.2.1
        have:=HZ.out
        exact ⟨by omega,by omega⟩
       have H8:=Lib.hid (And.intro (box_set1 (box_set0 hB7 (.slice xa1 xn1 xc1)) (.slice xa2 xn2 xc2)) (And.intro (And.intro ((q1.more up).kept hset fun k _ h e=>h.2 e) ((q2.more up).kept hset fun k _ h e=>h.2 e)) (And.intro hlb (And.intro (hr7.kept hset fun k h e=>by have e2:k=bB:=e;omega) (((H7.out.2.2.trans hf7).mono (S':=fun k=>k=g∨k=bB) fun _ _ e=>.inl e).trans (hset.mono fun _ _ e=>.inr e))))))
       clear q1 q2 hr7 hf7 hr6 hB7 hset up hlb
       go_wp2
       go_meet
       case rel=>exact ⟨_,_,b,H8.out⟩
     · have h1:((k6:Int) == 0)=false:=by simp [h0]
       go_wp2
       go_meet
       case rel=>exact ⟨_,_,A2,H7.out.2.1,⟨H7.out.1.1,H7.out.1.2⟩,HSB.out,hr6.more (by omega),H7.out.2.2.mono fun _ _ e=>.inl e⟩
    case rest =>
     obtain ⟨x1,x2,b,hB7,⟨q1,q2⟩,hlb,hr7,hf7⟩:=hcut
     obtain ⟨xa1,xn1,xc1,rfl⟩:=q1.forms
     obtain ⟨xa2,xn2,xc2,rfl⟩:=q2.forms
     have hzo:=hf5.size
     have far:∀ k,k < wo.heap.size→(fun k=>w.heap.size+1+1≤k∧¬ k=bB) k→¬ (fun k=>k=g∨k=bB) k:=fun k _ h e=>by
      have h1:w.heap.size+1+1≤k:=h.1
      have h2:¬ k=bB:=h.2
      rcases e with e | e <;> omega
     have hRb:=box_kept H5.out.1.1 hf7 (by rintro (e | e) <;> omega)
     have hPb:=box_kept H5.out.1.2 hf7 (by rintro (e | e) <;> omega)
     have hAb:=box_kept H6.out.2.2.2.1 hf7 (by rintro (e | e) <;> omega)
     have hF9:Fr (fun j=>j=g) w wc:=H5.out.2.then hf7 fun k hk e=>by
      rcases e with e | e
      · exact e
      · omega
     have hva:asnB A0=true:=by rw [← HA0.out.2];exact HA0.out.1
     have hq1:=q1.more (S':=fun k=>w.heap.size+1+1≤k) fun k _ h=>h.1
     have hq2:=q2.more (S':=fun k=>w.heap.size+1+1≤k) fun k _ h=>h.1
     have ha1:=(H6.out.1.1.kept hf7 far).more (S':=fun k=>w.heap.size+1+1≤k) fun k _ h=>h.1
     have ha2:=(H6.out.1.2.kept hf7 far).more (S':=fun k=>w.heap.size+1+1≤k) fun k _ h=>h.1
     have hpp:=(H6.out.2.1.kept hf7 far).more (S':=fun k=>w.heap.size+1+1≤k) fun k _ h=>h.1
     have HFIN:=Lib.hid (tri_res hgl hva hlb (Nat.le_refl 5) HP1.out ha1 ha2 hpp hq1 hq2 (hr7.more (show _≤q+11800 by omega)) hF9)
     have a0:=box0 hAb
     have a1:=box1 hAb
     have al:=box_lt hAb
     have b0:=box0 hB7
     have b1:=box1 hB7
     have bl:=box_lt hB7
     have r0:=box0 hRb
     have r1:=box1 hRb
     have rz:=boxz hRb
     have rl:=box_lt hRb
     have p0:=box0 hPb
     have p1:=box1 hPb
     have pz:=boxz hPb
     have pl:=box_lt hPb
     clear q1 q2 hlb hr7 hf7 far hRb hPb hAb hB7 hF9 hva hq1 hq2 ha1 ha2 hpp hr6
     go_upto_region 10 with fail
     go_region
     all_goals
      go_wp2
      refine bodyPost_ret (v:=.tuple #[.agg #[.slice ya A0.1.length yc,.slice za A0.2.length zc],.slice ua P1.length ucp,.agg #[.slice xa1 xn1 xc1,.slice xa2 xn2 xc2]]) (by simp [results,Tryz.results137,go_sem,r0,r1,p0,p1,rl,pl]) rfl ?_
      first
        | exact HFIN.out
        | exact tri_drew HFIN.out
        | trace_state
end Go.Proofs.YtkbbmjcfgcfejaaGreat
