/- Data1: texts Dat, Own, Lf1, Lf1a, Ls1, Ls2, Lf2, Own2 in one. -/
import Derived.Test.YtkbbmjcfgcfejaaGreatLDraw1
set_option linter.unusedVariables false
set_option linter.unusedSimpArgs false
set_option maxRecDepth 100000
set_option maxHeartbeats 12800000
namespace Go.Proofs.YtkbbmjcfgcfejaaGreat
open Go.RowKit
def gd {α:Type} [Inhabited α] (l:List α) (i:Nat):α:=l.getD i default
theorem BT {α:Type} [Inhabited α] {l:List α} {i:Nat} (h:i < l.length):gd l i=l[i]:=by simp [gd,h]
theorem Be {α:Type} [Inhabited α] {l:List α} {i:Nat} (h:i < l.length):gd l i ∈ l:=by rw [BT h];exact List.getElem_mem h
theorem Dj {α:Type} [Inhabited α] {l m:List α} {i:Nat} (h:i < l.length):gd (l ++ m) i=gd l i:=by simp [gd,List.getElem?_append,h]
theorem Fx {α:Type} [Inhabited α] {l m:List α} {i:Nat} (h:l.length≤i):gd (l ++ m) i=gd m (i - l.length):=by
 have:¬ i < l.length:=by omega
 simp [gd,List.getElem?_append,this]
theorem Hv {α:Type} [Inhabited α] (l:List α) (x:α):gd (l ++ [x]) l.length=x:=by simp [gd]
theorem SA {α:Type} [Inhabited α] (x:α) (l:List α):gd (x :: l) 0=x:=rfl
theorem Us {α:Type} [Inhabited α] {l:List α} {i k:Nat} (h:i < k):gd (l.take k) i=gd l i:=by simp [gd,h]
theorem AT {α:Type} [Inhabited α] {l:List α} {k:Nat} (h:k < l.length):l.take (k+1)=l.take k ++ [gd l k]:=by
 rw [List.take_succ_eq_append_getElem h,BT h]
theorem Wn (l:List Int) (i:Nat):gi l i=gd l i:=rfl
class Dat (α:Type) extends Inhabited α where
 sz:Nat
 rd:World→(Nat→Prop)→α→List Value→Prop
 len:∀ {w S a cs},rd w S a cs→cs.length=sz
 kept:∀ {w w' S T a cs},rd w S a cs→Fr T w w'→(∀ k,k < w.heap.size→S k→¬ T k)→rd w' S a cs
 more:∀ {w S S' a cs},rd w S a cs→(∀ k,k < w.heap.size→S k→S' k)→rd w S' a cs
 one:∀ {w S a cs},rd w S a cs→∀ u ∈ cs,u.oneCell'=true
instance:Dat Int where
 sz:=1
 rd:=fun _ _ a cs=>cs=[.int .i64 a]
 len:=fun h=>by subst h;rfl
 kept:=fun h _ _=>h
 more:=fun h _=>h
 one:=fun h u hu=>by subst h;simp at hu;subst hu;rfl
instance:Dat Bool where
 sz:=1
 rd:=fun _ _ a cs=>cs=[.bool a]
 len:=fun h=>by subst h;rfl
 kept:=fun h _ _=>h
 more:=fun h _=>h
 one:=fun h u hu=>by subst h;simp at hu;subst hu;rfl
instance {α β:Type} [Dat α] [Dat β]:Dat (α × β) where
 sz:=Dat.sz α+Dat.sz β
 rd:=fun w S p cs=>∃ c1 c2,cs=c1 ++ c2∧Dat.rd w S p.1 c1∧Dat.rd w S p.2 c2
 len:=fun h=>by
  obtain ⟨c1,c2,rfl,h1,h2⟩:=h;rw [List.length_append,Dat.len h1,Dat.len h2]
 kept:=fun h hf hs=>by
  obtain ⟨c1,c2,e,h1,h2⟩:=h;exact ⟨c1,c2,e,Dat.kept h1 hf hs,Dat.kept h2 hf hs⟩
 more:=fun h hs=>by
  obtain ⟨c1,c2,e,h1,h2⟩:=h;exact ⟨c1,c2,e,Dat.more h1 hs,Dat.more h2 hs⟩
 one:=fun h u hu=>by
  obtain ⟨c1,c2,rfl,h1,h2⟩:=h;rcases List.mem_append.1 hu with hu | hu
  · exact Dat.one h1 u hu
  · exact Dat.one h2 u hu
def RL {α:Type} [Dat α] (w:World) (S:Nat→Prop) (v:Value) (l:List α):Prop :=
 (∃ a cap,v=.slice a 0 cap∧l=[]∧cap≤maxLen∧(a=none→cap=0)) ∨
 ∃ b o cap,v=.slice (some ⟨b,o,none⟩) l.length cap∧l.length≤cap∧cap≤maxLen∧(0 < l.length→S b∧b < w.heap.size) ∧
   ∀ i,i < l.length→∃ cs,Dat.rd w S (gd l i) cs∧∀ j u,cs[j]?=some u→w.cell? ⟨b,o+(i * Dat.sz α+j),none⟩=some u
section
variable {α:Type} [Dat α] {w w':World} {S S' T:Nat→Prop} {v:Value} {l:List α}
theorem RL.kept (h:RL w S v l) (hf:Fr T w w') (hs:∀ k,k < w.heap.size→S k→¬ T k):RL w' S v l:=by
 rcases h with h | ⟨b,o,cap,e,h1,h2,h3,h4⟩
 · exact .inl h
 · refine .inr ⟨b,o,cap,e,h1,h2,fun h=>⟨(h3 h).1,Nat.lt_of_lt_of_le (h3 h).2 hf.size⟩,fun i hi=>?_⟩
   obtain ⟨cs,hc,hcell⟩:=h4 i hi;obtain ⟨g1,g2⟩:=h3 Om;exact ⟨cs,Dat.kept hc hf hs,fun j u hj=>hf.cell (hs b g2 g1) (hcell j u hj)⟩
theorem RL.more (h:RL w S v l) (hs:∀ k,k < w.heap.size→S k→S' k):RL w S' v l:=by
 rcases h with h | ⟨b,o,cap,e,h1,h2,h3,h4⟩
 · exact .inl h
 · refine .inr ⟨b,o,cap,e,h1,h2,fun h=>⟨hs b (h3 h).2 (h3 h).1,(h3 h).2⟩,fun i hi=>?_⟩
   obtain ⟨cs,hc,hcell⟩:=h4 i hi;exact ⟨cs,Dat.more hc hs,hcell⟩
theorem RL.keep (h:RL w S v l) (hb:Below w.heap.size w w'):RL w' S v l:=h.kept (Below.fr hb) fun _ _ _ h=>h
theorem RL.alloc (h:RL w S v l) (o:Obj):RL (w.alloc o) S v l:=h.keep (Aa _ _)
theorem RL.any (h:RL w S v l):RL w (fun _=>True) v l:=h.more fun _ _ _=>trivial
theorem RL.len (h:RL w S v l):l.length≤maxLen:=by
 rcases h with ⟨a,cap,rfl,h,_⟩ | ⟨b,o,cap,rfl,h1,h2,_⟩
 · rw [h];exact Nat.zero_le _
 · omega
theorem RL.form (h:RL w S v l):∃ a cap,v=.slice a l.length cap:=by
 rcases h with ⟨a,cap,rfl,h,_⟩ | ⟨b,o,cap,rfl,_⟩
 · exact ⟨a,cap,by rw [h];rfl⟩
 · exact ⟨_,_,rfl⟩
theorem RL.nil (w:World) (S:Nat→Prop):RL w S (.slice none 0 0) ([]:List α):=.inl ⟨none,0,rfl,rfl,Nat.zero_le _,fun _=>rfl⟩
theorem RL.cells (h:RL w S v l):∃ a cap,v=.slice a l.length cap∧l.length≤cap∧cap≤maxLen ∧
 ∀ i,i < l.length→∃ b o,a=some ⟨b,o,none⟩∧S b∧b < w.heap.size∧∃ cs,Dat.rd w S (gd l i) cs∧∀ j u,cs[j]?=some u→w.cell? ⟨b,o+(i * Dat.sz α+j),none⟩=some u:=by
 rcases h with ⟨a,cap,rfl,rfl,h,_⟩ | ⟨b,o,cap,rfl,h1,h2,h3,h4⟩
 · exact ⟨a,cap,rfl,Nat.zero_le _,h,fun i hi=>absurd hi Sp⟩
 · exact ⟨_,cap,rfl,h1,h2,fun i hi=>⟨b,o,rfl,(h3 Om).1,(h3 Om).2,h4 i hi⟩⟩
end
instance {α:Type} [Dat α]:Dat (List α) where
 sz:=1
 rd:=fun w S l cs=>∃ v,cs=[v]∧RL w S v l
 len:=fun h=>by obtain ⟨v,rfl,_⟩:=h;rfl
 kept:=fun h hf hs=>by obtain ⟨v,e,h⟩:=h;exact ⟨v,e,h.kept hf hs⟩
 more:=fun h hs=>by obtain ⟨v,e,h⟩:=h;exact ⟨v,e,h.more hs⟩
 one:=fun h u hu=>by
  obtain ⟨v,rfl,h⟩:=h;obtain ⟨a,cap,rfl⟩:=h.form;simp at hu;subst hu;rfl
abbrev Ap:=Bool × Int × Int
abbrev Am:=Int × Int × Int
abbrev Aj:=List Ap × List Am
abbrev WX:=List Int × List (List Int)
section
variable {w w':World} {S:Nat→Prop} {cs:List Value}
theorem QI {α:Type} [Dat α] {l:List α} (h:Dat.rd w S l cs):∃ v,cs=[v]∧RL w S v l:=h
theorem QJ {f:Ap} (h:Dat.rd w S f cs):cs=[.bool f.1,.int .i64 f.2.1,.int .i64 f.2.2]:=by
 obtain ⟨_,_,rfl,rfl,_,_,rfl,rfl,rfl⟩:=h;rfl
theorem Ut {f:Am} (h:Dat.rd w S f cs):cs=[.int .i64 f.1,.int .i64 f.2.1,.int .i64 f.2.2]:=by
 obtain ⟨_,_,rfl,rfl,_,_,rfl,rfl,rfl⟩:=h;rfl
theorem Pc {a:Aj} (h:Dat.rd w S a cs):∃ v1 v2,cs=[v1,v2]∧RL w S v1 a.1∧RL w S v2 a.2:=by
 obtain ⟨_,_,rfl,⟨v1,rfl,h1⟩,⟨v2,rfl,h2⟩⟩:=h;exact ⟨v1,v2,rfl,h1,h2⟩
theorem Ha (w:World) (S:Nat→Prop) (f:Ap):Dat.rd w S f [.bool f.1,.int .i64 f.2.1,.int .i64 f.2.2] :=
 ⟨[.bool f.1],[.int .i64 f.2.1,.int .i64 f.2.2],rfl,rfl,[.int .i64 f.2.1],[.int .i64 f.2.2],rfl,rfl,rfl⟩
theorem Hb (w:World) (S:Nat→Prop) (f:Am):Dat.rd w S f [.int .i64 f.1,.int .i64 f.2.1,.int .i64 f.2.2] :=
 ⟨[.int .i64 f.1],[.int .i64 f.2.1,.int .i64 f.2.2],rfl,rfl,[.int .i64 f.2.1],[.int .i64 f.2.2],rfl,rfl,rfl⟩
theorem GE {a:Aj} {v1 v2:Value} (h1:RL w S v1 a.1) (h2:RL w S v2 a.2):Dat.rd w S a [v1,v2] :=
 ⟨[v1],[v2],rfl,⟨v1,rfl,h1⟩,⟨v2,rfl,h2⟩⟩
theorem RL.ints {v:Value} {l:List Int} (h:RL w S v l):RInts w v l:=by
 rcases h with ⟨a,cap,e,h,h1,h2⟩ | ⟨b,o,cap,e,h1,h2,h3,h4⟩
 · exact .inl ⟨a,cap,e,by rw [h];rfl,h1,h2⟩
 · refine .inr ⟨b,o,cap,e,h1,h2,fun i hi=>?_⟩
   obtain ⟨cs,rfl,hc⟩:=h4 i Om;have:=hc 0 _ rfl;rwa [Nat.add_zero,show i * Dat.sz Int=i from Nat.mul_one i] at this
theorem RInts.rl {v:Value} {l:List Int} (h:RInts w v l):RL w (fun k=>some k=v.ownBlock) v l:=by
 rcases h with ⟨a,cap,e,h,h1,h2⟩ | ⟨b,o,cap,e,h1,h2,h3⟩
 · exact .inl ⟨a,cap,e,List.eq_nil_of_length_eq_zero h,h1,h2⟩
 · refine .inr ⟨b,o,cap,e,h1,h2,fun hp=>⟨by rw [e];rfl,?_⟩,fun i hi=>⟨[.int .i64 (gi l i)],rfl,fun j u hj=>?_⟩⟩
   · have:=World.block_lt_of_cell? w _ (h3 0 Om)
     simpa using this
   · cases j with
     | succ j=>simp at hj
     | zero =>
       simp at hj;subst hj;rw [Nat.add_zero,show i * Dat.sz Int=i from Nat.mul_one i];exact h3 i Om
theorem RL.factAt {v:Value} {l:List Ap} (h:RL w S v l):∃ a cap,v=.slice a l.length cap∧l.length≤cap∧cap≤maxLen ∧
 ∀ i,i < l.length→∃ b o,a=some ⟨b,o,none⟩∧S b∧b < w.heap.size∧w.cell? ⟨b,o+i * 3,none⟩=some (.bool (gd l i).1)∧w.cell? ⟨b,o+i * 3+1,none⟩=some (.int .i64 (gd l i).2.1)∧w.cell? ⟨b,o+i * 3+2,none⟩=some (.int .i64 (gd l i).2.2):=by
 obtain ⟨a,cap,e,h1,h2,h3⟩:=h.cells;refine ⟨a,cap,e,h1,h2,fun i hi=>?_⟩;obtain ⟨b,o,ea,hs,hb,cs,hr,hc⟩:=h3 i hi;have:=QJ hr;subst this;exact ⟨b,o,ea,hs,hb,hc 0 _ rfl,hc 1 _ rfl,hc 2 _ rfl⟩
theorem RL.atomAt {v:Value} {l:List Am} (h:RL w S v l):∃ a cap,v=.slice a l.length cap∧l.length≤cap∧cap≤maxLen ∧
 ∀ i,i < l.length→∃ b o,a=some ⟨b,o,none⟩∧S b∧b < w.heap.size∧w.cell? ⟨b,o+i * 3,none⟩=some (.int .i64 (gd l i).1)∧w.cell? ⟨b,o+i * 3+1,none⟩=some (.int .i64 (gd l i).2.1)∧w.cell? ⟨b,o+i * 3+2,none⟩=some (.int .i64 (gd l i).2.2):=by
 obtain ⟨a,cap,e,h1,h2,h3⟩:=h.cells;refine ⟨a,cap,e,h1,h2,fun i hi=>?_⟩;obtain ⟨b,o,ea,hs,hb,cs,hr,hc⟩:=h3 i hi;have:=Ut hr;subst this;exact ⟨b,o,ea,hs,hb,hc 0 _ rfl,hc 1 _ rfl,hc 2 _ rfl⟩
theorem RL.asnAt {v:Value} {l:List Aj} (h:RL w S v l):∃ a cap,v=.slice a l.length cap∧l.length≤cap∧cap≤maxLen ∧
 ∀ i,i < l.length→∃ b o v1 v2,a=some ⟨b,o,none⟩∧S b∧b < w.heap.size∧w.cell? ⟨b,o+i * 2,none⟩=some v1∧w.cell? ⟨b,o+i * 2+1,none⟩=some v2∧RL w S v1 (gd l i).1∧RL w S v2 (gd l i).2:=by
 obtain ⟨a,cap,e,h1,h2,h3⟩:=h.cells;refine ⟨a,cap,e,h1,h2,fun i hi=>?_⟩;obtain ⟨b,o,ea,hs,hb,cs,hr,hc⟩:=h3 i hi;obtain ⟨v1,v2,rfl,r1,r2⟩:=Pc hr;exact ⟨b,o,v1,v2,ea,hs,hb,hc 0 _ rfl,hc 1 _ rfl,r1,r2⟩
end
class Tid (α:Type) where
 tid:Nat
instance:Tid Int:=⟨3⟩
instance:Tid Ap:=⟨61⟩
instance:Tid Am:=⟨118⟩
class Own (α:Type) extends Dat α where
 own:World→Nat→α→List Value→List Nat→Prop
 lt:∀ {w B a cs fp},own w B a cs fp→∀ k ∈ fp,B≤k∧k < w.heap.size
 read:∀ {w B a cs fp},own w B a cs fp→rd w (· ∈ fp) a cs
 okept:∀ {w w' B T a cs fp},own w B a cs fp→Fr T w w'→(∀ k ∈ fp,¬ T k)→own w' B a cs fp
 mono:∀ {w B B' a cs fp},own w B a cs fp→B'≤B→own w B' a cs fp
instance:Own Int where
 own:=fun _ _ a cs fp=>cs=[.int .i64 a]∧fp=[]
 lt:=fun h k hk=>by rw [h.2] at hk;cases hk
 read:=fun h=>h.1
 okept:=fun h _ _=>h
 mono:=fun h _=>h
instance:Own Bool where
 own:=fun _ _ a cs fp=>cs=[.bool a]∧fp=[]
 lt:=fun h k hk=>by rw [h.2] at hk;cases hk
 read:=fun h=>h.1
 okept:=fun h _ _=>h
 mono:=fun h _=>h
instance {α β:Type} [Own α] [Own β]:Own (α × β) where
 own:=fun w B p cs fp=>∃ c1 c2 f1 f2,cs=c1 ++ c2∧fp=f1 ++ f2∧Own.own w B p.1 c1 f1∧Own.own w B p.2 c2 f2
 lt:=fun h k hk=>by
  obtain ⟨c1,c2,f1,f2,rfl,rfl,h1,h2⟩:=h;rcases List.mem_append.1 hk with hk | hk
  · exact Own.lt h1 k hk
  · exact Own.lt h2 k hk
 read:=fun h=>by
  obtain ⟨c1,c2,f1,f2,rfl,rfl,h1,h2⟩:=h;exact ⟨c1,c2,rfl,Dat.more (Own.read h1) fun k _ hk=>List.mem_append_left _ hk,Dat.more (Own.read h2) fun k _ hk=>List.mem_append_right _ hk⟩
 okept:=fun h hf hs=>by
  obtain ⟨c1,c2,f1,f2,rfl,rfl,h1,h2⟩:=h;exact ⟨c1,c2,f1,f2,rfl,rfl,Own.okept h1 hf fun k hk=>hs k (List.mem_append_left _ hk),Own.okept h2 hf fun k hk=>hs k (List.mem_append_right _ hk)⟩
 mono:=fun h hB=>by
  obtain ⟨c1,c2,f1,f2,rfl,rfl,h1,h2⟩:=h;exact ⟨c1,c2,f1,f2,rfl,rfl,Own.mono h1 hB,Own.mono h2 hB⟩
def Bz (sz:Nat) (xs:List Value) (i:Nat):List Value:=(xs.drop (i * sz)).take sz
theorem E3 {sz i j:Nat} {xs:List Value} {u:Value} (h:(Bz sz xs i)[j]?=some u):xs[i * sz+j]?=some u:=by
 unfold Bz at h;rw [List.getElem?_take] at h;split at h
 · rwa [List.getElem?_drop] at h
 · cases h
theorem Fb {sz i n:Nat} {xs ys:List Value} (hl:xs.length=n * sz) (hi:i < n):Bz sz (xs ++ ys) i=Bz sz xs i:=by
 unfold Bz;have h1:(i+1) * sz≤n * sz:=Nat.mul_le_mul_right _ hi;rw [Nat.succ_mul] at h1;rw [List.drop_append_of_le_length Om,List.take_append_of_le_length (by rw [List.length_drop];omega)]
theorem SB {sz n:Nat} {xs ys:List Value} (hl:xs.length=n * sz) (hy:ys.length=sz):Bz sz (xs ++ ys) n=ys:=by
 unfold Bz;rw [← hl,List.drop_left,← hy,List.take_length]
def OL {α:Type} [Own α] [Tid α] (w:World) (B:Nat) (v:Value) (l:List α) (fp:List Nat):Prop :=
 ∃ (xs:List Value) (fps:List (List Nat)),w.ownsRow B (Tid.tid α) (Dat.sz α) v l.length xs∧fps.length=l.length∧fp=v.ownBlock.toList ++ fps.flatten ∧
   ∀ i,i < l.length→Own.own w B (gd l i) (Bz (Dat.sz α) xs i) (gd fps i)
theorem Ba {v:Value} {k:Nat}:k ∈ v.ownBlock.toList ↔ some k=v.ownBlock:=by
 cases h:v.ownBlock with
 | none=>simp
 | some x=>simp
theorem Fc {fps:List (List Nat)} {k i:Nat} (hi:i < fps.length) (h:k ∈ gd fps i):k ∈ fps.flatten :=
 List.mem_flatten.2 ⟨_,Be hi,h⟩
theorem F8 {fps:List (List Nat)} {k:Nat} (h:k ∈ fps.flatten):∃ i,i < fps.length∧k ∈ gd fps i:=by
 obtain ⟨f,hf,hk⟩:=List.mem_flatten.1 h;obtain ⟨i,hi,rfl⟩:=List.getElem_of_mem hf;exact ⟨i,hi,by rw [BT hi];exact hk⟩
section
variable {α:Type} [Own α] [Tid α] {w w':World} {B B':Nat} {v:Value} {l:List α} {fp:List Nat} {T:Nat→Prop}
theorem OL.lt (h:OL w B v l fp):∀ k ∈ fp,B≤k∧k < w.heap.size:=by
 obtain ⟨xs,fps,hr,hl,rfl,ho⟩:=h;intro k hk;rcases List.mem_append.1 hk with hk | hk
 · exact AD hr (Ba.1 hk)
 · obtain ⟨i,hi,hk⟩:=F8 hk
   exact Own.lt (ho i Om) k hk
theorem OL.okept (h:OL w B v l fp) (hf:Fr T w w') (hs:∀ k ∈ fp,¬ T k):OL w' B v l fp:=by
 obtain ⟨xs,fps,hr,hl,rfl,ho⟩:=h;refine ⟨xs,fps,BR hr hf (fun k hk=>hs k (List.mem_append_left _ (Ba.2 hk))),hl,rfl,fun i hi=>Own.okept (ho i hi) hf fun k hk=>hs k (List.mem_append_right _ (Fc Om hk))⟩
theorem OL.mono (h:OL w B v l fp) (hB:B'≤B):OL w B' v l fp:=by
 obtain ⟨xs,fps,hr,hl,rfl,ho⟩:=h;exact ⟨xs,fps,BK hr hB,hl,rfl,fun i hi=>Own.mono (ho i hi) hB⟩
theorem OL.keep (h:OL w B v l fp) (hb:Below w.heap.size w w'):OL w' B v l fp:=h.okept (Below.fr hb) fun _ _ h=>h
theorem OL.read (h:OL w B v l fp):RL w (· ∈ fp) v l:=by
 have hlt:=h.lt;obtain ⟨xs,fps,hr,hl,rfl,ho⟩:=h;have hcells:=JV hr;rcases hcells with ⟨a,cap,rfl,h0,h1,h2⟩ | ⟨b,o,cap,rfl,h1,h2,h3⟩
 · exact .inl ⟨a,cap,rfl,List.eq_nil_of_length_eq_zero h0,h1,h2⟩
 · refine .inr ⟨b,o,cap,rfl,h1,h2,fun hp=>?_,fun i hi=>⟨_,Dat.more (Own.read (ho i hi)) fun k _ hk=>List.mem_append_right _ (Fc Om hk),fun j u hj=>?_⟩⟩
   · have hm:b ∈ (Value.slice (some ⟨b,o,none⟩) l.length cap).ownBlock.toList:=Ba.2 rfl
     exact ⟨List.mem_append_left _ hm,(hlt b (List.mem_append_left _ hm)).2⟩
   · have hx:=E3 hj
     have hlen:i * Dat.sz α+j < xs.length:=(List.getElem?_eq_some_iff.1 hx).1;have:=h3 (i * Dat.sz α+j) (by rw [← hr.1];exact hlen);rw [this];simp [hx]
theorem OL.nil (w:World) (B:Nat):OL w B (.slice none 0 0) ([]:List α) [] :=
 ⟨[],[],World.ownsRow_nil _ _ _ _,rfl,rfl,fun i hi=>absurd hi Sp⟩
end
instance {α:Type} [Own α] [Tid α]:Own (List α) where
 own:=fun w B l cs fp=>∃ v,cs=[v]∧OL w B v l fp
 lt:=fun h=>by obtain ⟨v,_,h⟩:=h;exact h.lt
 read:=fun h=>by obtain ⟨v,e,h⟩:=h;exact ⟨v,e,h.read⟩
 okept:=fun h hf hs=>by obtain ⟨v,e,h⟩:=h;exact ⟨v,e,h.okept hf hs⟩
 mono:=fun h hB=>by obtain ⟨v,e,h⟩:=h;exact ⟨v,e,h.mono hB⟩
instance:Tid (List Int):=⟨27⟩
instance:Tid Aj:=⟨26⟩
instance:Tid WX:=⟨9999⟩
def OA {α β:Type} [Own α] [Tid α] [Own β] [Tid β] (w:World) (B:Nat) (v1 v2:Value) (a:List α × List β):Prop :=
 ∃ f1 f2,OL w B v1 a.1 f1∧OL w B v2 a.2 f2∧(f1 ++ f2).Nodup
def OO {α:Type} [Own α] [Tid α] (w:World) (B:Nat) (v:Value) (l:List α):Prop:=∃ f,OL w B v l f∧f.Nodup
section
variable {α β:Type} [Own α] [Tid α] [Own β] [Tid β] {w w':World} {B B':Nat} {v v1 v2:Value} {l:List α} {a:List α × List β} {T:Nat→Prop}
theorem OO.mono (h:OO w B v l) (hB:B'≤B):OO w B' v l:=by obtain ⟨f,h,hn⟩:=h;exact ⟨f,h.mono hB,hn⟩
theorem OO.read (h:OO w B v l):RL w (fun k=>B≤k) v l:=by obtain ⟨f,h,_⟩:=h;exact h.read.more fun k _ hk=>(h.lt k hk).1
theorem OO.form (h:OO w B v l):∃ a cap,v=.slice a l.length cap:=h.read.form
theorem OA.keep (h:OA w B v1 v2 a) (hb:Below w.heap.size w w'):OA w' B v1 v2 a:=by obtain ⟨f1,f2,h1,h2,hn⟩:=h;exact ⟨f1,f2,h1.keep hb,h2.keep hb,hn⟩
theorem OA.mono (h:OA w B v1 v2 a) (hB:B'≤B):OA w B' v1 v2 a:=by obtain ⟨f1,f2,h1,h2,hn⟩:=h;exact ⟨f1,f2,h1.mono hB,h2.mono hB,hn⟩
theorem OA.kept (h:OA w B v1 v2 a) (hf:Fr T w w') (hs:∀ k,B≤k→k < w.heap.size→¬ T k):OA w' B v1 v2 a:=by
 obtain ⟨f1,f2,h1,h2,hn⟩:=h;exact ⟨f1,f2,h1.okept hf fun k hk=>hs k (h1.lt k hk).1 (h1.lt k hk).2,h2.okept hf fun k hk=>hs k (h2.lt k hk).1 (h2.lt k hk).2,hn⟩
theorem OA.one (h:OA w B v1 v2 a):RL w (fun k=>B≤k) v1 a.1:=by obtain ⟨f1,f2,h1,h2,hn⟩:=h;exact h1.read.more fun k _ hk=>(h1.lt k hk).1
theorem OA.two (h:OA w B v1 v2 a):RL w (fun k=>B≤k) v2 a.2:=by obtain ⟨f1,f2,h1,h2,hn⟩:=h;exact h2.read.more fun k _ hk=>(h2.lt k hk).1
end
theorem Hw {α:Type} [Inhabited α] {l1 l2:List α} {k:Nat} (h1:k < l1.length) (h2:k < l2.length) (h:l1.take k=l2.take k) (e:gd l1 k=gd l2 k):l1.take (k+1)=l2.take (k+1):=by
 rw [AT h1,AT h2,h,e]
theorem Nl {α:Type} [Inhabited α] {l1 l2:List α} {k:Nat} (e:¬ gd l1 k=gd l2 k):¬ l1=l2:=fun h=>e (by rw [h])
theorem Pd (f g:Ap) (w:World) :
 Calls Tryz.prog 111 #[.agg #[.bool f.1,.int .i64 f.2.1,.int .i64 f.2.2],.agg #[.bool g.1,.int .i64 g.2.1,.int .i64 g.2.2]] w fun e w'=>e=.returned (.bool (decide (f=g)))∧Below w.heap.size w w':=by
 obtain ⟨b1,x1,y1⟩:=f;obtain ⟨b2,x2,y2⟩:=g;by_cases hb:b1=b2;rotate_left
 · have hfin:decide ((b1,x1,y1)=(b2,x2,y2))=false:=by simp [hb]
   have HF:=Ad hfin;(obtain ⟨hd1,hd2⟩ | ⟨hd1,hd2⟩:(b1=true∧b2=false)∨(b1=false∧b2=true):=by cases b1 <;> cases b2 <;> simp at hb ⊢);all_goals
    subst hd1;subst hd2;clear hb hfin;go_enter Tryz.func111,Tryz.ntmps111
    go_wp2;go_ret;exact ⟨by rw [HF.o];rfl,ba (Aa _ _) _⟩
 subst hb;have hn:(b1 == b1)=true:=by simp
 by_cases hx:x1=x2;rotate_left
 · have hn2:(x1 != x2)=true:=by simpa using hx
   (have hfin:decide ((b1,x1,y1)=(b1,x2,y2))=false:=by simp [hx]);have HF:=Ad hfin;clear hx hfin;go_enter Tryz.func111,Tryz.ntmps111
   go_wp2;go_ret;exact ⟨by rw [HF.o];rfl,ba (Aa _ _) _⟩
 subst hx;by_cases hy:y1=y2;rotate_left
 · have hn2:(y1 != y2)=true:=by simpa using hy
   (have hfin:decide ((b1,x1,y1)=(b1,x1,y2))=false:=by simp [hy]);have HF:=Ad hfin;clear hy hfin;go_enter Tryz.func111,Tryz.ntmps111
   go_wp2;go_ret;exact ⟨by rw [HF.o];rfl,ba (Aa _ _) _⟩
 subst hy;go_enter Tryz.func111,Tryz.ntmps111
 go_wp2;go_ret;exact ⟨by simp,ba (Aa _ _) _⟩
theorem IV (f g:Ap) (b:Bool) (w:World) (h:decide (f=g)=b) :
 Calls Tryz.prog 111 #[.agg #[.bool f.1,.int .i64 f.2.1,.int .i64 f.2.2],.agg #[.bool g.1,.int .i64 g.2.1,.int .i64 g.2.2]] w fun e w'=>e=.returned (.bool b)∧Below w.heap.size w w':=by
 rw [← h];exact Pd f g w
theorem Nm {S1 S2:Nat→Prop} (v1 v2:Value) (l1 l2:List Ap) (w:World) (h1:RL w S1 v1 l1) (h2:RL w S2 v2 l2) :
 Calls Tryz.prog 109 #[v1,v2] w fun e w'=>e=.returned (.bool (decide (l1=l2)))∧Below w.heap.size w w':=by
 have hm1:=h1.len;have hm2:=h2.len;unfold maxLen at hm1 hm2;obtain ⟨a1,c1,rfl,_,_,hf1⟩:=h1.factAt;obtain ⟨a2,c2,rfl,_,_,hf2⟩:=h2.factAt;by_cases hl:l1.length=l2.length;rotate_left
 · have hne:((l1.length:Int) != (l2.length:Int))=true:=by simp;omega
   (have hfin:decide (l1=l2)=false:=by simpa using fun h=>hl (by rw [h]));have HF:=Ad hfin;clear hl hfin hf1 hf2;go_enter Tryz.func109,Tryz.ntmps109
   go_wp2;go_ret;exact ⟨by rw [HF.o];rfl,Below.refl _ _⟩
 have HL:=Ad hl;have F1:=Ad hf1;have F2:=Ad hf2;have hne:((l1.length:Int) != (l2.length:Int))=false:=by simp [hl]
 have hle:l1.length≤l2.length:=by omega
 clear hl hf1 hf2 h1 h2;go_enter Tryz.func109,Tryz.ntmps109
 go_wp2;go_loopg [5] l1.length (fun q i wr=>∃ k:Nat,k+q=l1.length∧i=.int .i64 k∧l1.take k=l2.take k∧Below w.heap.size w wr)
 case atStart=>exact ⟨0,by omega,rfl,by simp,Below.refl _ _⟩
 case round =>
  obtain ⟨k,hk,rfl,ht,hb⟩:=hrel;have HK:=Ad hk;have HT:=Ad ht;clear hk ht;by_cases hk8:k < l1.length
  · have hk2:k < l2.length:=by omega
    obtain ⟨b1,o1,rfl,_,hbl1,hp1,hp2,hp3⟩:=F1.o k hk8;obtain ⟨b2,o2,rfl,_,hbl2,hq1,hq2,hq3⟩:=F2.o k hk2;replace hp1:=Ab hb hp1;replace hp2:=Ab hb hp2;replace hp3:=Ab hb hp3;replace hq1:=Ab hb hq1;replace hq2:=Ab hb hq2;replace hq3:=Ab hb hq3;have hs:=hb.size;(have g1:b1 < wr.heap.size:=by omega);(have g2:b2 < wr.heap.size:=by omega);(have i1:(k:Int) < (l1.length:Int):=by omega);(have i2:(k:Int) < (l2.length:Int):=by omega);by_cases he:gd l1 k=gd l2 k
    · have hd:decide (gd l1 k=gd l2 k)=true:=by simpa using he
      have HE:=Ad (An he hd);clear he hd;go_wp2;refine Af Kr Kr ?_;repeat (go_big_quiet_step ((go_at_call 111;exact Eu (IV (gd l1 k) (gd l2 k) true _ HE.o.2))))
      refine wpQuiet_nil ?_;intro w2 hb2;go_wp2;go_roundg (gk - 1)
      case rel=>exact ⟨k+1,by have:=HK.o;omega,by go_num,Hw hk8 hk2 HT.o HE.o.1,hb.trans (hb2.mono hs)⟩
      case measure=>have:=HK.o;omega
    · have hd:decide (gd l1 k=gd l2 k)=false:=by simpa using he
      (have hfin:decide (l1=l2)=false:=by simpa using Nl he);have HF:=Ad (An hfin hd);clear he hfin hd;go_wp2;refine Af Kr Kr ?_;repeat (go_big_quiet_step ((go_at_call 111;exact Eu (IV (gd l1 k) (gd l2 k) false _ HF.o.2))))
      refine wpQuiet_nil ?_;intro w2 hb2;go_wp2;go_ret;exact ⟨by rw [HF.o.1];rfl,hb.trans (hb2.mono hs)⟩
  · obtain rfl:k=l1.length:=by have:=HK.o;omega
    have hfin:decide (l1=l2)=true:=by
     have:=HT.o;rw [List.take_length,HL.o,List.take_length] at this;simpa using this
    have HF:=Ad hfin;clear hfin HT;go_wp2;go_ret;exact ⟨by rw [HF.o];rfl,hb⟩
theorem Pe (f g:Am) (w:World) :
 Calls Tryz.prog 186 #[.agg #[.int .i64 f.1,.int .i64 f.2.1,.int .i64 f.2.2],.agg #[.int .i64 g.1,.int .i64 g.2.1,.int .i64 g.2.2]] w fun e w'=>e=.returned (.bool (decide (f=g)))∧Below w.heap.size w w':=by
 obtain ⟨b1,x1,y1⟩:=f;obtain ⟨b2,x2,y2⟩:=g;by_cases h0:b1=b2;rotate_left
 · have hn:(b1 != b2)=true:=by simpa using h0
   (have hfin:decide ((b1,x1,y1)=(b2,x2,y2))=false:=by simp [h0]);have HF:=Ad hfin;clear h0 hfin;go_enter Tryz.func186,Tryz.ntmps186
   go_wp2;go_ret;exact ⟨by rw [HF.o];rfl,ba (Aa _ _) _⟩
 subst h0;by_cases h1:x1=x2;rotate_left
 · have hn:(x1 != x2)=true:=by simpa using h1
   (have hfin:decide ((b1,x1,y1)=(b1,x2,y2))=false:=by simp [h1]);have HF:=Ad hfin;clear h1 hfin;go_enter Tryz.func186,Tryz.ntmps186
   go_wp2;go_ret;exact ⟨by rw [HF.o];rfl,ba (Aa _ _) _⟩
 subst h1;by_cases h2:y1=y2;rotate_left
 · have hn:(y1 != y2)=true:=by simpa using h2
   (have hfin:decide ((b1,x1,y1)=(b1,x1,y2))=false:=by simp [h2]);have HF:=Ad hfin;clear h2 hfin;go_enter Tryz.func186,Tryz.ntmps186
   go_wp2;go_ret;exact ⟨by rw [HF.o];rfl,ba (Aa _ _) _⟩
 subst h2;go_enter Tryz.func186,Tryz.ntmps186
 go_wp2;go_ret;exact ⟨by simp,ba (Aa _ _) _⟩
theorem LI (f g:Am) (b:Bool) (w:World) (h:decide (f=g)=b) :
 Calls Tryz.prog 186 #[.agg #[.int .i64 f.1,.int .i64 f.2.1,.int .i64 f.2.2],.agg #[.int .i64 g.1,.int .i64 g.2.1,.int .i64 g.2.2]] w fun e w'=>e=.returned (.bool b)∧Below w.heap.size w w':=by
 rw [← h];exact Pe f g w
theorem Nn {S1 S2:Nat→Prop} (v1 v2:Value) (l1 l2:List Am) (w:World) (h1:RL w S1 v1 l1) (h2:RL w S2 v2 l2) :
 Calls Tryz.prog 110 #[v1,v2] w fun e w'=>e=.returned (.bool (decide (l1=l2)))∧Below w.heap.size w w':=by
 have hm1:=h1.len;have hm2:=h2.len;unfold maxLen at hm1 hm2;obtain ⟨a1,c1,rfl,_,_,hf1⟩:=h1.atomAt;obtain ⟨a2,c2,rfl,_,_,hf2⟩:=h2.atomAt;by_cases hl:l1.length=l2.length;rotate_left
 · have hne:((l1.length:Int) != (l2.length:Int))=true:=by simp;omega
   (have hfin:decide (l1=l2)=false:=by simpa using fun h=>hl (by rw [h]));have HF:=Ad hfin;clear hl hfin hf1 hf2;go_enter Tryz.func110,Tryz.ntmps110
   go_wp2;go_ret;exact ⟨by rw [HF.o];rfl,Below.refl _ _⟩
 have HL:=Ad hl;have F1:=Ad hf1;have F2:=Ad hf2;have hne:((l1.length:Int) != (l2.length:Int))=false:=by simp [hl]
 have hle:l1.length≤l2.length:=by omega
 clear hl hf1 hf2 h1 h2;go_enter Tryz.func110,Tryz.ntmps110
 go_wp2;go_loopg [5] l1.length (fun q i wr=>∃ k:Nat,k+q=l1.length∧i=.int .i64 k∧l1.take k=l2.take k∧Below w.heap.size w wr)
 case atStart=>exact ⟨0,by omega,rfl,by simp,Below.refl _ _⟩
 case round =>
  obtain ⟨k,hk,rfl,ht,hb⟩:=hrel;have HK:=Ad hk;have HT:=Ad ht;clear hk ht;by_cases hk8:k < l1.length
  · have hk2:k < l2.length:=by omega
    obtain ⟨b1,o1,rfl,_,hbl1,hp1,hp2,hp3⟩:=F1.o k hk8;obtain ⟨b2,o2,rfl,_,hbl2,hq1,hq2,hq3⟩:=F2.o k hk2;replace hp1:=Ab hb hp1;replace hp2:=Ab hb hp2;replace hp3:=Ab hb hp3;replace hq1:=Ab hb hq1;replace hq2:=Ab hb hq2;replace hq3:=Ab hb hq3;have hs:=hb.size;(have g1:b1 < wr.heap.size:=by omega);(have g2:b2 < wr.heap.size:=by omega);(have i1:(k:Int) < (l1.length:Int):=by omega);(have i2:(k:Int) < (l2.length:Int):=by omega);by_cases he:gd l1 k=gd l2 k
    · have hd:decide (gd l1 k=gd l2 k)=true:=by simpa using he
      have HE:=Ad (An he hd);clear he hd;go_wp2;refine Af Kr Kr ?_;repeat (go_big_quiet_step ((go_at_call 186;exact Eu (LI (gd l1 k) (gd l2 k) true _ HE.o.2))))
      refine wpQuiet_nil ?_;intro w2 hb2;go_wp2;go_roundg (gk - 1)
      case rel=>exact ⟨k+1,by have:=HK.o;omega,by go_num,Hw hk8 hk2 HT.o HE.o.1,hb.trans (hb2.mono hs)⟩
      case measure=>have:=HK.o;omega
    · have hd:decide (gd l1 k=gd l2 k)=false:=by simpa using he
      (have hfin:decide (l1=l2)=false:=by simpa using Nl he);have HF:=Ad (An hfin hd);clear he hfin hd;go_wp2;refine Af Kr Kr ?_;repeat (go_big_quiet_step ((go_at_call 186;exact Eu (LI (gd l1 k) (gd l2 k) false _ HF.o.2))))
      refine wpQuiet_nil ?_;intro w2 hb2;go_wp2;go_ret;exact ⟨by rw [HF.o.1];rfl,hb.trans (hb2.mono hs)⟩
  · obtain rfl:k=l1.length:=by have:=HK.o;omega
    have hfin:decide (l1=l2)=true:=by
     have:=HT.o;rw [List.take_length,HL.o,List.take_length] at this;simpa using this
    have HF:=Ad hfin;clear hfin HT;go_wp2;go_ret;exact ⟨by rw [HF.o];rfl,hb⟩
def AH (f:Ap):Bool:=Al f.2.1 && Al f.2.2
def AQ (x:Am):Bool:=((x.1 == 1) || (x.1 == 2)) && (Al x.2.1 && Al x.2.2)
def Bv (l:List Ap):Bool:=decide (l.length≤12) && l.all AH
def Ah (a:Aj):Bool:=Bv a.1 && (decide (a.2.length≤6) && a.2.all AQ)
theorem Bb {α:Type} [Inhabited α] {p:α→Bool} {l:List α} {k:Nat} (h:k < l.length) (ht:(l.take k).all p=true) (hp:p (gd l k)=true):(l.take (k+1)).all p=true:=by
 rw [AT h,List.all_append,ht];simp [hp]
theorem F9 {α:Type} [Inhabited α] {p:α→Bool} {l:List α} {k:Nat} (h:k < l.length) (hp:p (gd l k)=false):l.all p=false:=by
 rw [List.all_eq_false];exact ⟨_,Be h,by simp [hp]⟩
theorem Fy {α:Type} {p:α→Bool} {l:List α} (ht:(l.take l.length).all p=true):l.all p=true:=by rwa [List.take_length] at ht
theorem Cg (f:Ap) (w:World) :
 Calls Tryz.prog 130 #[.agg #[.bool f.1,.int .i64 f.2.1,.int .i64 f.2.2]] w fun e w'=>e=.returned (.bool (AH f))∧Below w.heap.size w w':=by
 cases h:Al f.2.1
 · have hf:AH f=false:=by simp [AH,h]
   have HF:=Ad (An hf h);clear hf h;go_enter Tryz.func130,Tryz.ntmps130
   go_wp2_with (go_at_call 194;go_must (refine (Bc f.2.1 _).mono ?_;rw [HF.o.2];rintro e w' ⟨rfl,rfl⟩))
   go_ret;exact ⟨by rw [HF.o.1];rfl,Aa _ _⟩
 · have hf:AH f=Al f.2.2:=by simp [AH,h]
   have HF:=Ad (An hf h);clear hf h;go_enter Tryz.func130,Tryz.ntmps130
   (go_wp2_with fail);refine (Bc f.2.1 _).mono ?_;rw [HF.o.2];rintro e w' ⟨rfl,rfl⟩;(go_wp2_with fail);refine (Bc f.2.2 _).mono ?_;rintro e w' ⟨rfl,rfl⟩;go_wp2;go_ret;exact ⟨by rw [HF.o.1];rfl,Aa _ _⟩
theorem Ch (f:Ap) (w:World) :
 Calls Tryz.prog 213 #[.agg #[.bool f.1,.int .i64 f.2.1,.int .i64 f.2.2]] w fun e w'=>e=.returned (.bool (AH f))∧Below w.heap.size w w':=by
 cases h:Al f.2.1
 · have hf:AH f=false:=by simp [AH,h]
   have HF:=Ad (An hf h);clear hf h;go_enter Tryz.func213,Tryz.ntmps213
   go_wp2_with (go_at_call 156;go_must (refine (Cf f.2.1 _).mono ?_;rw [HF.o.2];rintro e w' ⟨rfl,rfl⟩))
   go_ret;exact ⟨by rw [HF.o.1];rfl,Aa _ _⟩
 · have hf:AH f=Al f.2.2:=by simp [AH,h]
   have HF:=Ad (An hf h);clear hf h;go_enter Tryz.func213,Tryz.ntmps213
   (go_wp2_with fail);refine (Cf f.2.1 _).mono ?_;rw [HF.o.2];rintro e w' ⟨rfl,rfl⟩;(go_wp2_with fail);refine (Cf f.2.2 _).mono ?_;rintro e w' ⟨rfl,rfl⟩;go_wp2;go_ret;exact ⟨by rw [HF.o.1];rfl,Aa _ _⟩
theorem cb {P:Program} {f:FuncId} {args:Array Value} {w:World} {T b:Bool} {R:World→Prop} (h:Calls P f args w fun e w'=>e=.returned (.bool T)∧R w') (e:T=b) :
 Calls P f args w fun e w'=>e=.returned (.bool b)∧R w':=by subst e;exact h
theorem Ga (f:Am) (w:World) :
 Calls Tryz.prog 145 #[.agg #[.int .i64 f.1,.int .i64 f.2.1,.int .i64 f.2.2]] w fun e w'=>e=.returned (.bool (AQ f))∧Below w.heap.size w w':=by
 obtain ⟨x,y,z⟩:=f;by_cases hk:x=1∨x=2;rotate_left
 · have hf:AQ (x,y,z)=false:=by
    have h1:¬ x=1:=fun e=>hk (.inl e);have h2:¬ x=2:=fun e=>hk (.inr e);simp [AQ,h1,h2]
   (have h1:(x == 1)=false:=by simp;exact fun e=>hk (.inl e));(have h2:(x == 2)=false:=by simp;exact fun e=>hk (.inr e));have HF:=Ad hf;clear hf hk;go_enter Tryz.func145,Tryz.ntmps145
   go_wp2;go_ret;exact ⟨by rw [HF.o];rfl,Aa _ _⟩
 have hk2:((x == 1) || (x == 2))=true:=by simpa using hk
 cases h:Al y
 · have hf:AQ (x,y,z)=false:=by simp [AQ,h]
   have HF:=Ad (An hf h);clear hf h hk2;rcases hk with rfl | rfl
   all_goals
    go_enter Tryz.func145,Tryz.ntmps145
    go_wp2_with (go_at_call 194;go_must (refine (cb (Bc y _) HF.o.2).mono ?_;rintro e w' ⟨rfl,rfl⟩))
    go_ret;exact ⟨by rw [HF.o.1];rfl,Aa _ _⟩
 have hf:AQ (x,y,z)=Al z:=by simp only [AQ,hk2,h,Bool.true_and]
 have HF:=Ad (An hf h);clear hf h hk2;rcases hk with rfl | rfl
 all_goals
  go_enter Tryz.func145,Tryz.ntmps145
  go_wp2_with fail
  refine (cb (Bc y _) HF.o.2).mono ?_;rintro e w' ⟨rfl,rfl⟩;go_wp2_with fail
  refine (Bc z _).mono ?_;rintro e w' ⟨rfl,rfl⟩;go_wp2;go_ret;exact ⟨by rw [HF.o.1];rfl,Aa _ _⟩
theorem Gb (f:Am) (w:World) :
 Calls Tryz.prog 152 #[.agg #[.int .i64 f.1,.int .i64 f.2.1,.int .i64 f.2.2]] w fun e w'=>e=.returned (.bool (AQ f))∧Below w.heap.size w w':=by
 obtain ⟨x,y,z⟩:=f;by_cases hk:x=1∨x=2;rotate_left
 · have hf:AQ (x,y,z)=false:=by
    have h1:¬ x=1:=fun e=>hk (.inl e);have h2:¬ x=2:=fun e=>hk (.inr e);simp [AQ,h1,h2]
   (have h1:(x == 1)=false:=by simp;exact fun e=>hk (.inl e));(have h2:(x == 2)=false:=by simp;exact fun e=>hk (.inr e));have HF:=Ad hf;clear hf hk;go_enter Tryz.func152,Tryz.ntmps152
   go_wp2;go_ret;exact ⟨by rw [HF.o];rfl,Aa _ _⟩
 have hk2:((x == 1) || (x == 2))=true:=by simpa using hk
 cases h:Al y
 · have hf:AQ (x,y,z)=false:=by simp [AQ,h]
   have HF:=Ad (An hf h);clear hf h hk2;rcases hk with rfl | rfl
   all_goals
    go_enter Tryz.func152,Tryz.ntmps152
    go_wp2_with (go_at_call 156;go_must (refine (cb (Cf y _) HF.o.2).mono ?_;rintro e w' ⟨rfl,rfl⟩))
    go_ret;exact ⟨by rw [HF.o.1];rfl,Aa _ _⟩
 have hf:AQ (x,y,z)=Al z:=by simp only [AQ,hk2,h,Bool.true_and]
 have HF:=Ad (An hf h);clear hf h hk2;rcases hk with rfl | rfl
 all_goals
  go_enter Tryz.func152,Tryz.ntmps152
  go_wp2_with fail
  refine (cb (Cf y _) HF.o.2).mono ?_;rintro e w' ⟨rfl,rfl⟩;go_wp2_with fail
  refine (Cf z _).mono ?_;rintro e w' ⟨rfl,rfl⟩;go_wp2;go_ret;exact ⟨by rw [HF.o.1];rfl,Aa _ _⟩
theorem Ea {S:Nat→Prop} (v:Value) (l:List Ap) (w:World) (h:RL w S v l) :
 Calls Tryz.prog 144 #[v] w fun e w'=>e=.returned (.bool (Bv l))∧Below w.heap.size w w':=by
 have hm:=h.len;unfold maxLen at hm;obtain ⟨a,c,rfl,_,_,hf⟩:=h.factAt;have F1:=Ad hf;clear hf h;by_cases hl:l.length≤12;rotate_left
 · have hfin:Bv l=false:=by unfold Bv;simp [hl]
   (have hgt:(12:Int) < (l.length:Int):=by omega);have HF:=Ad hfin;clear hfin hl;go_enter Tryz.func144,Tryz.ntmps144
   go_wp2;go_ret;exact ⟨by rw [HF.o];rfl,Below.refl _ _⟩
 have hgt:¬ (12:Int) < (l.length:Int):=by omega
 go_enter Tryz.func144,Tryz.ntmps144
 go_wp2;go_loopg [10] l.length (fun q i wr=>∃ k:Nat,k+q=l.length∧i=.int .i64 k∧(l.take k).all AH=true∧Below w.heap.size w wr)
 case atStart=>exact ⟨0,by omega,rfl,by simp,Below.refl _ _⟩
 case round =>
  obtain ⟨k,hk,rfl,ht,hb⟩:=hrel;have HK:=Ad hk;have HT:=Ad ht;clear hk ht;by_cases hk8:k < l.length
  · obtain ⟨b1,o1,rfl,_,hbl1,hp1,hp2,hp3⟩:=F1.o k hk8
    replace hp1:=Ab hb hp1;replace hp2:=Ab hb hp2;replace hp3:=Ab hb hp3;have hs:=hb.size;(have i1:(k:Int) < (l.length:Int):=by omega);(have hzb:b1 < wr.heap.size:=by omega);cases hp:AH (gd l k)
    · have hfin:Bv l=false:=by unfold Bv;rw [F9 hk8 hp];simp
      have HF:=Ad (An hfin hp);clear hfin hp;(go_wp2_with fail);refine (cb (Cg (gd l k) _) HF.o.2).mono ?_;rintro e w2 ⟨rfl,hb2⟩;go_wp2;go_ret;exact ⟨by rw [HF.o.1];rfl,bt Bl hb2⟩
    · have HP:=Ad hp
      clear hp;(go_wp2_with fail);refine (cb (Cg (gd l k) _) HP.o).mono ?_;rintro e w2 ⟨rfl,hb2⟩;go_wp2;go_roundg (gk - 1)
      case rel=>exact ⟨k+1,by have:=HK.o;omega,by go_num,Bb hk8 HT.o HP.o,bt Bl hb2⟩
      case measure=>have:=HK.o;omega
  · obtain rfl:k=l.length:=by have:=HK.o;omega
    have hall:=Fy HT.o;have HA:=Ad hall;clear hall HT;go_wp2;go_ret;exact ⟨by rw [Bv,HA.o];simp;omega,hb⟩
theorem FY {S:Nat→Prop} (v:Value) (l:List Ap) (w:World) (h:RL w S v l) :
 Calls Tryz.prog 153 #[v] w fun e w'=>e=.returned (.bool (Bv l))∧Below w.heap.size w w':=by
 have hm:=h.len;unfold maxLen at hm;obtain ⟨a,c,rfl,_,_,hf⟩:=h.factAt;have F1:=Ad hf;clear hf h;go_enter Tryz.func153,Tryz.ntmps153
 go_wp2;go_loopg [3] l.length (fun q i wr=>∃ k:Nat,k+q=l.length∧i=.int .i64 k∧(l.take k).all AH=true∧Below w.heap.size w wr)
 case atStart=>exact ⟨0,by omega,rfl,by simp,Below.refl _ _⟩
 case round =>
  obtain ⟨k,hk,rfl,ht,hb⟩:=hrel;have HK:=Ad hk;have HT:=Ad ht;clear hk ht;by_cases hk8:k < l.length
  · obtain ⟨b1,o1,rfl,_,hbl1,hp1,hp2,hp3⟩:=F1.o k hk8
    replace hp1:=Ab hb hp1;replace hp2:=Ab hb hp2;replace hp3:=Ab hb hp3;have hs:=hb.size;(have i1:(k:Int) < (l.length:Int):=by omega);(have hzb:b1 < wr.heap.size:=by omega);cases hp:AH (gd l k)
    · have hfin:Bv l=false:=by unfold Bv;rw [F9 hk8 hp];simp
      have HF:=Ad (An hfin hp);clear hfin hp;(go_wp2_with fail);refine (cb (Ch (gd l k) _) HF.o.2).mono ?_;rintro e w2 ⟨rfl,hb2⟩;go_wp2;go_ret;exact ⟨by rw [HF.o.1];rfl,bt Bl hb2⟩
    · have HP:=Ad hp
      clear hp;(go_wp2_with fail);refine (cb (Ch (gd l k) _) HP.o).mono ?_;rintro e w2 ⟨rfl,hb2⟩;go_wp2;go_roundg (gk - 1)
      case rel=>exact ⟨k+1,by have:=HK.o;omega,by go_num,Bb hk8 HT.o HP.o,bt Bl hb2⟩
      case measure=>have:=HK.o;omega
  · obtain rfl:k=l.length:=by have:=HK.o;omega
    have hall:=Fy HT.o;have HA:=Ad hall;clear hall HT;go_wp2;go_ret;exact ⟨by rw [Bv,HA.o];simp;omega,hb⟩
theorem QK {sz n k:Nat} {xs:List Value} (h:xs.length=n * sz) (hk:k < n):(Bz sz xs k).length=sz:=by
 have:(k+1) * sz≤n * sz:=Nat.mul_le_mul_right _ hk;rw [Nat.succ_mul] at this;rw [Bz,List.length_take,List.length_drop];omega
theorem C0 {sz k j i:Nat} {xs:List Value} {u:Value} (hj:j < sz):Bz sz (xs.set (k * sz+j) u) i=if i=k then (Bz sz xs k).set j u else Bz sz xs i:=by
 apply List.ext_getElem?;intro m;by_cases hm:m < sz
 · have e:∀ l:List Value,∀ i,(Bz sz l i)[m]?=l[i * sz+m]?:=fun l i=>by
    rw [Bz,List.getElem?_take,if_pos hm,List.getElem?_drop]
   rw [e,List.getElem?_set];by_cases hik:i=k
   · subst hik
     rw [if_pos rfl,List.getElem?_set];by_cases hjm:j=m
     · subst hjm
       rw [if_pos rfl,if_pos rfl];(have hl:(Bz sz xs i).length=min sz (xs.length - i * sz):=by rw [Bz,List.length_take,List.length_drop]);by_cases hlt:i * sz+j < xs.length
       · rw [if_pos hlt,if_pos (by rw [hl];omega)]
       · rw [if_neg hlt,if_neg (by rw [hl];omega)]
     · rw [if_neg hjm,if_neg Om,e]
   · rw [if_neg hik,e,if_neg]
     intro h;rcases Nat.lt_or_gt_of_ne hik with h1 | h1
     · have:(i+1) * sz≤k * sz:=Nat.mul_le_mul_right _ h1
       rw [Nat.succ_mul] at this;omega
     · have:(k+1) * sz≤i * sz:=Nat.mul_le_mul_right _ h1
       rw [Nat.succ_mul] at this;omega
 · have e:∀ l:List Value,∀ i,(Bz sz l i)[m]?=none:=fun l i=>by
    rw [Bz,List.getElem?_take,if_neg hm]
   rw [e];split
   · rw [List.getElem?_set]
     split
     · rename_i h;omega
     · rw [e]
   · rw [e]
theorem WJ {l:List Value} (h:l.length=3) (a b c:Value):((l.set 0 a).set 1 b).set 2 c=[a,b,c]:=by
 match l,h with
 | [_,_,_],_=>rfl
theorem set2 {l:List Value} (h:l.length=2) (a b:Value):(l.set 0 a).set 1 b=[a,b]:=by
 match l,h with
 | [_,_],_=>rfl
theorem Hx {sz k i:Nat} {xs:List Value} {u:Value} (h:0 < sz):Bz sz (xs.set (k * sz) u) i=if i=k then (Bz sz xs k).set 0 u else Bz sz xs i:=C0 (j:=0) h
theorem No {n k i:Nat} {xs:List Value} (h:xs.length=n * 3) (hk:k < n) (a b c:Value) :
 Bz 3 (((xs.set (k * 3) a).set (k * 3+1) b).set (k * 3+2) c) i=if i=k then [a,b,c] else Bz 3 xs i:=by
 rw [C0 (by omega)];by_cases e:i=k
 · rw [if_pos e,if_pos e,C0 Om,if_pos rfl,Hx Om,if_pos rfl,WJ (QK h hk)]
 · rw [if_neg e,if_neg e,C0 Om,if_neg e,Hx Om,if_neg e]
theorem SC {n k i:Nat} {xs:List Value} (h:xs.length=n * 2) (hk:k < n) (a b:Value) :
 Bz 2 ((xs.set (k * 2) a).set (k * 2+1) b) i=if i=k then [a,b] else Bz 2 xs i:=by
 rw [C0 (by omega)];by_cases e:i=k
 · rw [if_pos e,if_pos e,Hx Om,if_pos rfl,set2 (QK h hk)]
 · rw [if_neg e,if_neg e,Hx Om,if_neg e]
theorem Hy {w:World} {B e sz n:Nat} {v:Value} {xs:List Value} (h:w.ownsRow B e sz v n xs):∃ a cap,v=.slice a n cap∧(∀ i,i < n→∃ g,a=some ⟨g,0,none⟩):=by
 rcases h.2 with ⟨rfl,rfl⟩ | ⟨g,cap,cur,rfl,_⟩
 · exact ⟨none,0,rfl,fun i hi=>by omega⟩
 · exact ⟨_,cap,rfl,fun _ _=>⟨g,rfl⟩⟩
theorem BM {w:World} {B e sz n g cap j:Nat} {xs:List Value} (h:w.ownsRow B e sz (.slice (some ⟨g,0,none⟩) n cap) n xs) (hj:j < n * sz):∃ u,w.cell? ⟨g,j,none⟩=some u:=by
 refine ⟨xs[j]'(by rw [h.1];exact hj),?_⟩;rw [h.cellAt j hj];exact List.getElem?_eq_getElem _
theorem ME {α:Type} [Own α] [Tid α] {w:World} {B:Nat} {v:Value} {l:List α} {xs:List Value} {c:α→List Value} (hc:∀ (w:World) (B:Nat) (a:α),Own.own w B a (c a) [])
 (hr:w.ownsRow B (Tid.tid α) (Dat.sz α) v l.length xs) (h:∀ i,i < l.length→Bz (Dat.sz α) xs i=c (gd l i)):OL w B v l v.ownBlock.toList:=by
 refine ⟨xs,List.replicate l.length [],hr,by simp,by simp,fun i hi=>?_⟩;rw [h i hi,show gd (List.replicate l.length ([]:List Nat)) i=[] by simp [gd,hi]];exact hc w B _
theorem OL.row {α:Type} [Own α] [Tid α] {w:World} {B:Nat} {v:Value} {l:List α} {fp:List Nat} (h:OL w B v l fp) (hf:∀ {w B a cs fp},Own.own (α:=α) w B a cs fp→fp=[]) :
 (∃ xs,w.ownsRow B (Tid.tid α) (Dat.sz α) v l.length xs)∧fp=v.ownBlock.toList:=by
 obtain ⟨xs,fps,hr,hl,rfl,ho⟩:=h;refine ⟨⟨xs,hr⟩,?_⟩;have:fps.flatten=[]:=by
  rw [List.flatten_eq_nil_iff];intro f hf2;obtain ⟨i,hi,rfl⟩:=List.getElem_of_mem hf2;rw [← BT hi];exact hf (ho i Om)
 rw [this,List.append_nil]
def Vl (f:Ap):List Value:=[.bool f.1,.int .i64 f.2.1,.int .i64 f.2.2]
def Vm (f:Am):List Value:=[.int .i64 f.1,.int .i64 f.2.1,.int .i64 f.2.2]
theorem LJ (w:World) (B:Nat) (f:Ap):Own.own w B f (Vl f) []:=⟨[.bool f.1],[.int .i64 f.2.1,.int .i64 f.2.2],[],[],rfl,rfl,⟨rfl,rfl⟩,[.int .i64 f.2.1],[.int .i64 f.2.2],[],[],rfl,rfl,⟨rfl,rfl⟩,rfl,rfl⟩
theorem Ru (w:World) (B:Nat) (f:Am):Own.own w B f (Vm f) []:=⟨[.int .i64 f.1],[.int .i64 f.2.1,.int .i64 f.2.2],[],[],rfl,rfl,⟨rfl,rfl⟩,[.int .i64 f.2.1],[.int .i64 f.2.2],[],[],rfl,rfl,⟨rfl,rfl⟩,rfl,rfl⟩
def VF (k:Int) (i:Nat):Ap:=(k % 3 == 0,k+3 * i+1,k+3 * i+1+1)
def VG (k:Int) (i:Nat):Am:=(k+3 * i,k+3 * i+1,k+3 * i+1+1)
def Uu (k:Int) (n:Nat):List Ap:=(List.range n).map (VF k)
def Uv (k:Int) (n:Nat):List Am:=(List.range n).map (VG k)
theorem IW:(Tryz.prog.info? 61).map (fun i=>(i.zero,i.size,i.bytes))=some (some (.agg #[.bool false,.int .i64 0,.int .i64 0]),3,24):=by kernel_rfl
theorem IX:(Tryz.prog.info? 118).map (fun i=>(i.zero,i.size,i.bytes))=some (some (.agg #[.int .i64 0,.int .i64 0,.int .i64 0]),3,24):=by kernel_rfl
theorem Np (a:Option Addr) (n cap:Nat) (left:Int) (w:World) (h1:left≤1048576) (hn:(n:Int)≤left) :
 Calls Tryz.prog 92 #[.slice a n cap,.int .i64 left] w fun e w'=>e=.returned (.int .i64 (left - n))∧w=w':=by
 go_enter Tryz.func92,Tryz.ntmps92
 go_wp2;go_ret;simp
theorem Nq (a:Option Addr) (n cap:Nat) (left:Int) (w:World) (h0:0≤left) (h1:left < n) (hn:n≤maxLen) :
 Calls Tryz.prog 92 #[.slice a n cap,.int .i64 left] w fun e w'=>e=.returned (.int .i64 (-1))∧w=w':=by
 unfold maxLen at hn;go_enter Tryz.func92,Tryz.ntmps92
 go_wp2;go_ret;simp
theorem Kg (f:Ap) (w:World) :
 Calls Tryz.prog 102 #[.agg #[.bool f.1,.int .i64 f.2.1,.int .i64 f.2.2]] w fun e w'=>e=.returned (.agg #[.bool f.1,.int .i64 f.2.1,.int .i64 f.2.2])∧Below w.heap.size w w':=by
 go_enter Tryz.func102,Tryz.ntmps102
 go_wp2;refine bodyPost_ret (v:=.agg #[.bool f.1,.int .i64 f.2.1,.int .i64 f.2.2]) (by simp [results,Tryz.results102,go_sem]) rfl ⟨rfl,?_⟩;exact Bl
theorem Nr {S:Nat→Prop} (v:Value) (l:List Ap) (w:World) (h:RL w S v l) (hl:l.length≤1048576) :
 Calls Tryz.prog 100 #[v] w fun e w'=>∃ v',e=.returned v'∧OO w' w.heap.size v' l∧Below w.heap.size w w':=by
 obtain ⟨a1,c1,rfl,_,_,hf1⟩:=h.factAt;have F1:=Ad hf1;clear hf1 h;obtain ⟨i0,hi,hz0,hz1,hz2⟩:=info_parts IW;go_enter Tryz.func100,Tryz.ntmps100
 go_wp2_with (at_make;refine wpList_make_full _ rfl _ _ 23 rfl w.heap.size 61 i0 (.agg #[.bool false,.int .i64 0,.int .i64 0]) 3 Tryz.underlying23 hi hz0 hz1 _ _ _ _ l.length rfl rfl rfl rfl (by rw [hz2];omega) (by unfold maxLen;omega) (Nat.le_refl _) ?_;intro w1 hown hgr)
 have hb1:=(AF hgr).below (B:=w.heap.size) (Nat.le_refl _) (by intro k _ e;cases e);obtain ⟨xs0,hown0⟩:∃ xs,w1.ownsRow w.heap.size 61 3 (.slice (some ⟨w.heap.size,0,none⟩) l.length l.length) l.length xs:=⟨_,hown⟩;clear hown hi hz0 hz1 hz2 hgr;go_loopg [4] l.length (fun q i wr=>∃ (k:Nat) (xs:List Value),k+q=l.length∧i=.int .i64 k∧wr.ownsRow w.heap.size 61 3 (.slice (some ⟨w.heap.size,0,none⟩) l.length l.length) l.length xs∧(∀ i,i < k→Bz 3 xs i=Vl (gd l i))∧Below w.heap.size w wr)
 case atStart=>exact ⟨0,xs0,by omega,rfl,hown0,fun i hi=>by omega,hb1⟩
 case round =>
  clear hb1 hown0;obtain ⟨k,xs,hk,rfl,hown,hx,hb⟩:=hrel;have HK:=Ad hk;have HX:=Ad hx;clear hk hx;by_cases hk8:k < l.length
  · obtain ⟨b,o,rfl,_,hbl,hp1,hp2,hp3⟩:=F1.o k hk8
    replace hp1:=Ab hb hp1;replace hp2:=Ab hb hp2;replace hp3:=Ab hb hp3;(have hki:(k:Int) < (l.length:Int):=by omega);have hs:=hb.size;(have hzb:b < wr.heap.size:=by omega);have HO:=Ad hown;clear hown;(go_wp2_with fail);refine (Kg (gd l k) _).mono ?_;rintro e w2 ⟨rfl,hb2⟩;have hown2:=Ag HO.o hb2;obtain ⟨y1,hy1⟩:=BM hown2 (j:=k * 3) Om;obtain ⟨y2,hy2⟩:=BM hown2 (j:=k * 3+1) Om;obtain ⟨y3,hy3⟩:=BM hown2 (j:=k * 3+2) Om;have hfz:∀ i,w2.frozen? ⟨w.heap.size,i,none⟩=false:=fun i=>hown2.frozenAt i;obtain ⟨t1,_⟩:=hown2.stored (k * 3) (.bool (gd l k).1);obtain ⟨t2,_⟩:=t1.stored (k * 3+1) (.int .i64 (gd l k).2.1);obtain ⟨t3,_⟩:=t2.stored (k * 3+2) (.int .i64 (gd l k).2.2);have HT:=Ad t3;have HL:=Ad hown2.1;have hbb:=bt hb hb2;clear t1 t2 t3 hown2 hb2;go_wp2;go_roundg (gk - 1)
    case rel =>
     refine ⟨k+1,_,by have:=HK.o;omega,by go_num,HT.o,fun i hi=>?_,Bl⟩;rw [No HL.o hk8];by_cases e:i=k
     · subst e;rw [if_pos rfl];rfl
     · rw [if_neg e];exact HX.o i Om
    case measure=>have:=HK.o;omega
  · obtain rfl:k=l.length:=by have:=HK.o;omega
    go_wp2;go_ret;exact ⟨_,rfl,⟨_,ME LJ hown HX.o,by simp [Value.ownBlock]⟩,hb⟩
theorem Ns (a:Option Addr) (n cap:Nat) (left:Int) (w:World) (h1:left≤1048576) (hn:(n:Int)≤left) :
 Calls Tryz.prog 93 #[.slice a n cap,.int .i64 left] w fun e w'=>e=.returned (.int .i64 (left - n))∧w=w':=by
 go_enter Tryz.func93,Tryz.ntmps93
 go_wp2;go_ret;simp
theorem Nt (a:Option Addr) (n cap:Nat) (left:Int) (w:World) (h0:0≤left) (h1:left < n) (hn:n≤maxLen) :
 Calls Tryz.prog 93 #[.slice a n cap,.int .i64 left] w fun e w'=>e=.returned (.int .i64 (-1))∧w=w':=by
 unfold maxLen at hn;go_enter Tryz.func93,Tryz.ntmps93
 go_wp2;go_ret;simp
theorem Pg (f:Am) (w:World) :
 Calls Tryz.prog 176 #[.agg #[.int .i64 f.1,.int .i64 f.2.1,.int .i64 f.2.2]] w fun e w'=>e=.returned (.agg #[.int .i64 f.1,.int .i64 f.2.1,.int .i64 f.2.2])∧Below w.heap.size w w':=by
 go_enter Tryz.func176,Tryz.ntmps176
 go_wp2;refine bodyPost_ret (v:=.agg #[.int .i64 f.1,.int .i64 f.2.1,.int .i64 f.2.2]) (by simp [results,Tryz.results176,go_sem]) rfl ⟨rfl,?_⟩;exact Bl
theorem Nu {S:Nat→Prop} (v:Value) (l:List Am) (w:World) (h:RL w S v l) (hl:l.length≤1048576) :
 Calls Tryz.prog 101 #[v] w fun e w'=>∃ v',e=.returned v'∧OO w' w.heap.size v' l∧Below w.heap.size w w':=by
 obtain ⟨a1,c1,rfl,_,_,hf1⟩:=h.atomAt;have F1:=Ad hf1;clear hf1 h;obtain ⟨i0,hi,hz0,hz1,hz2⟩:=info_parts IX;go_enter Tryz.func101,Tryz.ntmps101
 go_wp2_with (at_make;refine wpList_make_full _ rfl _ _ 24 rfl w.heap.size 118 i0 (.agg #[.int .i64 0,.int .i64 0,.int .i64 0]) 3 Tryz.underlying24 hi hz0 hz1 _ _ _ _ l.length rfl rfl rfl rfl (by rw [hz2];omega) (by unfold maxLen;omega) (Nat.le_refl _) ?_;intro w1 hown hgr)
 have hb1:=(AF hgr).below (B:=w.heap.size) (Nat.le_refl _) (by intro k _ e;cases e);obtain ⟨xs0,hown0⟩:∃ xs,w1.ownsRow w.heap.size 118 3 (.slice (some ⟨w.heap.size,0,none⟩) l.length l.length) l.length xs:=⟨_,hown⟩;clear hown hi hz0 hz1 hz2 hgr;go_loopg [4] l.length (fun q i wr=>∃ (k:Nat) (xs:List Value),k+q=l.length∧i=.int .i64 k∧wr.ownsRow w.heap.size 118 3 (.slice (some ⟨w.heap.size,0,none⟩) l.length l.length) l.length xs∧(∀ i,i < k→Bz 3 xs i=Vm (gd l i))∧Below w.heap.size w wr)
 case atStart=>exact ⟨0,xs0,by omega,rfl,hown0,fun i hi=>by omega,hb1⟩
 case round =>
  clear hb1 hown0;obtain ⟨k,xs,hk,rfl,hown,hx,hb⟩:=hrel;have HK:=Ad hk;have HX:=Ad hx;clear hk hx;by_cases hk8:k < l.length
  · obtain ⟨b,o,rfl,_,hbl,hp1,hp2,hp3⟩:=F1.o k hk8
    replace hp1:=Ab hb hp1;replace hp2:=Ab hb hp2;replace hp3:=Ab hb hp3;(have hki:(k:Int) < (l.length:Int):=by omega);have hs:=hb.size;(have hzb:b < wr.heap.size:=by omega);have HO:=Ad hown;clear hown;(go_wp2_with fail);refine (Pg (gd l k) _).mono ?_;rintro e w2 ⟨rfl,hb2⟩;have hown2:=Ag HO.o hb2;obtain ⟨y1,hy1⟩:=BM hown2 (j:=k * 3) Om;obtain ⟨y2,hy2⟩:=BM hown2 (j:=k * 3+1) Om;obtain ⟨y3,hy3⟩:=BM hown2 (j:=k * 3+2) Om;have hfz:∀ i,w2.frozen? ⟨w.heap.size,i,none⟩=false:=fun i=>hown2.frozenAt i;obtain ⟨t1,_⟩:=hown2.stored (k * 3) (.int .i64 (gd l k).1);obtain ⟨t2,_⟩:=t1.stored (k * 3+1) (.int .i64 (gd l k).2.1);obtain ⟨t3,_⟩:=t2.stored (k * 3+2) (.int .i64 (gd l k).2.2);have HT:=Ad t3;have HL:=Ad hown2.1;have hbb:=bt hb hb2;clear t1 t2 t3 hown2 hb2;go_wp2;go_roundg (gk - 1)
    case rel =>
     refine ⟨k+1,_,by have:=HK.o;omega,by go_num,HT.o,fun i hi=>?_,Bl⟩;rw [No HL.o hk8];by_cases e:i=k
     · subst e;rw [if_pos rfl];rfl
     · rw [if_neg e];exact HX.o i Om
    case measure=>have:=HK.o;omega
  · obtain rfl:k=l.length:=by have:=HK.o;omega
    go_wp2;go_ret;exact ⟨_,rfl,⟨_,ME Ru hown HX.o,by simp [Value.ownBlock]⟩,hb⟩
section
variable {α:Type} [Own α] [Tid α] {w w':World} {B B':Nat} {v:Value} {l:List α} {fp:List Nat}
theorem VH {β:Type} [Inhabited β] {l:List β} {k i:Nat} {x:β} (hk:k < l.length):gd (l.set k x) i=if i=k then x else gd l i:=by
 unfold gd;rw [List.getD_eq_getElem?_getD,List.getElem?_set,List.getD_eq_getElem?_getD];by_cases e:k=i
 · subst e;rw [if_pos rfl,if_pos hk,if_pos rfl];rfl
 · rw [if_neg e,if_neg (fun h=>e h.symm)]
def PL (w:World) (B:Nat) (v:Value) (n:Nat) (l:List α) (k:Nat):Prop :=
 ∃ (xs:List Value) (fps:List (List Nat)),w.ownsRow B (Tid.tid α) (Dat.sz α) v n xs∧fps.length=k∧(v.ownBlock.toList ++ fps.flatten).Nodup ∧
   ∀ i,i < k→Own.own w B (gd l i) (Bz (Dat.sz α) xs i) (gd fps i)
theorem PL.row {n k:Nat} (h:PL w B v n l k):∃ xs,w.ownsRow B (Tid.tid α) (Dat.sz α) v n xs:=by obtain ⟨xs,_,hr,_⟩:=h;exact ⟨xs,hr⟩
theorem PL.zero {n:Nat} {xs:List Value} (h:w.ownsRow B (Tid.tid α) (Dat.sz α) v n xs) (l:List α):PL w B v n l 0 :=
 ⟨xs,[],h,rfl,by rw [List.flatten_nil,List.append_nil];cases v.ownBlock <;> simp,fun i hi=>absurd hi Om⟩
theorem PL.done (h:PL w B v l.length l l.length):OO w B v l:=by
 obtain ⟨xs,fps,hr,hl,hn,ho⟩:=h;exact ⟨_,⟨xs,fps,hr,hl,rfl,ho⟩,hn⟩
theorem PL.keep {n k:Nat} (h:PL w B v n l k) (hb:Below w.heap.size w w'):PL w' B v n l k:=by
 obtain ⟨xs,fps,hr,hl,hn,ho⟩:=h;exact ⟨xs,fps,Ag hr hb,hl,hn,fun i hi=>Own.okept (ho i hi) (Below.fr hb) fun _ _ h=>h⟩
end
end Go.Proofs.YtkbbmjcfgcfejaaGreat
