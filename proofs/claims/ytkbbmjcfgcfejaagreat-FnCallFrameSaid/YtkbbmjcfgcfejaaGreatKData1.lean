/- Data1: texts Dat, Own, Lf1, Lf1a, Ls1, Ls2, Lf2, Own2 in one. -/
import Derived.Test.YtkbbmjcfgcfejaaGreatKBase1
import Derived.Test.YtkbbmjcfgcfejaaGreatKDraw1
import Derived.Deep.DeepMust
namespace Go.Proofs.YtkbbmjcfgcfejaaGreat
open Go.RowKit
def gd {α:Type} [Inhabited α] (l:List α) (i:Nat):α:=l.getD i default
theorem gd_of {α:Type} [Inhabited α] {l:List α} {i:Nat} (h:i < l.length):gd l i=l[i]:=by simp [gd,h]
theorem gd_mem {α:Type} [Inhabited α] {l:List α} {i:Nat} (h:i < l.length):gd l i ∈ l:=by rw [gd_of h];exact List.getElem_mem h
theorem gd_app1 {α:Type} [Inhabited α] {l m:List α} {i:Nat} (h:i < l.length):gd (l ++ m) i=gd l i:=by simp [gd,List.getElem?_append,h]
theorem gd_app2 {α:Type} [Inhabited α] {l m:List α} {i:Nat} (h:l.length≤i):gd (l ++ m) i=gd m (i - l.length):=by
 have:¬ i < l.length:=by omega
 simp [gd,List.getElem?_append,this]
theorem gd_snoc {α:Type} [Inhabited α] (l:List α) (x:α):gd (l ++ [x]) l.length=x:=by simp [gd]
theorem gd_cons0 {α:Type} [Inhabited α] (x:α) (l:List α):gd (x :: l) 0=x:=rfl
theorem gd_take {α:Type} [Inhabited α] {l:List α} {i k:Nat} (h:i < k):gd (l.take k) i=gd l i:=by simp [gd,h]
theorem take_gd {α:Type} [Inhabited α] {l:List α} {k:Nat} (h:k < l.length):l.take (k+1)=l.take k ++ [gd l k]:=by
 rw [List.take_succ_eq_append_getElem h,gd_of h]
theorem gi_gd (l:List Int) (i:Nat):gi l i=gd l i:=rfl
class Dat (α:Type) extends Inhabited α where
 sz:Nat
 rd:World→(Nat→Prop)→α→List Value→Prop
 len:∀ {w S a cs},rd w S a cs→cs.length=sz
 kept:∀ {w w' S T a cs},rd w S a cs→Fr T w w'→(∀ k,k < w.heap.size→S k→¬ T k)→rd w' S a cs
 more:∀ {w S S' a cs},rd w S a cs→(∀ k,k < w.heap.size→S k→S' k)→rd w S' a cs
 one:∀ {w S a cs},rd w S a cs→∀ u ∈ cs,u.oneCell'=true
instance:Dat Int where
 sz:=1
 rd:=fun _ _ a cs=>cs=[.int .i64 a]
 len:=fun h=>by subst h;rfl
 kept:=fun h _ _=>h
 more:=fun h _=>h
 one:=fun h u hu=>by subst h;simp at hu;subst hu;rfl
instance:Dat Bool where
 sz:=1
 rd:=fun _ _ a cs=>cs=[.bool a]
 len:=fun h=>by subst h;rfl
 kept:=fun h _ _=>h
 more:=fun h _=>h
 one:=fun h u hu=>by subst h;simp at hu;subst hu;rfl
instance {α β:Type} [Dat α] [Dat β]:Dat (α × β) where
 sz:=Dat.sz α+Dat.sz β
 rd:=fun w S p cs=>∃ c1 c2,cs=c1 ++ c2∧Dat.rd w S p.1 c1∧Dat.rd w S p.2 c2
 len:=fun h=>by
  obtain ⟨c1,c2,rfl,h1,h2⟩:=h
  rw [List.length_append,Dat.len h1,Dat.len h2]
 kept:=fun h hf hs=>by
  obtain ⟨c1,c2,e,h1,h2⟩:=h
  exact ⟨c1,c2,e,Dat.kept h1 hf hs,Dat.kept h2 hf hs⟩
 more:=fun h hs=>by
  obtain ⟨c1,c2,e,h1,h2⟩:=h
  exact ⟨c1,c2,e,Dat.more h1 hs,Dat.more h2 hs⟩
 one:=fun h u hu=>by
  obtain ⟨c1,c2,rfl,h1,h2⟩:=h
  rcases List.mem_append.1 hu with hu | hu
  · exact Dat.one h1 u hu
  · exact Dat.one h2 u hu
def RL {α:Type} [Dat α] (w:World) (S:Nat→Prop) (v:Value) (l:List α):Prop :=
 (∃ a cap,v=.slice a 0 cap∧l=[]∧cap≤maxLen∧(a=none→cap=0)) ∨
 ∃ b o cap,v=.slice (some ⟨b,o,none⟩) l.length cap∧l.length≤cap∧cap≤maxLen∧(0 < l.length→S b∧b < w.heap.size) ∧
   ∀ i,i < l.length→∃ cs,Dat.rd w S (gd l i) cs∧∀ j u,cs[j]?=some u→w.cell? ⟨b,o+(i * Dat.sz α+j),none⟩=some u
section
variable {α:Type} [Dat α] {w w':World} {S S' T:Nat→Prop} {v:Value} {l:List α}
theorem RL.kept (h:RL w S v l) (hf:Fr T w w') (hs:∀ k,k < w.heap.size→S k→¬ T k):RL w' S v l:=by
 rcases h with h | ⟨b,o,cap,e,h1,h2,h3,h4⟩
 · exact .inl h
 · refine .inr ⟨b,o,cap,e,h1,h2,fun h=>⟨(h3 h).1,Nat.lt_of_lt_of_le (h3 h).2 hf.size⟩,fun i hi=>?_⟩
   obtain ⟨cs,hc,hcell⟩:=h4 i hi
   obtain ⟨g1,g2⟩:=h3 (by omega)
   exact ⟨cs,Dat.kept hc hf hs,fun j u hj=>hf.cell (hs b g2 g1) (hcell j u hj)⟩
theorem RL.more (h:RL w S v l) (hs:∀ k,k < w.heap.size→S k→S' k):RL w S' v l:=by
 rcases h with h | ⟨b,o,cap,e,h1,h2,h3,h4⟩
 · exact .inl h
 · refine .inr ⟨b,o,cap,e,h1,h2,fun h=>⟨hs b (h3 h).2 (h3 h).1,(h3 h).2⟩,fun i hi=>?_⟩
   obtain ⟨cs,hc,hcell⟩:=h4 i hi
   exact ⟨cs,Dat.more hc hs,hcell⟩
theorem RL.keep (h:RL w S v l) (hb:Below w.heap.size w w'):RL w' S v l:=h.kept (Below.fr hb) fun _ _ _ h=>h
theorem RL.alloc (h:RL w S v l) (o:Obj):RL (w.alloc o) S v l:=h.keep (below_alloc _ _)
theorem RL.any (h:RL w S v l):RL w (fun _=>True) v l:=h.more fun _ _ _=>trivial
theorem RL.len (h:RL w S v l):l.length≤maxLen:=by
 rcases h with ⟨a,cap,rfl,h,_⟩ | ⟨b,o,cap,rfl,h1,h2,_⟩
 · rw [h];exact Nat.zero_le _
 · omega
theorem RL.form (h:RL w S v l):∃ a cap,v=.slice a l.length cap:=by
 rcases h with ⟨a,cap,rfl,h,_⟩ | ⟨b,o,cap,rfl,_⟩
 · exact ⟨a,cap,by rw [h];rfl⟩
 · exact ⟨_,_,rfl⟩
theorem RL.nil (w:World) (S:Nat→Prop):RL w S (.slice none 0 0) ([]:List α):=.inl ⟨none,0,rfl,rfl,Nat.zero_le _,fun _=>rfl⟩
theorem RL.cells (h:RL w S v l):∃ a cap,v=.slice a l.length cap∧l.length≤cap∧cap≤maxLen ∧
 ∀ i,i < l.length→∃ b o,a=some ⟨b,o,none⟩∧S b∧b < w.heap.size∧∃ cs,Dat.rd w S (gd l i) cs∧∀ j u,cs[j]?=some u→w.cell? ⟨b,o+(i * Dat.sz α+j),none⟩=some u:=by
 rcases h with ⟨a,cap,rfl,rfl,h,_⟩ | ⟨b,o,cap,rfl,h1,h2,h3,h4⟩
 · exact ⟨a,cap,rfl,Nat.zero_le _,h,fun i hi=>absurd hi (by simp)⟩
 · exact ⟨_,cap,rfl,h1,h2,fun i hi=>⟨b,o,rfl,(h3 (by omega)).1,(h3 (by omega)).2,h4 i hi⟩⟩
end
instance {α:Type} [Dat α]:Dat (List α) where
 sz:=1
 rd:=fun w S l cs=>∃ v,cs=[v]∧RL w S v l
 len:=fun h=>by obtain ⟨v,rfl,_⟩:=h;rfl
 kept:=fun h hf hs=>by obtain ⟨v,e,h⟩:=h;exact ⟨v,e,h.kept hf hs⟩
 more:=fun h hs=>by obtain ⟨v,e,h⟩:=h;exact ⟨v,e,h.more hs⟩
 one:=fun h u hu=>by
  obtain ⟨v,rfl,h⟩:=h
  obtain ⟨a,cap,rfl⟩:=h.form
  simp at hu;subst hu;rfl
abbrev Fact:=Bool × Int × Int
abbrev Atom:=Int × Int × Int
abbrev Asn:=List Fact × List Atom
abbrev CPf:=List Int × List (List Int)
section
variable {w w':World} {S:Nat→Prop} {cs:List Value}
theorem rd_list {α:Type} [Dat α] {l:List α} (h:Dat.rd w S l cs):∃ v,cs=[v]∧RL w S v l:=h
theorem rd_fact {f:Fact} (h:Dat.rd w S f cs):cs=[.bool f.1,.int .i64 f.2.1,.int .i64 f.2.2]:=by
 obtain ⟨_,_,rfl,rfl,_,_,rfl,rfl,rfl⟩:=h;rfl
theorem rd_atom {f:Atom} (h:Dat.rd w S f cs):cs=[.int .i64 f.1,.int .i64 f.2.1,.int .i64 f.2.2]:=by
 obtain ⟨_,_,rfl,rfl,_,_,rfl,rfl,rfl⟩:=h;rfl
theorem rd_asn {a:Asn} (h:Dat.rd w S a cs):∃ v1 v2,cs=[v1,v2]∧RL w S v1 a.1∧RL w S v2 a.2:=by
 obtain ⟨_,_,rfl,⟨v1,rfl,h1⟩,⟨v2,rfl,h2⟩⟩:=h
 exact ⟨v1,v2,rfl,h1,h2⟩
theorem rd_fact_mk (w:World) (S:Nat→Prop) (f:Fact):Dat.rd w S f [.bool f.1,.int .i64 f.2.1,.int .i64 f.2.2] :=
 ⟨[.bool f.1],[.int .i64 f.2.1,.int .i64 f.2.2],rfl,rfl,[.int .i64 f.2.1],[.int .i64 f.2.2],rfl,rfl,rfl⟩
theorem rd_atom_mk (w:World) (S:Nat→Prop) (f:Atom):Dat.rd w S f [.int .i64 f.1,.int .i64 f.2.1,.int .i64 f.2.2] :=
 ⟨[.int .i64 f.1],[.int .i64 f.2.1,.int .i64 f.2.2],rfl,rfl,[.int .i64 f.2.1],[.int .i64 f.2.2],rfl,rfl,rfl⟩
theorem rd_asn_mk {a:Asn} {v1 v2:Value} (h1:RL w S v1 a.1) (h2:RL w S v2 a.2):Dat.rd w S a [v1,v2] :=
 ⟨[v1],[v2],rfl,⟨v1,rfl,h1⟩,⟨v2,rfl,h2⟩⟩
theorem RL.ints {v:Value} {l:List Int} (h:RL w S v l):RInts w v l:=by
 rcases h with ⟨a,cap,e,h,h1,h2⟩ | ⟨b,o,cap,e,h1,h2,h3,h4⟩
 · exact .inl ⟨a,cap,e,by rw [h];rfl,h1,h2⟩
 · refine .inr ⟨b,o,cap,e,h1,h2,fun i hi=>?_⟩
   obtain ⟨cs,rfl,hc⟩:=h4 i (by omega)
   have:=hc 0 _ rfl
   rwa [Nat.add_zero,show i * Dat.sz Int=i from Nat.mul_one i] at this
theorem RInts.rl {v:Value} {l:List Int} (h:RInts w v l):RL w (fun k=>some k=v.ownBlock) v l:=by
 rcases h with ⟨a,cap,e,h,h1,h2⟩ | ⟨b,o,cap,e,h1,h2,h3⟩
 · exact .inl ⟨a,cap,e,List.eq_nil_of_length_eq_zero h,h1,h2⟩
 · refine .inr ⟨b,o,cap,e,h1,h2,fun hp=>⟨by rw [e];rfl,?_⟩,fun i hi=>⟨[.int .i64 (gi l i)],rfl,fun j u hj=>?_⟩⟩
   · have:=World.block_lt_of_cell? w _ (h3 0 (by omega))
     simpa using this
   · cases j with
     | succ j=>simp at hj
     | zero =>
       simp at hj;subst hj
       rw [Nat.add_zero,show i * Dat.sz Int=i from Nat.mul_one i]
       exact h3 i (by omega)
theorem RL.factAt {v:Value} {l:List Fact} (h:RL w S v l):∃ a cap,v=.slice a l.length cap∧l.length≤cap∧cap≤maxLen ∧
 ∀ i,i < l.length→∃ b o,a=some ⟨b,o,none⟩∧S b∧b < w.heap.size∧w.cell? ⟨b,o+i * 3,none⟩=some (.bool (gd l i).1)∧w.cell? ⟨b,o+i * 3+1,none⟩=some (.int .i64 (gd l i).2.1)∧w.cell? ⟨b,o+i * 3+2,none⟩=some (.int .i64 (gd l i).2.2):=by
 obtain ⟨a,cap,e,h1,h2,h3⟩:=h.cells
 refine ⟨a,cap,e,h1,h2,fun i hi=>?_⟩
 obtain ⟨b,o,ea,hs,hb,cs,hr,hc⟩:=h3 i hi
 have:=rd_fact hr
 subst this
 exact ⟨b,o,ea,hs,hb,hc 0 _ rfl,hc 1 _ rfl,hc 2 _ rfl⟩
theorem RL.atomAt {v:Value} {l:List Atom} (h:RL w S v l):∃ a cap,v=.slice a l.length cap∧l.length≤cap∧cap≤maxLen ∧
 ∀ i,i < l.length→∃ b o,a=some ⟨b,o,none⟩∧S b∧b < w.heap.size∧w.cell? ⟨b,o+i * 3,none⟩=some (.int .i64 (gd l i).1)∧w.cell? ⟨b,o+i * 3+1,none⟩=some (.int .i64 (gd l i).2.1)∧w.cell? ⟨b,o+i * 3+2,none⟩=some (.int .i64 (gd l i).2.2):=by
 obtain ⟨a,cap,e,h1,h2,h3⟩:=h.cells
 refine ⟨a,cap,e,h1,h2,fun i hi=>?_⟩
 obtain ⟨b,o,ea,hs,hb,cs,hr,hc⟩:=h3 i hi
 have:=rd_atom hr
 subst this
 exact ⟨b,o,ea,hs,hb,hc 0 _ rfl,hc 1 _ rfl,hc 2 _ rfl⟩
end
end Go.Proofs.YtkbbmjcfgcfejaaGreat
namespace Go.Proofs.YtkbbmjcfgcfejaaGreat
open Go.RowKit
class Tid (α:Type) where
 tid:Nat
instance:Tid Int:=⟨3⟩
instance:Tid Fact:=⟨61⟩
instance:Tid Atom:=⟨118⟩
class Own (α:Type) extends Dat α where
 own:World→Nat→α→List Value→List Nat→Prop
 lt:∀ {w B a cs fp},own w B a cs fp→∀ k ∈ fp,B≤k∧k < w.heap.size
 read:∀ {w B a cs fp},own w B a cs fp→rd w (· ∈ fp) a cs
 okept:∀ {w w' B T a cs fp},own w B a cs fp→Fr T w w'→(∀ k ∈ fp,¬ T k)→own w' B a cs fp
 mono:∀ {w B B' a cs fp},own w B a cs fp→B'≤B→own w B' a cs fp
instance:Own Int where
 own:=fun _ _ a cs fp=>cs=[.int .i64 a]∧fp=[]
 lt:=fun h k hk=>by rw [h.2] at hk;cases hk
 read:=fun h=>h.1
 okept:=fun h _ _=>h
 mono:=fun h _=>h
instance:Own Bool where
 own:=fun _ _ a cs fp=>cs=[.bool a]∧fp=[]
 lt:=fun h k hk=>by rw [h.2] at hk;cases hk
 read:=fun h=>h.1
 okept:=fun h _ _=>h
 mono:=fun h _=>h
instance {α β:Type} [Own α] [Own β]:Own (α × β) where
 own:=fun w B p cs fp=>∃ c1 c2 f1 f2,cs=c1 ++ c2∧fp=f1 ++ f2∧Own.own w B p.1 c1 f1∧Own.own w B p.2 c2 f2
 lt:=fun h k hk=>by
  obtain ⟨c1,c2,f1,f2,rfl,rfl,h1,h2⟩:=h
  rcases List.mem_append.1 hk with hk | hk
  · exact Own.lt h1 k hk
  · exact Own.lt h2 k hk
 read:=fun h=>by
  obtain ⟨c1,c2,f1,f2,rfl,rfl,h1,h2⟩:=h
  exact ⟨c1,c2,rfl,Dat.more (Own.read h1) fun k _ hk=>List.mem_append_left _ hk,Dat.more (Own.read h2) fun k _ hk=>List.mem_append_right _ hk⟩
 okept:=fun h hf hs=>by
  obtain ⟨c1,c2,f1,f2,rfl,rfl,h1,h2⟩:=h
  exact ⟨c1,c2,f1,f2,rfl,rfl,Own.okept h1 hf fun k hk=>hs k (List.mem_append_left _ hk),Own.okept h2 hf fun k hk=>hs k (List.mem_append_right _ hk)⟩
 mono:=fun h hB=>by
  obtain ⟨c1,c2,f1,f2,rfl,rfl,h1,h2⟩:=h
  exact ⟨c1,c2,f1,f2,rfl,rfl,Own.mono h1 hB,Own.mono h2 hB⟩
def nth (sz:Nat) (xs:List Value) (i:Nat):List Value:=(xs.drop (i * sz)).take sz
theorem nth_at {sz i j:Nat} {xs:List Value} {u:Value} (h:(nth sz xs i)[j]?=some u):xs[i * sz+j]?=some u:=by
 unfold nth at h
 rw [List.getElem?_take] at h
 split at h
 · rwa [List.getElem?_drop] at h
 · cases h
theorem nth_app1 {sz i n:Nat} {xs ys:List Value} (hl:xs.length=n * sz) (hi:i < n):nth sz (xs ++ ys) i=nth sz xs i:=by
 unfold nth
 have h1:(i+1) * sz≤n * sz:=Nat.mul_le_mul_right _ hi
 rw [Nat.succ_mul] at h1
 rw [List.drop_append_of_le_length (by omega),List.take_append_of_le_length (by rw [List.length_drop];omega)]
theorem nth_app2 {sz n:Nat} {xs ys:List Value} (hl:xs.length=n * sz) (hy:ys.length=sz):nth sz (xs ++ ys) n=ys:=by
 unfold nth
 rw [← hl,List.drop_left,← hy,List.take_length]
def OL {α:Type} [Own α] [Tid α] (w:World) (B:Nat) (v:Value) (l:List α) (fp:List Nat):Prop :=
 ∃ (xs:List Value) (fps:List (List Nat)),w.ownsRow B (Tid.tid α) (Dat.sz α) v l.length xs∧fps.length=l.length∧fp=v.ownBlock.toList ++ fps.flatten ∧
   ∀ i,i < l.length→Own.own w B (gd l i) (nth (Dat.sz α) xs i) (gd fps i)
theorem mem_ownBlock {v:Value} {k:Nat}:k ∈ v.ownBlock.toList ↔ some k=v.ownBlock:=by
 cases h:v.ownBlock with
 | none=>simp
 | some x=>simp
theorem mem_flat {fps:List (List Nat)} {k i:Nat} (hi:i < fps.length) (h:k ∈ gd fps i):k ∈ fps.flatten :=
 List.mem_flatten.2 ⟨_,gd_mem hi,h⟩
theorem flat_mem {fps:List (List Nat)} {k:Nat} (h:k ∈ fps.flatten):∃ i,i < fps.length∧k ∈ gd fps i:=by
 obtain ⟨f,hf,hk⟩:=List.mem_flatten.1 h
 obtain ⟨i,hi,rfl⟩:=List.getElem_of_mem hf
 exact ⟨i,hi,by rw [gd_of hi];exact hk⟩
section
variable {α:Type} [Own α] [Tid α] {w w':World} {B B':Nat} {v:Value} {l:List α} {fp:List Nat} {T:Nat→Prop}
theorem OL.lt (h:OL w B v l fp):∀ k ∈ fp,B≤k∧k < w.heap.size:=by
 obtain ⟨xs,fps,hr,hl,rfl,ho⟩:=h
 intro k hk
 rcases List.mem_append.1 hk with hk | hk
 · exact own_lt hr (mem_ownBlock.1 hk)
 · obtain ⟨i,hi,hk⟩:=flat_mem hk
   exact Own.lt (ho i (by omega)) k hk
theorem OL.okept (h:OL w B v l fp) (hf:Fr T w w') (hs:∀ k ∈ fp,¬ T k):OL w' B v l fp:=by
 obtain ⟨xs,fps,hr,hl,rfl,ho⟩:=h
 refine ⟨xs,fps,own_kept hr hf (fun k hk=>hs k (List.mem_append_left _ (mem_ownBlock.2 hk))),hl,rfl,fun i hi=>Own.okept (ho i hi) hf fun k hk=>hs k (List.mem_append_right _ (mem_flat (by omega) hk))⟩
theorem OL.mono (h:OL w B v l fp) (hB:B'≤B):OL w B' v l fp:=by
 obtain ⟨xs,fps,hr,hl,rfl,ho⟩:=h
 exact ⟨xs,fps,own_mono hr hB,hl,rfl,fun i hi=>Own.mono (ho i hi) hB⟩
theorem OL.keep (h:OL w B v l fp) (hb:Below w.heap.size w w'):OL w' B v l fp:=h.okept (Below.fr hb) fun _ _ h=>h
theorem OL.read (h:OL w B v l fp):RL w (· ∈ fp) v l:=by
 have hlt:=h.lt
 obtain ⟨xs,fps,hr,hl,rfl,ho⟩:=h
 have hcells:=own_rsl hr
 rcases hcells with ⟨a,cap,rfl,h0,h1,h2⟩ | ⟨b,o,cap,rfl,h1,h2,h3⟩
 · exact .inl ⟨a,cap,rfl,List.eq_nil_of_length_eq_zero h0,h1,h2⟩
 · refine .inr ⟨b,o,cap,rfl,h1,h2,fun hp=>?_,fun i hi=>⟨_,Dat.more (Own.read (ho i hi)) fun k _ hk=>List.mem_append_right _ (mem_flat (by omega) hk),fun j u hj=>?_⟩⟩
   · have hm:b ∈ (Value.slice (some ⟨b,o,none⟩) l.length cap).ownBlock.toList:=mem_ownBlock.2 rfl
     exact ⟨List.mem_append_left _ hm,(hlt b (List.mem_append_left _ hm)).2⟩
   · have hx:=nth_at hj
     have hlen:i * Dat.sz α+j < xs.length:=(List.getElem?_eq_some_iff.1 hx).1
     have:=h3 (i * Dat.sz α+j) (by rw [← hr.1];exact hlen)
     rw [this]
     simp [hx]
theorem OL.nil (w:World) (B:Nat):OL w B (.slice none 0 0) ([]:List α) [] :=
 ⟨[],[],World.ownsRow_nil _ _ _ _,rfl,rfl,fun i hi=>absurd hi (by simp)⟩
end
instance {α:Type} [Own α] [Tid α]:Own (List α) where
 own:=fun w B l cs fp=>∃ v,cs=[v]∧OL w B v l fp
 lt:=fun h=>by obtain ⟨v,_,h⟩:=h;exact h.lt
 read:=fun h=>by obtain ⟨v,e,h⟩:=h;exact ⟨v,e,h.read⟩
 okept:=fun h hf hs=>by obtain ⟨v,e,h⟩:=h;exact ⟨v,e,h.okept hf hs⟩
 mono:=fun h hB=>by obtain ⟨v,e,h⟩:=h;exact ⟨v,e,h.mono hB⟩
instance:Tid (List Int):=⟨27⟩
instance:Tid Asn:=⟨26⟩
instance:Tid CPf:=⟨9999⟩
def OA {α β:Type} [Own α] [Tid α] [Own β] [Tid β] (w:World) (B:Nat) (v1 v2:Value) (a:List α × List β):Prop :=
 ∃ f1 f2,OL w B v1 a.1 f1∧OL w B v2 a.2 f2∧(f1 ++ f2).Nodup
def OO {α:Type} [Own α] [Tid α] (w:World) (B:Nat) (v:Value) (l:List α):Prop:=∃ f,OL w B v l f∧f.Nodup
section
variable {α β:Type} [Own α] [Tid α] [Own β] [Tid β] {w w':World} {B B':Nat} {v v1 v2:Value} {l:List α} {a:List α × List β} {T:Nat→Prop}
theorem OO.mono (h:OO w B v l) (hB:B'≤B):OO w B' v l:=by obtain ⟨f,h,hn⟩:=h;exact ⟨f,h.mono hB,hn⟩
theorem OO.read (h:OO w B v l):RL w (fun k=>B≤k) v l:=by obtain ⟨f,h,_⟩:=h;exact h.read.more fun k _ hk=>(h.lt k hk).1
theorem OO.form (h:OO w B v l):∃ a cap,v=.slice a l.length cap:=h.read.form
theorem OA.keep (h:OA w B v1 v2 a) (hb:Below w.heap.size w w'):OA w' B v1 v2 a:=by obtain ⟨f1,f2,h1,h2,hn⟩:=h;exact ⟨f1,f2,h1.keep hb,h2.keep hb,hn⟩
theorem OA.mono (h:OA w B v1 v2 a) (hB:B'≤B):OA w B' v1 v2 a:=by obtain ⟨f1,f2,h1,h2,hn⟩:=h;exact ⟨f1,f2,h1.mono hB,h2.mono hB,hn⟩
theorem OA.kept (h:OA w B v1 v2 a) (hf:Fr T w w') (hs:∀ k,B≤k→k < w.heap.size→¬ T k):OA w' B v1 v2 a:=by
 obtain ⟨f1,f2,h1,h2,hn⟩:=h
 exact ⟨f1,f2,h1.okept hf fun k hk=>hs k (h1.lt k hk).1 (h1.lt k hk).2,h2.okept hf fun k hk=>hs k (h2.lt k hk).1 (h2.lt k hk).2,hn⟩
theorem OA.one (h:OA w B v1 v2 a):RL w (fun k=>B≤k) v1 a.1:=by obtain ⟨f1,f2,h1,h2,hn⟩:=h;exact h1.read.more fun k _ hk=>(h1.lt k hk).1
theorem OA.two (h:OA w B v1 v2 a):RL w (fun k=>B≤k) v2 a.2:=by obtain ⟨f1,f2,h1,h2,hn⟩:=h;exact h2.read.more fun k _ hk=>(h2.lt k hk).1
end
end Go.Proofs.YtkbbmjcfgcfejaaGreat
namespace Go.Proofs.YtkbbmjcfgcfejaaGreat
open Go.RowKit
end Go.Proofs.YtkbbmjcfgcfejaaGreat
namespace Go.Proofs.YtkbbmjcfgcfejaaGreat
open Go.RowKit
end Go.Proofs.YtkbbmjcfgcfejaaGreat
namespace Go.Proofs.YtkbbmjcfgcfejaaGreat
open Go.RowKit
def factB (f:Fact):Bool:=isTermB f.2.1 && isTermB f.2.2
def atomB (x:Atom):Bool:=((x.1 == 1) || (x.1 == 2)) && (isTermB x.2.1 && isTermB x.2.2)
def factsB (l:List Fact):Bool:=decide (l.length≤12) && l.all factB
def asnB (a:Asn):Bool:=factsB a.1 && (decide (a.2.length≤6) && a.2.all atomB)
theorem all_take_yes {α:Type} [Inhabited α] {p:α→Bool} {l:List α} {k:Nat} (h:k < l.length) (ht:(l.take k).all p=true) (hp:p (gd l k)=true):(l.take (k+1)).all p=true:=by
 rw [take_gd h,List.all_append,ht];simp [hp]
theorem all_no {α:Type} [Inhabited α] {p:α→Bool} {l:List α} {k:Nat} (h:k < l.length) (hp:p (gd l k)=false):l.all p=false:=by
 rw [List.all_eq_false];exact ⟨_,gd_mem h,by simp [hp]⟩
theorem all_end {α:Type} {p:α→Bool} {l:List α} (ht:(l.take l.length).all p=true):l.all p=true:=by rwa [List.take_length] at ht
set_option maxHeartbeats 400000 in
theorem factValidI_any (f:Fact) (w:World) :
 Calls Tryz.prog 130 #[.agg #[.bool f.1,.int .i64 f.2.1,.int .i64 f.2.2]] w fun e w'=>e=.returned (.bool (factB f))∧Below w.heap.size w w':=by
 cases h:isTermB f.2.1
 · have hf:factB f=false:=by simp [factB,h]
   have HF:=Lib.hid (And.intro hf h)
   clear hf h
   go_enter Tryz.func130,Tryz.ntmps130
   go_wp2_with (go_at_call 194;go_must (refine (isTerm_any f.2.1 _).mono ?_;rw [HF.out.2];rintro e w' ⟨rfl,rfl⟩))
   go_ret
   exact ⟨by rw [HF.out.1];rfl,below_alloc _ _⟩
 · have hf:factB f=isTermB f.2.2:=by simp [factB,h]
   have HF:=Lib.hid (And.intro hf h)
   clear hf h
   go_enter Tryz.func130,Tryz.ntmps130
   go_wp2_with fail
   refine (isTerm_any f.2.1 _).mono ?_
   rw [HF.out.2]
   rintro e w' ⟨rfl,rfl⟩
   go_wp2_with fail
   refine (isTerm_any f.2.2 _).mono ?_
   rintro e w' ⟨rfl,rfl⟩
   go_wp2
   go_ret
   exact ⟨by rw [HF.out.1];rfl,below_alloc _ _⟩
set_option maxHeartbeats 400000 in
theorem factValidS_any (f:Fact) (w:World) :
 Calls Tryz.prog 213 #[.agg #[.bool f.1,.int .i64 f.2.1,.int .i64 f.2.2]] w fun e w'=>e=.returned (.bool (factB f))∧Below w.heap.size w w':=by
 cases h:isTermB f.2.1
 · have hf:factB f=false:=by simp [factB,h]
   have HF:=Lib.hid (And.intro hf h)
   clear hf h
   go_enter Tryz.func213,Tryz.ntmps213
   go_wp2_with (go_at_call 156;go_must (refine (l1Is_any f.2.1 _).mono ?_;rw [HF.out.2];rintro e w' ⟨rfl,rfl⟩))
   go_ret
   exact ⟨by rw [HF.out.1];rfl,below_alloc _ _⟩
 · have hf:factB f=isTermB f.2.2:=by simp [factB,h]
   have HF:=Lib.hid (And.intro hf h)
   clear hf h
   go_enter Tryz.func213,Tryz.ntmps213
   go_wp2_with fail
   refine (l1Is_any f.2.1 _).mono ?_
   rw [HF.out.2]
   rintro e w' ⟨rfl,rfl⟩
   go_wp2_with fail
   refine (l1Is_any f.2.2 _).mono ?_
   rintro e w' ⟨rfl,rfl⟩
   go_wp2
   go_ret
   exact ⟨by rw [HF.out.1];rfl,below_alloc _ _⟩
end Go.Proofs.YtkbbmjcfgcfejaaGreat
namespace Go.Proofs.YtkbbmjcfgcfejaaGreat
open Go.RowKit
theorem cb {P:Program} {f:FuncId} {args:Array Value} {w:World} {T b:Bool} {R:World→Prop} (h:Calls P f args w fun e w'=>e=.returned (.bool T)∧R w') (e:T=b) :
 Calls P f args w fun e w'=>e=.returned (.bool b)∧R w':=by subst e;exact h
set_option maxHeartbeats 800000 in
theorem atomValidI_any (f:Atom) (w:World) :
 Calls Tryz.prog 145 #[.agg #[.int .i64 f.1,.int .i64 f.2.1,.int .i64 f.2.2]] w fun e w'=>e=.returned (.bool (atomB f))∧Below w.heap.size w w':=by
 obtain ⟨x,y,z⟩:=f
 by_cases hk:x=1∨x=2
 rotate_left
 · have hf:atomB (x,y,z)=false:=by
    have h1:¬ x=1:=fun e=>hk (.inl e)
    have h2:¬ x=2:=fun e=>hk (.inr e)
    simp [atomB,h1,h2]
   have h1:(x == 1)=false:=by simp;exact fun e=>hk (.inl e)
   have h2:(x == 2)=false:=by simp;exact fun e=>hk (.inr e)
   have HF:=Lib.hid hf
   clear hf hk
   go_enter Tryz.func145,Tryz.ntmps145
   go_wp2
   go_ret
   exact ⟨by rw [HF.out];rfl,below_alloc _ _⟩
 have hk2:((x == 1) || (x == 2))=true:=by simpa using hk
 cases h:isTermB y
 · have hf:atomB (x,y,z)=false:=by simp [atomB,h]
   have HF:=Lib.hid (And.intro hf h)
   clear hf h hk2
   rcases hk with rfl | rfl
   all_goals
    go_enter Tryz.func145,Tryz.ntmps145
    go_wp2_with (go_at_call 194;go_must (refine (cb (isTerm_any y _) HF.out.2).mono ?_;rintro e w' ⟨rfl,rfl⟩))
    go_ret
    exact ⟨by rw [HF.out.1];rfl,below_alloc _ _⟩
 have hf:atomB (x,y,z)=isTermB z:=by simp only [atomB,hk2,h,Bool.true_and]
 have HF:=Lib.hid (And.intro hf h)
 clear hf h hk2
 rcases hk with rfl | rfl
 all_goals
  go_enter Tryz.func145,Tryz.ntmps145
  go_wp2_with fail
  refine (cb (isTerm_any y _) HF.out.2).mono ?_
  rintro e w' ⟨rfl,rfl⟩
  go_wp2_with fail
  refine (isTerm_any z _).mono ?_
  rintro e w' ⟨rfl,rfl⟩
  go_wp2
  go_ret
  exact ⟨by rw [HF.out.1];rfl,below_alloc _ _⟩
set_option maxHeartbeats 800000 in
theorem atomValidS_any (f:Atom) (w:World) :
 Calls Tryz.prog 152 #[.agg #[.int .i64 f.1,.int .i64 f.2.1,.int .i64 f.2.2]] w fun e w'=>e=.returned (.bool (atomB f))∧Below w.heap.size w w':=by
 obtain ⟨x,y,z⟩:=f
 by_cases hk:x=1∨x=2
 rotate_left
 · have hf:atomB (x,y,z)=false:=by
    have h1:¬ x=1:=fun e=>hk (.inl e)
    have h2:¬ x=2:=fun e=>hk (.inr e)
    simp [atomB,h1,h2]
   have h1:(x == 1)=false:=by simp;exact fun e=>hk (.inl e)
   have h2:(x == 2)=false:=by simp;exact fun e=>hk (.inr e)
   have HF:=Lib.hid hf
   clear hf hk
   go_enter Tryz.func152,Tryz.ntmps152
   go_wp2
   go_ret
   exact ⟨by rw [HF.out];rfl,below_alloc _ _⟩
 have hk2:((x == 1) || (x == 2))=true:=by simpa using hk
 cases h:isTermB y
 · have hf:atomB (x,y,z)=false:=by simp [atomB,h]
   have HF:=Lib.hid (And.intro hf h)
   clear hf h hk2
   rcases hk with rfl | rfl
   all_goals
    go_enter Tryz.func152,Tryz.ntmps152
    go_wp2_with (go_at_call 156;go_must (refine (cb (l1Is_any y _) HF.out.2).mono ?_;rintro e w' ⟨rfl,rfl⟩))
    go_ret
    exact ⟨by rw [HF.out.1];rfl,below_alloc _ _⟩
 have hf:atomB (x,y,z)=isTermB z:=by simp only [atomB,hk2,h,Bool.true_and]
 have HF:=Lib.hid (And.intro hf h)
 clear hf h hk2
 rcases hk with rfl | rfl
 all_goals
  go_enter Tryz.func152,Tryz.ntmps152
  go_wp2_with fail
  refine (cb (l1Is_any y _) HF.out.2).mono ?_
  rintro e w' ⟨rfl,rfl⟩
  go_wp2_with fail
  refine (l1Is_any z _).mono ?_
  rintro e w' ⟨rfl,rfl⟩
  go_wp2
  go_ret
  exact ⟨by rw [HF.out.1];rfl,below_alloc _ _⟩
set_option maxHeartbeats 800000 in
theorem factsValidI_any {S:Nat→Prop} (v:Value) (l:List Fact) (w:World) (h:RL w S v l) :
 Calls Tryz.prog 144 #[v] w fun e w'=>e=.returned (.bool (factsB l))∧Below w.heap.size w w':=by
 have hm:=h.len
 unfold maxLen at hm
 obtain ⟨a,c,rfl,_,_,hf⟩:=h.factAt
 have F1:=Lib.hid hf
 clear hf h
 by_cases hl:l.length≤12
 rotate_left
 · have hfin:factsB l=false:=by unfold factsB;simp [hl]
   have hgt:(12:Int) < (l.length:Int):=by omega
   have HF:=Lib.hid hfin
   clear hfin hl
   go_enter Tryz.func144,Tryz.ntmps144
   go_wp2
   go_ret
   exact ⟨by rw [HF.out];rfl,Below.refl _ _⟩
 have hgt:¬ (12:Int) < (l.length:Int):=by omega
 go_enter Tryz.func144,Tryz.ntmps144
 go_wp2
 go_loopg [10] l.length (fun q i wr=>∃ k:Nat,k+q=l.length∧i=.int .i64 k∧(l.take k).all factB=true∧Below w.heap.size w wr)
 case atStart=>exact ⟨0,by omega,rfl,by simp,Below.refl _ _⟩
 case round =>
  obtain ⟨k,hk,rfl,ht,hb⟩:=hrel
  have HK:=Lib.hid hk
  have HT:=Lib.hid ht
  clear hk ht
  by_cases hk8:k < l.length
  · obtain ⟨b1,o1,rfl,_,hbl1,hp1,hp2,hp3⟩:=F1.out k hk8
    replace hp1:=cell_keep hb hp1;replace hp2:=cell_keep hb hp2;replace hp3:=cell_keep hb hp3
    have hs:=hb.size
    have i1:(k:Int) < (l.length:Int):=by omega
    have hzb:b1 < wr.heap.size:=by omega
    cases hp:factB (gd l k)
    · have hfin:factsB l=false:=by unfold factsB;rw [all_no hk8 hp];simp
      have HF:=Lib.hid (And.intro hfin hp)
      clear hfin hp
      go_wp2_with fail
      refine (cb (factValidI_any (gd l k) _) HF.out.2).mono ?_
      rintro e w2 ⟨rfl,hb2⟩
      go_wp2
      go_ret
      exact ⟨by rw [HF.out.1];rfl,bt Bl hb2⟩
    · have HP:=Lib.hid hp
      clear hp
      go_wp2_with fail
      refine (cb (factValidI_any (gd l k) _) HP.out).mono ?_
      rintro e w2 ⟨rfl,hb2⟩
      go_wp2
      go_roundg (gk - 1)
      case rel=>exact ⟨k+1,by have:=HK.out;omega,by go_num,all_take_yes hk8 HT.out HP.out,bt Bl hb2⟩
      case measure=>have:=HK.out;omega
  · obtain rfl:k=l.length:=by have:=HK.out;omega
    have hall:=all_end HT.out
    have HA:=Lib.hid hall
    clear hall HT
    go_wp2
    go_ret
    exact ⟨by rw [factsB,HA.out];simp;omega,hb⟩
set_option maxHeartbeats 800000 in
theorem factsValidS_any {S:Nat→Prop} (v:Value) (l:List Fact) (w:World) (h:RL w S v l) :
 Calls Tryz.prog 153 #[v] w fun e w'=>e=.returned (.bool (factsB l))∧Below w.heap.size w w':=by
 have hm:=h.len
 unfold maxLen at hm
 obtain ⟨a,c,rfl,_,_,hf⟩:=h.factAt
 have F1:=Lib.hid hf
 clear hf h
 go_enter Tryz.func153,Tryz.ntmps153
 go_wp2
 go_loopg [3] l.length (fun q i wr=>∃ k:Nat,k+q=l.length∧i=.int .i64 k∧(l.take k).all factB=true∧Below w.heap.size w wr)
 case atStart=>exact ⟨0,by omega,rfl,by simp,Below.refl _ _⟩
 case round =>
  obtain ⟨k,hk,rfl,ht,hb⟩:=hrel
  have HK:=Lib.hid hk
  have HT:=Lib.hid ht
  clear hk ht
  by_cases hk8:k < l.length
  · obtain ⟨b1,o1,rfl,_,hbl1,hp1,hp2,hp3⟩:=F1.out k hk8
    replace hp1:=cell_keep hb hp1;replace hp2:=cell_keep hb hp2;replace hp3:=cell_keep hb hp3
    have hs:=hb.size
    have i1:(k:Int) < (l.length:Int):=by omega
    have hzb:b1 < wr.heap.size:=by omega
    cases hp:factB (gd l k)
    · have hfin:factsB l=false:=by unfold factsB;rw [all_no hk8 hp];simp
      have HF:=Lib.hid (And.intro hfin hp)
      clear hfin hp
      go_wp2_with fail
      refine (cb (factValidS_any (gd l k) _) HF.out.2).mono ?_
      rintro e w2 ⟨rfl,hb2⟩
      go_wp2
      go_ret
      exact ⟨by rw [HF.out.1];rfl,bt Bl hb2⟩
    · have HP:=Lib.hid hp
      clear hp
      go_wp2_with fail
      refine (cb (factValidS_any (gd l k) _) HP.out).mono ?_
      rintro e w2 ⟨rfl,hb2⟩
      go_wp2
      go_roundg (gk - 1)
      case rel=>exact ⟨k+1,by have:=HK.out;omega,by go_num,all_take_yes hk8 HT.out HP.out,bt Bl hb2⟩
      case measure=>have:=HK.out;omega
  · obtain rfl:k=l.length:=by have:=HK.out;omega
    have hall:=all_end HT.out
    have HA:=Lib.hid hall
    clear hall HT
    go_wp2
    go_ret
    exact ⟨by rw [factsB,HA.out];simp;omega,hb⟩
end Go.Proofs.YtkbbmjcfgcfejaaGreat
namespace Go.Proofs.YtkbbmjcfgcfejaaGreat
open Go.RowKit
theorem nth_set {sz k j i:Nat} {xs:List Value} {u:Value} (hj:j < sz):nth sz (xs.set (k * sz+j) u) i=if i=k then (nth sz xs k).set j u else nth sz xs i:=by
 apply List.ext_getElem?
 intro m
 by_cases hm:m < sz
 · have e:∀ l:List Value,∀ i,(nth sz l i)[m]?=l[i * sz+m]?:=fun l i=>by
    rw [nth,List.getElem?_take,if_pos hm,List.getElem?_drop]
   rw [e,List.getElem?_set]
   by_cases hik:i=k
   · subst hik
     rw [if_pos rfl,List.getElem?_set]
     by_cases hjm:j=m
     · subst hjm
       rw [if_pos rfl,if_pos rfl]
       have hl:(nth sz xs i).length=min sz (xs.length - i * sz):=by rw [nth,List.length_take,List.length_drop]
       by_cases hlt:i * sz+j < xs.length
       · rw [if_pos hlt,if_pos (by rw [hl];omega)]
       · rw [if_neg hlt,if_neg (by rw [hl];omega)]
     · rw [if_neg hjm,if_neg (by omega),e]
   · rw [if_neg hik,e,if_neg]
     intro h
     rcases Nat.lt_or_gt_of_ne hik with h1 | h1
     · have:(i+1) * sz≤k * sz:=Nat.mul_le_mul_right _ h1
       rw [Nat.succ_mul] at this;omega
     · have:(k+1) * sz≤i * sz:=Nat.mul_le_mul_right _ h1
       rw [Nat.succ_mul] at this;omega
 · have e:∀ l:List Value,∀ i,(nth sz l i)[m]?=none:=fun l i=>by
    rw [nth,List.getElem?_take,if_neg hm]
   rw [e]
   split
   · rw [List.getElem?_set]
     split
     · rename_i h;omega
     · rw [e]
   · rw [e]
theorem set2 {l:List Value} (h:l.length=2) (a b:Value):(l.set 0 a).set 1 b=[a,b]:=by
 match l,h with
 | [_,_],_=>rfl
theorem nth_set0 {sz k i:Nat} {xs:List Value} {u:Value} (h:0 < sz):nth sz (xs.set (k * sz) u) i=if i=k then (nth sz xs k).set 0 u else nth sz xs i:=nth_set (j:=0) h
theorem row_form {w:World} {B e sz n:Nat} {v:Value} {xs:List Value} (h:w.ownsRow B e sz v n xs):∃ a cap,v=.slice a n cap∧(∀ i,i < n→∃ g,a=some ⟨g,0,none⟩):=by
 rcases h.2 with ⟨rfl,rfl⟩ | ⟨g,cap,cur,rfl,_⟩
 · exact ⟨none,0,rfl,fun i hi=>by omega⟩
 · exact ⟨_,cap,rfl,fun _ _=>⟨g,rfl⟩⟩
theorem row_cell {w:World} {B e sz n g cap j:Nat} {xs:List Value} (h:w.ownsRow B e sz (.slice (some ⟨g,0,none⟩) n cap) n xs) (hj:j < n * sz):∃ u,w.cell? ⟨g,j,none⟩=some u:=by
 refine ⟨xs[j]'(by rw [h.1];exact hj),?_⟩
 rw [h.cellAt j hj]
 exact List.getElem?_eq_getElem _
theorem flat_OL {α:Type} [Own α] [Tid α] {w:World} {B:Nat} {v:Value} {l:List α} {xs:List Value} {c:α→List Value} (hc:∀ (w:World) (B:Nat) (a:α),Own.own w B a (c a) [])
 (hr:w.ownsRow B (Tid.tid α) (Dat.sz α) v l.length xs) (h:∀ i,i < l.length→nth (Dat.sz α) xs i=c (gd l i)):OL w B v l v.ownBlock.toList:=by
 refine ⟨xs,List.replicate l.length [],hr,by simp,by simp,fun i hi=>?_⟩
 rw [h i hi,show gd (List.replicate l.length ([]:List Nat)) i=[] by simp [gd,hi]]
 exact hc w B _
theorem OL.row {α:Type} [Own α] [Tid α] {w:World} {B:Nat} {v:Value} {l:List α} {fp:List Nat} (h:OL w B v l fp) (hf:∀ {w B a cs fp},Own.own (α:=α) w B a cs fp→fp=[]) :
 (∃ xs,w.ownsRow B (Tid.tid α) (Dat.sz α) v l.length xs)∧fp=v.ownBlock.toList:=by
 obtain ⟨xs,fps,hr,hl,rfl,ho⟩:=h
 refine ⟨⟨xs,hr⟩,?_⟩
 have:fps.flatten=[]:=by
  rw [List.flatten_eq_nil_iff]
  intro f hf2
  obtain ⟨i,hi,rfl⟩:=List.getElem_of_mem hf2
  rw [← gd_of hi]
  exact hf (ho i (by omega))
 rw [this,List.append_nil]
def mkFact (k:Int) (i:Nat):Fact:=(k % 3 == 0,k+3 * i+1,k+3 * i+1+1)
def mkAtom (k:Int) (i:Nat):Atom:=(k+3 * i,k+3 * i+1,k+3 * i+1+1)
def mkFacts (k:Int) (n:Nat):List Fact:=(List.range n).map (mkFact k)
def mkAtoms (k:Int) (n:Nat):List Atom:=(List.range n).map (mkAtom k)
theorem info_fact:(Tryz.prog.info? 61).map (fun i=>(i.zero,i.size,i.bytes))=some (some (.agg #[.bool false,.int .i64 0,.int .i64 0]),3,24):=by kernel_rfl
theorem info_atom:(Tryz.prog.info? 118).map (fun i=>(i.zero,i.size,i.bytes))=some (some (.agg #[.int .i64 0,.int .i64 0,.int .i64 0]),3,24):=by kernel_rfl
end Go.Proofs.YtkbbmjcfgcfejaaGreat
namespace Go.Proofs.YtkbbmjcfgcfejaaGreat
open Go.RowKit
section
variable {α:Type} [Own α] [Tid α] {w w':World} {B B':Nat} {v:Value} {l:List α} {fp:List Nat}
theorem gd_set {β:Type} [Inhabited β] {l:List β} {k i:Nat} {x:β} (hk:k < l.length):gd (l.set k x) i=if i=k then x else gd l i:=by
 unfold gd
 rw [List.getD_eq_getElem?_getD,List.getElem?_set,List.getD_eq_getElem?_getD]
 by_cases e:k=i
 · subst e;rw [if_pos rfl,if_pos hk,if_pos rfl];rfl
 · rw [if_neg e,if_neg (fun h=>e h.symm)]
def PL (w:World) (B:Nat) (v:Value) (n:Nat) (l:List α) (k:Nat):Prop :=
 ∃ (xs:List Value) (fps:List (List Nat)),w.ownsRow B (Tid.tid α) (Dat.sz α) v n xs∧fps.length=k∧(v.ownBlock.toList ++ fps.flatten).Nodup ∧
   ∀ i,i < k→Own.own w B (gd l i) (nth (Dat.sz α) xs i) (gd fps i)
theorem PL.done (h:PL w B v l.length l l.length):OO w B v l:=by
 obtain ⟨xs,fps,hr,hl,hn,ho⟩:=h
 exact ⟨_,⟨xs,fps,hr,hl,rfl,ho⟩,hn⟩
end
end Go.Proofs.YtkbbmjcfgcfejaaGreat
