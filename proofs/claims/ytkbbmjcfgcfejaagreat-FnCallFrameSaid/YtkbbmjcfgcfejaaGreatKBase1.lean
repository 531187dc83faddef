/- Base1: texts Voc, Pure, Laws, W1, W2, Quiet, W3, Reach, W4, W5, W6 in one. -/
import Derived.WalkKit
import Derived.Lib.Hide
import Derived.Deep.QuietTactic
import Derived.BigQuiet
import Derived.Test.YtkbbmjcfgcfejaaGreatRows
import Derived.WalkSpells
import Derived.WalkLawsBesides
import Derived.Deep.AppendLies
import Derived.Deep.LoopGhost
namespace Go.Proofs.YtkbbmjcfgcfejaaGreat
open Go.RowKit
def RSl (w:World) (sz:Nat) (v:Value) (n:Nat) (c:Nat→Value):Prop :=
 (∃ a cap,v=.slice a 0 cap∧n=0∧cap≤maxLen∧(a=none→cap=0)) ∨
 ∃ b o cap,v=.slice (some ⟨b,o,none⟩) n cap∧n≤cap∧cap≤maxLen∧∀ i,i < n * sz→w.cell? ⟨b,o+i,none⟩=some (c i)
def gi (l:List Int) (i:Nat):Int:=l.getD i 0
theorem gi_of {l:List Int} {i:Nat} (h:i < l.length):gi l i=l[i]:=by simp [gi,h]
theorem gi_mem {l:List Int} {i:Nat} (h:i < l.length):gi l i ∈ l:=by rw [gi_of h];exact List.getElem_mem h
def RInts (w:World) (v:Value) (l:List Int):Prop:=RSl w 1 v l.length (fun i=>.int .i64 (gi l i))
structure Fr (S:Nat→Prop) (w w':World):Prop where
 os:w'.os=w.os
 tape:w'.tape=w.tape
 output:w'.output=w.output
 size:w.heap.size≤w'.heap.size
 block:∀ k,k < w.heap.size→¬ S k→w'.heap[k]?=w.heap[k]?
theorem Fr.refl (S:Nat→Prop) (w:World):Fr S w w:=⟨rfl,rfl,rfl,Nat.le_refl _,fun _ _ _=>rfl⟩
theorem Fr.trans {S:Nat→Prop} {a b c:World} (h:Fr S a b) (k:Fr S b c):Fr S a c :=
 ⟨k.os.trans h.os,k.tape.trans h.tape,k.output.trans h.output,Nat.le_trans h.size k.size,
   fun i hi hs=>(k.block i (Nat.lt_of_lt_of_le hi h.size) hs).trans (h.block i hi hs)⟩
theorem Fr.mono {S S':Nat→Prop} {a b:World} (h:Fr S a b) (hs:∀ k,k < a.heap.size→S k→S' k):Fr S' a b :=
 ⟨h.os,h.tape,h.output,h.size,fun i hi hn=>h.block i hi fun hk=>hn (hs i hi hk)⟩
theorem Below.fr {w w':World} (h:Below w.heap.size w w'):Fr (fun _=>False) w w' :=
 ⟨h.os,h.tape,h.output,h.size,fun k hk _=>h.block k hk⟩
theorem Fr.below {w w':World} {S:Nat→Prop} {B:Nat} (h:Fr S w w') (hB:B≤w.heap.size) (hs:∀ k,k < B→¬ S k):Below B w w' :=
 ⟨h.os,h.tape,h.output,h.size,fun k hk=>h.block k (Nat.lt_of_lt_of_le hk hB) (hs k hk)⟩
theorem Below.chg {w w':World} {B:Nat} (h:Below B w w'):Fr (fun k=>B≤k) w w' :=
 ⟨h.os,h.tape,h.output,h.size,fun k _ hn=>h.block k (by omega)⟩
theorem grown_fr {w w':World} {r:Option Nat} (h:w.grownBy w' r):Fr (fun k=>some k=r) w w' :=
 ⟨h.os,h.tape,h.output,h.size,fun k hk hn=>h.block k hk hn⟩
theorem Fr.cell {S:Nat→Prop} {w w':World} (h:Fr S w w') {p:Addr} {v:Value} (hp:¬ S p.block) (hc:w.cell? p=some v):w'.cell? p=some v :=
 (World.cell?_of_block (w:=w) (h.block p.block (World.block_lt_of_cell? w p hc) hp)).trans hc
theorem RSl.kept {S:Nat→Prop} {w w':World} {sz n:Nat} {v:Value} {c:Nat→Value} (h:RSl w sz v n c) (hf:Fr S w w')
 (hs:∀ k,v.ownBlock=some k→¬ S k):RSl w' sz v n c:=by
 rcases h with h | ⟨b,o,cap,rfl,h1,h2,h3⟩
 · exact .inl h
 · exact .inr ⟨b,o,cap,rfl,h1,h2,fun i hi=>hf.cell (hs b rfl) (h3 i hi)⟩
theorem RInts.kept {S:Nat→Prop} {w w':World} {v:Value} {l:List Int} (h:RInts w v l) (hf:Fr S w w')
 (hs:∀ k,v.ownBlock=some k→¬ S k):RInts w' v l:=RSl.kept h hf hs
theorem RSl.keep {w w':World} {sz n:Nat} {v:Value} {c:Nat→Value} (h:RSl w sz v n c) (hf:Below w.heap.size w w'):RSl w' sz v n c :=
 h.kept (Below.fr hf) fun _ _ h=>h
theorem RInts.keep {w w':World} {v:Value} {l:List Int} (h:RInts w v l) (hf:Below w.heap.size w w'):RInts w' v l:=RSl.keep h hf
theorem below_alloc (w:World) (o:Obj):Below w.heap.size w (w.alloc o):=(Below.refl _ _).alloc (Nat.le_refl _) o
theorem below_drew (w:World):Below w.heap.size w w.drew:=(Below.refl _ _).drew
theorem bt {a b c:World} (h:Below a.heap.size a b) (k:Below b.heap.size b c):Below a.heap.size a c:=h.trans (k.mono h.size)
theorem RInts.alloc {w:World} {v:Value} {l:List Int} (h:RInts w v l) (o:Obj):RInts (w.alloc o) v l:=h.keep (below_alloc w o)
theorem own_rsl {w:World} {base:Nat} {e:TypeId} {sz n:Nat} {v:Value} {xs:List Value} (h:w.ownsRow base e sz v n xs) :
 RSl w sz v n (fun i=>xs.getD i undef):=by
 obtain ⟨hl,h⟩:=h
 rcases h with ⟨rfl,rfl⟩ | ⟨g,cap,cur,rfl,hb,hg,hn,hc,hs,ht⟩
 · exact .inl ⟨none,0,rfl,rfl,Nat.zero_le _,fun _=>rfl⟩
 · refine .inr ⟨g,0,cap,rfl,hn,hc,fun i hi=>?_⟩
   rw [Nat.zero_add,cell_of_row w g i cur e (0,0) hg,← ht]
   have h1:cur.toList[i]?=some (cur.toList[i]'(by rw [Array.length_toList,hs];exact Nat.lt_of_lt_of_le hi (Nat.mul_le_mul_right _ hn))):=List.getElem?_eq_getElem _
   simp only [List.getD_eq_getElem?_getD,List.getElem?_take,hi,if_true]
   rw [h1]
   simp
theorem RSl.congr {w:World} {sz n:Nat} {v:Value} {c c':Nat→Value} (h:RSl w sz v n c) (hc:∀ i,i < n * sz→c i=c' i):RSl w sz v n c':=by
 rcases h with h | ⟨b,o,cap,rfl,h1,h2,h3⟩
 · exact .inl h
 · exact .inr ⟨b,o,cap,rfl,h1,h2,fun i hi=>(h3 i hi).trans (by rw [hc i hi])⟩
abbrev ints (l:List Int):List Value:=l.map (Value.int .i64)
theorem own_ints {w:World} {base:Nat} {e:TypeId} {v:Value} {n:Nat} {l:List Int} (h:w.ownsRow base e 1 v n (ints l)):RInts w v l∧n=l.length:=by
 have hn:n=l.length:=by have:=h.1;simpa using this.symm
 subst hn
 refine ⟨(own_rsl h).congr fun i hi=>?_,rfl⟩
 have hi':i < l.length:=by omega
 simp [ints,hi',gi]
theorem RInts.form {w:World} {v:Value} {l:List Int} (h:RInts w v l):∃ a cap,v=.slice a l.length cap:=by
 rcases h with ⟨a,cap,rfl,h,_⟩ | ⟨b,o,cap,rfl,_⟩
 · exact ⟨a,cap,by rw [h]⟩
 · exact ⟨_,_,rfl⟩
theorem RInts.len {w:World} {v:Value} {l:List Int} (h:RInts w v l):l.length≤maxLen:=by
 rcases h with ⟨a,cap,rfl,h,_⟩ | ⟨b,o,cap,rfl,h1,h2,_⟩
 · rw [h];exact Nat.zero_le _
 · omega
end Go.Proofs.YtkbbmjcfgcfejaaGreat
namespace Go.Proofs.YtkbbmjcfgcfejaaGreat
def isAddrB (n:Int):Bool:=decide (1≤n) && decide (n≤8)
def isTermB (n:Int):Bool:=decide (0≤n) && decide (n≤8)
def tv (vs:List Int) (t:Int):Int:=if t=0 then 0 else gi vs (t - 1).toNat
def ct (hs:List Int) (n:Int):Int:=if isAddrB n=true then gi hs (n - 1).toNat else -1
theorem isTermB_iff {n:Int}:isTermB n=true ↔ 0≤n∧n≤8:=by simp [isTermB]
end Go.Proofs.YtkbbmjcfgcfejaaGreat
namespace Go.Proofs.YtkbbmjcfgcfejaaGreat
open Go.RowKit
theorem info_int:(Tryz.prog.info? 3).map (fun i=>(i.zero,i.size,i.bytes))=some (some (.int .i64 0),1,8):=by kernel_rfl
theorem app_int {ops:Array Oper} {rest:List Oper} {o:Oper} {a:Act} {Q:Exit→Act→World→Prop} (w:World) (hgd:o.guard=none) (s x:Operand)
 (ho:o.op=.call { callee:=.builtin .append,args:=#[s,x],argTypes:=#[27,27] })
 (B:Nat) (v:Value) (l:List Int) (hs:a.eval s=v) (hown:w.ownsRow B 3 1 v l.length (ints l))
 (ad:Addr) (n:Int) (hx:a.eval x=.slice (some ad) 1 1) (hnew:w.cell? ad=some (.int .i64 n)) (hlen:l.length < 1099511627776) (hB:B≤w.heap.size)
 (h:∀ v' w',w'.ownsRow B 3 1 v' (l ++ [n]).length (ints (l ++ [n]))→Fr (fun k=>some k=v.ownBlock) w w'→wpList Tryz.prog ops Q rest (a.put o.dst v') w') :
 wpList Tryz.prog ops Q (o :: rest) a w:=by
 obtain ⟨i0,hi,hz0,hz1,hz2⟩:=info_parts info_int
 refine wpList_append_own w hgd s x 27 ho B 3 i0 (.int .i64 0) 1 8 Tryz.underlying27 hi hz0 hz1 hz2 rfl (by decide) v l.length (ints l) hs hown ad 1 1 [.int .i64 n] hx rfl ?_ ?_ ?_ ?_ hB ?_
 · intro j u hj
   cases j with
   | zero=>simp at hj;subst hj;simpa [Addr.add] using hnew
   | succ j=>simp at hj
 · intro u hu;simp at hu;subst hu;rfl
 · unfold maxLen;omega
 · omega
 · intro v' w' h1 h2 _
   refine h v' w' ?_ (grown_fr h2)
   simpa [ints] using h1
theorem own_lt {w:World} {B e sz n:Nat} {v:Value} {xs:List Value} (h:w.ownsRow B e sz v n xs) {k:Nat} (hk:some k=v.ownBlock):B≤k∧k < w.heap.size:=h.lt k hk.symm
theorem own_kept {w w':World} {B e sz n:Nat} {v:Value} {xs:List Value} {S:Nat→Prop} (h:w.ownsRow B e sz v n xs) (hf:Fr S w w') (hs:∀ k,some k=v.ownBlock→¬ S k):w'.ownsRow B e sz v n xs:=by
 refine ⟨h.1,?_⟩
 rcases h.2 with hn | ⟨g,cap,cur,rfl,hb,hgg,rest⟩
 · exact .inl hn
 · refine .inr ⟨g,cap,cur,rfl,hb,?_,rest⟩
   rw [hf.block g (Array.getElem?_eq_some_iff.1 hgg).1 (hs g rfl)]
   exact hgg
theorem own_keep {w w':World} {B e sz n:Nat} {v:Value} {xs:List Value} (h:w.ownsRow B e sz v n xs) (hf:Below w.heap.size w w'):w'.ownsRow B e sz v n xs :=
 own_kept h (Below.fr hf) fun _ _ h=>h
theorem own_mono {w:World} {B B' e sz n:Nat} {v:Value} {xs:List Value} (h:w.ownsRow B e sz v n xs) (hB:B'≤B):w.ownsRow B' e sz v n xs:=by
 refine ⟨h.1,?_⟩
 rcases h.2 with hn | ⟨g,cap,cur,hv,hb,rest⟩
 · exact .inl hn
 · exact .inr ⟨g,cap,cur,hv,by omega,rest⟩
theorem below_own {w0 w w':World} {B e sz n:Nat} {v:Value} {xs:List Value} (h:w.ownsRow B e sz v n xs) (hf:Fr (fun k=>some k=v.ownBlock) w w') (hb:Below B w0 w) (hB:B≤w.heap.size):Below B w0 w' :=
 hb.trans (hf.below hB fun k hk hS=>by have:=(own_lt h hS).1;omega)
theorem cell_below {w w':World} {B:Nat} {p:Addr} {v:Value} (hb:Below B w w') (hp:p.block < B) (hc:w.cell? p=some v):w'.cell? p=some v:=(hb.cell hp).trans hc
theorem cell_keep {w w':World} {p:Addr} {v:Value} (hb:Below w.heap.size w w') (hc:w.cell? p=some v):w'.cell? p=some v :=
 (hb.cell (World.block_lt_of_cell? w p hc)).trans hc
theorem cell_new1 (w:World) (v:Value) (e:TypeId):(w.alloc (.cells #[v] e)).cell? ⟨w.heap.size,0,none⟩=some v:=by
 simp
theorem has_bit (m k:Nat) (hm:m < 65536):(bits .and .u16 ((m:Int) / 2 ^ k) 1 == 1)=m.testBit k:=by
 have e:((m:Int) / 2 ^ k)=((m / 2 ^ k:Nat):Int):=by simp
 have h1:m / 2 ^ k < 65536:=Nat.lt_of_le_of_lt (Nat.div_le_self _ _) hm
 have:=u16_and_nat (m / 2 ^ k) 1 h1 (by decide)
 rw [e,show (1:Int)=((1:Nat):Int) from rfl,this]
 rw [Nat.and_one_is_mod,Nat.testBit_eq_decide_div_mod_eq]
 rw [Bool.eq_iff_iff]
 simp
 omega
theorem wrap_two_pow (k:Nat) (hk:k < 16):IntKind.u16.wrap (2 ^ k)=((2 ^ k:Nat):Int):=by
 rw [IntKind.wrap_u16]
 have h:(2 ^ k:Nat) < 65536:=Nat.pow_lt_pow_right (by decide) hk
 have e:(2:Int) ^ k=((2 ^ k:Nat):Int):=by simp
 rw [e]
 generalize 2 ^ k=x at h ⊢
 omega
theorem or_bit (m k:Nat) (hm:m < 65536) (hk:k < 16):bits .or .u16 (m:Int) (IntKind.u16.wrap (2 ^ k))=((m ||| 2 ^ k:Nat):Int):=by
 rw [wrap_two_pow k hk]
 exact u16_or_nat m (2 ^ k) hm (Nat.pow_lt_pow_right (by decide) hk)
theorem or_lt (m k:Nat) (hm:m < 65536) (hk:k < 16):m ||| 2 ^ k < 65536 :=
 Nat.or_lt_two_pow (n:=16) hm (Nat.pow_lt_pow_right (by decide) hk)
theorem testBit_or_pow (m k j:Nat):(m ||| 2 ^ k).testBit j=(m.testBit j || decide (k=j)):=by
 rw [Nat.testBit_or,Nat.testBit_two_pow]
def sel (p:Nat→Bool) (a k:Nat):List Int:=((List.range' a k).filter p).map Int.ofNat
theorem sel_zero (p:Nat→Bool) (a:Nat):sel p a 0=[]:=rfl
theorem sel_succ (p:Nat→Bool) (a k:Nat):sel p a (k+1)=sel p a k ++ (if p (a+k)=true then [((a+k:Nat):Int)] else []):=by
 unfold sel
 rw [List.range'_concat,List.filter_append,List.map_append]
 congr 1
 simp only [Nat.one_mul,List.filter_cons,List.filter_nil]
 split <;> rfl
theorem sel_yes {p:Nat→Bool} {a k:Nat} (h:p (a+k)=true):sel p a (k+1)=sel p a k ++ [((a+k:Nat):Int)]:=by rw [sel_succ,if_pos h]
theorem sel_no {p:Nat→Bool} {a k:Nat} (h:p (a+k)=false):sel p a (k+1)=sel p a k:=by rw [sel_succ,if_neg (by simp [h]),List.append_nil]
theorem sel_len (p:Nat→Bool) (a k:Nat):(sel p a k).length≤k:=by
 unfold sel
 rw [List.length_map]
 exact Nat.le_trans (List.length_filter_le _ _) (by simp)
end Go.Proofs.YtkbbmjcfgcfejaaGreat
namespace Go.Proofs.YtkbbmjcfgcfejaaGreat
open Go.RowKit
set_option maxHeartbeats 400000 in
theorem isTerm_any (n:Int) (w:World) :
 Calls Tryz.prog 194 #[.int .i64 n] w fun e w'=>e=.returned (.bool (isTermB n))∧w=w':=by
 by_cases h1:0≤n
 · by_cases h2:n≤8
   all_goals
    go_enter Tryz.func194,Tryz.ntmps194
    go_wp2
    go_ret
    simp [isTermB,h1,h2]
 · go_enter Tryz.func194,Tryz.ntmps194
   go_wp2
   go_ret
   simp [isTermB];omega
set_option maxHeartbeats 400000 in
theorem l1Is_any (n:Int) (w:World) :
 Calls Tryz.prog 156 #[.int .i64 n] w fun e w'=>e=.returned (.bool (isTermB n))∧w=w':=by
 by_cases h1:0≤n
 · by_cases h2:n≤8
   all_goals
    go_enter Tryz.func156,Tryz.ntmps156
    go_wp2
    go_ret
    simp [isTermB,h1,h2]
 · go_enter Tryz.func156,Tryz.ntmps156
   go_wp2
   go_ret
   simp [isTermB];omega
theorem RInts.at {w:World} {b o cap:Nat} {l:List Int} {n:Nat} (h:RInts w (.slice (some ⟨b,o,none⟩) n cap) l) (i:Nat) (hi:i < l.length) :
 n=l.length∧w.cell? ⟨b,o+i,none⟩=some (.int .i64 (gi l i)):=by
 rcases h with ⟨_,_,_,h,_⟩ | ⟨b',o',cap',h,h1,h2,h3⟩
 · omega
 · simp only [Value.slice.injEq,Option.some.injEq,Addr.mk.injEq,and_true] at h
   obtain ⟨⟨rfl,rfl⟩,rfl,rfl⟩:=h
   exact ⟨rfl,h3 i (by omega)⟩
theorem RInts.ne {w:World} {v:Value} {l:List Int} (h:RInts w v l) (hl:0 < l.length) :
 ∃ b o cap,v=.slice (some ⟨b,o,none⟩) l.length cap∧l.length≤cap∧cap≤maxLen∧∀ i,i < l.length→w.cell? ⟨b,o+i,none⟩=some (.int .i64 (gi l i)):=by
 rcases h with ⟨_,_,_,h,_⟩ | ⟨b,o,cap,rfl,h1,h2,h3⟩
 · omega
 · exact ⟨b,o,cap,rfl,h1,h2,fun i hi=>h3 i (by omega)⟩
end Go.Proofs.YtkbbmjcfgcfejaaGreat
namespace Go.Proofs.YtkbbmjcfgcfejaaGreat
open Go.RowKit
def alB (hs:List Int) (n:Int):Bool:=decide (0≤ct hs n)
end Go.Proofs.YtkbbmjcfgcfejaaGreat
namespace Go.Proofs.YtkbbmjcfgcfejaaGreat
open Go.RowKit
structure Ext (w:World) where
 to:World
 below:Below w.heap.size w to
instance (w:World):Nonempty (Ext w):=⟨⟨w,Below.refl _ _⟩⟩
def ext (w:World) (x:Ext w):World:=x.to
@[simp,go_sem] theorem cell?_ext (w:World) (x:Ext w) (p:Addr) (h:p.block < w.heap.size):(ext w x).cell? p=w.cell? p:=x.below.cell h
theorem ext_c {P:Program} {f:FuncId} {args:Array Value} {w:World} {x:Ext w} {v:Value}
 (h:Calls P f args (ext w x) fun e w'=>e=.returned v∧Below (ext w x).heap.size (ext w x) w'):Calls P f args (ext w x) fun e w''=>e=.returned v∧∃ y,w''=ext w y :=
 h.mono fun _ w'' ⟨he,hb⟩=>⟨he,⟨w'',bt x.below hb⟩,rfl⟩
theorem ext_same {P:Program} {f:FuncId} {args:Array Value} {w:World} {x:Ext w} {v:Value}
 (h:Calls P f args (ext w x) fun e w'=>e=.returned v∧ext w x=w'):Calls P f args (ext w x) fun e w''=>e=.returned v∧∃ y,w''=ext w y :=
 h.mono fun _ _ ⟨he,hb⟩=>⟨he,x,hb.symm⟩
theorem wp_region_ext {P:Program} {id:Nat} {Q:Exit→Act→World→Prop} {a:Act} {w:World} {l:List Oper} (hm:P.follows .mixedOrders=true) (hB:Region.lexB .any l.toArray=true)
 (h:wpQuiet P l.toArray (fun w'=>∃ x,w'=Go.Proofs.YtkbbmjcfgcfejaaGreat.ext w x) (fun a'=>∀ w',Below w.heap.size w w'→Q .normal a' w') l a):(Code.region id l.toArray true).wp P Q a w:=by
 refine wp_region_quiet (C:=fun w'=>∃ x,w'=Go.Proofs.YtkbbmjcfgcfejaaGreat.ext w x) hm hB ⟨⟨_,below_drew w⟩,rfl⟩ ?_
 have key:∀ (l':List Oper) (a:Act),wpQuiet P l.toArray (fun w'=>∃ x,w'=Go.Proofs.YtkbbmjcfgcfejaaGreat.ext w x) (fun a'=>∀ w',Below w.heap.size w w'→Q .normal a' w') l' a →
  wpQuiet P l.toArray (fun w'=>∃ x,w'=Go.Proofs.YtkbbmjcfgcfejaaGreat.ext w x) (fun a'=>∀ w',(∃ x,w'=Go.Proofs.YtkbbmjcfgcfejaaGreat.ext w x)→Q .normal a' w') l' a:=by
  intro l'
  induction l' with
  | nil=>intro a h w' ⟨x,hx⟩;subst hx;exact h _ x.below
  | cons o l' ih =>
    intro a h
    unfold wpQuiet at h ⊢
    split
    · rename_i hw;rw [if_pos hw] at h;exact Oper.quiet_mono (fun a=>ih a) h
    · rename_i hw;rw [if_neg hw] at h;exact ih _ h
 simpa using key l a h
end Go.Proofs.YtkbbmjcfgcfejaaGreat
namespace Go.Proofs.YtkbbmjcfgcfejaaGreat
open Go.RowKit
end Go.Proofs.YtkbbmjcfgcfejaaGreat
namespace Go.Proofs.YtkbbmjcfgcfejaaGreat
def cnt (m:Nat):Nat:=((List.range' 1 8).filter (fun n=>m.testBit n)).length
end Go.Proofs.YtkbbmjcfgcfejaaGreat
namespace Go.Proofs.YtkbbmjcfgcfejaaGreat
open Go.RowKit
end Go.Proofs.YtkbbmjcfgcfejaaGreat
namespace Go.Proofs.YtkbbmjcfgcfejaaGreat
open Go.RowKit
end Go.Proofs.YtkbbmjcfgcfejaaGreat
namespace Go.Proofs.YtkbbmjcfgcfejaaGreat
open Go.RowKit
theorem RInts.cells {w:World} {v:Value} {l:List Int} (h:RInts w v l) :
 ∃ a cap,v=.slice a l.length cap∧∀ i,i < l.length→∃ b o,a=some ⟨b,o,none⟩∧b < w.heap.size∧w.cell? ⟨b,o+i,none⟩=some (.int .i64 (gi l i)):=by
 rcases h with ⟨a,cap,rfl,h,_⟩ | ⟨b,o,cap,rfl,h1,h2,h3⟩
 · exact ⟨a,cap,by rw [h],fun i hi=>by omega⟩
 · exact ⟨_,cap,rfl,fun i hi=>⟨b,o,rfl,World.block_lt_of_cell? w _ (h3 i (by omega)),h3 i (by omega)⟩⟩
def flagsOf (m:Nat):List Value:=(List.range 9).map fun n=>.bool (m.testBit n)
theorem flags_at (m k:Nat) (h:k < 9):(flagsOf m)[k]?=some (.bool (m.testBit k)):=by simp [flagsOf,h]
theorem flags_set (m k:Nat) (_h:k < 9):(flagsOf m).set k (.bool true)=flagsOf (m ||| 2 ^ k):=by
 apply List.ext_getElem?
 intro i
 rw [List.getElem?_set]
 by_cases hi:i < 9
 · rw [flags_at _ _ hi,flags_at _ _ hi,testBit_or_pow]
   by_cases hk:k=i
   · subst hk;simp [flagsOf,hi]
   · simp [hk]
 · have h1:(flagsOf m)[i]?=none:=by simp [flagsOf];omega
   have h2:(flagsOf (m ||| 2 ^ k))[i]?=none:=by simp [flagsOf];omega
   rw [h1,h2]
   by_cases hk:k=i
   · subst hk;omega
   · simp [hk]
set_option maxHeartbeats 400000 in
theorem l3List_any (m B:Nat) (v:Value) (w:World) (h:w.ownsRow B 4 1 v 9 (flagsOf m)) :
 Calls Tryz.prog 160 #[v] w fun e w'=>∃ v',e=.returned v'∧w'.ownsRow w.heap.size 3 1 v' (sel (fun n=>m.testBit n) 0 9).length (ints (sel (fun n=>m.testBit n) 0 9))∧Below w.heap.size w w':=by
 obtain ⟨g,cap,rfl⟩:∃ g cap,v=.slice (some ⟨g,0,none⟩) 9 cap:=by
  rcases h.2 with ⟨_,h⟩ | ⟨g,cap,_,rfl,_⟩
  · omega
  · exact ⟨g,cap,rfl⟩
 have hgl:=(h.lt g rfl).2
 have hc:∀ k,k < 9→w.cell? ⟨g,k,none⟩=some (.bool (m.testBit k)):=fun k hk=>by
  rw [h.cellAt k (by omega),flags_at m k hk]
 have HC:=Lib.hid hc
 clear hc h
 go_enter Tryz.func160,Tryz.ntmps160
 go_wp2
 go_loopg [3,4] 9 (fun q v i wr=>∃ k:Nat,k+q=9∧i=.int .i64 k∧wr.ownsRow w.heap.size 3 1 v (sel (fun n=>m.testBit n) 0 k).length (ints (sel (fun n=>m.testBit n) 0 k))∧Below w.heap.size w wr)
 case atStart=>exact ⟨0,by omega,rfl,by
  have:=World.ownsRow_lit (size:=1) w #[] 0 (Nat.le_refl _) (by unfold maxLen;omega) rfl (e:=3)
  simpa [sel_zero,ints] using this,below_alloc _ _⟩
 case round =>
  obtain ⟨k,hk,rfl,hown,hb⟩:=hrel
  have hs:=hb.size
  have HK:=Lib.hid hk
  clear hk
  by_cases hk8:k < 9
  · have hck:=cell_below hb (p:=⟨g,k,none⟩) hgl (HC.out k hk8)
    by_cases hbit:m.testBit (0+k)=true
    · have hl:=sel_len (fun n=>m.testBit n) 0 k
      have hy:=sel_yes (p:=fun n=>m.testBit n) (a:=0) (k:=k) hbit
      have e2:(((0+k:Nat):Int))=(k:Int):=by omega
      rw [e2] at hy
      rw [Nat.zero_add] at hbit
      rw [hbit] at hck
      have HY:=Lib.hid hy
      clear hy e2 hbit
      go_wp2_with (at_builtin;refine app_int _ rfl _ _ rfl w.heap.size _ _ rfl (own_keep hown (below_alloc _ _)) ⟨wr.heap.size,0,none⟩ _ rfl (cell_new1 _ _ _) (by omega) (by simp;omega) ?_;intro v' w1 hown1 hf1)
      go_roundg (gk - 1)
      case rel=>exact ⟨k+1,by have:=HK.out;omega,by go_num,by rw [HY.out];exact hown1,below_own (own_keep hown (below_alloc _ _)) hf1 (hb.trans ((below_alloc _ _).mono hs)) (by simp;omega)⟩
      case measure=>have:=HK.out;omega
    · have hbit':m.testBit (0+k)=false:=by simpa using hbit
      have hy:=sel_no (p:=fun n=>m.testBit n) (a:=0) (k:=k) hbit'
      rw [Nat.zero_add] at hbit'
      rw [hbit'] at hck
      have HY:=Lib.hid hy
      clear hy hbit hbit'
      go_wp2
      go_roundg (gk - 1)
      case rel=>exact ⟨k+1,by have:=HK.out;omega,by go_num,by rw [HY.out];exact hown,hb⟩
      case measure=>have:=HK.out;omega
  · obtain rfl:k=9:=by have:=HK.out;omega
    go_wp2
    go_ret
    exact ⟨_,rfl,hown,hb⟩
end Go.Proofs.YtkbbmjcfgcfejaaGreat
