/- Base1: texts Voc, Pure, Laws, W1, W2, Quiet, W3, Reach, W4, W5, W6 in one. -/
import Derived.WalkKit
import Derived.Lib.Hide
import Derived.Deep.QuietTactic
import Derived.BigQuiet
import Derived.Test.YtkbbmjcfgcfejaaGreatRows
import Derived.WalkSpells
import Derived.WalkLawsBesides
import Derived.Deep.AppendLies
import Derived.Deep.LoopGhost
import Derived.ProofKit
import Derived.OpenShut
import Derived.ShutString
import Derived.ChangeOld
import Derived.Lib.SmallJoins
import Derived.Handy
import Derived.Deep.DeepMust
import Derived.Laws.BitsAllLaws
import Derived.Deep.RegionHeld3
set_option linter.unusedVariables false
set_option linter.unusedSimpArgs false
set_option maxRecDepth 100000
set_option maxHeartbeats 12800000
namespace Go.Proofs.YtkbbmjcfgcfejaaGreat
open Go.RowKit
def Hd (P:Prop):Prop:=P
theorem Hd.o {P:Prop} (h:Hd P):P:=h
theorem Hd.out {P:Prop} (h:Hd P):P:=h
theorem Ad {P:Prop} (h:P):Hd P:=h
theorem An {P Q:Prop} (h:P) (k:Q):P∧Q:=⟨h,k⟩
theorem Om {P:Prop} (h:P:=by omega):P:=h
theorem Kr {P:Prop} (h:P:=by kernel_rfl):P:=h
theorem Dc {P:Prop} (h:P:=by decide):P:=h
theorem Sp {P:Prop} (h:P:=by simp):P:=h
theorem Ex {α:Sort _} (a:α):∃ x,a=x:=⟨_,rfl⟩
theorem Ey {α:Sort _} (a:α):∃ x,x=a:=⟨_,rfl⟩
def RSl (w:World) (sz:Nat) (v:Value) (n:Nat) (c:Nat→Value):Prop :=
 (∃ a cap,v=.slice a 0 cap∧n=0∧cap≤maxLen∧(a=none→cap=0)) ∨
 ∃ b o cap,v=.slice (some ⟨b,o,none⟩) n cap∧n≤cap∧cap≤maxLen∧∀ i,i < n * sz→w.cell? ⟨b,o+i,none⟩=some (c i)
def gi (l:List Int) (i:Nat):Int:=l.getD i 0
theorem G2 {l:List Int} {i:Nat} (h:i < l.length):gi l i=l[i]:=by simp [gi,h]
def RInts (w:World) (v:Value) (l:List Int):Prop:=RSl w 1 v l.length (fun i=>.int .i64 (gi l i))
def WH (l:List Int):Prop:=∀ n ∈ l,-9223372036854775808≤n∧n≤9223372036854775807
structure Fr (S:Nat→Prop) (w w':World):Prop where
 os:w'.os=w.os
 tape:w'.tape=w.tape
 output:w'.output=w.output
 size:w.heap.size≤w'.heap.size
 block:∀ k,k < w.heap.size→¬ S k→w'.heap[k]?=w.heap[k]?
theorem Fr.refl (S:Nat→Prop) (w:World):Fr S w w:=⟨rfl,rfl,rfl,Nat.le_refl _,fun _ _ _=>rfl⟩
theorem Fr.trans {S:Nat→Prop} {a b c:World} (h:Fr S a b) (k:Fr S b c):Fr S a c :=
 ⟨k.os.trans h.os,k.tape.trans h.tape,k.output.trans h.output,Nat.le_trans h.size k.size,
   fun i hi hs=>(k.block i (Nat.lt_of_lt_of_le hi h.size) hs).trans (h.block i hi hs)⟩
theorem Fr.mono {S S':Nat→Prop} {a b:World} (h:Fr S a b) (hs:∀ k,k < a.heap.size→S k→S' k):Fr S' a b :=
 ⟨h.os,h.tape,h.output,h.size,fun i hi hn=>h.block i hi fun hk=>hn (hs i hi hk)⟩
theorem Below.fr {w w':World} (h:Below w.heap.size w w'):Fr (fun _=>False) w w' :=
 ⟨h.os,h.tape,h.output,h.size,fun k hk _=>h.block k hk⟩
theorem Fr.below {w w':World} {S:Nat→Prop} {B:Nat} (h:Fr S w w') (hB:B≤w.heap.size) (hs:∀ k,k < B→¬ S k):Below B w w' :=
 ⟨h.os,h.tape,h.output,h.size,fun k hk=>h.block k (Nat.lt_of_lt_of_le hk hB) (hs k hk)⟩
theorem Below.chg {w w':World} {B:Nat} (h:Below B w w'):Fr (fun k=>B≤k) w w' :=
 ⟨h.os,h.tape,h.output,h.size,fun k _ hn=>h.block k Om⟩
theorem AF {w w':World} {r:Option Nat} (h:w.grownBy w' r):Fr (fun k=>some k=r) w w' :=
 ⟨h.os,h.tape,h.output,h.size,fun k hk hn=>h.block k hk hn⟩
theorem Fr.cell {S:Nat→Prop} {w w':World} (h:Fr S w w') {p:Addr} {v:Value} (hp:¬ S p.block) (hc:w.cell? p=some v):w'.cell? p=some v :=
 (World.cell?_of_block (w:=w) (h.block p.block (World.block_lt_of_cell? w p hc) hp)).trans hc
theorem RSl.kept {S:Nat→Prop} {w w':World} {sz n:Nat} {v:Value} {c:Nat→Value} (h:RSl w sz v n c) (hf:Fr S w w')
 (hs:∀ k,v.ownBlock=some k→¬ S k):RSl w' sz v n c:=by
 rcases h with h | ⟨b,o,cap,rfl,h1,h2,h3⟩
 · exact .inl h
 · exact .inr ⟨b,o,cap,rfl,h1,h2,fun i hi=>hf.cell (hs b rfl) (h3 i hi)⟩
theorem RSl.keep {w w':World} {sz n:Nat} {v:Value} {c:Nat→Value} (h:RSl w sz v n c) (hf:Below w.heap.size w w'):RSl w' sz v n c :=
 h.kept (Below.fr hf) fun _ _ h=>h
theorem RInts.keep {w w':World} {v:Value} {l:List Int} (h:RInts w v l) (hf:Below w.heap.size w w'):RInts w' v l:=RSl.keep h hf
theorem Aa (w:World) (o:Obj):Below w.heap.size w (w.alloc o):=(Below.refl _ _).alloc (Nat.le_refl _) o
theorem Ai (w:World):Below w.heap.size w w.drew:=(Below.refl _ _).drew
theorem Vk {W w1:World} (hb:Below W.heap.size W w1):(∀ b o,b < W.heap.size→w1.cell? ⟨b,o,none⟩=W.cell? ⟨b,o,none⟩)∧(∀ b o,b < W.heap.size→w1.frozen? ⟨b,o,none⟩=W.frozen? ⟨b,o,none⟩) :=
 ⟨fun b o h=>hb.cell (p:=⟨b,o,none⟩) h,fun b o h=>hb.frozen (p:=⟨b,o,none⟩) h⟩
theorem bt {a b c:World} (h:Below a.heap.size a b) (k:Below b.heap.size b c):Below a.heap.size a c:=h.trans (k.mono h.size)
theorem RInts.alloc {w:World} {v:Value} {l:List Int} (h:RInts w v l) (o:Obj):RInts (w.alloc o) v l:=h.keep (Aa w o)
theorem JV {w:World} {base:Nat} {e:TypeId} {sz n:Nat} {v:Value} {xs:List Value} (h:w.ownsRow base e sz v n xs) :
 RSl w sz v n (fun i=>xs.getD i undef):=by
 obtain ⟨hl,h⟩:=h;rcases h with ⟨rfl,rfl⟩ | ⟨g,cap,cur,rfl,hb,hg,hn,hc,hs,ht⟩
 · exact .inl ⟨none,0,rfl,rfl,Nat.zero_le _,fun _=>rfl⟩
 · refine .inr ⟨g,0,cap,rfl,hn,hc,fun i hi=>?_⟩
   rw [Nat.zero_add,cell_of_row w g i cur e (0,0) hg,← ht];have h1:cur.toList[i]?=some (cur.toList[i]'(by rw [Array.length_toList,hs];exact Nat.lt_of_lt_of_le hi (Nat.mul_le_mul_right _ hn))):=List.getElem?_eq_getElem _;simp only [List.getD_eq_getElem?_getD,List.getElem?_take,hi,if_true];rw [h1];simp
theorem RSl.congr {w:World} {sz n:Nat} {v:Value} {c c':Nat→Value} (h:RSl w sz v n c) (hc:∀ i,i < n * sz→c i=c' i):RSl w sz v n c':=by
 rcases h with h | ⟨b,o,cap,rfl,h1,h2,h3⟩
 · exact .inl h
 · exact .inr ⟨b,o,cap,rfl,h1,h2,fun i hi=>(h3 i hi).trans (by rw [hc i hi])⟩
abbrev ints (l:List Int):List Value:=l.map (Value.int .i64)
theorem CV {w:World} {base:Nat} {e:TypeId} {v:Value} {n:Nat} {l:List Int} (h:w.ownsRow base e 1 v n (ints l)):RInts w v l∧n=l.length:=by
 have hn:n=l.length:=by have:=h.1;simpa using this.symm
 subst hn;refine ⟨(JV h).congr fun i hi=>?_,rfl⟩;have hi':i < l.length:=by omega
 simp [ints,hi',gi]
theorem RInts.form {w:World} {v:Value} {l:List Int} (h:RInts w v l):∃ a cap,v=.slice a l.length cap:=by
 rcases h with ⟨a,cap,rfl,h,_⟩ | ⟨b,o,cap,rfl,_⟩
 · exact ⟨a,cap,by rw [h]⟩
 · exact ⟨_,_,rfl⟩
theorem RInts.len {w:World} {v:Value} {l:List Int} (h:RInts w v l):l.length≤maxLen:=by
 rcases h with ⟨a,cap,rfl,h,_⟩ | ⟨b,o,cap,rfl,h1,h2,_⟩
 · rw [h];exact Nat.zero_le _
 · omega
theorem RInts.nil (w:World):RInts w (.slice none 0 0) []:=.inl ⟨none,0,rfl,rfl,Nat.zero_le _,fun _=>rfl⟩
end Go.Proofs.YtkbbmjcfgcfejaaGreat
namespace Go.Proofs.YtkbbmjcfgcfejaaGreat
def Uq (n:Int):Bool:=decide (1≤n) && decide (n≤8)
def Al (n:Int):Bool:=decide (0≤n) && decide (n≤8)
def tv (vs:List Int) (t:Int):Int:=if t=0 then 0 else gi vs (t - 1).toNat
def ct (hs:List Int) (n:Int):Int:=if Uq n=true then gi hs (n - 1).toNat else -1
def Wl (n:Int):Bool:=(n == -1) || Al n
def VD (vs hs:List Int):Bool:=(vs.length == 8) && ((hs.length == 8) && (vs.all Al && hs.all Wl))
theorem At {n:Int}:Al n=true ↔ 0≤n∧n≤8:=by simp [Al]
end Go.Proofs.YtkbbmjcfgcfejaaGreat
namespace Go.Proofs.YtkbbmjcfgcfejaaGreat
open Go.RowKit
theorem Ht:(Tryz.prog.info? 3).map (fun i=>(i.zero,i.size,i.bytes))=some (some (.int .i64 0),1,8):=by kernel_rfl
theorem Fv {ops:Array Oper} {rest:List Oper} {o:Oper} {a:Act} {Q:Exit→Act→World→Prop} (w:World) (hgd:o.guard=none) (s x:Operand)
 (ho:o.op=.call { callee:=.builtin .append,args:=#[s,x],argTypes:=#[27,27] })
 (B:Nat) (v:Value) (l:List Int) (hs:a.eval s=v) (hown:w.ownsRow B 3 1 v l.length (ints l))
 (ad:Addr) (n:Int) (hx:a.eval x=.slice (some ad) 1 1) (hnew:w.cell? ad=some (.int .i64 n)) (hlen:l.length < 1099511627776) (hB:B≤w.heap.size)
 (h:∀ v' w',w'.ownsRow B 3 1 v' (l ++ [n]).length (ints (l ++ [n]))→Fr (fun k=>some k=v.ownBlock) w w'→wpList Tryz.prog ops Q rest (a.put o.dst v') w') :
 wpList Tryz.prog ops Q (o :: rest) a w:=by
 obtain ⟨i0,hi,hz0,hz1,hz2⟩:=info_parts Ht;refine wpList_append_own w hgd s x 27 ho B 3 i0 (.int .i64 0) 1 8 Tryz.underlying27 hi hz0 hz1 hz2 rfl Dc v l.length (ints l) hs hown ad 1 1 [.int .i64 n] hx rfl ?_ ?_ ?_ ?_ hB ?_
 · intro j u hj
   cases j with
   | zero=>simp at hj;subst hj;simpa [Addr.add] using hnew
   | succ j=>simp at hj
 · intro u hu;simp at hu;subst hu;rfl
 · unfold maxLen;omega
 · omega
 · intro v' w' h1 h2 _
   refine h v' w' ?_ (AF h2);simpa [ints] using h1
theorem AD {w:World} {B e sz n:Nat} {v:Value} {xs:List Value} (h:w.ownsRow B e sz v n xs) {k:Nat} (hk:some k=v.ownBlock):B≤k∧k < w.heap.size:=h.lt k hk.symm
theorem BR {w w':World} {B e sz n:Nat} {v:Value} {xs:List Value} {S:Nat→Prop} (h:w.ownsRow B e sz v n xs) (hf:Fr S w w') (hs:∀ k,some k=v.ownBlock→¬ S k):w'.ownsRow B e sz v n xs:=by
 refine ⟨h.1,?_⟩;rcases h.2 with hn | ⟨g,cap,cur,rfl,hb,hgg,rest⟩
 · exact .inl hn
 · refine .inr ⟨g,cap,cur,rfl,hb,?_,rest⟩
   rw [hf.block g (Array.getElem?_eq_some_iff.1 hgg).1 (hs g rfl)];exact hgg
theorem Ag {w w':World} {B e sz n:Nat} {v:Value} {xs:List Value} (h:w.ownsRow B e sz v n xs) (hf:Below w.heap.size w w'):w'.ownsRow B e sz v n xs :=
 BR h (Below.fr hf) fun _ _ h=>h
theorem BK {w:World} {B B' e sz n:Nat} {v:Value} {xs:List Value} (h:w.ownsRow B e sz v n xs) (hB:B'≤B):w.ownsRow B' e sz v n xs:=by
 refine ⟨h.1,?_⟩;rcases h.2 with hn | ⟨g,cap,cur,hv,hb,rest⟩
 · exact .inl hn
 · exact .inr ⟨g,cap,cur,hv,by omega,rest⟩
theorem Ce {w0 w w':World} {B e sz n:Nat} {v:Value} {xs:List Value} (h:w.ownsRow B e sz v n xs) (hf:Fr (fun k=>some k=v.ownBlock) w w') (hb:Below B w0 w) (hB:B≤w.heap.size):Below B w0 w' :=
 hb.trans (hf.below hB fun k hk hS=>by have:=(AD h hS).1;omega)
theorem DD {w w':World} {B:Nat} {p:Addr} {v:Value} (hb:Below B w w') (hp:p.block < B) (hc:w.cell? p=some v):w'.cell? p=some v:=(hb.cell hp).trans hc
theorem Ab {w w':World} {p:Addr} {v:Value} (hb:Below w.heap.size w w') (hc:w.cell? p=some v):w'.cell? p=some v :=
 (hb.cell (World.block_lt_of_cell? w p hc)).trans hc
theorem DE (w:World) (v:Value) (e:TypeId):(w.alloc (.cells #[v] e)).cell? ⟨w.heap.size,0,none⟩=some v:=by
 simp
theorem Ur (m k:Nat) (hm:m < 65536):(bits .and .u16 ((m:Int) / 2 ^ k) 1 == 1)=m.testBit k:=by
 have e:((m:Int) / 2 ^ k)=((m / 2 ^ k:Nat):Int):=by simp
 have h1:m / 2 ^ k < 65536:=Nat.lt_of_le_of_lt (Nat.div_le_self _ _) hm;have:=u16_and_nat (m / 2 ^ k) 1 h1 Dc;rw [e,show (1:Int)=((1:Nat):Int) from rfl,this];rw [Nat.and_one_is_mod,Nat.testBit_eq_decide_div_mod_eq];rw [Bool.eq_iff_iff];simp;omega
theorem Mz (k:Nat) (hk:k < 16):IntKind.u16.wrap (2 ^ k)=((2 ^ k:Nat):Int):=by
 rw [IntKind.wrap_u16];have h:(2 ^ k:Nat) < 65536:=Nat.pow_lt_pow_right Dc hk;have e:(2:Int) ^ k=((2 ^ k:Nat):Int):=by simp
 rw [e];generalize 2 ^ k=x at h ⊢;omega
theorem VE (m k:Nat) (hm:m < 65536) (hk:k < 16):bits .or .u16 (m:Int) (IntKind.u16.wrap (2 ^ k))=((m ||| 2 ^ k:Nat):Int):=by
 rw [Mz k hk];exact u16_or_nat m (2 ^ k) hm (Nat.pow_lt_pow_right Dc hk)
theorem Wm (m k:Nat) (hm:m < 65536) (hk:k < 16):m ||| 2 ^ k < 65536 :=
 Nat.or_lt_two_pow (n:=16) hm (Nat.pow_lt_pow_right Dc hk)
theorem Bk (m k j:Nat):(m ||| 2 ^ k).testBit j=(m.testBit j || decide (k=j)):=by
 rw [Nat.testBit_or,Nat.testBit_two_pow]
def MA (p:Nat→Bool) (a k:Nat):List Int:=((List.range' a k).filter p).map Int.ofNat
theorem Sv (p:Nat→Bool) (a:Nat):MA p a 0=[]:=rfl
theorem Nj (p:Nat→Bool) (a k:Nat):MA p a (k+1)=MA p a k ++ (if p (a+k)=true then [((a+k:Nat):Int)] else []):=by
 unfold MA;rw [List.range'_concat,List.filter_append,List.map_append];congr 1
 simp only [Nat.one_mul,List.filter_cons,List.filter_nil];split <;> rfl
theorem QH {p:Nat→Bool} {a k:Nat} (h:p (a+k)=true):MA p a (k+1)=MA p a k ++ [((a+k:Nat):Int)]:=by rw [Nj,if_pos h]
theorem Sw {p:Nat→Bool} {a k:Nat} (h:p (a+k)=false):MA p a (k+1)=MA p a k:=by rw [Nj,if_neg (by simp [h]),List.append_nil]
theorem Hu (p:Nat→Bool) (a k:Nat):(MA p a k).length≤k:=by
 unfold MA;rw [List.length_map];exact Nat.le_trans (List.length_filter_le _ _) Sp
theorem Bc (n:Int) (w:World) :
 Calls Tryz.prog 194 #[.int .i64 n] w fun e w'=>e=.returned (.bool (Al n))∧w=w':=by
 by_cases h1:0≤n
 · by_cases h2:n≤8
   all_goals
    go_enter Tryz.func194,Tryz.ntmps194
    go_wp2;go_ret;simp [Al,h1,h2]
 · go_enter Tryz.func194,Tryz.ntmps194
   go_wp2;go_ret;simp [Al];omega
theorem Cf (n:Int) (w:World) :
 Calls Tryz.prog 156 #[.int .i64 n] w fun e w'=>e=.returned (.bool (Al n))∧w=w':=by
 by_cases h1:0≤n
 · by_cases h2:n≤8
   all_goals
    go_enter Tryz.func156,Tryz.ntmps156
    go_wp2;go_ret;simp [Al,h1,h2]
 · go_enter Tryz.func156,Tryz.ntmps156
   go_wp2;go_ret;simp [Al];omega
theorem RInts.at {w:World} {b o cap:Nat} {l:List Int} {n:Nat} (h:RInts w (.slice (some ⟨b,o,none⟩) n cap) l) (i:Nat) (hi:i < l.length) :
 n=l.length∧w.cell? ⟨b,o+i,none⟩=some (.int .i64 (gi l i)):=by
 rcases h with ⟨_,_,_,h,_⟩ | ⟨b',o',cap',h,h1,h2,h3⟩
 · omega
 · simp only [Value.slice.injEq,Option.some.injEq,Addr.mk.injEq,and_true] at h
   obtain ⟨⟨rfl,rfl⟩,rfl,rfl⟩:=h;exact ⟨rfl,h3 i Om⟩
theorem RInts.ne {w:World} {v:Value} {l:List Int} (h:RInts w v l) (hl:0 < l.length) :
 ∃ b o cap,v=.slice (some ⟨b,o,none⟩) l.length cap∧l.length≤cap∧cap≤maxLen∧∀ i,i < l.length→w.cell? ⟨b,o+i,none⟩=some (.int .i64 (gi l i)):=by
 rcases h with ⟨_,_,_,h,_⟩ | ⟨b,o,cap,rfl,h1,h2,h3⟩
 · omega
 · exact ⟨b,o,cap,rfl,h1,h2,fun i hi=>h3 i Om⟩
def Wk (hs:List Int) (n:Int):Bool:=decide (0≤ct hs n)
structure Ext (w:World) where
 to:World
 below:Below w.heap.size w to
instance (w:World):Nonempty (Ext w):=⟨⟨w,Below.refl _ _⟩⟩
def ext (w:World) (x:Ext w):World:=x.to
@[simp,go_sem] theorem cell?_ext (w:World) (x:Ext w) (p:Addr) (h:p.block < w.heap.size):(ext w x).cell? p=w.cell? p:=x.below.cell h
theorem Eu {P:Program} {f:FuncId} {args:Array Value} {w:World} {x:Ext w} {v:Value}
 (h:Calls P f args (ext w x) fun e w'=>e=.returned v∧Below (ext w x).heap.size (ext w x) w'):Calls P f args (ext w x) fun e w''=>e=.returned v∧∃ y,w''=ext w y :=
 h.mono fun _ w'' ⟨he,hb⟩=>⟨he,⟨w'',bt x.below hb⟩,rfl⟩
theorem BA {P:Program} {f:FuncId} {args:Array Value} {w:World} {x:Ext w} {v:Value}
 (h:Calls P f args (ext w x) fun e w'=>e=.returned v∧ext w x=w'):Calls P f args (ext w x) fun e w''=>e=.returned v∧∃ y,w''=ext w y :=
 h.mono fun _ _ ⟨he,hb⟩=>⟨he,x,hb.symm⟩
theorem Af {P:Program} {id:Nat} {Q:Exit→Act→World→Prop} {a:Act} {w:World} {l:List Oper} (hm:P.follows .mixedOrders=true) (hB:Region.lexB .any l.toArray=true)
 (h:wpQuiet P l.toArray (fun w'=>∃ x,w'=Go.Proofs.YtkbbmjcfgcfejaaGreat.ext w x) (fun a'=>∀ w',Below w.heap.size w w'→Q .normal a' w') l a):(Code.region id l.toArray true).wp P Q a w:=by
 refine wp_region_quiet (C:=fun w'=>∃ x,w'=Go.Proofs.YtkbbmjcfgcfejaaGreat.ext w x) hm hB ⟨⟨_,Ai w⟩,rfl⟩ ?_;have key:∀ (l':List Oper) (a:Act),wpQuiet P l.toArray (fun w'=>∃ x,w'=Go.Proofs.YtkbbmjcfgcfejaaGreat.ext w x) (fun a'=>∀ w',Below w.heap.size w w'→Q .normal a' w') l' a →
  wpQuiet P l.toArray (fun w'=>∃ x,w'=Go.Proofs.YtkbbmjcfgcfejaaGreat.ext w x) (fun a'=>∀ w',(∃ x,w'=Go.Proofs.YtkbbmjcfgcfejaaGreat.ext w x)→Q .normal a' w') l' a:=by
  intro l';induction l' with
  | nil=>intro a h w' ⟨x,hx⟩;subst hx;exact h _ x.below
  | cons o l' ih =>
    intro a h;unfold wpQuiet at h ⊢;split
    · rename_i hw;rw [if_pos hw] at h;exact Oper.quiet_mono (fun a=>ih a) h
    · rename_i hw;rw [if_neg hw] at h;exact ih _ h
 simpa using key l a h
end Go.Proofs.YtkbbmjcfgcfejaaGreat
namespace Go.Proofs.YtkbbmjcfgcfejaaGreat
def cnt (m:Nat):Nat:=((List.range' 1 8).filter (fun n=>m.testBit n)).length
end Go.Proofs.YtkbbmjcfgcfejaaGreat
namespace Go.Proofs.YtkbbmjcfgcfejaaGreat
open Go.RowKit
theorem RInts.cells {w:World} {v:Value} {l:List Int} (h:RInts w v l) :
 ∃ a cap,v=.slice a l.length cap∧∀ i,i < l.length→∃ b o,a=some ⟨b,o,none⟩∧b < w.heap.size∧w.cell? ⟨b,o+i,none⟩=some (.int .i64 (gi l i)):=by
 rcases h with ⟨a,cap,rfl,h,_⟩ | ⟨b,o,cap,rfl,h1,h2,h3⟩
 · exact ⟨a,cap,by rw [h],fun i hi=>by omega⟩
 · exact ⟨_,cap,rfl,fun i hi=>⟨b,o,rfl,World.block_lt_of_cell? w _ (h3 i Om),h3 i Om⟩⟩
def Av (m:Nat):List Value:=(List.range 9).map fun n=>.bool (m.testBit n)
theorem AP (m k:Nat) (h:k < 9):(Av m)[k]?=some (.bool (m.testBit k)):=by simp [Av,h]
theorem Da (m k:Nat) (_h:k < 9):(Av m).set k (.bool true)=Av (m ||| 2 ^ k):=by
 apply List.ext_getElem?;intro i;rw [List.getElem?_set];by_cases hi:i < 9
 · rw [AP _ _ hi,AP _ _ hi,Bk]
   by_cases hk:k=i
   · subst hk;simp [Av,hi]
   · simp [hk]
 · have h1:(Av m)[i]?=none:=by simp [Av];omega
   (have h2:(Av (m ||| 2 ^ k))[i]?=none:=by simp [Av];omega);rw [h1,h2];by_cases hk:k=i
   · subst hk;omega
   · simp [hk]
theorem Fw (m B:Nat) (v:Value) (w:World) (h:w.ownsRow B 4 1 v 9 (Av m)) :
 Calls Tryz.prog 160 #[v] w fun e w'=>∃ v',e=.returned v'∧w'.ownsRow w.heap.size 3 1 v' (MA (fun n=>m.testBit n) 0 9).length (ints (MA (fun n=>m.testBit n) 0 9))∧Below w.heap.size w w':=by
 obtain ⟨g,cap,rfl⟩:∃ g cap,v=.slice (some ⟨g,0,none⟩) 9 cap:=by
  rcases h.2 with ⟨_,h⟩ | ⟨g,cap,_,rfl,_⟩
  · omega
  · exact ⟨g,cap,rfl⟩
 have hgl:=(h.lt g rfl).2;have hc:∀ k,k < 9→w.cell? ⟨g,k,none⟩=some (.bool (m.testBit k)):=fun k hk=>by
  rw [h.cellAt k Om,AP m k hk]
 have HC:=Ad hc;clear hc h;go_enter Tryz.func160,Tryz.ntmps160
 go_wp2;go_loopg [3,4] 9 (fun q v i wr=>∃ k:Nat,k+q=9∧i=.int .i64 k∧wr.ownsRow w.heap.size 3 1 v (MA (fun n=>m.testBit n) 0 k).length (ints (MA (fun n=>m.testBit n) 0 k))∧Below w.heap.size w wr)
 case atStart=>exact ⟨0,by omega,rfl,by
  have:=World.ownsRow_lit (size:=1) w #[] 0 (Nat.le_refl _) (by unfold maxLen;omega) rfl (e:=3);simpa [Sv,ints] using this,Aa _ _⟩
 case round =>
  obtain ⟨k,hk,rfl,hown,hb⟩:=hrel;have hs:=hb.size;have HK:=Ad hk;clear hk;by_cases hk8:k < 9
  · have hck:=DD hb (p:=⟨g,k,none⟩) hgl (HC.o k hk8)
    by_cases hbit:m.testBit (0+k)=true
    · have hl:=Hu (fun n=>m.testBit n) 0 k
      have hy:=QH (p:=fun n=>m.testBit n) (a:=0) (k:=k) hbit;(have e2:(((0+k:Nat):Int))=(k:Int):=by omega);rw [e2] at hy;rw [Nat.zero_add] at hbit;rw [hbit] at hck;have HY:=Ad hy;clear hy e2 hbit;go_wp2_with (at_builtin;refine Fv _ rfl _ _ rfl w.heap.size _ _ rfl (Ag hown (Aa _ _)) ⟨wr.heap.size,0,none⟩ _ rfl (DE _ _ _) Om (by simp;omega) ?_;intro v' w1 hown1 hf1)
      go_roundg (gk - 1)
      case rel=>exact ⟨k+1,by have:=HK.o;omega,by go_num,by rw [HY.o];exact hown1,Ce (Ag hown (Aa _ _)) hf1 (hb.trans ((Aa _ _).mono hs)) (by simp;omega)⟩
      case measure=>have:=HK.o;omega
    · have hbit':m.testBit (0+k)=false:=by simpa using hbit
      have hy:=Sw (p:=fun n=>m.testBit n) (a:=0) (k:=k) hbit';rw [Nat.zero_add] at hbit';rw [hbit'] at hck;have HY:=Ad hy;clear hy hbit hbit';go_wp2;go_roundg (gk - 1)
      case rel=>exact ⟨k+1,by have:=HK.o;omega,by go_num,by rw [HY.o];exact hown,hb⟩
      case measure=>have:=HK.o;omega
  · obtain rfl:k=9:=by have:=HK.o;omega
    go_wp2;go_ret;exact ⟨_,rfl,hown,hb⟩
theorem MB {l1 l2:List Int} {k:Nat} (h1:k < l1.length) (h2:k < l2.length) (h:l1.take k=l2.take k) (e:gi l1 k=gi l2 k):l1.take (k+1)=l2.take (k+1):=by
 rw [List.take_succ_eq_append_getElem h1,List.take_succ_eq_append_getElem h2,h];rw [G2 h1,G2 h2] at e;rw [e]
theorem Sx {l1 l2:List Int} {k:Nat} (e:¬ gi l1 k=gi l2 k):¬ l1=l2:=fun h=>e (by rw [h])
theorem O8 (v1 v2:Value) (l1 l2:List Int) (w:World) (h1:RInts w v1 l1) (h2:RInts w v2 l2) :
 Calls Tryz.prog 91 #[v1,v2] w fun e w'=>e=.returned (.bool (decide (l1=l2)))∧Below w.heap.size w w':=by
 have hm1:=h1.len;have hm2:=h2.len;unfold maxLen at hm1 hm2;obtain ⟨a1,c1,rfl,hf1⟩:=h1.cells;obtain ⟨a2,c2,rfl,hf2⟩:=h2.cells;by_cases hl:l1.length=l2.length
 · have hle:l1.length≤l2.length:=by omega
   (have hge:l2.length≤l1.length:=by omega);have HL:=Ad hl;have F1:=Ad hf1;have F2:=Ad hf2;(have hne:((l1.length:Int) != (l2.length:Int))=false:=by simp [hl]);clear hl hf1 hf2 h1 h2;go_enter Tryz.func91,Tryz.ntmps91
   go_wp2;go_loopg [5] l1.length (fun q i wr=>∃ k:Nat,k+q=l1.length∧i=.int .i64 k∧l1.take k=l2.take k∧Below w.heap.size w wr)
   case atStart=>exact ⟨0,by omega,rfl,by simp,Below.refl _ _⟩
   case round =>
    obtain ⟨k,hk,rfl,ht,hb⟩:=hrel;have HK:=Ad hk;have HT:=Ad ht;clear hk ht;by_cases hk8:k < l1.length
    · have hk2:k < l2.length:=by omega
      obtain ⟨b1,o1,rfl,hbl1,hc1⟩:=F1.o k hk8;obtain ⟨b2,o2,rfl,hbl2,hc2⟩:=F2.o k hk2;have hc1r:=DD hb hbl1 hc1;have hc2r:=DD hb hbl2 hc2;have hs:=hb.size;(have g1:b1 < wr.heap.size:=by omega);(have g2:b2 < wr.heap.size:=by omega);(have i1:(k:Int) < (l1.length:Int):=by omega);(have i2:(k:Int) < (l2.length:Int):=by omega);by_cases he:gi l1 k=gi l2 k
      · have hne2:(gi l1 k != gi l2 k)=false:=by simp [he]
        have HE:=Ad he;clear he hc1 hc2;go_wp2;refine Af Kr Kr ?_;repeat (go_big_quiet_step (fail))
        refine wpQuiet_nil ?_;intro w2 hb2;go_wp2;go_roundg (gk - 1)
        case rel=>exact ⟨k+1,by have:=HK.o;omega,by go_num,MB hk8 hk2 HT.o HE.o,hb.trans (hb2.mono hs)⟩
        case measure=>have:=HK.o;omega
      · have hne2:(gi l1 k != gi l2 k)=true:=by simpa using he
        (have hfin:decide (l1=l2)=false:=by simpa using Sx he);have HF:=Ad hfin;clear he hc1 hc2 hfin;go_wp2;refine Af Kr Kr ?_;repeat (go_big_quiet_step (fail))
        refine wpQuiet_nil ?_;intro w2 hb2;go_wp2;go_ret;exact ⟨by rw [HF.o];rfl,hb.trans (hb2.mono hs)⟩
    · obtain rfl:k=l1.length:=by have:=HK.o;omega
      have hfin:decide (l1=l2)=true:=by
       have:=HT.o;rw [List.take_length,HL.o,List.take_length] at this;simpa using this
      have HF:=Ad hfin;clear hfin HT;go_wp2;go_ret;exact ⟨by rw [HF.o];rfl,hb⟩
 · have hne:((l1.length:Int) != (l2.length:Int))=true:=by simp;omega
   (have hfin:decide (l1=l2)=false:=by simpa using fun h=>hl (by rw [h]));have HF:=Ad hfin;clear hl hfin;go_enter Tryz.func91,Tryz.ntmps91
   go_wp2;go_ret;exact ⟨by rw [HF.o];rfl,Below.refl _ _⟩
theorem O9 (a:Option Addr) (n cap:Nat) (left:Int) (w:World) (h1:left≤1048576) (hn:(n:Int)≤left) :
 Calls Tryz.prog 84 #[.slice a n cap,.int .i64 left] w fun e w'=>e=.returned (.int .i64 (left - n))∧w=w':=by
 go_enter Tryz.func84,Tryz.ntmps84
 go_wp2;go_ret;simp
theorem Pa (a:Option Addr) (n cap:Nat) (left:Int) (w:World) (h0:0≤left) (h1:left < n) (hn:n≤maxLen) :
 Calls Tryz.prog 84 #[.slice a n cap,.int .i64 left] w fun e w'=>e=.returned (.int .i64 (-1))∧w=w':=by
 unfold maxLen at hn;go_enter Tryz.func84,Tryz.ntmps84
 go_wp2;go_ret;simp
theorem Sy (l:List Int) (k:Nat) (h:k < l.length) :
 (ints (l.take k ++ List.replicate (l.length - k) 0)).set k (.int .i64 (gi l k))=ints (l.take (k+1) ++ List.replicate (l.length - (k+1)) 0):=by
 apply List.ext_getElem?;intro i;simp only [ints,List.getElem?_set,List.getElem?_map,List.getElem?_append,List.length_take,List.getElem?_take,List.getElem?_replicate,List.length_map,List.length_append,List.length_replicate];by_cases hik:k=i
 · subst hik
   (have h2:k < min (k+1) l.length:=by omega);(have h3:k < min k l.length+(l.length - k):=by omega);simp [h2,h3,G2 h,h]
 · by_cases hlt:i < k
   · have h2:i < min k l.length:=by omega
     (have h3:i < min (k+1) l.length:=by omega);(have h4:i < k+1:=by omega);simp [hik,h2,h3,hlt,h4]
   · have h2:¬ i < min k l.length:=by omega
     (have h3:¬ i < min (k+1) l.length:=by omega);simp only [hik,if_false,h2,h3];by_cases h5:i < l.length
     · have e1:i - min k l.length < l.length - k:=by omega
       (have e2:i - min (k+1) l.length < l.length - (k+1):=by omega);simp [e1,e2]
     · have e1:¬ i - min k l.length < l.length - k:=by omega
       (have e2:¬ i - min (k+1) l.length < l.length - (k+1):=by omega);simp [e1,e2]
def WW (k0:Int) (n:Nat):List Int:=(List.range n).map fun (i:Nat)=>k0+i
theorem A8 {w:World} {B e n:Nat} {v:Value} {xs:List Value} (h:w.ownsRow B e 1 v n xs):∃ a cap,v=.slice a n cap∧(∀ i,i < n→∃ g,a=some ⟨g,0,none⟩):=by
 rcases h.2 with ⟨rfl,rfl⟩ | ⟨g,cap,cur,rfl,_⟩
 · exact ⟨none,0,rfl,fun i hi=>by omega⟩
 · exact ⟨_,cap,rfl,fun _ _=>⟨g,rfl⟩⟩
theorem Pb (v:Value) (l:List Int) (w:World) (h:RInts w v l) (hl:l.length≤1048576) :
 Calls Tryz.prog 88 #[v] w fun e w'=>∃ v',e=.returned v'∧w'.ownsRow w.heap.size 3 1 v' l.length (ints l)∧Below w.heap.size w w':=by
 obtain ⟨a1,c1,rfl,hf1⟩:=h.cells;have F1:=Ad hf1;clear hf1 h;obtain ⟨i0,hi,hz0,hz1,hz2⟩:=info_parts Ht;go_enter Tryz.func88,Tryz.ntmps88
 go_wp2_with (at_make;refine wpList_make_full _ rfl _ _ 27 rfl w.heap.size 3 i0 (.int .i64 0) 1 Tryz.underlying27 hi hz0 hz1 _ _ _ _ l.length rfl rfl rfl rfl (by rw [hz2];omega) (by unfold maxLen;omega) (Nat.le_refl _) ?_;intro w1 hown hgr)
 have hb1:=(AF hgr).below (B:=w.heap.size) (Nat.le_refl _) (by intro k _ e;cases e);have hown0:w1.ownsRow w.heap.size 3 1 (.slice (some ⟨w.heap.size,0,none⟩) l.length l.length) l.length (ints (l.take 0 ++ List.replicate (l.length - 0) 0)):=by
  have e:(madeCells (Value.int .i64 0).cells (l.length * 1)).toList=ints (l.take 0 ++ List.replicate (l.length - 0) 0):=by
   rw [show (Value.int .i64 0).cells=#[Value.int .i64 0] from rfl,toList_madeCells_one];simp [ints]
  rwa [e] at hown
 clear hown hi hz0 hz1 hz2 hgr;go_loopg [4] l.length (fun q i wr=>∃ k:Nat,k+q=l.length∧i=.int .i64 k∧wr.ownsRow w.heap.size 3 1 (.slice (some ⟨w.heap.size,0,none⟩) l.length l.length) l.length (ints (l.take k ++ List.replicate (l.length - k) 0))∧Below w.heap.size w wr)
 case atStart=>exact ⟨0,by omega,rfl,hown0,hb1⟩
 case round =>
  obtain ⟨k,hk,rfl,hown,hb⟩:=hrel;have HK:=Ad hk;clear hk;by_cases hk8:k < l.length
  · obtain ⟨b,o,rfl,hbl,hc⟩:=F1.o k hk8
    have hcr:=DD hb hbl hc;(have hki:(k:Int) < (l.length:Int):=by omega);have hfz:=hown.frozenAt k;obtain ⟨old,hcg⟩:∃ old,wr.cell? ⟨w.heap.size,k,none⟩=some old:=by
     refine ⟨(ints (l.take k ++ List.replicate (l.length - k) 0))[k]'(by rw [hown.1];omega),?_⟩;rw [hown.cellAt k (by omega)];exact List.getElem?_eq_getElem _
    obtain ⟨hst1,hst2⟩:=hown.stored k (.int .i64 (gi l k));clear hc;go_wp2;go_roundg (gk - 1)
    case rel=>exact ⟨k+1,by have:=HK.o;omega,by go_num,by rw [← Sy l k hk8];exact hst1,hb.setCell Sp _⟩
    case measure=>have:=HK.o;omega
  · obtain rfl:k=l.length:=by have:=HK.o;omega
    go_wp2;go_ret;refine ⟨_,rfl,?_,hb⟩;(have e:l.take l.length ++ List.replicate (l.length - l.length) 0=l:=by simp);rw [e] at hown;exact hown
end Go.Proofs.YtkbbmjcfgcfejaaGreat
namespace Go.Proofs.YtkbbmjcfgcfejaaGreat
open Go.ChangeShapes Go.WideShapes Go.ChangeAt Go.RowKit Go.Joins
theorem Sz:ownKnob Tryz.prog.godebug=none:=by kernel_rfl
theorem Nk:laidOutB Tryz.prog=true:=by kernel_rfl
theorem MC {H:Type} {enc:TypeId × Value→H} {P:Program} {W:World} {t e:TypeId} {fuel:Nat} {v:Value} {y:DataW H × List MemPlace}
 (ht:P.underlying t=some (.slice e)) (he:P.underlying e=some (.int .i64)) (hc:P.cellsOf e=1) (h:DataW.trod enc P W 0 (fun _=>true) true fuel t [v]=some y) :
 ∃ l,RInts W v l∧WH l:=by
 rcases open_ints ht he hc h with ⟨hcs,_⟩ | ⟨a,len,cap,zs,hcs,_,hl,hm,hz,_,hcell,hwz⟩
 · simp at hcs;subst hcs;exact ⟨[],RInts.nil _,fun _ h=>by cases h⟩
 · simp at hcs;subst hcs
   simp only [if_true] at hz;refine ⟨zs.take len,?_,?_⟩
   · by_cases h0:len=0
     · subst h0
       exact .inl ⟨some a,cap,rfl,by simp,hm,by simp⟩
     · obtain ⟨b,o,sp⟩:=a
       have hc0:=hcell 0 Om;(have hsp:sp=none:=by simpa [Addr.add] using World.cell?_spot hc0);subst hsp;(have hlen:(zs.take len).length=len:=by rw [List.length_take];omega);refine .inr ⟨b,o,cap,by rw [hlen],by omega,hm,fun i hi=>?_⟩;(have hi':i < len:=by omega);have:=hcell i Om;(have e:(⟨b,o,none⟩:Addr).add i=⟨b,o+i,none⟩:=by unfold Addr.add;split <;> simp_all);rw [e] at this;rw [this];simp [gi,hi']
   · intro n hn
     have:=hwz n (List.mem_of_mem_take hn);exact bounds_i64 this
end Go.Proofs.YtkbbmjcfgcfejaaGreat
namespace Go.Proofs.YtkbbmjcfgcfejaaGreat
open Go.RowKit
theorem AV (w:World) (x:Ext w):Below w.heap.size w (ext w x):=x.below
@[simp,go_sem] theorem frozen?_ext (w:World) (x:Ext w) (p:Addr) (h:p.block < w.heap.size):(ext w x).frozen? p=w.frozen? p:=x.below.frozen h
@[simp,go_sem] theorem lt_ext (w:World) (x:Ext w) (k:Nat) (h:k < w.heap.size):k < (ext w x).heap.size:=Nat.lt_of_lt_of_le h x.below.size
@[simp,go_sem] theorem eq_ext (w:World) (x:Ext w) (k:Nat) (h:k < w.heap.size):(k=(ext w x).heap.size)=False:=by
  have:=x.below.size;simp only [eq_iff_iff,iff_false];show ¬ k=x.to.heap.size
  omega
@[simp,go_sem] theorem lte_ext (w:World) (x:Ext w) (k:Nat) (h:k < w.heap.size):k≤(ext w x).heap.size:=Nat.le_of_lt (Nat.lt_of_lt_of_le h x.below.size)
@[simp,go_sem] theorem lt_p2 (n:Nat):n < n+1+1:=by omega
@[simp,go_sem] theorem lt_p3 (n:Nat):n < n+1+1+1:=by omega
@[simp,go_sem] theorem lt_p4 (n:Nat):n < n+1+1+1+1:=by omega
theorem be {a b:World} (h:Below a.heap.size a b) (x:Ext b):Below a.heap.size a (ext b x):=bt h x.below
theorem ba {a b:World} (h:Below a.heap.size a b) (o:Obj):Below a.heap.size a (b.alloc o):=bt h (Aa _ _)
theorem bd {a b:World} (h:Below a.heap.size a b):Below a.heap.size a b.drew:=bt h (Ai _)
theorem Bl {B:Nat} {w w':World} (h:Below B w w':=by repeat (first | exact Below.refl _ _ | with_reducible assumption | exact Aa _ _ | (refine Below.setCell ?_ (by first | (simp;done) | (simp;omega) | omega) _) | apply bd | apply ba | apply be)):Below B w w':=h
def WI (w:World) (g q:Nat):Prop :=
 ∃ (a:Option Addr) (n cap:Nat) (c:Nat→Int) (p:Nat),RSl w 1 (.slice a n cap) n (fun i=>.int .u8 (c i))∧(∀ i,0≤c i∧c i≤255)∧n≤2000∧p≤q ∧
   (0 < n→∀ k,(Value.slice a n cap).ownBlock=some k→k < g)∧w.heap[g]?=some (.cells #[.slice a n cap,.int .i64 p] 196 (0,0))
structure OwnSt (w:World) (B:Nat) (v1 v2:Value) (l1 l2:List Int):Prop where
 one:w.ownsRow B 3 1 v1 l1.length (ints l1)
 two:w.ownsRow B 3 1 v2 l2.length (ints l2)
 apart:∀ k,some k=v1.ownBlock→¬ some k=v2.ownBlock
section
variable {w w':World} {b:Nat} {x y z:Value} {T:TypeId}
theorem Bd (h:w.heap[b]?=some (.cells #[x,y] T (0,0))):w.cell? ⟨b,0,none⟩=some x:=cell_of_row w b 0 _ _ _ h
theorem AY (h:w.heap[b]?=some (.cells #[x,y] T (0,0))):w.cell? ⟨b,1,none⟩=some y:=cell_of_row w b 1 _ _ _ h
theorem BI (h:w.heap[b]?=some (.cells #[x,y] T (0,0))) (i:Nat):w.frozen? ⟨b,i,none⟩=false:=frozen_of_row w b i _ _ h
theorem BL (h:w.heap[b]?=some (.cells #[x,y] T (0,0))) (z:Value):(w.setCell ⟨b,0,none⟩ z).heap[b]?=some (.cells #[z,y] T (0,0)):=by
 rw [heap_setCell_same w b 0 _ T z h];rfl
theorem BX (h:w.heap[b]?=some (.cells #[x,y] T (0,0))) (z:Value):(w.setCell ⟨b,1,none⟩ z).heap[b]?=some (.cells #[x,z] T (0,0)):=by
 rw [heap_setCell_same w b 1 _ T z h];rfl
theorem Ae {o:Obj} (h:w.heap[b]?=some o):b < w.heap.size:=(Array.getElem?_eq_some_iff.1 h).1
theorem B4 {w:World} {b:Nat} {x y:Value} {T:TypeId} (h:w.heap[b]?=some (.cells #[x,y] T (0,0))):w.cell? ⟨b,0,none⟩=some x∧w.cell? ⟨b,1,none⟩=some y∧(∀ i,w.frozen? ⟨b,i,none⟩=false)∧b<w.heap.size:=⟨Bd h,AY h,BI h,Ae h⟩
theorem B3 {w:World} {b:Nat} {x y:Value} {T:TypeId} (h:w.heap[b]?=some (.cells #[x,y] T (0,0))):w.cell? ⟨b,0,none⟩=some x∧w.cell? ⟨b,1,none⟩=some y∧b<w.heap.size:=⟨Bd h,AY h,Ae h⟩
theorem AA {o:Obj} {S:Nat→Prop} (h:w.heap[b]?=some o) (hf:Fr S w w') (hs:¬ S b):w'.heap[b]?=some o:=by
 rw [hf.block b (Ae h) hs];exact h
theorem Ac {o:Obj} (h:w.heap[b]?=some o) (hf:Below w.heap.size w w'):w'.heap[b]?=some o:=by
 rw [hf.block b (Ae h)];exact h
theorem Ax {o:Obj} (h:w.heap[b]?=some o) (p:Addr) (v:Value) (hp:¬ b=p.block):(w.setCell p v).heap[b]?=some o:=by
 rw [Below.heap_setCell _ _ _ _ hp];exact h
theorem Aw (w:World) (p:Addr) (v:Value):Fr (fun k=>k=p.block) w (w.setCell p v) :=
 ⟨rfl,rfl,rfl,by simp [World.setCell],fun k _ hk=>Below.heap_setCell _ _ _ _ hk⟩
theorem Ck {P Q:Prop} (h:P) (f:P→Q:=by intro h;repeat (first | with_reducible exact h | (with_reducible refine (Aw _ _ _).cell (by first | (simp;done) | (simp;omega) | omega) ?_) | exact Ab Bl h)):Q:=f h
end
def Rt (x:Int) (k:Nat):List Int:=List.replicate k x
theorem MD {w:World} {B g cap:Nat} {l:List Int} (h:w.ownsRow B 3 1 (.slice (some ⟨g,0,none⟩) l.length cap) l.length (ints l)) (i:Nat) (x:Int) :
 (w.setCell ⟨g,i,none⟩ (.int .i64 x)).ownsRow B 3 1 (.slice (some ⟨g,0,none⟩) l.length cap) (l.set i x).length (ints (l.set i x)):=by
 have:=(h.stored i (.int .i64 x)).1;rw [List.length_set];have e:(ints l).set i (.int .i64 x)=ints (l.set i x):=by simp [ints,List.map_set]
 rwa [e] at this
theorem Kf {w:World} {B g cap:Nat} {l:List Int} (h:w.ownsRow B 3 1 (.slice (some ⟨g,0,none⟩) l.length cap) l.length (ints l)) (i:Nat) (hi:i < l.length) :
 w.cell? ⟨g,i,none⟩=some (.int .i64 (gi l i))∧w.frozen? ⟨g,i,none⟩=false:=by
 refine ⟨?_,h.frozenAt i⟩;rw [h.cellAt i (by omega)];simp [ints,hi,gi]
theorem Fr.then {S S':Nat→Prop} {a b c:World} (h:Fr S a b) (k:Fr S' b c) (hs:∀ i,i < a.heap.size→S' i→S i):Fr S a c :=
 ⟨k.os.trans h.os,k.tape.trans h.tape,k.output.trans h.output,Nat.le_trans h.size k.size,
   fun i hi hn=>(k.block i (Nat.lt_of_lt_of_le hi h.size) (fun hS=>hn (hs i hi hS))).trans (h.block i hi hn)⟩
theorem Fr.thenB {S:Nat→Prop} {a b c:World} (h:Fr S a b) (k:Below b.heap.size b c):Fr S a c:=h.then (Below.fr k) fun _ _ h=>h.elim
structure DrSt (w0 w:World) (g q B bA bB:Nat) (v1 v2:Value) (l1 l2:List Int):Prop where
 own:OwnSt w B v1 v2 l1 l2
 rdr:WI w g q
 boxA:w.heap[bA]?=some (.cells #[.slice none 0 0,.slice none 0 0] 75 (0,0))
 boxB:w.heap[bB]?=some (.cells #[v1,v2] 75 (0,0))
 fr:Fr (fun j=>j=g) w0 w
section
variable {w0 w w':World} {g q q' B bA bB:Nat} {v1 v2:Value} {l1 l2:List Int}
end
end Go.Proofs.YtkbbmjcfgcfejaaGreat
namespace Go.Proofs.YtkbbmjcfgcfejaaGreat
open Go.ChangeShapes Go.WideShapes Go.ChangeAt Go.RowKit Go.Joins
end Go.Proofs.YtkbbmjcfgcfejaaGreat
