/- Plain: the normal form of an assertion; a result that is being built (facts). -/
import Derived.Test.YtkbbmjcfgcfejaaGreatKWout
import Derived.Test.YtkbbmjcfgcfejaaGreatKCaseA
import Derived.Handy
import Derived.Test.YtkbbmjcfgcfejaaGreatKCase14
import Derived.Test.YtkbbmjcfgcfejaaGreatKHold1
set_option linter.unusedVariables false
namespace Go.Proofs.YtkbbmjcfgcfejaaGreat
open Go.RowKit
theorem asnLe {a:Asn} (h:asnB a=true):(a.1.length≤12∧a.2.length≤6)∧(a.1.all factB=true∧a.2.all atomB=true):=by
 rw [asnB,factsB] at h
 simp only [Bool.and_eq_true,decide_eq_true_eq] at h
 exact ⟨⟨h.1.1,h.2.1⟩,h.1.2,h.2.2⟩
theorem lit_atom_at {w:World} {g:Nat} (h:w.heap.size=g) (a b c:Int) (T:TypeId):RL (w.alloc (.cells #[.int .i64 a,.int .i64 b,.int .i64 c] T)) (fun k=>k=g) (.slice (some ⟨g,0,none⟩) 1 1) [((a,b,c):Atom)]:=h ▸ lit_atom w a b c T
section
variable {w0 w w':World} {bR bA:Nat} {v1 v2 v':Value} {l1 m1:List Fact} {l2 m2:List Atom}
theorem DB.app1 (h:DB w0 w bR bA v1 v2 l1 l2) (hne:¬ bR=bA) (hlo:w0.heap.size≤bA) (h1:FE w' w0.heap.size v' m1) (hf:Fr (TF w w0.heap.size 61) w w') :
 DB w0 (w'.setCell ⟨bA,0,none⟩ v') bR bA v' v2 m1 l2:=by
 have hA:=box_tf h.boxA hf (by decide)
 have hS:∀ {e:TypeId},26 ≠ e→¬ TF w' w0.heap.size e bA:=fun hne=>tf_ne hA hne
 exact ⟨h1.setB (hS (by decide)),(h.a.tf hf (by decide)).setB (hS (by decide)),box_other (box_tf h.boxR hf (by decide)) _ _ hne,box_set0 hA _,
  (h.fr.trans (tf_below hf h.fr.size)).setCell (by simp;omega) _⟩
end
end Go.Proofs.YtkbbmjcfgcfejaaGreat
set_option linter.unusedVariables false
namespace Go.Proofs.YtkbbmjcfgcfejaaGreat
open Go.RowKit
def swT (x t n:Int):Int:=if (n == x)=true then t else n
def sbF (x t:Int) (f:Fact):Fact:=(f.1,swT x t f.2.1,swT x t f.2.2)
def sbA (x t:Int) (y:Atom):Atom:=(y.1,swT x t y.2.1,swT x t y.2.2)
def subB (a:Asn) (x t:Int):Asn:=(a.1.map (sbF x t),a.2.map (sbA x t))
theorem map_more {α β:Type} [Inhabited α] {f:α→β} {l:List α} {k:Nat} (h:k < l.length):(l.take (k+1)).map f=(l.take k).map f ++ [f (gd l k)]:=by
 rw [take_gd h,List.map_append];rfl
theorem map_take_len {α β:Type} {f:α→β} {l:List α} {k:Nat} (h:k≤l.length):((l.take k).map f).length=k:=by
 rw [List.length_map,List.length_take];omega
section
variable {w0 w W w':World} {bR bA:Nat} {v1 v2 v':Value} {l1 m1:List Fact} {l2 m2:List Atom}
theorem DB.boxTf {e:TypeId} (h:DB w0 w bR bA v1 v2 l1 l2) (hf:Fr (TF W w0.heap.size e) W w') (hb:Below w.heap.size w W) (hne:26 ≠ e):w'.heap[bA]?=some (.cells #[v1,v2] 26 (0,0)) :=
 box_tf (box_keep h.boxA hb) hf hne
theorem DB.app1T (h:DB w0 w bR bA v1 v2 l1 l2) (hf:Fr (TF W w0.heap.size 61) W w') (h1:FE w' w0.heap.size v' m1) (hb:Below w.heap.size w W) (hne:¬ bR=bA) (hlo:w0.heap.size≤bA) :
 DB w0 (w'.setCell ⟨bA,0,none⟩ v') bR bA v' v2 m1 l2:=(h.keep hb).app1 hne hlo h1 hf
theorem DB.app2T (h:DB w0 w bR bA v1 v2 l1 l2) (hf:Fr (TF W w0.heap.size 118) W w') (h1:FE w' w0.heap.size v' m2) (hb:Below w.heap.size w W) (hne:¬ bR=bA) (hlo:w0.heap.size≤bA) :
 DB w0 (w'.setCell ⟨bA,1,none⟩ v') bR bA v1 v' l1 m2:=(h.keep hb).app2 hne hlo h1 hf
theorem boxOtf {b:Nat} {e T:TypeId} {cs:Array Value} (h:w.heap[b]?=some (.cells cs T (0,0))) (hf:Fr (TF W w0.heap.size e) W w') (hb:Below w.heap.size w W) (hne:T ≠ e) (p:Addr) (u:Value) (hp:¬ b=p.block):(w'.setCell p u).heap[b]?=some (.cells cs T (0,0)) :=
 box_other (box_tf (box_keep h hb) hf hne) p u hp
end
set_option maxHeartbeats 400000 in
theorem l3Swap_any (n x t:Int) (w:World) :
 Calls Tryz.prog 214 #[.int .i64 n,.int .i64 x,.int .i64 t] w fun e w'=>e=.returned (.int .i64 (swT x t n))∧w=w':=by
 have hs:swT x t n=if (n == x)=true then t else n:=rfl
 have HS:=Lib.hid hs
 clear hs
 cases hc:(n == x) with
 | false =>
   have HC:=Lib.hid hc
   go_enter Tryz.func214,Tryz.ntmps214
   go_wp2
   go_ret
   exact ⟨by rw [HS.out,HC.out];rfl,rfl⟩
 | true =>
   have HC:=Lib.hid hc
   go_enter Tryz.func214,Tryz.ntmps214
   go_wp2
   go_ret
   exact ⟨by rw [HS.out,HC.out];rfl,rfl⟩
set_option maxHeartbeats 400000 in
theorem replaceTerm_any (n x t:Int) (w:World) :
 Calls Tryz.prog 212 #[.int .i64 n,.int .i64 x,.int .i64 t] w fun e w'=>e=.returned (.int .i64 (swT x t n))∧w=w':=by
 have hs:swT x t n=if (n == x)=true then t else n:=rfl
 have HS:=Lib.hid hs
 clear hs
 cases hc:(n == x) with
 | false =>
   have HC:=Lib.hid hc
   go_enter Tryz.func212,Tryz.ntmps212
   go_wp2
   go_ret
   exact ⟨by rw [HS.out,HC.out];rfl,rfl⟩
 | true =>
   have HC:=Lib.hid hc
   go_enter Tryz.func212,Tryz.ntmps212
   go_wp2
   go_ret
   exact ⟨by rw [HS.out,HC.out];rfl,rfl⟩
end Go.Proofs.YtkbbmjcfgcfejaaGreat
set_option linter.unusedVariables false
namespace Go.Proofs.YtkbbmjcfgcfejaaGreat
open Go.RowKit
def keepM (l:List Int):Nat:=l.foldl termM 0
theorem keepFold_lt:∀ {l:List Int} {m:Nat},m < 65536→l.foldl termM m < 65536
 | [],_,h=>h
 | x :: l,m,h=>keepFold_lt (l:=l) (m:=termM m x) (termM_lt h)
theorem keepM_lt (l:List Int):keepM l < 65536:=keepFold_lt (by decide)
theorem keepM_step {l:List Int} {k:Nat} (h:k < l.length):keepM (l.take (k+1))=termM (keepM (l.take k)) (gi l k):=by
 rw [keepM,take_gd h,List.foldl_append,← gi_gd];rfl
set_option maxRecDepth 100000 in
set_option maxHeartbeats 3200000 in
theorem setOfTerms_any (v:Value) (l:List Int) (w:World) (h:RInts w v l) :
 Calls Tryz.prog 67 #[v] w fun e w'=>e=.returned (.int .u16 (keepM l))∧w=w':=by
 obtain ⟨a,c,rfl,hcell⟩:=h.cells
 have hlm:=h.len
 unfold maxLen at hlm
 have HC:=Lib.hid hcell
 clear hcell h
 go_enter Tryz.func67,Tryz.ntmps67
 go_wp2
 go_loopg [3,8] l.length (fun q x i wr=>∃ k:Nat,k+q=l.length∧i=.int .i64 k∧x=.int .u16 (keepM (l.take k))∧wr=w)
 case atStart=>exact ⟨0,by omega,rfl,rfl,rfl⟩
 case round =>
  obtain ⟨k,hk,rfl,rfl,rfl⟩:=hrel
  have HK:=Lib.hid hk
  clear hk
  by_cases hk8:k < l.length
  · have hki:(k:Int) < (l.length:Int):=by omega
    obtain ⟨b,o,rfl,hzb,hck⟩:=HC.out k hk8
    have hst:=keepM_step hk8
    obtain ⟨m,hm⟩:∃ m,keepM (l.take k)=m:=⟨_,rfl⟩
    have hml:m < 65536:=by rw [← hm];exact keepM_lt _
    rw [hm] at hst ⊢
    have HST:=Lib.hid hst
    clear hm hst
    go_wp2_with fail
    refine (withT_val _ hml HST.out.symm).mono ?_
    rintro e w5 ⟨rfl,rfl⟩
    go_wp2
    go_roundg (gk - 1)
    case rel=>exact ⟨k+1,by have:=HK.out;omega,by go_num,rfl,rfl⟩
    case measure=>have:=HK.out;omega
  · obtain rfl:k=l.length:=by have:=HK.out;omega
    rw [List.take_length]
    go_wp2
    go_ret
    exact ⟨rfl,rfl⟩
set_option maxRecDepth 100000 in
set_option maxHeartbeats 3200000 in
theorem l10Busy_any (v:Value) (l:List Int) (w:World) (h:RInts w v l) :
 Calls Tryz.prog 74 #[v] w fun e w'=>∃ v,e=.returned v∧w'.ownsRow w.heap.size 4 1 v 9 (flagsOf (keepM l))∧Below w.heap.size w w':=by
 have hmk:=mk9T
 obtain ⟨a,c,rfl,hcell⟩:=h.cells
 have hlm:=h.len
 unfold maxLen at hlm
 have HC:=Lib.hid hcell
 have hfl:=own9T w w.heap.size (Nat.le_refl _)
 have HFL:=Lib.hid hfl
 clear hcell h hfl
 go_enter Tryz.func74,Tryz.ntmps74
 go_wp2
 go_loopg [4] l.length (fun q i wr=>∃ k:Nat,k+q=l.length∧i=.int .i64 k∧wr.ownsRow w.heap.size 4 1 (.slice (some ⟨w.heap.size,0,none⟩) 9 9) 9 (flagsOf (keepM (l.take k)))∧Below w.heap.size w wr)
 case atStart=>exact ⟨0,by omega,rfl,HFL.out,below_alloc _ _⟩
 case round =>
  obtain ⟨k,hk,rfl,ho,hb⟩:=hrel
  have HK:=Lib.hid hk
  clear hk
  have hzf:w.heap.size < wr.heap.size:=(ho.lt _ rfl).2
  by_cases hk8:k < l.length
  · have hki:(k:Int) < (l.length:Int):=by omega
    obtain ⟨b,o,rfl,hzb,hck⟩:=HC.out k hk8
    replace hck:=cell_keep hb hck
    have hz:=hb.size
    have hzr:b < wr.heap.size:=by omega
    have hne:¬ b=w.heap.size:=by omega
    have hst:=keepM_step hk8
    obtain ⟨m,hm⟩:∃ m,keepM (l.take k)=m:=⟨_,rfl⟩
    rw [hm] at hst ho
    cases ht:isTermB (gi l k) with
    | false =>
      rw [termM,if_neg (by rw [ht];decide)] at hst
      have HST:=Lib.hid (And.intro hst ht)
      have HO:=Lib.hid (And.intro ho hb)
      clear hst ht ho hm
      go_wp2_with fail
      refine (cb (l1Is_any _ _) HST.out.2).mono ?_
      rintro e w5 ⟨rfl,rfl⟩
      go_wp2
      go_roundg (gk - 1)
      case rel=>exact ⟨k+1,by have:=HK.out;omega,by go_num,by rw [HST.out.1];exact HO.out.1,HO.out.2⟩
      case measure=>have:=HK.out;omega
    | true =>
      have hn:=isTermB_iff.1 ht
      obtain ⟨i,hi⟩:=Int.eq_ofNat_of_zero_le (show 0≤gi l k by omega)
      rw [hi] at hst hck ht
      rw [termM_nat (by omega)] at hst
      have hi9:(i:Int) < 9:=by omega
      have hi9n:i < 9:=by omega
      obtain ⟨s1,g1⟩:=ho.stored i (.bool true)
      rw [flags_set m i (by omega)] at s1
      have f1:=grown_fr g1
      have z1:=ho.frozenAt i
      have y1:wr.cell? ⟨w.heap.size,i,none⟩=some (.bool (m.testBit i)):=by
       have:=ho.cellAt i (by omega)
       rw [flags_at m i (by omega)] at this
       simpa using this
      have hb1:=hb.trans (f1.below hb.size fun k _ e=>by have:=Option.some.inj e;omega)
      have HST:=Lib.hid (And.intro hst ht)
      have HS:=Lib.hid (And.intro s1 hb1)
      clear hst ht hn hi s1 g1 f1 hb1 ho hm
      go_wp2_with fail
      refine (cb (l1Is_any _ _) HST.out.2).mono ?_
      rintro e w5 ⟨rfl,rfl⟩
      go_wp2
      go_roundg (gk - 1)
      case rel=>exact ⟨k+1,by have:=HK.out;omega,by go_num,by rw [HST.out.1];exact HS.out.1,HS.out.2⟩
      case measure=>have:=HK.out;omega
  · obtain rfl:k=l.length:=by have:=HK.out;omega
    rw [List.take_length] at ho
    go_wp2
    go_ret
    exact ⟨_,rfl,ho,hb⟩
end Go.Proofs.YtkbbmjcfgcfejaaGreat
set_option linter.unusedVariables false
namespace Go.Proofs.YtkbbmjcfgcfejaaGreat
open Go.RowKit
def pickA (l:List Atom) (m:Nat):List Atom:=((List.range l.length).filter fun i=>m.testBit i).map (gd l)
def frameM (a b:Asn):Option Nat:=(List.range (2 ^ a.2.length)).find? fun m=>asnB (b.1,b.2 ++ pickA a.2 m) && entB a (b.1,b.2 ++ pickA a.2 m)
def frameO (a b:Asn):Option (List Atom):=(frameM a b).map (pickA a.2)
def newV (m:Nat):Option Int:=((List.range 4).find? fun (i:Nat)=>!m.testBit (i+5)).map fun (i:Nat)=>(i:Int)+5
def forgetO (a:Asn) (x:Int) (m:Nat):Option Asn:=if hasT (termsM a) x=true then (newV (termsM a ||| m)).map fun n=>subB a x n else some a
def forgetL (m:Nat):List Int→Asn→Option Asn
 | [],a=>some a
 | x :: r,a=>(forgetO a x m).bind (forgetL m r)
abbrev Con:Type:=Asn × Asn × List Int
def prvI (l:List Int) (i:Nat):Int:=if i=0 then 0 else gi l (i - 1)
def stepP (l:List Int) (i:Nat):Bool:=progB (gi l i) && decide (prvI l i < gi l i)
def chgsB (l:List Int):Bool:=(List.range l.length).all (stepP l)
def conB (k:Con):Bool:=asnB k.1 && (asnB k.2.1 && chgsB k.2.2)
def takenM (a:Asn) (k:Con) (keep:List Int):Nat:=((termsM a ||| termsM k.1) ||| termsM k.2.1) ||| keepM keep
def callO (a:Asn) (k:Con) (keep:List Int):Option Asn :=
 if (asnB a && conB k)=true then (frameO a k.1).bind fun f=>(forgetL (takenM a k keep) k.2.2 (a.1,f)).bind fun r =>
  if asnB (r.1 ++ k.2.1.1,k.2.1.2 ++ r.2)=true then some (r.1 ++ k.2.1.1,k.2.1.2 ++ r.2) else none
 else none
theorem forgetO_len {a b:Asn} {x:Int} {m:Nat} (h:forgetO a x m=some b):b.1.length=a.1.length∧b.2.length=a.2.length:=by
 rw [forgetO] at h
 split at h
 · obtain ⟨n,_,rfl⟩:=Option.map_eq_some_iff.1 h
   exact ⟨List.length_map ..,List.length_map ..⟩
 · obtain rfl:=Option.some.inj h
   exact ⟨rfl,rfl⟩
theorem forgetL_len {m:Nat}:∀ {l:List Int} {a b:Asn},forgetL m l a=some b→b.1.length=a.1.length∧b.2.length=a.2.length
 | [],a,b,h=>by obtain rfl:=Option.some.inj h;exact ⟨rfl,rfl⟩
 | x :: r,a,b,h=>by
   rw [forgetL,Option.bind_eq_some_iff] at h
   obtain ⟨c,h1,h2⟩:=h
   have e1:=forgetO_len h1
   have e2:=forgetL_len h2
   exact ⟨e2.1.trans e1.1,e2.2.trans e1.2⟩
theorem call_says {a:Asn} {k:Con} {keep:List Int} {x:Asn} (h:callO a k keep=some x) :
 ∃ f,frameO a k.1=some f∧x.2.length=k.2.1.2.length+f.length∧x.1.length=a.1.length+k.2.1.1.length∧x.2.take k.2.1.2.length=k.2.1.2:=by
 rw [callO] at h
 split at h
 · rw [Option.bind_eq_some_iff] at h
   obtain ⟨f,h1,h⟩:=h
   rw [Option.bind_eq_some_iff] at h
   obtain ⟨r,h2,h⟩:=h
   split at h
   · obtain rfl:=Option.some.inj h
     have e:=forgetL_len h2
     refine ⟨f,h1,?_,?_,?_⟩
     · rw [List.length_append,e.2]
     · rw [List.length_append,e.1]
     · exact List.take_left ..
   · cases h
 · cases h
end Go.Proofs.YtkbbmjcfgcfejaaGreat
set_option linter.unusedVariables false
namespace Go.Proofs.YtkbbmjcfgcfejaaGreat
open Go.RowKit
def freeB (m:Nat) (t:Int):Bool:=decide (4 < t) && !hasT m t
structure Known (m:Nat) (a:Asn) (x t:Int):Prop where
 ne:t ≠ x
 free:freeB m x=true
 mem:∃ f ∈ a.1,f.1=true∧((f.2.1=x∧f.2.2=t)∨(f.2.1=t∧f.2.2=x))
theorem swT_self (x t:Int):swT x t x=t:=by simp [swT]
theorem swT_cases (x t n:Int):(n=x∧swT x t n=t)∨(n ≠ x∧swT x t n=n):=by
 by_cases h:n=x
 · subst h;exact .inl ⟨rfl,swT_self _ _⟩
 · exact .inr ⟨h,by simp [swT,h]⟩
theorem sub_valid {a:Asn} {x t:Int} (ha:asnB a=true) (ht:0≤t∧t≤8):asnB (subB a x t)=true:=by
 have h:=asnLe ha
 have p:=asn_parts ha
 have k:∀ n:Int,isTermB n=true→isTermB (swT x t n)=true:=fun n hn=>by
  rcases swT_cases x t n with ⟨_,e⟩ | ⟨_,e⟩
  · rw [e];simp [isTermB];omega
  · rw [e];exact hn
 simp only [asnB,factsB,subB,Bool.and_eq_true,decide_eq_true_eq,List.all_eq_true,List.length_map]
 refine ⟨⟨h.1.1,fun f hf=>?_⟩,h.1.2,fun f hf=>?_⟩
 · obtain ⟨g,hg,rfl⟩:=List.mem_map.1 hf
   have:=p.1 g hg
   simp only [factB,sbF,Bool.and_eq_true] at this ⊢
   exact ⟨k _ this.1,k _ this.2⟩
 · obtain ⟨g,hg,rfl⟩:=List.mem_map.1 hf
   have:=p.2 g hg
   simp only [atomB,sbA,Bool.and_eq_true] at this ⊢
   exact ⟨this.1,k _ this.2.1,k _ this.2.2⟩
theorem asn_mk {l1:List Fact} {l2:List Atom} (h1:l1.length≤12) (h2:∀ f ∈ l1,factB f=true) (h3:l2.length≤6) (h4:∀ x ∈ l2,atomB x=true):asnB (l1,l2)=true:=by
 rw [asnB,factsB,Bool.and_eq_true,Bool.and_eq_true,Bool.and_eq_true,decide_eq_true_eq,decide_eq_true_eq,List.all_eq_true,List.all_eq_true]
 exact ⟨⟨h1,h2⟩,h3,h4⟩
end Go.Proofs.YtkbbmjcfgcfejaaGreat
set_option linter.unusedVariables false
namespace Go.Proofs.YtkbbmjcfgcfejaaGreat
open Go.RowKit
theorem find_hit {n k:Nat} {p:Nat→Bool} (hk:k < n) (h0:(List.range k).find? p=none) (h1:p k=true):(List.range n).find? p=some k:=by
 have e:List.range n=List.range k ++ k :: (List.range' (k+1) (n - k - 1)):=by
  rw [List.range_eq_range',List.range_eq_range',← List.range'_succ]
  have:=@List.range'_append 0 k (n - k) 1
  simp only [Nat.one_mul,Nat.zero_add] at this
  rw [show n - k - 1+1=n - k by omega,this,show k+(n - k)=n by omega]
 rw [e,List.find?_append,h0,List.find?_cons,h1];rfl
theorem find_more {k:Nat} {p:Nat→Bool} (h0:(List.range k).find? p=none) (h1:p k=false):(List.range (k+1)).find? p=none:=by
 rw [List.range_succ,List.find?_append,h0,List.find?_cons,h1];rfl
def pickN (l:List Atom) (m k:Nat):List Atom:=((List.range k).filter fun i=>m.testBit i).map (gd l)
theorem pickN_yes {l:List Atom} {m k:Nat} (h:m.testBit k=true):pickN l m (k+1)=pickN l m k ++ [gd l k]:=by
 rw [pickN,List.range_succ,List.filter_append,List.map_append];simp [pickN,h]
theorem pickN_no {l:List Atom} {m k:Nat} (h:m.testBit k=false):pickN l m (k+1)=pickN l m k:=by
 rw [pickN,List.range_succ,List.filter_append,List.map_append];simp [pickN,h]
theorem pickN_len (l:List Atom) (m k:Nat):(pickN l m k).length≤k:=by
 rw [pickN,List.length_map]
 exact Nat.le_trans (List.length_filter_le _ _) (by simp)
theorem pickN_all (l:List Atom) (m:Nat):pickN l m l.length=pickA l m:=rfl
theorem pickA_mem {l:List Atom} {m:Nat} {x:Atom} (h:x ∈ pickA l m):x ∈ l:=by
 obtain ⟨i,hi,rfl⟩:=List.mem_map.1 h
 exact gd_mem (List.mem_range.1 (List.mem_filter.1 hi).1)
theorem pick_valid {a:Asn} (ha:asnB a=true) (m:Nat):asnB (a.1,pickA a.2 m)=true:=by
 have h:=asnLe ha
 have p:=asn_parts ha
 exact asn_mk h.1.1 p.1 (Nat.le_trans (pickN_len a.2 m _) h.1.2) fun x hx=>p.2 x (pickA_mem hx)
def frB (a b:Asn) (m:Nat):Bool:=asnB (b.1,b.2 ++ pickA a.2 m) && entB a (b.1,b.2 ++ pickA a.2 m)
theorem frameM_eq (a b:Asn):frameM a b=(List.range (2 ^ a.2.length)).find? (frB a b):=rfl
theorem frame_valid {a b:Asn} {f:List Atom} (ha:asnB a=true) (h:frameO a b=some f):asnB (a.1,f)=true:=by
 obtain ⟨m,_,rfl⟩:=Option.map_eq_some_iff.1 h
 exact pick_valid ha m
theorem newV_term {m:Nat} {n:Int} (h:newV m=some n):0≤n∧n≤8:=by
 rw [newV] at h
 obtain ⟨i,hi,rfl⟩:=Option.map_eq_some_iff.1 h
 have:=List.mem_range.1 (List.mem_of_find?_eq_some hi)
 omega
theorem forgetO_valid {a b:Asn} {x:Int} {m:Nat} (ha:asnB a=true) (h:forgetO a x m=some b):asnB b=true:=by
 rw [forgetO] at h
 split at h
 · obtain ⟨n,hn,rfl⟩:=Option.map_eq_some_iff.1 h
   exact sub_valid ha (newV_term hn)
 · obtain rfl:=Option.some.inj h;exact ha
def forgetN (a:Asn) (x:Int) (m:Nat):Option (Asn × Int):=if hasT (termsM a) x=true then (newV (termsM a ||| m)).map fun n=>(subB a x n,n) else some (a,x)
theorem forgetO_eq (a:Asn) (x:Int) (m:Nat):forgetO a x m=(forgetN a x m).map (·.1):=by
 rw [forgetO,forgetN]
 split
 · rw [Option.map_map];rfl
 · rfl
theorem forgetN_valid {a:Asn} {x:Int} {m:Nat} {r:Asn × Int} (ha:asnB a=true) (h:forgetN a x m=some r):asnB r.1=true :=
 forgetO_valid (x:=x) (m:=m) ha (by rw [forgetO_eq,h];rfl)
theorem forgetL_snoc {m:Nat}:∀ {l:List Int} {x:Int} {a:Asn},forgetL m (l ++ [x]) a=(forgetL m l a).bind fun b=>forgetO b x m
 | [],x,a=>by
   show (forgetO a x m).bind (forgetL m [])=(some a).bind fun b=>forgetO b x m
   rw [Option.bind_some]
   cases forgetO a x m <;> rfl
 | y :: l,x,a=>by
   show (forgetO a y m).bind (forgetL m (l ++ [x]))=((forgetO a y m).bind (forgetL m l)).bind _
   cases forgetO a y m with
   | none=>rfl
   | some b=>exact forgetL_snoc (l:=l)
theorem forgetL_step {m k:Nat} {l:List Int} {a:Asn} (h:k < l.length):forgetL m (l.take (k+1)) a=(forgetL m (l.take k) a).bind fun b=>forgetO b (gi l k) m:=by
 rw [← forgetL_snoc]
 congr 1
 rw [List.take_add_one,gi_of h,List.getElem?_eq_getElem h];rfl
theorem forgetL_bad {m:Nat} {l r:List Int} {a:Asn} (h:forgetL m l a=none):forgetL m (l ++ r) a=none:=by
 induction l generalizing a with
 | nil=>cases h
 | cons y l ih =>
   have h2:(forgetO a y m).bind (forgetL m l)=none:=h
   show (forgetO a y m).bind (forgetL m (l ++ r))=none
   cases hf:forgetO a y m with
   | none=>rfl
   | some b =>
     rw [hf] at h2
     exact ih h2
theorem forgetL_cut {m k:Nat} {l:List Int} {a:Asn} (h:forgetL m (l.take k) a=none):forgetL m l a=none:=by
 have:=forgetL_bad (r:=l.drop k) h
 rwa [List.take_append_drop] at this
end Go.Proofs.YtkbbmjcfgcfejaaGreat
