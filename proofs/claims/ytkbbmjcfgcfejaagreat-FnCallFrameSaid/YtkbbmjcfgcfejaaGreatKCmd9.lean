/- Walks: the way from an address to another one. -/
import Derived.Test.YtkbbmjcfgcfejaaGreatKHold1
import Derived.Test.YtkbbmjcfgcfejaaGreatKDHolds2
import Derived.Test.YtkbbmjcfgcfejaaGreatKBase1
import Derived.Test.YtkbbmjcfgcfejaaGreatKDraw1
import Derived.Laws.Tables
import Derived.Laws.CopyOwn
import Derived.Deep.WholeRow
import Derived.Deep.RegionHeld3
import Derived.Deep.MidRow
import Derived.Test.YtkbbmjcfgcfejaaGreatKCmd8
import Derived.Test.YtkbbmjcfgcfejaaGreatKHed
import Derived.Handy
import Derived.Deep.DeepMust
import Derived.Deep.Cut
import Derived.Deep.CutBlock
import Derived.Deep.CutRange
namespace Go.Proofs.YtkbbmjcfgcfejaaGreat
open Go.RowKit
def wayN (hs:List Int) (t:Int):Nat→Int→Option (List Int)
 | 0,a=>if a=t then some [] else none
 | k+1,a=>if a=t then some [] else if alB hs a=true then (wayN hs t k (ct hs a)).map (a :: ·) else none
def wayB (hs:List Int) (f t:Int):Bool:=(wayN hs t 8 f).isSome
end Go.Proofs.YtkbbmjcfgcfejaaGreat
namespace Go.Proofs.YtkbbmjcfgcfejaaGreat
open Go.RowKit
end Go.Proofs.YtkbbmjcfgcfejaaGreat
namespace Go.Proofs.YtkbbmjcfgcfejaaGreat
end Go.Proofs.YtkbbmjcfgcfejaaGreat
namespace Go.Proofs.YtkbbmjcfgcfejaaGreat
end Go.Proofs.YtkbbmjcfgcfejaaGreat
namespace Go.Proofs.YtkbbmjcfgcfejaaGreat
end Go.Proofs.YtkbbmjcfgcfejaaGreat
namespace Go.Proofs.YtkbbmjcfgcfejaaGreat
open Go.RowKit
abbrev iarr (l:List Int):Array Value:=(ints l).toArray
theorem iarr_at {w:World} {b:Nat} {T:TypeId} {l:List Int} (h:w.heap[b]?=some (.cells (iarr l) T (0,0))) (i:Nat) (hi:i < l.length):w.cell? ⟨b,i,none⟩=some (.int .i64 (gi l i)):=by
 rw [cell_of_row w b i _ _ _ h]
 simp [ints,hi,gi_of]
theorem iarr_set {w:World} {b:Nat} {T:TypeId} {l:List Int} (h:w.heap[b]?=some (.cells (iarr l) T (0,0))) (i:Nat) (x:Int):(w.setCell ⟨b,i,none⟩ (.int .i64 x)).heap[b]?=some (.cells (iarr (l.set i x)) T (0,0)):=by
 rw [heap_setCell_same w b i _ T _ h]
 congr 2
 simp [ints,List.map_set]
end Go.Proofs.YtkbbmjcfgcfejaaGreat
namespace Go.Proofs.YtkbbmjcfgcfejaaGreat
open Go.RowKit
end Go.Proofs.YtkbbmjcfgcfejaaGreat
namespace Go.Proofs.YtkbbmjcfgcfejaaGreat
open Go.RowKit
structure RnSt (w0 w:World) (bR bK g1 c1 g2 c2:Nat) (l1 l2:List Int):Prop where
 own:OwnSt w (bR+1) (.slice (some ⟨g1,0,none⟩) 8 c1) (.slice (some ⟨g2,0,none⟩) 8 c2) l1 l2
 len1:l1.length=8
 len2:l2.length=8
 lt1:bR < g1
 lt2:bR < g2
 ne1:¬ g1=bK
 ne2:¬ g2=bK
 low:w0.heap.size≤bR
 ltK:bR < bK
 boxR:w.heap[bR]?=some (.cells #[.slice none 0 0,.slice none 0 0] 75 (0,0))
 boxK:w.heap[bK]?=some (.cells #[.slice (some ⟨g1,0,none⟩) 8 c1,.slice (some ⟨g2,0,none⟩) 8 c2] 75 (0,0))
 bel:Below w0.heap.size w0 w
section
variable {w0 w w':World} {bR bK g1 c1 g2 c2:Nat} {l1 l2:List Int}
end
end Go.Proofs.YtkbbmjcfgcfejaaGreat
namespace Go.Proofs.YtkbbmjcfgcfejaaGreat
open Go.RowKit
end Go.Proofs.YtkbbmjcfgcfejaaGreat
namespace Go.Proofs.YtkbbmjcfgcfejaaGreat
open Go.RowKit
end Go.Proofs.YtkbbmjcfgcfejaaGreat
namespace Go.Proofs.YtkbbmjcfgcfejaaGreat
open Go.RowKit
end Go.Proofs.YtkbbmjcfgcfejaaGreat
namespace Go.Proofs.YtkbbmjcfgcfejaaGreat
end Go.Proofs.YtkbbmjcfgcfejaaGreat
namespace Go.Proofs.YtkbbmjcfgcfejaaGreat
open Go.RowKit
def posO (l:List Int) (v:Int):Int:=if v ∈ l then (l.idxOf v:Int)+1 else 0
def tabO (l:List Int):List Int:=(List.range 9).map fun (n:Nat)=>posO l n
def cn (l:List Int):List Int:=tabO l ++ [(l.length:Int)]
end Go.Proofs.YtkbbmjcfgcfejaaGreat
namespace Go.Proofs.YtkbbmjcfgcfejaaGreat
open Go.RowKit
end Go.Proofs.YtkbbmjcfgcfejaaGreat
namespace Go.Proofs.YtkbbmjcfgcfejaaGreat
end Go.Proofs.YtkbbmjcfgcfejaaGreat
namespace Go.Proofs.YtkbbmjcfgcfejaaGreat
abbrev Prs:=List (Int × Int)
structure PI (ps:Prs):Prop where
 adr:∀ q ∈ ps,(1≤q.1∧q.1≤8)∧(1≤q.2∧q.2≤8)
 bij:∀ q ∈ ps,∀ r ∈ ps,(q.1=r.1 ↔ q.2=r.2)
end Go.Proofs.YtkbbmjcfgcfejaaGreat
namespace Go.Proofs.YtkbbmjcfgcfejaaGreat
end Go.Proofs.YtkbbmjcfgcfejaaGreat
namespace Go.Proofs.YtkbbmjcfgcfejaaGreat
end Go.Proofs.YtkbbmjcfgcfejaaGreat
namespace Go.Proofs.YtkbbmjcfgcfejaaGreat
section
variable {vl hl p:List Int}
end
end Go.Proofs.YtkbbmjcfgcfejaaGreat
namespace Go.Proofs.YtkbbmjcfgcfejaaGreat
open Go.RowKit
def cellsB (vl hl:List Int) (x:Atom):Bool:=if x.1=2 then wayB hl (tv vl x.2.1) (tv vl x.2.2) else (ct hl (tv vl x.2.1) == tv vl x.2.2)
end Go.Proofs.YtkbbmjcfgcfejaaGreat
namespace Go.Proofs.YtkbbmjcfgcfejaaGreat
open Go.RowKit
end Go.Proofs.YtkbbmjcfgcfejaaGreat
namespace Go.Proofs.YtkbbmjcfgcfejaaGreat
open Go.RowKit
end Go.Proofs.YtkbbmjcfgcfejaaGreat
namespace Go.Proofs.YtkbbmjcfgcfejaaGreat
open Go.RowKit
section
variable {w:World} {g t:Nat} {T:TypeId} {v1 v2 u1 u2:Value} {tl:List Int}
end
end Go.Proofs.YtkbbmjcfgcfejaaGreat
namespace Go.Proofs.YtkbbmjcfgcfejaaGreat
open Go.RowKit
end Go.Proofs.YtkbbmjcfgcfejaaGreat
namespace Go.Proofs.YtkbbmjcfgcfejaaGreat
open Go.RowKit
end Go.Proofs.YtkbbmjcfgcfejaaGreat
namespace Go.Proofs.YtkbbmjcfgcfejaaGreat
open Go.RowKit
end Go.Proofs.YtkbbmjcfgcfejaaGreat
namespace Go.Proofs.YtkbbmjcfgcfejaaGreat
open Go.RowKit
end Go.Proofs.YtkbbmjcfgcfejaaGreat
namespace Go.Proofs.YtkbbmjcfgcfejaaGreat
open Go.RowKit
theorem own9 (w:World) (B:Nat) (hB:B≤w.heap.size) :
 (w.alloc (.cells #[.bool false,.bool false,.bool false,.bool false,.bool false,.bool false,.bool false,.bool false,.bool false] 4)).ownsRow B 4 1 (.slice (some ⟨w.heap.size,0,none⟩) 9 9) 9 (flagsOf 0) :=
 World.ownsRow_lit (size:=1) w _ 9 hB (by unfold maxLen;omega) rfl
end Go.Proofs.YtkbbmjcfgcfejaaGreat
namespace Go.Proofs.YtkbbmjcfgcfejaaGreat
open Go.RowKit
end Go.Proofs.YtkbbmjcfgcfejaaGreat
set_option linter.unusedVariables false
namespace Go.Proofs.YtkbbmjcfgcfejaaGreat
open Go.RowKit
abbrev St:Type:=List Int × List Int
abbrev RRes:Type:=Int × St × Nat
theorem progB_iff {n:Int}:progB n=true ↔ 1≤n∧n≤4:=by simp [progB]
theorem headOk_basic {d:Nat} {c:Cm (d+1)} (h:headOk c=true) (h6:¬ c.kind=6) (h7:¬ c.kind=7):basicB c=true:=by
 rwa [headOk,if_neg h6,if_neg h7] at h
theorem shape_succ {d:Nat} {l:List (Cm (d+1))} {D:Int} (h:shpB (d+1) l D=true):∀ c ∈ l,headOk c=true∧shpB d c.body (D - 1)=true∧shpB d c.els (D - 1)=true:=fun c hc=>by
 rw [shpB,Bool.and_eq_true,List.all_eq_true] at h
 have:=h.2 c hc
 simpa only [Bool.and_eq_true] using this
theorem basic_kind {d:Nat} {c:Cm (d+1)} (h:basicB c=true):c.kind=1∨c.kind=2∨c.kind=3∨c.kind=4∨c.kind=5:=by
 simp only [basicB,Bool.and_eq_true,Bool.or_eq_true,decide_eq_true_eq] at h
 omega
end Go.Proofs.YtkbbmjcfgcfejaaGreat
set_option linter.unusedVariables false
namespace Go.Proofs.YtkbbmjcfgcfejaaGreat
open Go.RowKit
def lineT {d:Nat} (c:Cm (d+1)):List UInt8 :=
 if c.kind=1 then termT c.a ++ [58,61] ++ termT c.b
 else if c.kind=2 then termT c.a ++ [58,61,91] ++ termT c.b ++ [93]
 else if c.kind=3 then [91] ++ termT c.a ++ [93,58,61] ++ termT c.b
 else if c.kind=4 then [110,101,119,32] ++ termT c.a
 else if c.kind=5 then [102,114,101,101,32] ++ termT c.a
 else if c.kind=6 then [105,102,32] ++ factX c.test
 else [119,104,105,108,101,32] ++ factX c.test ++ [32,119,105,116,104,32] ++ asnT c.inv
def cmdT {d:Nat} (F:List (Cm d)→List UInt8) (c:Cm (d+1)):List UInt8 :=
 lineT c ++ [10] ++ F c.body ++ (if c.els=[] then [] else [101,108,115,101,10] ++ F c.els) ++ (if c.kind=6∨c.kind=7 then [101,110,100,10] else [])
def progT:(d:Nat)→List (Cm d)→List UInt8
 | 0,_=>[]
 | d+1,l=>l.flatMap (cmdT (progT d))
theorem asnT_len (a:Asn):(asnT a).length≤20+11 * a.1.length+11 * a.2.length:=by
 have h1:=factsT_len a.1
 have h2:=atomsT_len a.2
 rw [asnT,List.length_append]
 split
 · split
   · simp;omega
   · simp;omega
 · split
   · simp;omega
   · simp;omega
theorem lineT_len {d:Nat} {c:Cm (d+1)} (h:headOk c=true):(lineT c).length≤22100:=by
 have h1:=termT_len c.a
 have h2:=termT_len c.b
 have h3:=factT_len c.test
 rw [lineT]
 split
 · simp;omega
 split
 · simp;omega
 split
 · simp;omega
 split
 · simp;omega
 split
 · simp;omega
 split
 · simp;omega
 · rename_i k1 k2 k3 k4 k5 k6
   have ha:asnB c.inv=true:=by
    rw [headOk,if_neg k6] at h
    split at h
    · simp only [Bool.and_eq_true] at h;exact h.2.2.2.1
    · have:=basic_kind h;omega
   have h4:=asnT_len c.inv
   have h5:=asnB_len ha
   simp;omega
theorem shape_count:∀ (d:Nat) (l:List (Cm d)) (D:Int),shpB d l D=true→countC d l D=szC d l
 | 0,_,_,_=>rfl
 | d+1,l,D,h=>by
   have hs:=shape_succ h
   rw [shpB,Bool.and_eq_true,Bool.or_eq_true,decide_eq_true_eq,decide_eq_true_eq] at h
   rw [countC,szC]
   split
   · have:∀ c ∈ l,1+countC d (Cm.body c) (D - 1)+countC d (Cm.els c) (D - 1)=1+szC d (Cm.body c)+szC d (Cm.els c):=fun c hc=>by
      rw [shape_count d _ _ (hs c hc).2.1,shape_count d _ _ (hs c hc).2.2]
     rw [List.map_congr_left this]
   · rcases h.1 with h1 | h1
     · omega
     · rw [List.eq_nil_of_length_eq_zero h1];rfl
theorem progT_len:∀ (d:Nat) (l:List (Cm d)) (D:Int),shpB d l D=true→(progT d l).length≤22200 * szC d l
 | 0,_,_,_=>Nat.zero_le _
 | d+1,l,D,h=>by
   have hs:=shape_succ h
   have key:∀ m:List (Cm (d+1)),(∀ c ∈ m,c ∈ l)→(m.flatMap (cmdT (progT d))).length≤22200 * (m.map fun c=>1+szC d (Cm.body c)+szC d (Cm.els c)).sum:=by
    intro m
    induction m with
    | nil=>intro _;simp
    | cons c r ih =>
      intro hm
      have h1:=ih fun x hx=>hm x (List.mem_cons_of_mem _ hx)
      obtain ⟨k1,k2,k3⟩:=hs c (hm c (by simp))
      have h2:=lineT_len k1
      have h3:=progT_len d _ _ k2
      have h4:=progT_len d _ _ k3
      have h5:(cmdT (progT d) c).length≤22200 * (1+szC d (Cm.body c)+szC d (Cm.els c)):=by
       rw [cmdT]
       split <;> split <;> simp <;> omega
      simp only [List.flatMap_cons,List.length_append,List.map_cons,List.sum_cons]
      omega
   exact key l fun c hc=>hc
end Go.Proofs.YtkbbmjcfgcfejaaGreat
set_option linter.unusedVariables false
namespace Go.Proofs.YtkbbmjcfgcfejaaGreat
open Go.RowKit
def endW:List UInt8:=[101,110,100]
def elseW:List UInt8:=[101,108,115,101]
def goesOn (L:List (List UInt8)) (p:Int):Bool:=decide (0≤p) && (decide (p+1 < L.length) && (!decide (gd L p.toNat=endW) && !decide (gd L p.toNat=elseW)))
def elseAt (L:List (List UInt8)) (p:Int):Bool:=decide (0≤p) && (decide (p < L.length) && decide (gd L p.toNat=elseW))
def upB (p:Int):Int:=if 0≤p then p+1 else p
abbrev Blk (d:Nat):Type:=List (Cm d) × Int
def mkH {d:Nat} (h:Int × Int × Int × Fact × Asn) (x y:List (Cm d)):Cm (d+1):=Cm.mk h.1 h.2.1 h.2.2.1 h.2.2.2.1 h.2.2.2.2 x y
def isBlk (h:Int × Int × Int × Fact × Asn):Bool:=decide (h.1=6) || decide (h.1=7)
def cmdF {d:Nat} (L:List (List UInt8)) (sub:Int→Option (Blk d)) (p:Int):Option (Cm (d+1) × Int) :=
 let h:=headR (gd L p.toNat)
 if isBlk h=true then
  match sub (p+1) with
  | none=>none
  | some r=>if elseAt L r.2=true then
     match sub (r.2+1) with
     | none=>none
     | some e=>some (mkH h r.1 e.1,upB e.2)
    else some (mkH h r.1 [],upB r.2)
 else some (mkH h [] [],p+1)
def seqF {d:Nat} (L:List (List UInt8)) (sub:Int→Option (Blk d)):Nat→Int→Blk (d+1)
 | 0,p=>([],p)
 | n+1,p=>if goesOn L p=true then
    match cmdF L sub p with
    | none=>([],-1)
    | some x=>(x.1 :: (seqF L sub n x.2).1,(seqF L sub n x.2).2)
   else ([],p)
def blockF (L:List (List UInt8)):(d:Nat)→Int→Blk (d+1)
 | 0,p=>seqF L (fun _=>none) (L.length+1) p
 | d+1,p=>seqF L (fun q=>some (blockF L d q)) (L.length+1) p
def subOk (L:List (List UInt8)) (d:Nat) {e:Nat} (sub:Int→Option (Blk e)):Prop:=∀ (p:Int) (r:Blk e),p≤(L.length:Int)→sub p=some r→(-1≤p→-1≤r.2)∧(r.2 < 0∨p≤r.2)∧r.2≤L.length+d
theorem goesOn_iff {L:List (List UInt8)} {p:Int} (h:goesOn L p=true):0≤p∧p+1 < L.length:=by
 simp only [goesOn,Bool.and_eq_true,decide_eq_true_eq] at h;exact ⟨h.1,h.2.1⟩
theorem elseAt_iff {L:List (List UInt8)} {p:Int} (h:elseAt L p=true):0≤p∧p < L.length:=by
 simp only [elseAt,Bool.and_eq_true,decide_eq_true_eq] at h;exact ⟨h.1,h.2.1⟩
theorem upB_le {p:Int}:upB p≤p+1∧(p < 0→upB p=p)∧(0≤p→upB p=p+1):=by
 rw [upB];split <;> omega
theorem cmdF_ok {d e:Nat} {L:List (List UInt8)} {sub:Int→Option (Blk e)} (hs:subOk L d sub) {p:Int} (hp:goesOn L p=true) {x:Cm (e+1) × Int} (h:cmdF L sub p=some x) :
 -1≤x.2∧(x.2 < 0∨p+1≤x.2)∧x.2≤L.length+d+1:=by
 have hp1:=goesOn_iff hp
 rw [cmdF] at h
 split at h
 · cases h1:sub (p+1) with
   | none=>rw [h1] at h;cases h
   | some r =>
     obtain ⟨a1,a2,a3⟩:=hs _ _ (by omega) h1
     rw [h1] at h
     simp only at h
     split at h
     · rename_i he
       have he1:=elseAt_iff he
       cases h2:sub (r.2+1) with
       | none=>rw [h2] at h;cases h
       | some s =>
         obtain ⟨b1,b2,b3⟩:=hs _ _ (by omega) h2
         rw [h2] at h
         obtain rfl:=Option.some.inj h
         have hu:=upB_le (p:=s.2)
         show -1≤upB s.2∧_∧upB s.2≤_
         refine ⟨?_,?_,?_⟩
         · by_cases h0:0≤s.2
           · have:=hu.2.2 h0;omega
           · have:=hu.2.1 (by omega);omega
         · by_cases h0:0≤s.2
           · have:=hu.2.2 h0;right;show p+1≤upB s.2;omega
           · left;show upB s.2 < 0;have:=hu.2.1 (by omega);omega
         · omega
     · obtain rfl:=Option.some.inj h
       have hu:=upB_le (p:=r.2)
       show -1≤upB r.2∧_∧upB r.2≤_
       refine ⟨?_,?_,?_⟩
       · by_cases h0:0≤r.2
         · have:=hu.2.2 h0;omega
         · have:=hu.2.1 (by omega);omega
       · by_cases h0:0≤r.2
         · have:=hu.2.2 h0;right;show p+1≤upB r.2;omega
         · left;show upB r.2 < 0;have:=hu.2.1 (by omega);omega
       · omega
 · obtain rfl:=Option.some.inj h
   exact ⟨by show -1≤p+1;omega,.inr (Int.le_refl _),by show p+1≤_;omega⟩
theorem seqF_ok {d e:Nat} {L:List (List UInt8)} {sub:Int→Option (Blk e)} (hs:subOk L d sub):∀ (n:Nat) (p:Int),p≤L.length+d+1 →
 (-1≤p→-1≤(seqF L sub n p).2)∧((seqF L sub n p).2 < 0∨p≤(seqF L sub n p).2)∧(seqF L sub n p).2≤L.length+d+1∧(seqF L sub n p).1.length≤n
 | 0,p,hp=>⟨fun h=>h,.inr (Int.le_refl _),hp,Nat.le_refl _⟩
 | n+1,p,hp=>by
   rw [seqF]
   split
   · rename_i hg
     cases h:cmdF L sub p with
     | none=>exact ⟨fun _=>Int.le_refl _,.inl (show (-1:Int) < 0 by decide),by show (-1:Int)≤_;omega,Nat.zero_le _⟩
     | some x =>
       obtain ⟨a1,a2,a3⟩:=cmdF_ok hs hg h
       obtain ⟨b1,b2,b3,b4⟩:=seqF_ok hs n x.2 a3
       have hg1:=goesOn_iff hg
       refine ⟨fun _=>b1 a1,?_,b3,by simp;omega⟩
       show (seqF L sub n x.2).2 < 0∨p≤(seqF L sub n x.2).2
       rcases a2 with a2 | a2
       · by_cases hx:(seqF L sub n x.2).2 < 0
         · exact .inl hx
         · -- a position before the start is kept
           have:(seqF L sub n x.2).2=x.2:=by
            cases n with
            | zero=>rfl
            | succ n =>
              rw [seqF,if_neg (fun h=>by have:=goesOn_iff h;omega)]
           omega
       · omega
   · exact ⟨fun h=>h,.inr (Int.le_refl _),hp,Nat.zero_le _⟩
theorem block_ok (L:List (List UInt8)):∀ (d:Nat) (p:Int),p≤L.length→(-1≤p→-1≤(blockF L d p).2)∧((blockF L d p).2 < 0∨p≤(blockF L d p).2)∧(blockF L d p).2≤L.length+(d+1)∧(blockF L d p).1.length≤L.length+1
 | 0,p,hp=>by
   have h:=seqF_ok (d:=0) (L:=L) (sub:=fun _=>(none:Option (Blk 0))) (fun p r _ h=>by cases h) (L.length+1) p (by omega)
   rw [blockF]
   exact ⟨h.1,h.2.1,by have:=h.2.2.1;omega,h.2.2.2⟩
 | d+1,p,hp=>by
   have h:=seqF_ok (d:=d+1) (L:=L) (sub:=fun q=>some (blockF L d q)) (fun p r hp h=>by
    obtain rfl:=Option.some.inj h
    have:=block_ok L d p hp
    exact ⟨this.1,this.2.1,by have:=this.2.2.1;omega⟩) (L.length+1) p (by omega)
   rw [blockF]
   exact ⟨h.1,h.2.1,by have:=h.2.2.1;omega,h.2.2.2⟩
end Go.Proofs.YtkbbmjcfgcfejaaGreat
set_option linter.unusedVariables false
set_option linter.unusedSimpArgs false
namespace Go.Proofs.YtkbbmjcfgcfejaaGreat
open Go.RowKit
set_option maxRecDepth 100000 in
set_option maxHeartbeats 1600000 in
theorem progValidS_any (d:Nat) {S:Nat→Prop} (v:Value) (l:List (Cm d)) (w:World) (h:RL w S v l) (hs:szC d l≤1000000000000000000) (hd:d≤100) :
 Calls Tryz.prog 94 #[v] w fun e w'=>e=.returned (.bool (progOkB l))∧Below w.heap.size w w':=by
 obtain ⟨a,cap,rfl⟩:=h.form
 have HR:=Lib.hid h
 clear h
 go_enter Tryz.func94,Tryz.ntmps94
 go_wp2_with fail
 refine (l8Shape_any d _ l 4 _ HR.out (by decide) (by omega)).mono ?_
 rintro e w2 ⟨rfl,hb⟩
 cases e1:shpB d l 4
 · go_wp2
   go_ret
   exact ⟨by rw [progOkB,e1];rfl,hb⟩
 · go_wp2_with fail
   refine (l8Count_any d _ l 4 _ (HR.out.keep hb) hs (by decide) (by omega)).mono ?_
   rintro e w3 ⟨rfl,hb2⟩
   go_wp2
   go_ret
   exact ⟨by rw [progOkB,e1];simp;omega,bt hb hb2⟩
theorem btl_10:(⟨#[10]⟩:ByteArray)=btx [10]:=rfl
theorem btl_32_119_105_116_104_32:(⟨#[32,119,105,116,104,32]⟩:ByteArray)=btx [32,119,105,116,104,32]:=rfl
theorem btl_58_61:(⟨#[58,61]⟩:ByteArray)=btx [58,61]:=rfl
theorem btl_58_61_91:(⟨#[58,61,91]⟩:ByteArray)=btx [58,61,91]:=rfl
theorem btl_91:(⟨#[91]⟩:ByteArray)=btx [91]:=rfl
theorem btl_93:(⟨#[93]⟩:ByteArray)=btx [93]:=rfl
theorem btl_93_58_61:(⟨#[93,58,61]⟩:ByteArray)=btx [93,58,61]:=rfl
theorem btl_101_108_115_101_10:(⟨#[101,108,115,101,10]⟩:ByteArray)=btx [101,108,115,101,10]:=rfl
theorem btl_101_110_100_10:(⟨#[101,110,100,10]⟩:ByteArray)=btx [101,110,100,10]:=rfl
theorem btl_102_114_101_101_32:(⟨#[102,114,101,101,32]⟩:ByteArray)=btx [102,114,101,101,32]:=rfl
theorem btl_105_102_32:(⟨#[105,102,32]⟩:ByteArray)=btx [105,102,32]:=rfl
theorem btl_110_101_119_32:(⟨#[110,101,119,32]⟩:ByteArray)=btx [110,101,119,32]:=rfl
theorem btl_119_104_105_108_101_32:(⟨#[119,104,105,108,101,32]⟩:ByteArray)=btx [119,104,105,108,101,32]:=rfl
attribute [local go_sem] btx_app btx_nil btl_10 btl_32_119_105_116_104_32 btl_58_61 btl_58_61_91 btl_91 btl_93 btl_93_58_61 btl_101_108_115_101_10 btl_101_110_100_10 btl_102_114_101_101_32 btl_105_102_32 btl_110_101_119_32 btl_119_104_105_108_101_32
set_option maxRecDepth 100000 in
set_option maxHeartbeats 6400000 in
theorem l8Line_any {d:Nat} {S1 S2:Nat→Prop} (c:Cm (d+1)) (f1 f2 x y:Value) (w:World) (h1:RL w S1 f1 c.inv.1) (h2:RL w S2 f2 c.inv.2) (hx:∃ a n k,x=.slice a n k) (hy:∃ a n k,y=.slice a n k) (hh:headOk c=true) :
 Calls Tryz.prog 294 #[.agg #[.int .i64 c.kind,.int .i64 c.a,.int .i64 c.b,.bool c.test.1,.int .i64 c.test.2.1,.int .i64 c.test.2.2,f1,f2,x,y]] w fun e w'=>e=.returned (.string (btx (lineT c)))∧Below w.heap.size w w':=by
 obtain ⟨a1,c1,rfl⟩:=h1.form
 obtain ⟨a2,c2,rfl⟩:=h2.form
 obtain ⟨a3,n3,c3,rfl⟩:=hx
 obtain ⟨a4,n4,c4,rfl⟩:=hy
 have HR1:=Lib.hid h1
 have HR2:=Lib.hid h2
 have hbA:=below_alloc w (.cells #[.int .i64 c.kind,.int .i64 c.a,.int .i64 c.b,.bool c.test.1,.int .i64 c.test.2.1,.int .i64 c.test.2.2,.slice a1 c.inv.1.length c1,.slice a2 c.inv.2.length c2,.slice a3 n3 c3,.slice a4 n4 c4] 63)
 have HB:=Lib.hid hbA
 have HH:=Lib.hid hh
 clear h1 h2 hbA hh
 go_enter Tryz.func294,Tryz.ntmps294
 go_wp2_with fail
 refine (termNameS_any _ _).mono ?_
 rintro e w' ⟨rfl,rfl⟩
 go_wp2_with fail
 refine (termNameS_any _ _).mono ?_
 rintro e w' ⟨rfl,rfl⟩
 by_cases z1:c.kind=1
 · have Z1:=Lib.hid z1
   have y1:(c.kind == 1)=true:=by simp [z1]
   clear z1
   have la:=termT_len c.a
   have lb:=termT_len c.b
   obtain ⟨m,hm⟩:∃ m,(termT c.a).length=m:=⟨_,rfl⟩
   obtain ⟨n,hn⟩:∃ n,(termT c.b).length=n:=⟨_,rfl⟩
   rw [hm] at la
   rw [hn] at lb
   have z0:(btx (termT c.a)).size=m:=hm
   have z1:(btx ([58,61])).size=2:=rfl
   have z2:(btx (termT c.a ++ ([58,61]))).size=m+2:=by simp only [btx_size,List.length_append,hm,hn,List.length_cons,List.length_nil] <;> omega
   have zc1:(9223372036854775807 < m+2)=False:=by simp;omega
   have z3:(btx (termT c.b)).size=n:=hn
   have z4:(btx (termT c.a ++ ([58,61] ++ (termT c.b)))).size=m+2+n:=by simp only [btx_size,List.length_append,hm,hn,List.length_cons,List.length_nil] <;> omega
   have z5:(btx (termT c.a ++ (58 :: 61 :: (termT c.b)))).size=m+2+n:=by simp only [btx_size,List.length_append,hm,hn,List.length_cons,List.length_nil] <;> omega
   have zc2:(9223372036854775807 < m+2+n)=False:=by simp;omega
   clear hm hn
   go_wp2
   go_ret
   exact ⟨congrArg (fun z=>Ending.returned (.string (btx z))) (by rw [lineT,if_pos Z1.out];simp),HB.out⟩
 have Z1:=Lib.hid z1
 have y1:(c.kind == 1)=false:=by simp [z1]
 clear z1
 by_cases z2:c.kind=2
 · have Z2:=Lib.hid z2
   have y2:(c.kind == 2)=true:=by simp [z2]
   clear z2
   have la:=termT_len c.a
   have lb:=termT_len c.b
   obtain ⟨m,hm⟩:∃ m,(termT c.a).length=m:=⟨_,rfl⟩
   obtain ⟨n,hn⟩:∃ n,(termT c.b).length=n:=⟨_,rfl⟩
   rw [hm] at la
   rw [hn] at lb
   have z0:(btx (termT c.a)).size=m:=hm
   have z1:(btx ([58,61,91])).size=3:=rfl
   have z2:(btx (termT c.a ++ ([58,61,91]))).size=m+3:=by simp only [btx_size,List.length_append,hm,hn,List.length_cons,List.length_nil] <;> omega
   have zc1:(9223372036854775807 < m+3)=False:=by simp;omega
   have z3:(btx (termT c.b)).size=n:=hn
   have z4:(btx (termT c.a ++ ([58,61,91] ++ (termT c.b)))).size=m+3+n:=by simp only [btx_size,List.length_append,hm,hn,List.length_cons,List.length_nil] <;> omega
   have z5:(btx (termT c.a ++ (58 :: 61 :: 91 :: (termT c.b)))).size=m+3+n:=by simp only [btx_size,List.length_append,hm,hn,List.length_cons,List.length_nil] <;> omega
   have zc2:(9223372036854775807 < m+3+n)=False:=by simp;omega
   have z6:(btx ([93])).size=1:=rfl
   have z7:(btx (termT c.a ++ ([58,61,91] ++ (termT c.b ++ ([93]))))).size=m+3+n+1:=by simp only [btx_size,List.length_append,hm,hn,List.length_cons,List.length_nil] <;> omega
   have z8:(btx (termT c.a ++ (58 :: 61 :: 91 :: (termT c.b ++ ([93]))))).size=m+3+n+1:=by simp only [btx_size,List.length_append,hm,hn,List.length_cons,List.length_nil] <;> omega
   have zc3:(9223372036854775807 < m+3+n+1)=False:=by simp;omega
   clear hm hn
   go_wp2
   go_ret
   exact ⟨congrArg (fun z=>Ending.returned (.string (btx z))) (by rw [lineT,if_neg Z1.out,if_pos Z2.out];simp),HB.out⟩
 have Z2:=Lib.hid z2
 have y2:(c.kind == 2)=false:=by simp [z2]
 clear z2
 by_cases z3:c.kind=3
 · have Z3:=Lib.hid z3
   have y3:(c.kind == 3)=true:=by simp [z3]
   clear z3
   have la:=termT_len c.a
   have lb:=termT_len c.b
   obtain ⟨m,hm⟩:∃ m,(termT c.a).length=m:=⟨_,rfl⟩
   obtain ⟨n,hn⟩:∃ n,(termT c.b).length=n:=⟨_,rfl⟩
   rw [hm] at la
   rw [hn] at lb
   have z0:(btx ([91])).size=1:=rfl
   have z1:(btx (termT c.a)).size=m:=hm
   have z2:(btx ([91] ++ (termT c.a))).size=1+m:=by simp only [btx_size,List.length_append,hm,hn,List.length_cons,List.length_nil] <;> omega
   have z3:(btx (91 :: (termT c.a))).size=1+m:=by simp only [btx_size,List.length_append,hm,hn,List.length_cons,List.length_nil] <;> omega
   have zc1:(9223372036854775807 < 1+m)=False:=by simp;omega
   have z4:(btx ([93,58,61])).size=3:=rfl
   have z5:(btx ([91] ++ (termT c.a ++ ([93,58,61])))).size=1+m+3:=by simp only [btx_size,List.length_append,hm,hn,List.length_cons,List.length_nil] <;> omega
   have z6:(btx (91 :: (termT c.a ++ ([93,58,61])))).size=1+m+3:=by simp only [btx_size,List.length_append,hm,hn,List.length_cons,List.length_nil] <;> omega
   have zc2:(9223372036854775807 < 1+m+3)=False:=by simp;omega
   have z7:(btx (termT c.b)).size=n:=hn
   have z8:(btx ([91] ++ (termT c.a ++ ([93,58,61] ++ (termT c.b))))).size=1+m+3+n:=by simp only [btx_size,List.length_append,hm,hn,List.length_cons,List.length_nil] <;> omega
   have z9:(btx (91 :: (termT c.a ++ (93 :: 58 :: 61 :: (termT c.b))))).size=1+m+3+n:=by simp only [btx_size,List.length_append,hm,hn,List.length_cons,List.length_nil] <;> omega
   have zc3:(9223372036854775807 < 1+m+3+n)=False:=by simp;omega
   clear hm hn
   go_wp2
   go_ret
   exact ⟨congrArg (fun z=>Ending.returned (.string (btx z))) (by rw [lineT,if_neg Z1.out,if_neg Z2.out,if_pos Z3.out];simp),HB.out⟩
 have Z3:=Lib.hid z3
 have y3:(c.kind == 3)=false:=by simp [z3]
 clear z3
 by_cases z4:c.kind=4
 · have Z4:=Lib.hid z4
   have y4:(c.kind == 4)=true:=by simp [z4]
   clear z4
   have la:=termT_len c.a
   have lb:=termT_len c.b
   obtain ⟨m,hm⟩:∃ m,(termT c.a).length=m:=⟨_,rfl⟩
   obtain ⟨n,hn⟩:∃ n,(termT c.b).length=n:=⟨_,rfl⟩
   rw [hm] at la
   rw [hn] at lb
   have z0:(btx ([110,101,119,32])).size=4:=rfl
   have z1:(btx (termT c.a)).size=m:=hm
   have z2:(btx ([110,101,119,32] ++ (termT c.a))).size=4+m:=by simp only [btx_size,List.length_append,hm,List.length_cons,List.length_nil] <;> omega
   have z3:(btx (110 :: 101 :: 119 :: 32 :: (termT c.a))).size=4+m:=by simp only [btx_size,List.length_append,hm,List.length_cons,List.length_nil] <;> omega
   have zc1:(9223372036854775807 < 4+m)=False:=by simp;omega
   clear hm hn
   go_wp2
   go_ret
   exact ⟨congrArg (fun z=>Ending.returned (.string (btx z))) (by rw [lineT,if_neg Z1.out,if_neg Z2.out,if_neg Z3.out,if_pos Z4.out];simp),HB.out⟩
 have Z4:=Lib.hid z4
 have y4:(c.kind == 4)=false:=by simp [z4]
 clear z4
 by_cases z5:c.kind=5
 · have Z5:=Lib.hid z5
   have y5:(c.kind == 5)=true:=by simp [z5]
   clear z5
   have la:=termT_len c.a
   have lb:=termT_len c.b
   obtain ⟨m,hm⟩:∃ m,(termT c.a).length=m:=⟨_,rfl⟩
   obtain ⟨n,hn⟩:∃ n,(termT c.b).length=n:=⟨_,rfl⟩
   rw [hm] at la
   rw [hn] at lb
   have z0:(btx ([102,114,101,101,32])).size=5:=rfl
   have z1:(btx (termT c.a)).size=m:=hm
   have z2:(btx ([102,114,101,101,32] ++ (termT c.a))).size=5+m:=by simp only [btx_size,List.length_append,hm,List.length_cons,List.length_nil] <;> omega
   have z3:(btx (102 :: 114 :: 101 :: 101 :: 32 :: (termT c.a))).size=5+m:=by simp only [btx_size,List.length_append,hm,List.length_cons,List.length_nil] <;> omega
   have zc1:(9223372036854775807 < 5+m)=False:=by simp;omega
   clear hm hn
   go_wp2
   go_ret
   exact ⟨congrArg (fun z=>Ending.returned (.string (btx z))) (by rw [lineT,if_neg Z1.out,if_neg Z2.out,if_neg Z3.out,if_neg Z4.out,if_pos Z5.out];simp),HB.out⟩
 have Z5:=Lib.hid z5
 have y5:(c.kind == 5)=false:=by simp [z5]
 clear z5
 by_cases z6:c.kind=6
 · have Z6:=Lib.hid z6
   have y6:(c.kind == 6)=true:=by simp [z6]
   clear z6
   go_wp2_with fail
   refine (l1TextS_any c.test _).mono ?_
   rintro e w2 ⟨rfl,hb2⟩
   have la:=factT_len c.test
   obtain ⟨m,hm⟩:∃ m,(factX c.test).length=m:=⟨_,rfl⟩
   rw [hm] at la
   have z0:(btx ([105,102,32])).size=3:=rfl
   have z1:(btx (factX c.test)).size=m:=hm
   have z2:(btx ([105,102,32] ++ (factX c.test))).size=3+m:=by simp only [btx_size,List.length_append,hm,List.length_cons,List.length_nil] <;> omega
   have z3:(btx (105 :: 102 :: 32 :: (factX c.test))).size=3+m:=by simp only [btx_size,List.length_append,hm,List.length_cons,List.length_nil] <;> omega
   have zc1:(9223372036854775807 < 3+m)=False:=by simp;omega
   clear hm
   go_wp2
   go_ret
   exact ⟨congrArg (fun z=>Ending.returned (.string (btx z))) (by rw [lineT,if_neg Z1.out,if_neg Z2.out,if_neg Z3.out,if_neg Z4.out,if_neg Z5.out,if_pos Z6.out];simp),bt HB.out hb2⟩
 have Z6:=Lib.hid z6
 have y6:(c.kind == 6)=false:=by simp [z6]
 clear z6
 have hab:asnB c.inv=true:=by
  have h:=HH.out
  rw [headOk,if_neg Z6.out] at h
  split at h
  · simp only [Bool.and_eq_true] at h;exact h.2.2.2.1
  · have:=basic_kind h;have:=Z1.out;have:=Z2.out;have:=Z3.out;have:=Z4.out;have:=Z5.out;omega
 have hal:=asnB_len hab
 have hlA:=asnT_len c.inv
 have la:=factT_len c.test
 obtain ⟨m,hm⟩:∃ m,(factX c.test).length=m:=⟨_,rfl⟩
 obtain ⟨n,hn⟩:∃ n,(asnT c.inv).length=n:=⟨_,rfl⟩
 rw [hm] at la
 rw [hn] at hlA
 have z0:(btx ([119,104,105,108,101,32])).size=6:=rfl
 have z1:(btx (factX c.test)).size=m:=hm
 have z2:(btx ([119,104,105,108,101,32] ++ (factX c.test))).size=6+m:=by simp only [btx_size,List.length_append,hm,hn,List.length_cons,List.length_nil] <;> omega
 have z3:(btx (119 :: 104 :: 105 :: 108 :: 101 :: 32 :: (factX c.test))).size=6+m:=by simp only [btx_size,List.length_append,hm,hn,List.length_cons,List.length_nil] <;> omega
 have zc1:(9223372036854775807 < 6+m)=False:=by simp;omega
 have z4:(btx ([32,119,105,116,104,32])).size=6:=rfl
 have z5:(btx ([119,104,105,108,101,32] ++ (factX c.test ++ ([32,119,105,116,104,32])))).size=6+m+6:=by simp only [btx_size,List.length_append,hm,hn,List.length_cons,List.length_nil] <;> omega
 have z6:(btx (119 :: 104 :: 105 :: 108 :: 101 :: 32 :: (factX c.test ++ ([32,119,105,116,104,32])))).size=6+m+6:=by simp only [btx_size,List.length_append,hm,hn,List.length_cons,List.length_nil] <;> omega
 have zc2:(9223372036854775807 < 6+m+6)=False:=by simp;omega
 have z7:(btx (asnT c.inv)).size=n:=hn
 have z8:(btx ([119,104,105,108,101,32] ++ (factX c.test ++ ([32,119,105,116,104,32] ++ (asnT c.inv))))).size=6+m+6+n:=by simp only [btx_size,List.length_append,hm,hn,List.length_cons,List.length_nil] <;> omega
 have z9:(btx (119 :: 104 :: 105 :: 108 :: 101 :: 32 :: (factX c.test ++ (32 :: 119 :: 105 :: 116 :: 104 :: 32 :: (asnT c.inv))))).size=6+m+6+n:=by simp only [btx_size,List.length_append,hm,hn,List.length_cons,List.length_nil] <;> omega
 have zc3:(9223372036854775807 < 6+m+6+n)=False:=by simp;omega
 have HAL:=Lib.hid hal
 clear hm hn hab hal hlA
 go_upto_region 16 with fail
 refine wp_region_ext (by kernel_rfl) (by kernel_rfl) ?_
 repeat (go_big_quiet_step (first
  | (go_at_call 291;exact ext_c (l1TextS_any _ _))
  | (go_at_call 272;exact ext_c (l3TextS_any _ _ c.inv _ ((HR1.out.keep HB.out).keep (ext_below _ _)) ((HR2.out.keep HB.out).keep (ext_below _ _)) HAL.out.1 HAL.out.2))))
 refine wpQuiet_nil ?_
 intro w2 hb2
 go_wp2
 go_ret
 exact ⟨congrArg (fun z=>Ending.returned (.string (btx z))) (by rw [lineT,if_neg Z1.out,if_neg Z2.out,if_neg Z3.out,if_neg Z4.out,if_neg Z5.out,if_neg Z6.out];simp),bt HB.out hb2⟩
end Go.Proofs.YtkbbmjcfgcfejaaGreat
