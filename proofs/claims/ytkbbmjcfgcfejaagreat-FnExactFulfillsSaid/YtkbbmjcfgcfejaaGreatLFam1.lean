/- Plain: texts cut at a sign and joined again; the text of a proof of a case. -/
import Derived.Laws.CopyOwn
import Derived.Laws.Tables
import Derived.Deep.WholeRow
import Derived.Deep.MidRow
import Derived.Test.YtkbbmjcfgcfejaaGreatLCmd8
set_option linter.unusedVariables false
set_option linter.unusedSimpArgs false
set_option maxRecDepth 100000
set_option maxHeartbeats 12800000
namespace Go.Proofs.YtkbbmjcfgcfejaaGreat
open Go.RowKit
def Wp (b:UInt8):List (List UInt8)→List (List UInt8)
 | []=>[[b]]
 | h :: t=>(b :: h) :: t
def Ux (c:UInt8):List UInt8→List (List UInt8)
 | []=>[[]]
 | b :: r=>if b=c then [] :: Ux c r else Wp b (Ux c r)
def WK (n:Int):List UInt8:=if n < 0 then [45] else [UInt8.ofNat (48+n.toNat)]
abbrev Pf:=List Int × List (List Int)
structure Shaped (p:Pf):Prop where
 c9:p.1.length=9
 cl:∀ n ∈ p.1,-1≤n∧n≤8
 u6:p.2.length≤6
 u9:∀ u ∈ p.2,u.length≤9
 ul:∀ u ∈ p.2,∀ n ∈ u,0≤n∧n≤8
structure ReadsAs (ps:List (List UInt8)) (l:List Int):Prop where
 len:l.length=min ps.length 9
 at_:∀ i (n:Int),i < l.length→-1≤n→n≤8→gd ps i=WK n→gi l i=n
end Go.Proofs.YtkbbmjcfgcfejaaGreat
namespace Go.Proofs.YtkbbmjcfgcfejaaGreat
open Go.RowKit
def Fg (l:List UInt8):ByteArray:=⟨l.toArray⟩
theorem JY (l m:List UInt8):Fg l ++ Fg m=Fg (l ++ m):=by
 apply ByteArray.ext;rw [ByteArray.data_append];exact Array.toList_inj.1 (by simp [Fg])
theorem Eg:(⟨#[]⟩:ByteArray)=Fg []:=rfl
theorem VK:(⟨#[32]⟩:ByteArray)=Fg [32]:=rfl
def SN (t:List UInt8) (f k:Nat):List UInt8:=(t.take k).drop f
theorem DT (t:List UInt8) (f k:Nat):(Fg t).extract f k=Fg (SN t f k):=by
 apply ByteArray.ext;rw [ByteArray.data_extract];apply Array.toList_inj.1;simp [Fg,SN,List.drop_take]
structure CutAt (c:UInt8) (t:List UInt8) (k f:Nat) (ds:List (List UInt8)):Prop where
 le:f≤k
 cut:Ux c t=ds ++ Ux c (t.drop f)
 free:c ∉ SN t f k
attribute [local go_sem] DT
end Go.Proofs.YtkbbmjcfgcfejaaGreat
namespace Go.Proofs.YtkbbmjcfgcfejaaGreat
open Go.RowKit
attribute [local go_sem] JY
theorem VL:(⟨#[61]⟩:ByteArray)=Fg [61]:=rfl
theorem SO:(⟨#[33,61]⟩:ByteArray)=Fg [33,61]:=rfl
attribute [local go_sem] VL SO
attribute [local go_sem] DT
attribute [local go_sem] DT
end Go.Proofs.YtkbbmjcfgcfejaaGreat
namespace Go.Proofs.YtkbbmjcfgcfejaaGreat
open Go.RowKit
attribute [local go_sem] Eg DT
attribute [local go_sem] Eg DT
end Go.Proofs.YtkbbmjcfgcfejaaGreat
namespace Go.Proofs.YtkbbmjcfgcfejaaGreat
open Go.RowKit
theorem Uy:(⟨#[32,38,32]⟩:ByteArray)=Fg [32,38,32]:=rfl
theorem Uz:(⟨#[32,124,32]⟩:ByteArray)=Fg [32,124,32]:=rfl
theorem SP:(⟨#[32,42,32]⟩:ByteArray)=Fg [32,42,32]:=rfl
theorem UA:(⟨#[32,124,32,101,109,112]⟩:ByteArray)=Fg [32,124,32,101,109,112]:=rfl
theorem SQ:(⟨#[116,114,117,101]⟩:ByteArray)=Fg [116,114,117,101]:=rfl
theorem VM:(⟨#[62]⟩:ByteArray)=Fg [62]:=rfl
theorem UB:(⟨#[126]⟩:ByteArray)=Fg [126]:=rfl
attribute [local go_sem] JY Eg Uy Uz SP UA SQ VM UB
attribute [local go_sem] Eg
end Go.Proofs.YtkbbmjcfgcfejaaGreat
namespace Go.Proofs.YtkbbmjcfgcfejaaGreat
open Go.RowKit
attribute [local go_sem] Eg
end Go.Proofs.YtkbbmjcfgcfejaaGreat
namespace Go.Proofs.YtkbbmjcfgcfejaaGreat
open Go.RowKit
def Wq:List UInt8:=[116,114,117,101]
def WL:List UInt8:=[101,109,112]
theorem UC:(⟨#[116,114,117,101]⟩:ByteArray)=Fg Wq:=rfl
theorem UD:(⟨#[101,109,112]⟩:ByteArray)=Fg WL:=rfl
theorem UE:(⟨#[124]⟩:ByteArray)=Fg [124]:=rfl
attribute [local go_sem] Eg UC UD UE
end Go.Proofs.YtkbbmjcfgcfejaaGreat
namespace Go.Proofs.YtkbbmjcfgcfejaaGreat
open Go.RowKit
theorem Ry:(⟨#[58,61]⟩:ByteArray)=Fg [58,61]:=rfl
theorem UF:(⟨#[110,101,119]⟩:ByteArray)=Fg [110,101,119]:=rfl
theorem SR:(⟨#[102,114,101,101]⟩:ByteArray)=Fg [102,114,101,101]:=rfl
theorem VN:(⟨#[105,102]⟩:ByteArray)=Fg [105,102]:=rfl
theorem SS:(⟨#[32,119,105,116,104,32]⟩:ByteArray)=Fg [32,119,105,116,104,32]:=rfl
attribute [local go_sem] Ry VK UF SR VN SS
end Go.Proofs.YtkbbmjcfgcfejaaGreat
namespace Go.Proofs.YtkbbmjcfgcfejaaGreat
open Go.RowKit
theorem Rz (w:World) (B e:Nat) (hB:B≤w.heap.size):(w.alloc (.cells #[] e)).ownsRow B e 1 (.slice (some ⟨w.heap.size,0,none⟩) 0 0) 0 (ints []):=by
 have:=World.ownsRow_lit (size:=1) w #[] 0 hB (by unfold maxLen;omega) rfl (e:=e);simpa [ints] using this
end Go.Proofs.YtkbbmjcfgcfejaaGreat
namespace Go.Proofs.YtkbbmjcfgcfejaaGreat
end Go.Proofs.YtkbbmjcfgcfejaaGreat
namespace Go.Proofs.YtkbbmjcfgcfejaaGreat
open Go.RowKit
theorem B8 {w:World} {B m:Nat} {v:Value} (h:w.ownsRow B 4 1 v 9 (Av m)):∃ g cap,v=.slice (some ⟨g,0,none⟩) 9 cap:=by
 rcases h.2 with ⟨_,h⟩ | ⟨g,cap,_,rfl,_⟩
 · omega
 · exact ⟨g,cap,rfl⟩
section
variable {w0 w w':World} {g q q' B bA bB:Nat} {v1 v2:Value} {l1 l2:List Int}
end
theorem UG {w:World} {b o n c:Nat} {l:List Int} (h:RInts w (.slice (some ⟨b,o,none⟩) n c) l):∀ j u,(ints l)[j]?=some u→w.cell? ((⟨b,o,none⟩:Addr).add j)=some u:=by
 intro j u hj;have hjl:j < l.length:=by
  rcases Nat.lt_or_ge j l.length with h | h
  · exact h
  · rw [List.getElem?_eq_none (by simpa [ints] using h)] at hj;cases hj
 have hu:u=.int .i64 (gi l j):=by
  simp [ints,hjl] at hj;rw [G2 hjl,← hj]
 have:=(h.at j hjl).2;have e:(⟨b,o,none⟩:Addr).add j=⟨b,o+j,none⟩:=by unfold Addr.add;split <;> simp_all
 rw [e,this,hu]
theorem RInts.news {w:World} {b o c:Nat} {l:List Int} (h:RInts w (.slice (some ⟨b,o,none⟩) l.length c) l):∀ j u,(ints l)[j]?=some u→w.cell? ((⟨b,o,none⟩:Addr).add j)=some u:=UG h
section
variable {w0 w:World} {g q B bA bB:Nat} {v1 v2:Value} {l1 l2:List Int}
end
end Go.Proofs.YtkbbmjcfgcfejaaGreat
namespace Go.Proofs.YtkbbmjcfgcfejaaGreat
end Go.Proofs.YtkbbmjcfgcfejaaGreat
namespace Go.Proofs.YtkbbmjcfgcfejaaGreat
open Go.RowKit
def UH (hs:List Int) (t:Int):Nat→Int→Option (List Int)
 | 0,a=>if a=t then some [] else none
 | k+1,a=>if a=t then some [] else if Wk hs a=true then (UH hs t k (ct hs a)).map (a :: ·) else none
def WM (hs:List Int) (f t:Int):Bool:=(UH hs t 8 f).isSome
def WN (hs:List Int) (f t:Int):List Int:=(UH hs t 8 f).getD []
end Go.Proofs.YtkbbmjcfgcfejaaGreat
namespace Go.Proofs.YtkbbmjcfgcfejaaGreat
end Go.Proofs.YtkbbmjcfgcfejaaGreat
namespace Go.Proofs.YtkbbmjcfgcfejaaGreat
open Go.RowKit
theorem Au {w:World} {b:Nat} {u v:Value} (x y:Value) (h0:w.cell? ⟨b,0,none⟩=some u) (h1:w.cell? ⟨b,1,none⟩=some v) :
 ((w.setCell ⟨b,0,none⟩ x).setCell ⟨b,1,none⟩ y).cell? ⟨b,0,none⟩=some x∧((w.setCell ⟨b,0,none⟩ x).setCell ⟨b,1,none⟩ y).cell? ⟨b,1,none⟩=some y:=by
 constructor
 · rw [World.cell?_setCell_other _ _ _ _ Sp,World.cell?_setCell_same _ _ _ h0]
 · exact World.cell?_setCell_same _ _ _ (u:=v) (by rw [World.cell?_setCell_other _ _ _ _ (by simp)];exact h1)
abbrev CD (l:List Int):Array Value:=(ints l).toArray
theorem GG {w:World} {b:Nat} {T:TypeId} {l:List Int} (h:w.heap[b]?=some (.cells (CD l) T (0,0))) (i:Nat) (hi:i < l.length):w.cell? ⟨b,i,none⟩=some (.int .i64 (gi l i)):=by
 rw [cell_of_row w b i _ _ _ h];simp [ints,hi,G2]
theorem NE {w:World} {b:Nat} {T:TypeId} {l:List Int} (h:w.heap[b]?=some (.cells (CD l) T (0,0))) (i:Nat) (x:Int):(w.setCell ⟨b,i,none⟩ (.int .i64 x)).heap[b]?=some (.cells (CD (l.set i x)) T (0,0)):=by
 rw [heap_setCell_same w b i _ T _ h];congr 2
 simp [ints,List.map_set]
structure RnSt (w0 w:World) (bR bK g1 c1 g2 c2:Nat) (l1 l2:List Int):Prop where
 own:OwnSt w (bR+1) (.slice (some ⟨g1,0,none⟩) 8 c1) (.slice (some ⟨g2,0,none⟩) 8 c2) l1 l2
 len1:l1.length=8
 len2:l2.length=8
 lt1:bR < g1
 lt2:bR < g2
 ne1:¬ g1=bK
 ne2:¬ g2=bK
 low:w0.heap.size≤bR
 ltK:bR < bK
 boxR:w.heap[bR]?=some (.cells #[.slice none 0 0,.slice none 0 0] 75 (0,0))
 boxK:w.heap[bK]?=some (.cells #[.slice (some ⟨g1,0,none⟩) 8 c1,.slice (some ⟨g2,0,none⟩) 8 c2] 75 (0,0))
 bel:Below w0.heap.size w0 w
section
variable {w0 w w':World} {bR bK g1 c1 g2 c2:Nat} {l1 l2:List Int}
end
end Go.Proofs.YtkbbmjcfgcfejaaGreat
namespace Go.Proofs.YtkbbmjcfgcfejaaGreat
end Go.Proofs.YtkbbmjcfgcfejaaGreat
namespace Go.Proofs.YtkbbmjcfgcfejaaGreat
open Go.RowKit
end Go.Proofs.YtkbbmjcfgcfejaaGreat
namespace Go.Proofs.YtkbbmjcfgcfejaaGreat
abbrev WY:=List (Int × Int)
structure PI (ps:WY):Prop where
 adr:∀ q ∈ ps,(1≤q.1∧q.1≤8)∧(1≤q.2∧q.2≤8)
 bij:∀ q ∈ ps,∀ r ∈ ps,(q.1=r.1 ↔ q.2=r.2)
section
variable {vl hl p:List Int}
end
end Go.Proofs.YtkbbmjcfgcfejaaGreat
namespace Go.Proofs.YtkbbmjcfgcfejaaGreat
open Go.RowKit
def VO (vl hl:List Int) (x:Am):Bool:=if x.1=2 then WM hl (tv vl x.2.1) (tv vl x.2.2) else (ct hl (tv vl x.2.1) == tv vl x.2.2)
def SU (vl hl:List Int) (x:Am):List Int:=if x.1=2 then WN hl (tv vl x.2.1) (tv vl x.2.2) else if (ct hl (tv vl x.2.1) == tv vl x.2.2)=true then [tv vl x.2.1] else []
def setN (o:Option Nat):Nat:=o.getD 0
section
variable {w:World} {g t:Nat} {T:TypeId} {v1 v2 u1 u2:Value} {tl:List Int}
end
theorem E4 (w:World) (B:Nat) (hB:B≤w.heap.size) :
 (w.alloc (.cells #[.bool false,.bool false,.bool false,.bool false,.bool false,.bool false,.bool false,.bool false,.bool false] 4)).ownsRow B 4 1 (.slice (some ⟨w.heap.size,0,none⟩) 9 9) 9 (Av 0) :=
 World.ownsRow_lit (size:=1) w _ 9 hB (by unfold maxLen;omega) rfl
abbrev St:Type:=List Int × List Int
abbrev WZ:Type:=Int × St × Nat
theorem IY {n:Int}:BP n=true ↔ 1≤n∧n≤4:=by simp [BP]
theorem Eh {d:Nat} {c:Cm (d+1)} (h:AI c=true) (h6:¬ c.kind=6) (h7:¬ c.kind=7):Bs c=true:=by
 rwa [AI,if_neg h6,if_neg h7] at h
theorem DI {d:Nat} {l:List (Cm (d+1))} {D:Int} (h:AZ (d+1) l D=true):∀ c ∈ l,AI c=true∧AZ d c.body (D - 1)=true∧AZ d c.els (D - 1)=true:=fun c hc=>by
 rw [AZ,Bool.and_eq_true,List.all_eq_true] at h;have:=h.2 c hc;simpa only [Bool.and_eq_true] using this
theorem Pv {d:Nat} {c:Cm (d+1)} (h:Bs c=true):c.kind=1∨c.kind=2∨c.kind=3∨c.kind=4∨c.kind=5:=by
 simp only [Bs,Bool.and_eq_true,Bool.or_eq_true,decide_eq_true_eq] at h;omega
theorem EW:∀ (d:Nat) (l:List (Cm d)) (D:Int),AZ d l D=true→A9 d l D=C4 d l
 | 0,_,_,_=>rfl
 | d+1,l,D,h=>by
   have hs:=DI h;rw [AZ,Bool.and_eq_true,Bool.or_eq_true,decide_eq_true_eq,decide_eq_true_eq] at h;rw [A9,C4];split
   · have:∀ c ∈ l,1+A9 d (Cm.body c) (D - 1)+A9 d (Cm.els c) (D - 1)=1+C4 d (Cm.body c)+C4 d (Cm.els c):=fun c hc=>by
      rw [EW d _ _ (hs c hc).2.1,EW d _ _ (hs c hc).2.2]
     rw [List.map_congr_left this]
   · rcases h.1 with h1 | h1
     · omega
     · rw [List.eq_nil_of_length_eq_zero h1];rfl
abbrev W7 (d:Nat):Type:=List (Cm d) × Int
end Go.Proofs.YtkbbmjcfgcfejaaGreat
namespace Go.Proofs.YtkbbmjcfgcfejaaGreat
open Go.RowKit
theorem Gf (d:Nat) {S:Nat→Prop} (v:Value) (l:List (Cm d)) (w:World) (h:RL w S v l) (hs:C4 d l≤1000000000000000000) :
 Calls Tryz.prog 94 #[v] w fun e w'=>e=.returned (.bool (BY l))∧Below w.heap.size w w':=by
 obtain ⟨a,cap,rfl⟩:=h.form;have HR:=Ad h;clear h;go_enter Tryz.func94,Tryz.ntmps94
 go_wp2_with fail
 refine (NA d _ l 4 _ HR.o Dc).mono ?_;rintro e w2 ⟨rfl,hb⟩;cases e1:AZ d l 4
 · go_wp2
   go_ret;exact ⟨by rw [BY,e1];rfl,hb⟩
 · go_wp2_with fail
   refine (ND d _ l 4 _ (HR.o.keep hb) hs Dc).mono ?_;rintro e w3 ⟨rfl,hb2⟩;go_wp2;go_ret;exact ⟨by rw [BY,e1];simp;omega,bt hb hb2⟩
theorem SV:(⟨#[10]⟩:ByteArray)=Fg [10]:=rfl
theorem ET:(⟨#[32,119,105,116,104,32]⟩:ByteArray)=Fg [32,119,105,116,104,32]:=rfl
theorem RA:(⟨#[58,61]⟩:ByteArray)=Fg [58,61]:=rfl
theorem MI:(⟨#[58,61,91]⟩:ByteArray)=Fg [58,61,91]:=rfl
theorem VP:(⟨#[91]⟩:ByteArray)=Fg [91]:=rfl
theorem VQ:(⟨#[93]⟩:ByteArray)=Fg [93]:=rfl
theorem MJ:(⟨#[93,58,61]⟩:ByteArray)=Fg [93,58,61]:=rfl
theorem Dl:(⟨#[101,108,115,101,10]⟩:ByteArray)=Fg [101,108,115,101,10]:=rfl
theorem EA:(⟨#[101,110,100,10]⟩:ByteArray)=Fg [101,110,100,10]:=rfl
theorem FG:(⟨#[102,114,101,101,32]⟩:ByteArray)=Fg [102,114,101,101,32]:=rfl
theorem Km:(⟨#[105,102,32]⟩:ByteArray)=Fg [105,102,32]:=rfl
theorem Hf:(⟨#[110,101,119,32]⟩:ByteArray)=Fg [110,101,119,32]:=rfl
theorem EB:(⟨#[119,104,105,108,101,32]⟩:ByteArray)=Fg [119,104,105,108,101,32]:=rfl
attribute [local go_sem] JY Eg SV ET RA MI VP VQ MJ Dl EA FG Km Hf EB
end Go.Proofs.YtkbbmjcfgcfejaaGreat
namespace Go.Proofs.YtkbbmjcfgcfejaaGreat
open Go.RowKit
attribute [local go_sem] JY Eg SV Dl EA
theorem Pw {d:Nat} {l:List (Cm d)} (h:BY l=true):AZ d l 4=true∧C4 d l≤16:=by
 simp only [BY,Bool.and_eq_true,decide_eq_true_eq] at h;rw [EW d l 4 h.1] at h;exact h
attribute [local go_sem] Eg
end Go.Proofs.YtkbbmjcfgcfejaaGreat
namespace Go.Proofs.YtkbbmjcfgcfejaaGreat
open Go.RowKit
theorem Bj {S1 S2:Nat→Prop} (v1 v2:Value) (l1 l2:List Ap) (w:World) (h1:RL w S1 v1 l1) (h2:RL w S2 v2 l2) (hn:l1.length+l2.length≤16777216) :
 Calls Tryz.prog 68 #[v1,v2] w fun e w'=>∃ v,e=.returned v∧OO w' w.heap.size v (l1 ++ l2)∧Below w.heap.size w w':=by
 obtain ⟨a1,c1,rfl⟩:=h1.form;obtain ⟨a2,c2,rfl⟩:=h2.form;obtain ⟨i0,hi,hz0,hz1,hz2⟩:=info_parts IW;go_enter Tryz.func68,Tryz.ntmps68
 go_wp2_with (first
  | (at_make;refine wpList_make_own _ rfl _ _ 23 rfl w.heap.size 61 i0 (.agg #[.bool false,.int .i64 0,.int .i64 0]) 3 Tryz.underlying23 hi hz0 hz1 _ _ _ (l1.length+l2.length) rfl rfl Om (by rw [hz2];omega) (by unfold maxLen;omega) (Nat.le_refl _) ?_;intro w1 hown hgr;have hb1:=(AF hgr).below (B:=w.heap.size) (Nat.le_refl _) (by intro k _ e;cases e))
  | (at_builtin;refine MF (l:=l1) (n:=0) rfl (.tmp 12) (.tmp 13) _ rfl (B:=w.heap.size) A0 rfl hown rfl (h1.keep hb1) Om hb1.size ?_;intro v2 w2 n1 p1 q1 r1 f1 _;have hb2:=Ce hown f1 hb1 hb1.size;obtain ⟨xs,px,rx⟩:=Fz (MG (l:=l1) (LK p1) r1))
  | (at_builtin;refine MF (l:=l2) (n:=l1.length) rfl (.tmp 14) (.tmp 15) _ rfl (B:=w.heap.size) A0 rfl px rfl (h2.keep hb2) Om hb2.size ?_;intro v3 w3 n2 p2 q2 r2 f2 _))
 have hb3:=Ce px f2 hb2 hb2.size;have o3:=Nw p2 px.1 rx r2;go_ret;exact ⟨_,rfl,⟨_,o3,Ff v3⟩,hb3⟩
theorem Bx {S1 S2:Nat→Prop} (v1 v2:Value) (l1 l2:List Am) (w:World) (h1:RL w S1 v1 l1) (h2:RL w S2 v2 l2) (hn:l1.length+l2.length≤16777216) :
 Calls Tryz.prog 70 #[v1,v2] w fun e w'=>∃ v,e=.returned v∧OO w' w.heap.size v (l1 ++ l2)∧Below w.heap.size w w':=by
 obtain ⟨a1,c1,rfl⟩:=h1.form;obtain ⟨a2,c2,rfl⟩:=h2.form;obtain ⟨i0,hi,hz0,hz1,hz2⟩:=info_parts IX;go_enter Tryz.func70,Tryz.ntmps70
 go_wp2_with (first
  | (at_make;refine wpList_make_own _ rfl _ _ 24 rfl w.heap.size 118 i0 (.agg #[.int .i64 0,.int .i64 0,.int .i64 0]) 3 Tryz.underlying24 hi hz0 hz1 _ _ _ (l1.length+l2.length) rfl rfl Om (by rw [hz2];omega) (by unfold maxLen;omega) (Nat.le_refl _) ?_;intro w1 hown hgr;have hb1:=(AF hgr).below (B:=w.heap.size) (Nat.le_refl _) (by intro k _ e;cases e))
  | (at_builtin;refine MF (l:=l1) (n:=0) rfl (.tmp 12) (.tmp 13) _ rfl (B:=w.heap.size) A3 rfl hown rfl (h1.keep hb1) Om hb1.size ?_;intro v2 w2 n1 p1 q1 r1 f1 _;have hb2:=Ce hown f1 hb1 hb1.size;obtain ⟨xs,px,rx⟩:=Fz (MG (l:=l1) (LK p1) r1))
  | (at_builtin;refine MF (l:=l2) (n:=l1.length) rfl (.tmp 14) (.tmp 15) _ rfl (B:=w.heap.size) A3 rfl px rfl (h2.keep hb2) Om hb2.size ?_;intro v3 w3 n2 p2 q2 r2 f2 _))
 have hb3:=Ce px f2 hb2 hb2.size;have o3:=Nw p2 px.1 rx r2;go_ret;exact ⟨_,rfl,⟨_,o3,Ff v3⟩,hb3⟩
section
variable {α β:Type} [Own α] [Tid α] [Own β] [Tid β] {w w' w'':World} {B B1 B2:Nat} {v1 v2:Value} {l1:List α} {l2:List β} {f1 f2:List Nat} {a:List α × List β}
theorem OA.join (o1:OL w B1 v1 l1 f1) (n1:f1.Nodup) (o2:OL w' B2 v2 l2 f2) (n2:f2.Nodup) (hb:Below w.heap.size w w') (h2:w.heap.size≤B2) (hB1:B≤B1) (hB2:B≤B2):OA w' B v1 v2 (l1,l2) :=
 ⟨f1,f2,(o1.keep hb).mono hB1,o2.mono hB2,List.nodup_append.2 ⟨n1,n2,fun x hx y hy e=>by
   have q1:=(o1.lt x hx).2;have q2:=(o2.lt y hy).1;omega⟩⟩
theorem OA.setB (h:OA w B v1 v2 a) {p:Addr} {u:Value} (hp:p.block < B):OA (w.setCell p u) B v1 v2 a :=
 h.kept (Aw _ _ _) fun k h1 _ e=>by omega
theorem OA.res (h:OA w' B v1 v2 a) {R:Nat} (hR:R < B) (hB:w.heap.size≤R) (hb:Below w.heap.size w w') (x y:Value) :
 OA ((w'.setCell ⟨R,0,none⟩ x).setCell ⟨R,1,none⟩ y) w.heap.size v1 v2 a∧Below w.heap.size w ((w'.setCell ⟨R,0,none⟩ x).setCell ⟨R,1,none⟩ y) :=
 ⟨((h.setB hR).setB hR).mono Om,(hb.setCell hB _).setCell hB _⟩
end
theorem BG {S1 S2:Nat→Prop} (v1 v2:Value) (a:Aj) (w:World) (h1:RL w S1 v1 a.1) (h2:RL w S2 v2 a.2) (hn:a.1.length≤1048576) (hm:a.2.length≤1048576) :
 Calls Tryz.prog 149 #[.agg #[v1,v2]] w fun e w'=>∃ u1 u2,e=.returned (.agg #[u1,u2])∧OA w' w.heap.size u1 u2 a∧Below w.heap.size w w':=by
 obtain ⟨a1,a2⟩:=a;simp only at h1 h2 hn hm;obtain ⟨b1,c1,rfl⟩:=h1.form;obtain ⟨b2,c2,rfl⟩:=h2.form;go_enter Tryz.func149,Tryz.ntmps149
 go_wp2;have hc0:((w.alloc (.cells #[.slice b1 a1.length c1,.slice b2 a2.length c2] 26)).alloc (.cells #[.slice none 0 0,.slice none 0 0] 26)).cell? ⟨w.heap.size,0,none⟩=some (.slice b1 a1.length c1):=by simp [go_sem]
 have hc1:((w.alloc (.cells #[.slice b1 a1.length c1,.slice b2 a2.length c2] 26)).alloc (.cells #[.slice none 0 0,.slice none 0 0] 26)).cell? ⟨w.heap.size,1,none⟩=some (.slice b2 a2.length c2):=by simp [go_sem]
 have hA:=heap_alloc_new (w.alloc (.cells #[.slice b1 a1.length c1,.slice b2 a2.length c2] 26)) (.cells #[.slice none 0 0,.slice none 0 0] 26);have hW:Below w.heap.size w ((w.alloc (.cells #[.slice b1 a1.length c1,.slice b2 a2.length c2] 26)).alloc (.cells #[.slice none 0 0,.slice none 0 0] 26)):=ba (Aa _ _) _;have hz:((w.alloc (.cells #[.slice b1 a1.length c1,.slice b2 a2.length c2] 26)).alloc (.cells #[.slice none 0 0,.slice none 0 0] 26)).heap.size=w.heap.size+2:=by simp
 rw [World.size_alloc] at hA;generalize (w.alloc (.cells #[.slice b1 a1.length c1,.slice b2 a2.length c2] 26)).alloc (.cells #[.slice none 0 0,.slice none 0 0] 26)=w0 at *;have HA:=Ad hA;have HZ:=Ad hz;clear hA hz;go_region_held3 (fun w'=>w'.cell? ⟨w.heap.size,0,none⟩=some (.slice b1 a1.length c1)∧w'.cell? ⟨w.heap.size,1,none⟩=some (.slice b2 a2.length c2))
  (exact ⟨(Ck hc0),(Ck hc1)⟩)
  (first
    | (go_at_call 68;go_must (refine (Bj _ _ a1 [] _ (h1.keep (bt hW Bl)) (RL.nil _ (fun _=>True)) (by simp;omega)).mono ?_;rintro e w5 ⟨x1,rfl,⟨f1,o1,n1⟩,hb5'⟩;rw [List.append_nil] at o1;obtain ⟨d1,k1,rfl⟩:=o1.read.form;have hb5:Below w0.heap.size w0 w5:=bt Bl hb5';have hz5:=hb5.size))
    | (go_at_call 70;go_must (refine (Bx _ _ a2 [] _ (h2.keep (bt hW Bl)) (RL.nil _ (fun _=>True)) (by simp;omega)).mono ?_;rintro e w6 ⟨y1,rfl,⟨f2,o2,n2⟩,hb6'⟩;rw [List.append_nil] at o2;obtain ⟨d2,k2,rfl⟩:=o2.read.form;have hb6:Below w0.heap.size w0 w6:=bt Bl hb6';have hA6:=Ac HA.o hb6;have ha0:=Bd hA6;have ha1:=AY hA6;have haz:∀ i,w6.frozen? ⟨w.heap.size+1,i,none⟩=false:=BI hA6;have hlA:=Ae hA6;clear hA6)))
 all_goals
  have hz0:=HZ.o;have hz5:=hb5.size;have hz5':=hb5'.size;have HO:=Ad ((OA.join o1 n1 o2 n2 Bl (by first | exact Nat.le_refl _ | exact hb6'.size) (B:=w.heap.size+2) (by first | (simp;omega) | omega) (by first | (simp;omega) | omega)).res (R:=w.heap.size+1) Om Om (bt hW hb6) (.slice d1 a1.length k1) (.slice d2 a2.length k2));have r:=Au (.slice d1 a1.length k1) (.slice d2 a2.length k2) ha0 ha1;clear o1 n1 o2 n2 hb5 hb5' hb6 hb6';go_wp2;refine bodyPost_ret (v:=.agg #[.slice d1 a1.length k1,.slice d2 a2.length k2]) (by simp [results,Tryz.results149,go_sem,r.1,r.2]) rfl ?_;exact ⟨_,_,rfl,HO.o.1,HO.o.2⟩
theorem Wr (w:World) (x y:Value) (e:TypeId):0 < 1→∃ b o,some (⟨w.heap.size,0,none⟩:Addr)=some ⟨b,o,none⟩∧∀ j u,[x,y][j]?=some u→(w.alloc (.cells #[x,y] e)).cell? ⟨b,o+j,none⟩=some u:=fun _ =>
 ⟨w.heap.size,0,rfl,fun j u hj=>by
   match j,hj with
   | 0,hj=>simp at hj;subst hj;simp
   | 1,hj=>simp at hj;subst hj;simp⟩
theorem WO (a1 a2:Option Addr) (n1 c1 n2 c2:Nat):∀ u ∈ [Value.slice a1 n1 c1,Value.slice a2 n2 c2],u.oneCell'=true:=fun u hu=>by
 simp at hu;rcases hu with rfl | rfl <;> rfl
def Ws (l:List Aj):Prop:=∀ a ∈ l,a.1.length≤1048576∧a.2.length≤1048576
theorem Kn:(Tryz.prog.info? 26).map (fun i=>(i.zero,i.size,i.bytes))=some (some (.agg #[.slice none 0 0,.slice none 0 0]),2,48):=by kernel_rfl
theorem Cy:TI 170 26 2:=Nv Tryz.underlying170 Kn Dc rfl Dc
theorem EC {S:Nat→Prop} (v:Value) (l:List Aj) (w:World) (h:RL w S v l) (hsz:Ws l) (hn:l.length≤1048576) :
 Calls Tryz.prog 230 #[v] w fun e w'=>∃ v',e=.returned v'∧OO w' w.heap.size v' l∧Below w.heap.size w w':=by
 obtain ⟨a,c,rfl,_,_,hf⟩:=h.asnAt;have F1:=Ad hf;have HSZ:=Ad hsz;clear hf h hsz;obtain ⟨i0,hi,hz0,hz1,hz2⟩:=info_parts Kn;go_enter Tryz.func230,Tryz.ntmps230
 go_wp2_with (at_make;refine wpList_make_own _ rfl _ _ 170 rfl w.heap.size 26 i0 (.agg #[.slice none 0 0,.slice none 0 0]) 2 Tryz.underlying170 hi hz0 hz1 _ _ _ l.length rfl rfl rfl (by rw [hz2];omega) (by unfold maxLen;omega) (Nat.le_refl _) ?_;intro w1 hown hgr)
 have hb1:=(AF hgr).below (B:=w.heap.size) (Nat.le_refl _) (by intro k _ e;cases e);have hP:PL w1 w.heap.size (.slice (some ⟨w.heap.size,0,none⟩) 0 l.length) (l.take 0).length (l.take 0) (l.take 0).length:=PL.zero (α:=Aj) hown _;clear hown hi hz0 hz1 hz2 hgr;go_loopg [3,11] l.length (fun q x i wr=>∃ k:Nat,k+q=l.length∧i=.int .i64 k∧PL wr w.heap.size x (l.take k).length (l.take k) (l.take k).length∧Below w.heap.size w wr)
 case atStart=>exact ⟨0,by omega,rfl,hP,hb1⟩
 case round =>
  clear hb1 hP;obtain ⟨k,hk,rfl,hP,hb⟩:=hrel;have HK:=Ad hk;clear hk;by_cases hk8:k < l.length
  · obtain ⟨b1,o1,u1,u2,rfl,_,hbl1,hp1,hp2,r1,r2⟩:=F1.o k hk8
    obtain ⟨ua1,uc1,rfl⟩:=r1.form;obtain ⟨ua2,uc2,rfl⟩:=r2.form;replace hp1:=Ab hb hp1;replace hp2:=Ab hb hp2;(have hki:(k:Int) < (l.length:Int):=by omega);have hs:=hb.size;(have hzb:b1 < wr.heap.size:=by omega);have hse:=HSZ.o _ (Be hk8);have htk:=AT hk8;have HTK:=Ad htk;(have hlk:(l.take k).length≤k:=by rw [List.length_take];omega);obtain ⟨xs,fps,hr,hfl,hnd,ho⟩:=hP;have HP:=Ad (An hr (An hfl (An hnd ho)));clear hr hfl hnd ho htk;(go_wp2_with fail);refine (BG _ _ (gd l k) _ ((r1.keep hb).alloc _) ((r2.keep hb).alloc _) hse.1 hse.2).mono ?_;rintro e w5 ⟨z1,z2,rfl,⟨f1,f2,q1,q2,qn⟩,hb5⟩;obtain ⟨za1,zc1,rfl⟩:=q1.read.form;obtain ⟨za2,zc2,rfl⟩:=q2.read.form;have hb5':=bt (Aa _ _) hb5;have hbw:=bt hb hb5';have hzz:=hbw.size;have ho2:Own.own w5 (wr.heap.size) (gd l k) [.slice za1 (gd l k).1.length zc1,.slice za2 (gd l k).2.length zc2] (f1 ++ f2):=⟨[_],[_],f1,f2,rfl,rfl,⟨_,rfl,q1.mono Sp⟩,⟨_,rfl,q2.mono Sp⟩⟩;have hown5:=Ag (Ag HP.o.1 hb5') (Aa w5 (.cells #[.slice za1 (gd l k).1.length zc1,.slice za2 (gd l k).2.length zc2] 26));have HO2:=Ad (An ho2 (An qn hb5'));clear ho2 qn q1 q2 hb5 hb5';go_wp2_with (at_builtin;refine Fd (n:=(l.take k).length) (m:=1) (news:=[.slice za1 (gd l k).1.length zc1,.slice za2 (gd l k).2.length zc2]) rfl (.tmp 15) (.tmp 18) _ rfl (B:=w.heap.size) Cy rfl hown5 rfl rfl (Wr _ _ _ _) (WO _ _ _ _ _ _) Om (by simp;omega) ?_;intro v' w7 hr7 hf7 hl7)
    have hbb:=Ce hown5 hf7 (ba hbw _) (by simp;omega);have hPn:=PL.app (m:=[gd l k]) (fps2:=[f1 ++ f2]) HP.o.1 HP.o.2.1 HP.o.2.2.1 HP.o.2.2.2 (ba HO2.o.2.2 _) (fun i hi=>by
     (obtain rfl:i=0:=by simpa using hi);exact Own.okept HO2.o.1 (Below.fr (Aa _ _)) fun _ _ h=>h) rfl (by simpa using HO2.o.2.1) hs hf7 hr7 hl7
    rw [← HTK.o] at hPn;have HPN:=Ad hPn;clear hPn hr7 hf7 hl7 hown5;go_wp2;go_roundg (gk - 1)
    case rel=>exact ⟨k+1,by have:=HK.o;omega,by go_num,HPN.o,hbb⟩
    case measure=>have:=HK.o;omega
  · obtain rfl:k=l.length:=by have:=HK.o;omega
    rw [List.take_length] at hP;go_wp2;go_ret;exact ⟨_,rfl,hP.done,hb⟩
end Go.Proofs.YtkbbmjcfgcfejaaGreat
