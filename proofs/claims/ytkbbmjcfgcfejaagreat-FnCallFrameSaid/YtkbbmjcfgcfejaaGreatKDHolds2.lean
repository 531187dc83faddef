/- Walks: a text is drawn from a literal. -/
import Derived.Test.YtkbbmjcfgcfejaaGreatKBtxA
import Derived.Test.YtkbbmjcfgcfejaaGreatKDraw1
import Derived.Handy
import Derived.Test.YtkbbmjcfgcfejaaGreatKBase1
import Derived.Deep.RegionHeld3
import Derived.Deep.DeepMust
import Derived.Laws.CopyOwn
import Derived.Test.YtkbbmjcfgcfejaaGreatKData3
import Derived.Test.YtkbbmjcfgcfejaaGreatKAppF
set_option linter.unusedSimpArgs false
namespace Go.Proofs.YtkbbmjcfgcfejaaGreat
open Go.RowKit
def RStrs (w:World) (g:Nat) (l:List (List UInt8)):Prop:=∀ i,i < l.length→w.cell? ⟨g,i,none⟩=some (.string (btx (gd l i)))
theorem RStrs.kept {w w':World} {g:Nat} {l:List (List UInt8)} {S:Nat→Prop} (h:RStrs w g l) (hf:Fr S w w') (hg:¬ S g):RStrs w' g l:=fun i hi=>hf.cell hg (h i hi)
set_option maxHeartbeats 400000 in
theorem of_any (g q b m cap:Nat) (l:List (List UInt8)) (w:World) (h:Rdr w g q) (hq:q≤1073741824) (hm:l.length=m) (h0:0 < m) (h1:m≤1048576) (hb:¬ b=g) (hc:RStrs w b l) :
 Calls Tryz.prog 247 #[.pointer (some ⟨g,0,none⟩),.slice (some ⟨b,0,none⟩) m cap] w fun e w'=>∃ x,x ∈ l∧e=.returned (.string (btx x))∧Rdr w' g (q+1)∧Fr (fun j=>j=g) w w':=by
 have HC:=Lib.hid hc
 have HM0:=Lib.hid hm
 clear hc hm
 go_enter Tryz.func247,Tryz.ntmps247
 go_wp2_with fail
 refine (pick_any g q _ _ h hq (by omega) (by omega)).mono ?_
 rintro e w' ⟨k,rfl,hk,hr,hf⟩
 have hck:=HC.out.kept hf (by simpa using hb) k (by have:=HM0.out;omega)
 have hmem:gd l k ∈ l:=gd_mem (by have:=HM0.out;omega)
 have HM:=Lib.hid hmem
 clear hmem
 go_wp2
 go_ret
 exact ⟨gd l k,HM.out,rfl,hr,hf⟩
end Go.Proofs.YtkbbmjcfgcfejaaGreat
namespace Go.Proofs.YtkbbmjcfgcfejaaGreat
open Go.RowKit
theorem own_empty (w:World) (B e:Nat) (hB:B≤w.heap.size):(w.alloc (.cells #[] e)).ownsRow B e 1 (.slice (some ⟨w.heap.size,0,none⟩) 0 0) 0 (ints []):=by
 have:=World.ownsRow_lit (size:=1) w #[] 0 hB (by unfold maxLen;omega) rfl (e:=e)
 simpa [ints] using this
end Go.Proofs.YtkbbmjcfgcfejaaGreat
namespace Go.Proofs.YtkbbmjcfgcfejaaGreat
open Go.RowKit
end Go.Proofs.YtkbbmjcfgcfejaaGreat
namespace Go.Proofs.YtkbbmjcfgcfejaaGreat
open Go.RowKit
end Go.Proofs.YtkbbmjcfgcfejaaGreat
namespace Go.Proofs.YtkbbmjcfgcfejaaGreat
end Go.Proofs.YtkbbmjcfgcfejaaGreat
namespace Go.Proofs.YtkbbmjcfgcfejaaGreat
open Go.RowKit
end Go.Proofs.YtkbbmjcfgcfejaaGreat
namespace Go.Proofs.YtkbbmjcfgcfejaaGreat
open Go.RowKit
theorem flags_form {w:World} {B m:Nat} {v:Value} (h:w.ownsRow B 4 1 v 9 (flagsOf m)):∃ g cap,v=.slice (some ⟨g,0,none⟩) 9 cap:=by
 rcases h.2 with ⟨_,h⟩ | ⟨g,cap,_,rfl,_⟩
 · omega
 · exact ⟨g,cap,rfl⟩
end Go.Proofs.YtkbbmjcfgcfejaaGreat
namespace Go.Proofs.YtkbbmjcfgcfejaaGreat
open Go.RowKit
section
variable {w0 w w':World} {g q q' B bA bB:Nat} {v1 v2:Value} {l1 l2:List Int}
end
end Go.Proofs.YtkbbmjcfgcfejaaGreat
namespace Go.Proofs.YtkbbmjcfgcfejaaGreat
open Go.RowKit
theorem news_of {w:World} {b o n c:Nat} {l:List Int} (h:RInts w (.slice (some ⟨b,o,none⟩) n c) l):∀ j u,(ints l)[j]?=some u→w.cell? ((⟨b,o,none⟩:Addr).add j)=some u:=by
 intro j u hj
 have hjl:j < l.length:=by
  rcases Nat.lt_or_ge j l.length with h | h
  · exact h
  · rw [List.getElem?_eq_none (by simpa [ints] using h)] at hj;cases hj
 have hu:u=.int .i64 (gi l j):=by
  simp [ints,hjl] at hj;rw [gi_of hjl,← hj]
 have:=(h.at j hjl).2
 have e:(⟨b,o,none⟩:Addr).add j=⟨b,o+j,none⟩:=by unfold Addr.add;split <;> simp_all
 rw [e,this,hu]
theorem RInts.news {w:World} {b o c:Nat} {l:List Int} (h:RInts w (.slice (some ⟨b,o,none⟩) l.length c) l):∀ j u,(ints l)[j]?=some u→w.cell? ((⟨b,o,none⟩:Addr).add j)=some u:=news_of h
end Go.Proofs.YtkbbmjcfgcfejaaGreat
namespace Go.Proofs.YtkbbmjcfgcfejaaGreat
open Go.RowKit
section
variable {w0 w:World} {g q B bA bB:Nat} {v1 v2:Value} {l1 l2:List Int}
end
end Go.Proofs.YtkbbmjcfgcfejaaGreat
namespace Go.Proofs.YtkbbmjcfgcfejaaGreat
open Go.RowKit
theorem RBytes.keep {w w':World} {v:Value} {n:Nat} (h:RBytes w v n) (hb:Below w.heap.size w w'):RBytes w' v n:=by
 obtain ⟨c,hr,hc⟩:=h
 exact ⟨c,hr.keep hb,hc⟩
end Go.Proofs.YtkbbmjcfgcfejaaGreat
namespace Go.Proofs.YtkbbmjcfgcfejaaGreat
open Go.RowKit
end Go.Proofs.YtkbbmjcfgcfejaaGreat
namespace Go.Proofs.YtkbbmjcfgcfejaaGreat
end Go.Proofs.YtkbbmjcfgcfejaaGreat
namespace Go.Proofs.YtkbbmjcfgcfejaaGreat
end Go.Proofs.YtkbbmjcfgcfejaaGreat
namespace Go.Proofs.YtkbbmjcfgcfejaaGreat
end Go.Proofs.YtkbbmjcfgcfejaaGreat
namespace Go.Proofs.YtkbbmjcfgcfejaaGreat
open Go.RowKit
end Go.Proofs.YtkbbmjcfgcfejaaGreat
namespace Go.Proofs.YtkbbmjcfgcfejaaGreat
open Go.RowKit
theorem bytes_form {w:World} {v:Value} {n:Nat} (h:RBytes w v n):∃ a cap,v=.slice a n cap:=by
 obtain ⟨_,hr,_⟩:=h
 rcases hr with ⟨a,cap,rfl,h0,_⟩ | ⟨b,o,cap,rfl,_⟩
 · exact ⟨a,cap,by rw [h0]⟩
 · exact ⟨_,cap,rfl⟩
end Go.Proofs.YtkbbmjcfgcfejaaGreat
namespace Go.Proofs.YtkbbmjcfgcfejaaGreat
open Go.RowKit
end Go.Proofs.YtkbbmjcfgcfejaaGreat
namespace Go.Proofs.YtkbbmjcfgcfejaaGreat
open Go.RowKit
end Go.Proofs.YtkbbmjcfgcfejaaGreat
namespace Go.Proofs.YtkbbmjcfgcfejaaGreat
open Go.RowKit
theorem box_two {w:World} {b:Nat} {u v:Value} (x y:Value) (h0:w.cell? ⟨b,0,none⟩=some u) (h1:w.cell? ⟨b,1,none⟩=some v) :
 ((w.setCell ⟨b,0,none⟩ x).setCell ⟨b,1,none⟩ y).cell? ⟨b,0,none⟩=some x∧((w.setCell ⟨b,0,none⟩ x).setCell ⟨b,1,none⟩ y).cell? ⟨b,1,none⟩=some y:=by
 constructor
 · rw [World.cell?_setCell_other _ _ _ _ (by simp),World.cell?_setCell_same _ _ _ h0]
 · exact World.cell?_setCell_same _ _ _ (u:=v) (by rw [World.cell?_setCell_other _ _ _ _ (by simp)];exact h1)
end Go.Proofs.YtkbbmjcfgcfejaaGreat
namespace Go.Proofs.YtkbbmjcfgcfejaaGreat
open Go.RowKit
end Go.Proofs.YtkbbmjcfgcfejaaGreat
namespace Go.Proofs.YtkbbmjcfgcfejaaGreat
open Go.RowKit
set_option maxRecDepth 100000 in
set_option maxHeartbeats 800000 in
theorem joinFacts_any {S1 S2:Nat→Prop} (v1 v2:Value) (l1 l2:List Fact) (w:World) (h1:RL w S1 v1 l1) (h2:RL w S2 v2 l2) (hn:l1.length+l2.length≤16777216) :
 Calls Tryz.prog 68 #[v1,v2] w fun e w'=>∃ v,e=.returned v∧OO w' w.heap.size v (l1 ++ l2)∧Below w.heap.size w w':=by
 obtain ⟨a1,c1,rfl⟩:=h1.form
 obtain ⟨a2,c2,rfl⟩:=h2.form
 obtain ⟨i0,hi,hz0,hz1,hz2⟩:=info_parts info_fact
 go_enter Tryz.func68,Tryz.ntmps68
 go_wp2_with (first
  | (at_make;refine wpList_make_own _ rfl _ _ 23 rfl w.heap.size 61 i0 (.agg #[.bool false,.int .i64 0,.int .i64 0]) 3 Tryz.underlying23 hi hz0 hz1 _ _ _ (l1.length+l2.length) rfl rfl (by omega) (by rw [hz2];omega) (by unfold maxLen;omega) (Nat.le_refl _) ?_;intro w1 hown hgr;have hb1:=(grown_fr hgr).below (B:=w.heap.size) (Nat.le_refl _) (by intro k _ e;cases e))
  | (at_builtin;refine app_rl (l:=l1) (n:=0) rfl (.tmp 12) (.tmp 13) _ rfl (B:=w.heap.size) ti_fact rfl hown rfl (h1.keep hb1) (by omega) hb1.size ?_;intro v2 w2 n1 p1 q1 r1 f1 _;have hb2:=below_own hown f1 hb1 hb1.size;obtain ⟨xs,px,rx⟩:=flat_parts (flat_mk (l:=l1) (app_first p1) r1))
  | (at_builtin;refine app_rl (l:=l2) (n:=l1.length) rfl (.tmp 14) (.tmp 15) _ rfl (B:=w.heap.size) ti_fact rfl px rfl (h2.keep hb2) (by omega) hb2.size ?_;intro v3 w3 n2 p2 q2 r2 f2 _))
 have hb3:=below_own px f2 hb2 hb2.size
 have o3:=flat_app p2 px.1 rx r2
 go_ret
 exact ⟨_,rfl,⟨_,o3,nodup_own v3⟩,hb3⟩
set_option maxRecDepth 100000 in
set_option maxHeartbeats 800000 in
theorem joinAtoms_any {S1 S2:Nat→Prop} (v1 v2:Value) (l1 l2:List Atom) (w:World) (h1:RL w S1 v1 l1) (h2:RL w S2 v2 l2) (hn:l1.length+l2.length≤16777216) :
 Calls Tryz.prog 70 #[v1,v2] w fun e w'=>∃ v,e=.returned v∧OO w' w.heap.size v (l1 ++ l2)∧Below w.heap.size w w':=by
 obtain ⟨a1,c1,rfl⟩:=h1.form
 obtain ⟨a2,c2,rfl⟩:=h2.form
 obtain ⟨i0,hi,hz0,hz1,hz2⟩:=info_parts info_atom
 go_enter Tryz.func70,Tryz.ntmps70
 go_wp2_with (first
  | (at_make;refine wpList_make_own _ rfl _ _ 24 rfl w.heap.size 118 i0 (.agg #[.int .i64 0,.int .i64 0,.int .i64 0]) 3 Tryz.underlying24 hi hz0 hz1 _ _ _ (l1.length+l2.length) rfl rfl (by omega) (by rw [hz2];omega) (by unfold maxLen;omega) (Nat.le_refl _) ?_;intro w1 hown hgr;have hb1:=(grown_fr hgr).below (B:=w.heap.size) (Nat.le_refl _) (by intro k _ e;cases e))
  | (at_builtin;refine app_rl (l:=l1) (n:=0) rfl (.tmp 12) (.tmp 13) _ rfl (B:=w.heap.size) ti_atom rfl hown rfl (h1.keep hb1) (by omega) hb1.size ?_;intro v2 w2 n1 p1 q1 r1 f1 _;have hb2:=below_own hown f1 hb1 hb1.size;obtain ⟨xs,px,rx⟩:=flat_parts (flat_mk (l:=l1) (app_first p1) r1))
  | (at_builtin;refine app_rl (l:=l2) (n:=l1.length) rfl (.tmp 14) (.tmp 15) _ rfl (B:=w.heap.size) ti_atom rfl px rfl (h2.keep hb2) (by omega) hb2.size ?_;intro v3 w3 n2 p2 q2 r2 f2 _))
 have hb3:=below_own px f2 hb2 hb2.size
 have o3:=flat_app p2 px.1 rx r2
 go_ret
 exact ⟨_,rfl,⟨_,o3,nodup_own v3⟩,hb3⟩
end Go.Proofs.YtkbbmjcfgcfejaaGreat
namespace Go.Proofs.YtkbbmjcfgcfejaaGreat
open Go.RowKit
section
variable {α β:Type} [Own α] [Tid α] [Own β] [Tid β] {w w' w'':World} {B B1 B2:Nat} {v1 v2:Value} {l1:List α} {l2:List β} {f1 f2:List Nat} {a:List α × List β}
theorem OA.join (o1:OL w B1 v1 l1 f1) (n1:f1.Nodup) (o2:OL w' B2 v2 l2 f2) (n2:f2.Nodup) (hb:Below w.heap.size w w') (h2:w.heap.size≤B2) (hB1:B≤B1) (hB2:B≤B2):OA w' B v1 v2 (l1,l2) :=
 ⟨f1,f2,(o1.keep hb).mono hB1,o2.mono hB2,List.nodup_append.2 ⟨n1,n2,fun x hx y hy e=>by
   have q1:=(o1.lt x hx).2
   have q2:=(o2.lt y hy).1
   omega⟩⟩
theorem OA.setB (h:OA w B v1 v2 a) {p:Addr} {u:Value} (hp:p.block < B):OA (w.setCell p u) B v1 v2 a :=
 h.kept (fr_set _ _ _) fun k h1 _ e=>by omega
theorem OA.res (h:OA w' B v1 v2 a) {R:Nat} (hR:R < B) (hB:w.heap.size≤R) (hb:Below w.heap.size w w') (x y:Value) :
 OA ((w'.setCell ⟨R,0,none⟩ x).setCell ⟨R,1,none⟩ y) w.heap.size v1 v2 a∧Below w.heap.size w ((w'.setCell ⟨R,0,none⟩ x).setCell ⟨R,1,none⟩ y) :=
 ⟨((h.setB hR).setB hR).mono (by omega),(hb.setCell hB _).setCell hB _⟩
end
set_option maxRecDepth 100000 in
set_option maxHeartbeats 1600000 in
theorem copyAssertion_any {S1 S2:Nat→Prop} (v1 v2:Value) (a:Asn) (w:World) (h1:RL w S1 v1 a.1) (h2:RL w S2 v2 a.2) (hn:a.1.length≤1048576) (hm:a.2.length≤1048576) :
 Calls Tryz.prog 149 #[.agg #[v1,v2]] w fun e w'=>∃ u1 u2,e=.returned (.agg #[u1,u2])∧OA w' w.heap.size u1 u2 a∧Below w.heap.size w w':=by
 obtain ⟨a1,a2⟩:=a
 simp only at h1 h2 hn hm
 obtain ⟨b1,c1,rfl⟩:=h1.form
 obtain ⟨b2,c2,rfl⟩:=h2.form
 go_enter Tryz.func149,Tryz.ntmps149
 go_wp2
 have hc0:((w.alloc (.cells #[.slice b1 a1.length c1,.slice b2 a2.length c2] 26)).alloc (.cells #[.slice none 0 0,.slice none 0 0] 26)).cell? ⟨w.heap.size,0,none⟩=some (.slice b1 a1.length c1):=by simp [go_sem]
 have hc1:((w.alloc (.cells #[.slice b1 a1.length c1,.slice b2 a2.length c2] 26)).alloc (.cells #[.slice none 0 0,.slice none 0 0] 26)).cell? ⟨w.heap.size,1,none⟩=some (.slice b2 a2.length c2):=by simp [go_sem]
 have hA:=heap_alloc_new (w.alloc (.cells #[.slice b1 a1.length c1,.slice b2 a2.length c2] 26)) (.cells #[.slice none 0 0,.slice none 0 0] 26)
 have hW:Below w.heap.size w ((w.alloc (.cells #[.slice b1 a1.length c1,.slice b2 a2.length c2] 26)).alloc (.cells #[.slice none 0 0,.slice none 0 0] 26)):=ba (below_alloc _ _) _
 have hz:((w.alloc (.cells #[.slice b1 a1.length c1,.slice b2 a2.length c2] 26)).alloc (.cells #[.slice none 0 0,.slice none 0 0] 26)).heap.size=w.heap.size+2:=by simp
 rw [World.size_alloc] at hA
 generalize (w.alloc (.cells #[.slice b1 a1.length c1,.slice b2 a2.length c2] 26)).alloc (.cells #[.slice none 0 0,.slice none 0 0] 26)=w0 at *
 have HA:=Lib.hid hA
 have HZ:=Lib.hid hz
 clear hA hz
 go_region_held3 (fun w'=>w'.cell? ⟨w.heap.size,0,none⟩=some (.slice b1 a1.length c1)∧w'.cell? ⟨w.heap.size,1,none⟩=some (.slice b2 a2.length c2))
  (exact ⟨(by repeat (first | with_reducible exact hc0 | (with_reducible refine (fr_set _ _ _).cell (by first | (simp;done) | (simp;omega) | omega) ?_) | exact cell_keep Bl hc0)),(by repeat (first | with_reducible exact hc1 | (with_reducible refine (fr_set _ _ _).cell (by first | (simp;done) | (simp;omega) | omega) ?_) | exact cell_keep Bl hc1))⟩)
  (first
    | (go_at_call 68;go_must (refine (joinFacts_any _ _ a1 [] _ (h1.keep (bt hW Bl)) (RL.nil _ (fun _=>True)) (by simp;omega)).mono ?_;rintro e w5 ⟨x1,rfl,⟨f1,o1,n1⟩,hb5'⟩;rw [List.append_nil] at o1;obtain ⟨d1,k1,rfl⟩:=o1.read.form;have hb5:Below w0.heap.size w0 w5:=bt Bl hb5';have hz5:=hb5.size))
    | (go_at_call 70;go_must (refine (joinAtoms_any _ _ a2 [] _ (h2.keep (bt hW Bl)) (RL.nil _ (fun _=>True)) (by simp;omega)).mono ?_;rintro e w6 ⟨y1,rfl,⟨f2,o2,n2⟩,hb6'⟩;rw [List.append_nil] at o2;obtain ⟨d2,k2,rfl⟩:=o2.read.form;have hb6:Below w0.heap.size w0 w6:=bt Bl hb6';have hA6:=box_keep HA.out hb6;have ha0:=box0 hA6;have ha1:=box1 hA6;have haz:∀ i,w6.frozen? ⟨w.heap.size+1,i,none⟩=false:=boxz hA6;have hlA:=box_lt hA6;clear hA6)))
 all_goals
  have hz0:=HZ.out
  have hz5:=hb5.size
  have hz5':=hb5'.size
  have HO:=Lib.hid ((OA.join o1 n1 o2 n2 Bl (by first | exact Nat.le_refl _ | exact hb6'.size) (B:=w.heap.size+2) (by first | (simp;omega) | omega) (by first | (simp;omega) | omega)).res (R:=w.heap.size+1) (by omega) (by omega) (bt hW hb6) (.slice d1 a1.length k1) (.slice d2 a2.length k2))
  have r:=box_two (.slice d1 a1.length k1) (.slice d2 a2.length k2) ha0 ha1
  clear o1 n1 o2 n2 hb5 hb5' hb6 hb6'
  go_wp2
  refine bodyPost_ret (v:=.agg #[.slice d1 a1.length k1,.slice d2 a2.length k2]) (by simp [results,Tryz.results149,go_sem,r.1,r.2]) rfl ?_
  exact ⟨_,_,rfl,HO.out.1,HO.out.2⟩
end Go.Proofs.YtkbbmjcfgcfejaaGreat
namespace Go.Proofs.YtkbbmjcfgcfejaaGreat
open Go.RowKit
end Go.Proofs.YtkbbmjcfgcfejaaGreat
namespace Go.Proofs.YtkbbmjcfgcfejaaGreat
open Go.RowKit
theorem RL.setB {α:Type} [Dat α] {w:World} {S:Nat→Prop} {v:Value} {l:List α} (h:RL w S v l) {p:Addr} {u:Value} (hp:∀ k,S k→¬ k=p.block):RL (w.setCell p u) S v l:=h.kept (fr_set _ _ _) fun k _ h1 h2=>hp k h1 h2
theorem RL.forms {α:Type} [Dat α] {w:World} {S:Nat→Prop} {v:Value} {l:List α} (h:RL w S v l):∃ a n cap,v=.slice a n cap:=by obtain ⟨a,c,h⟩:=h.form;exact ⟨a,_,c,h⟩
set_option maxRecDepth 100000 in
set_option maxHeartbeats 3200000 in
theorem l3Star_any {S1 S2 S3 S4:Nat→Prop} (v1 v2 u1 u2:Value) (a b:Asn) (w:World) (h1:RL w S1 v1 a.1) (h2:RL w S2 v2 a.2) (k1:RL w S3 u1 b.1) (k2:RL w S4 u2 b.2)
 (n1:a.1.length≤1048576) (n2:a.2.length≤1048576) (n3:b.1.length≤1048576) (n4:b.2.length≤1048576) :
 Calls Tryz.prog 76 #[.agg #[v1,v2],.agg #[u1,u2]] w fun e w'=>∃ x1 x2,e=.returned (.agg #[x1,x2])∧RL w' (fun k=>w.heap.size≤k) x1 (a.1 ++ b.1)∧RL w' (fun k=>w.heap.size≤k) x2 (a.2 ++ b.2)∧Below w.heap.size w w':=by
 obtain ⟨a1,a2⟩:=a
 obtain ⟨b1,b2⟩:=b
 simp only at h1 h2 k1 k2 n1 n2 n3 n4
 obtain ⟨p1,c1,rfl⟩:=h1.form
 obtain ⟨p2,c2,rfl⟩:=h2.form
 obtain ⟨p3,c3,rfl⟩:=k1.form
 obtain ⟨p4,c4,rfl⟩:=k2.form
 go_enter Tryz.func76,Tryz.ntmps76
 go_wp2
 generalize hw0:(((w.alloc (.cells #[.slice p1 a1.length c1,.slice p2 a2.length c2] 26)).alloc (.cells #[.slice p3 b1.length c3,.slice p4 b2.length c4] 26)).alloc (.cells #[.slice none 0 0,.slice none 0 0] 26))=w0
 have hc0:w0.cell? ⟨w.heap.size,0,none⟩=some (.slice p1 a1.length c1):=by rw [← hw0];simp [go_sem]
 have hc1:w0.cell? ⟨w.heap.size,1,none⟩=some (.slice p2 a2.length c2):=by rw [← hw0];simp [go_sem]
 have hd0:w0.cell? ⟨w.heap.size+1,0,none⟩=some (.slice p3 b1.length c3):=by rw [← hw0];simp [go_sem]
 have hd1:w0.cell? ⟨w.heap.size+1,1,none⟩=some (.slice p4 b2.length c4):=by rw [← hw0];simp [go_sem]
 have hA:w0.heap[w.heap.size+2]?=some (.cells #[.slice none 0 0,.slice none 0 0] 26 (0,0)):=by
  rw [← hw0]
  have:=heap_alloc_new ((w.alloc (.cells #[.slice p1 a1.length c1,.slice p2 a2.length c2] 26)).alloc (.cells #[.slice p3 b1.length c3,.slice p4 b2.length c4] 26)) (.cells #[.slice none 0 0,.slice none 0 0] 26)
  simpa using this
 have hz:w0.heap.size=w.heap.size+3:=by rw [← hw0];simp
 have hW:Below w.heap.size w w0:=by rw [← hw0];exact ba (ba (below_alloc _ _) _) _
 clear hw0
 have HA:=Lib.hid hA
 have HZ:=Lib.hid hz
 have q1:=h1.keep hW
 have q2:=h2.keep hW
 have q3:=k1.keep hW
 have q4:=k2.keep hW
 clear hA hz h1 h2 k1 k2
 go_region_held3 (fun w'=>(w'.cell? ⟨w.heap.size,0,none⟩=some (.slice p1 a1.length c1)∧w'.cell? ⟨w.heap.size,1,none⟩=some (.slice p2 a2.length c2))∧(w'.cell? ⟨w.heap.size+1,0,none⟩=some (.slice p3 b1.length c3)∧w'.cell? ⟨w.heap.size+1,1,none⟩=some (.slice p4 b2.length c4)))
  (exact ⟨⟨(by repeat (first | with_reducible exact hc0 | (with_reducible refine (fr_set _ _ _).cell (by first | (simp;done) | (simp;omega) | omega) ?_) | exact cell_keep Bl hc0)),(by repeat (first | with_reducible exact hc1 | (with_reducible refine (fr_set _ _ _).cell (by first | (simp;done) | (simp;omega) | omega) ?_) | exact cell_keep Bl hc1))⟩,⟨(by repeat (first | with_reducible exact hd0 | (with_reducible refine (fr_set _ _ _).cell (by first | (simp;done) | (simp;omega) | omega) ?_) | exact cell_keep Bl hd0)),(by repeat (first | with_reducible exact hd1 | (with_reducible refine (fr_set _ _ _).cell (by first | (simp;done) | (simp;omega) | omega) ?_) | exact cell_keep Bl hd1))⟩⟩)
  (first
    | (refine step_appE0 (l:=a1) (by rfl) (.tmp 5) (.tmp 7) _ (by rfl) ti_fact (by rfl) (by rfl) (q1.keep Bl) n1 ?_;intro B1 hB1 v5 w5 y1 r1 t1 hb5';have hle1:w0.heap.size≤B1:=(by rw [hB1];exact Below.size (w:=w0) (B:=w0.heap.size) Bl);have hle5:B1≤w5.heap.size:=(by rw [hB1];exact hb5'.size);have HB1:=Lib.hid hB1;clear hB1;have hb5:Below w0.heap.size w0 w5:=Below.trans Bl (hb5'.mono hle1))
    | (refine step_appE (l:=b1) (n:=a1.length) (by rfl) (.tmp 8) (.tmp 10) _ (by rfl) (B:=B1) ti_fact (by rfl) (r1.keep Bl) (by rfl) (q3.keep Bl) (by omega) (Nat.le_trans hle5 (Below.size (w:=w5) (B:=w5.heap.size) Bl)) ?_;intro v6 w6 y2 r2 _ t2 hb6';have hb6:Below w0.heap.size w0 w6:=Below.trans Bl (hb6'.mono hle1);have rl6:=rowE_app r2 r1.len t1 t2;obtain ⟨d6,m6,k6,rfl⟩:=rl6.forms)
    | (refine step_appE0 (l:=a2) (by rfl) (.tmp 12) (.tmp 14) _ (by rfl) ti_atom (by rfl) (by rfl) (q2.keep Bl) n2 ?_;intro B2 hB2 v7 w7 y3 r3 t3 hb7';have hle2:w0.heap.size≤B2:=(by rw [hB2];exact Below.size (w:=w0) (B:=w0.heap.size) Bl);have hle26:w6.heap.size≤B2:=(by rw [hB2];exact Below.size (w:=w6) (B:=w6.heap.size) Bl);have hle7:B2≤w7.heap.size:=(by rw [hB2];exact hb7'.size);have HB2:=Lib.hid hB2;clear hB2;have hb7:Below w0.heap.size w0 w7:=Below.trans Bl (hb7'.mono hle2);have hb67:Below w6.heap.size w6 w7:=Below.trans Bl (hb7'.mono hle26))
    | (refine step_appE (l:=b2) (n:=a2.length) (by rfl) (.tmp 15) (.tmp 17) _ (by rfl) (B:=B2) ti_atom (by rfl) (r3.keep Bl) (by rfl) (q4.keep Bl) (by omega) (Nat.le_trans hle7 (Below.size (w:=w7) (B:=w7.heap.size) Bl)) ?_;intro v8 w8 y4 r4 _ t4 hb8';have hb8:Below w0.heap.size w0 w8:=Below.trans Bl (hb8'.mono hle2);have hb68:Below w6.heap.size w6 w8:=Below.trans Bl (hb8'.mono hle26);have rl8:=rowE_app r4 r3.len t3 t4;obtain ⟨d8,m8,k8,rfl⟩:=rl8.forms;have hA8:=box_keep HA.out hb8;have ha0:=box0 hA8;have ha1:=box1 hA8;have haz:∀ i,w8.frozen? ⟨w.heap.size+2,i,none⟩=false:=boxz hA8;have hlA:=box_lt hA8;clear hA8))
 all_goals
  have hz0:=HZ.out
  have f6:=(((rl6.keep hb68).setB (p:=⟨w.heap.size+2,0,none⟩) (u:=.slice d6 m6 k6) (fun k h e=>by simp at e;omega)).setB (p:=⟨w.heap.size+2,1,none⟩) (u:=.slice d8 m8 k8) (fun k h e=>by simp at e;omega)).more (S':=fun k=>w.heap.size≤k) fun k _ h=>by omega
  have f8:=((rl8.setB (p:=⟨w.heap.size+2,0,none⟩) (u:=.slice d6 m6 k6) (fun k h e=>by simp at e;omega)).setB (p:=⟨w.heap.size+2,1,none⟩) (u:=.slice d8 m8 k8) (fun k h e=>by simp at e;omega)).more (S':=fun k=>w.heap.size≤k) fun k _ h=>by omega
  have fb:=((bt hW hb8).setCell (p:=⟨w.heap.size+2,0,none⟩) (by simp) (.slice d6 m6 k6)).setCell (p:=⟨w.heap.size+2,1,none⟩) (by simp) (.slice d8 m8 k8)
  have HO:=Lib.hid (And.intro f6 (And.intro f8 fb))
  have r:=box_two (.slice d6 m6 k6) (.slice d8 m8 k8) ha0 ha1
  clear f6 f8 fb rl6 rl8 r1 r2 r3 r4 t1 t2 t3 t4 hb5 hb5' hb6 hb6' hb7 hb7' hb8 hb8' hb67 hb68
  go_wp2
  refine bodyPost_ret (v:=.agg #[.slice d6 m6 k6,.slice d8 m8 k8]) (by simp [results,Tryz.results76,go_sem,r.1,r.2]) rfl ?_
  exact ⟨_,_,rfl,HO.out.1,HO.out.2.1,HO.out.2.2⟩
end Go.Proofs.YtkbbmjcfgcfejaaGreat
namespace Go.Proofs.YtkbbmjcfgcfejaaGreat
open Go.RowKit
section
variable {α:Type} [Dat α] {w w':World} {B:Nat} {e:TypeId} {v v':Value} {l m:List α} {xs ys:List Value}
end
def asSz (a:Asn):Prop:=a.1.length≤1048576∧a.2.length≤1048576
end Go.Proofs.YtkbbmjcfgcfejaaGreat
namespace Go.Proofs.YtkbbmjcfgcfejaaGreat
open Go.RowKit
end Go.Proofs.YtkbbmjcfgcfejaaGreat
namespace Go.Proofs.YtkbbmjcfgcfejaaGreat
open Go.RowKit
theorem heap3 (w:World) (a b c:Value) (T:TypeId):(w.alloc (.cells #[a,b,c] T)).heap[w.heap.size]?=some (.cells #[a,b,c] T (0,0)):=heap_alloc_new w _
section
variable {w:World} {b:Nat} {T:TypeId} {x y z:Value}
theorem c30 (h:w.heap[b]?=some (.cells #[x,y,z] T (0,0))):w.cell? ⟨b,0,none⟩=some x:=cell_of_row w b 0 _ _ _ h
theorem c31 (h:w.heap[b]?=some (.cells #[x,y,z] T (0,0))):w.cell? ⟨b,1,none⟩=some y:=cell_of_row w b 1 _ _ _ h
theorem c32 (h:w.heap[b]?=some (.cells #[x,y,z] T (0,0))):w.cell? ⟨b,2,none⟩=some z:=cell_of_row w b 2 _ _ _ h
theorem c3z (h:w.heap[b]?=some (.cells #[x,y,z] T (0,0))) (i:Nat):w.frozen? ⟨b,i,none⟩=false:=frozen_of_row w b i _ _ h
end
theorem atomB_mk {k a b:Int} (hk:k=1∨k=2) (h1:0≤a) (h2:a≤8) (h3:0≤b) (h4:b≤8):atomB (k,a,b)=true:=by
 have e1:=isTermB_iff.2 (And.intro h1 h2)
 have e2:=isTermB_iff.2 (And.intro h3 h4)
 simp only [atomB,e1,e2]
 rcases hk with rfl | rfl <;> rfl
set_option maxRecDepth 100000 in
set_option maxHeartbeats 1600000 in
theorem l3Point_any (g q:Nat) (w:World) (hr:Rdr w g q) (hq:q≤1000000) :
 Calls Tryz.prog 308 #[.pointer (some ⟨g,0,none⟩)] w fun e w'=>∃ x:Atom,e=.returned (.agg #[.int .i64 x.1,.int .i64 x.2.1,.int .i64 x.2.2])∧atomB x=true∧Rdr w' g (q+3)∧Fr (fun j=>j=g) w w':=by
 have hgl:=hr.lt
 have hlit:=lit_ints (w.alloc (.cells #[.int .i64 0,.int .i64 0,.int .i64 0] 118)) [1,2,3,5,4,6] (by decide)
 simp only [World.size_alloc] at hlit
 have HLIT:=Lib.hid hlit
 clear hlit
 go_enter Tryz.func308,Tryz.ntmps308
 go_wp2_with fail
 refine (num_any g q _ [1,2,3,5,4,6] _ ((hr.keep (below_alloc _ _)).keep (below_alloc _ _)) HLIT.out (by omega) (by decide) (by decide) (fun k hk e=>by simp [Value.ownBlock] at hk;omega)).mono ?_
 rintro e w1 ⟨x,hx,rfl,hr1,hf1⟩
 have hx8:0≤x∧x≤8:=by simp at hx;omega
 have hA1:=box_kept (box_keep (heap3 w (.int .i64 0) (.int .i64 0) (.int .i64 0) 118) (below_alloc _ _)) hf1 (by omega)
 have hF1:Fr (fun j=>j=g) w w1:=((Below.fr (bt (below_alloc w _) (below_alloc _ _))).mono fun _ _ h=>h.elim).trans hf1
 have hz1:=box_lt hA1
 clear hf1 hx hr HLIT
 go_wp2_with fail
 refine (num_any g (q+1) _ [2,0,3,1,5,0,6] _ (hr1.keep (below_alloc _ _)) (lit_ints _ [2,0,3,1,5,0,6] (by decide)) (by omega) (by decide) (by decide) (fun k hk e=>by simp [Value.ownBlock] at hk;omega)).mono ?_
 rintro e w2 ⟨y,hy,rfl,hr2,hf2⟩
 have hy8:0≤y∧y≤8:=by simp at hy;omega
 have hA2:=box_kept (box_keep hA1 (below_alloc _ _)) hf2 (by omega)
 have hF2:Fr (fun j=>j=g) w w2:=(hF1.thenB (below_alloc _ _)).trans hf2
 have hz2:=box_lt hA2
 clear hf2 hy hr1 hA1 hF1
 go_wp2_with fail
 refine (pick_any g (q+2) 2 _ (hr2.keep (below_alloc _ _)) (by omega) (by decide) (by decide)).mono ?_
 rintro e w3 ⟨k,rfl,hk,hr3,hf3⟩
 have hA3:=box_kept (box_keep hA2 (below_alloc _ _)) hf3 (by omega)
 have hB3:=box_kept (heap3 w2 (.int .i64 1) (.int .i64 x) (.int .i64 y) 118) hf3 (by omega)
 have hF3:Fr (fun j=>j=g) w w3:=(hF2.thenB (below_alloc _ _)).trans hf3
 have hz3:=box_lt hB3
 clear hf3 hr2 hA2 hF2
 have a0:=c30 hA3
 have a1:=c31 hA3
 have a2:=c32 hA3
 have az:=c3z hA3
 have b0:=c30 hB3
 have b1:=c31 hB3
 have b2:=c32 hB3
 have bz:=c3z hB3
 have HF:=Lib.hid (And.intro hF3 hr3)
 clear hA3 hB3 hF3 hr3
 by_cases k0:k=0
 · subst k0
   go_wp2
   refine bodyPost_ret (v:=.agg #[.int .i64 2,.int .i64 x,.int .i64 y]) (by simp [results,Tryz.results308,go_sem,a0,a1,a2]) rfl ?_
   refine ⟨(2,x,y),rfl,atomB_mk (.inr rfl) hx8.1 hx8.2 hy8.1 hy8.2,?_,?_⟩
   · have h1:=HF.out.2
     exact (((h1.kept (fr_set _ _ _) (fun j h e=>by simp at e;omega)).kept (fr_set _ _ _) (fun j h e=>by simp at e;omega)).kept (fr_set _ _ _) (fun j h e=>by simp at e;omega)).kept (fr_set _ _ _) (fun j h e=>by simp at e;omega)
   · have h1:=HF.out.1
     exact (((h1.then (fr_set _ _ _) (fun i hi e=>by simp at e;omega)).then (fr_set _ _ _) (fun i hi e=>by simp at e;omega)).then (fr_set _ _ _) (fun i hi e=>by simp at e;omega)).then (fr_set _ _ _) (fun i hi e=>by simp at e;omega)
 · have kb:((k:Int) == 0)=false:=by simp;omega
   go_wp2
   refine bodyPost_ret (v:=.agg #[.int .i64 1,.int .i64 x,.int .i64 y]) (by simp [results,Tryz.results308,go_sem,a0,a1,a2]) rfl ?_
   refine ⟨(1,x,y),rfl,atomB_mk (.inl rfl) hx8.1 hx8.2 hy8.1 hy8.2,?_,?_⟩
   · have h1:=HF.out.2
     exact ((h1.kept (fr_set _ _ _) (fun j h e=>by simp at e;omega)).kept (fr_set _ _ _) (fun j h e=>by simp at e;omega)).kept (fr_set _ _ _) (fun j h e=>by simp at e;omega)
   · have h1:=HF.out.1
     exact ((h1.then (fr_set _ _ _) (fun i hi e=>by simp at e;omega)).then (fr_set _ _ _) (fun i hi e=>by simp at e;omega)).then (fr_set _ _ _) (fun i hi e=>by simp at e;omega)
structure DA (w0 w:World) (g q bR bA:Nat) (v1 v2:Value) (l1:List Fact) (l2:List Atom):Prop where
 f:FE w w0.heap.size v1 l1
 a:FE w w0.heap.size v2 l2
 boxR:w.heap[bR]?=some (.cells #[.slice none 0 0,.slice none 0 0] 26 (0,0))
 boxA:w.heap[bA]?=some (.cells #[v1,v2] 26 (0,0))
 rdr:Rdr w g q
 fr:Fr (fun j=>j=g) w0 w
section
variable {w0 w w':World} {g q q' bR bA:Nat} {v1 v2 v':Value} {l1 m1:List Fact} {l2 m2:List Atom}
theorem DA.keep (h:DA w0 w g q bR bA v1 v2 l1 l2) (hb:Below w.heap.size w w'):DA w0 w' g q bR bA v1 v2 l1 l2 :=
 ⟨h.f.keep hb,h.a.keep hb,box_keep h.boxR hb,box_keep h.boxA hb,h.rdr.keep hb,h.fr.thenB hb⟩
theorem DA.drawn (h:DA w0 w g q bR bA v1 v2 l1 l2) (hr:Rdr w' g q') (hf:Fr (fun j=>j=g) w w') (hg:g < w0.heap.size) (hR:¬ bR=g) (hA:¬ bA=g):DA w0 w' g q' bR bA v1 v2 l1 l2 :=
 ⟨h.f.kept hf fun k hk e=>by have:=hk.1;omega,h.a.kept hf fun k hk e=>by have:=hk.1;omega,box_kept h.boxR hf hR,box_kept h.boxA hf hA,hr,h.fr.trans hf⟩
theorem DA.app1 (h:DA w0 w g q bR bA v1 v2 l1 l2) (hg:g < w0.heap.size) (hne:¬ bR=bA) (hlo:w0.heap.size≤bA) (h1:FE w' w0.heap.size v' m1) (hf:Fr (TF w w0.heap.size 61) w w') :
 DA w0 (w'.setCell ⟨bA,0,none⟩ v') g q bR bA v' v2 m1 l2:=by
 have hA:=box_tf h.boxA hf (by decide)
 have hS:∀ {e:TypeId},26 ≠ e→¬ TF w' w0.heap.size e bA:=fun hne=>tf_ne hA hne
 exact ⟨h1.setB (hS (by decide)),(h.a.tf hf (by decide)).setB (hS (by decide)),box_other (box_tf h.boxR hf (by decide)) _ _ hne,box_set0 hA _,
  ((h.rdr.kept hf fun k hk e=>by have:=e.1;omega).kept (fr_set _ _ _) fun k hk e=>by simp at e;omega),
  (h.fr.then hf fun i hi e=>by have:=e.1;omega).then (fr_set _ _ _) fun i hi e=>by simp at e;omega⟩
theorem DA.app2 (h:DA w0 w g q bR bA v1 v2 l1 l2) (hg:g < w0.heap.size) (hne:¬ bR=bA) (hlo:w0.heap.size≤bA) (h1:FE w' w0.heap.size v' m2) (hf:Fr (TF w w0.heap.size 118) w w') :
 DA w0 (w'.setCell ⟨bA,1,none⟩ v') g q bR bA v1 v' l1 m2:=by
 have hA:=box_tf h.boxA hf (by decide)
 have hS:∀ {e:TypeId},26 ≠ e→¬ TF w' w0.heap.size e bA:=fun hne=>tf_ne hA hne
 exact ⟨(h.f.tf hf (by decide)).setB (hS (by decide)),h1.setB (hS (by decide)),box_other (box_tf h.boxR hf (by decide)) _ _ hne,box_set1 hA _,
  ((h.rdr.kept hf fun k hk e=>by have:=e.1;omega).kept (fr_set _ _ _) fun k hk e=>by simp at e;omega),
  (h.fr.then hf fun i hi e=>by have:=e.1;omega).then (fr_set _ _ _) fun i hi e=>by simp at e;omega⟩
theorem DA.done (h:DA w0 w g q bR bA v1 v2 l1 l2) (hg:g < w0.heap.size) (hlo:w0.heap.size≤bR) (x y:Value) :
 (FE ((w.setCell ⟨bR,0,none⟩ x).setCell ⟨bR,1,none⟩ y) w0.heap.size v1 l1∧FE ((w.setCell ⟨bR,0,none⟩ x).setCell ⟨bR,1,none⟩ y) w0.heap.size v2 l2) ∧
 Rdr ((w.setCell ⟨bR,0,none⟩ x).setCell ⟨bR,1,none⟩ y) g q∧Fr (fun j=>j=g) w0 ((w.setCell ⟨bR,0,none⟩ x).setCell ⟨bR,1,none⟩ y):=by
 have hS:∀ {e:TypeId},26 ≠ e→¬ TF w w0.heap.size e bR:=fun hne=>tf_ne h.boxR hne
 have hS2:∀ {e:TypeId},26 ≠ e→¬ TF (w.setCell ⟨bR,0,none⟩ x) w0.heap.size e bR:=fun hne=>tf_ne (box_set0 h.boxR x) hne
 exact ⟨⟨(h.f.setB (hS (by decide))).setB (hS2 (by decide)),(h.a.setB (hS (by decide))).setB (hS2 (by decide))⟩,
  (h.rdr.kept (fr_set _ _ _) (fun k hk e=>by simp at e;omega)).kept (fr_set _ _ _) (fun k hk e=>by simp at e;omega),
  (h.fr.then (fr_set _ _ _) (fun i hi e=>by simp at e;omega)).then (fr_set _ _ _) (fun i hi e=>by simp at e;omega)⟩
end
end Go.Proofs.YtkbbmjcfgcfejaaGreat
