/- Data2: texts Mk, Lx1, Lx2, ExKit in one. -/
import Derived.Test.YtkbbmjcfgcfejaaGreatLData1
set_option linter.unusedVariables false
set_option linter.unusedSimpArgs false
set_option maxRecDepth 100000
set_option maxHeartbeats 12800000
namespace Go.Proofs.YtkbbmjcfgcfejaaGreat
open Go.RowKit
class Mk (α:Type) where
 size:α→Nat
 cnt:α→Nat
 mark:Int→α→α
 le:∀ a,cnt a≤3 * size a
def WS {α:Type} [Mk α] (k:Int):List α→List α
 | []=>[]
 | x :: r=>Mk.mark k x :: WS (k+Mk.cnt x) r
theorem QM {α:Type} [Mk α]:∀ l:List α,(l.map (Mk.cnt (α:=α))).sum≤3 * (l.map (Mk.size (α:=α))).sum
 | []=>by simp
 | x :: r=>by
   have h1:=Mk.le x;have h2:=QM r;simp only [List.map_cons,List.sum_cons];omega
instance:Mk (List Int):=⟨fun l=>l.length,fun l=>l.length,fun k l=>WW k l.length,fun l=>by show l.length≤3 * l.length;omega⟩
instance:Mk (List Ap):=⟨fun l=>l.length,fun l=>3 * l.length,fun k l=>Uu k l.length,fun _=>Nat.le_refl _⟩
instance:Mk (List Am):=⟨fun l=>l.length,fun l=>3 * l.length,fun k l=>Uv k l.length,fun _=>Nat.le_refl _⟩
instance {α β:Type} [Mk α] [Mk β]:Mk (α × β) :=
 ⟨fun p=>Mk.size p.1+Mk.size p.2,fun p=>Mk.cnt p.1+Mk.cnt p.2,fun k p=>(Mk.mark k p.1,Mk.mark (k+Mk.cnt p.1) p.2),fun p=>by
   have:=Mk.le p.1;have:=Mk.le p.2;show Mk.cnt p.1+Mk.cnt p.2≤3 * (Mk.size p.1+Mk.size p.2)
   omega⟩
instance {α:Type} [Mk α]:Mk (List α) :=
 ⟨fun l=>l.length+(l.map Mk.size).sum,fun l=>(l.map Mk.cnt).sum,WS,fun l=>by
   have:=QM l;show (l.map Mk.cnt).sum≤3 * (l.length+(l.map Mk.size).sum)
   omega⟩
def JX (left:Int) (s:Nat):Int:=if (s:Int)≤left then left - s else -1
theorem BN {left:Int} {s:Nat} (h:(s:Int)≤left):JX left s=left - s:=if_pos h
theorem Bg {left:Int} {s:Nat} (h:left < (s:Int)):JX left s=-1:=if_neg Om
def JT {α:Type} (f:α→Nat) (l:List α) (k:Nat):Nat:=((l.take k).map f).sum
theorem LL {α:Type} (f:α→Nat) (l:List α):JT f l 0=0:=rfl
theorem SF {α:Type} {f:α→Nat} {l:List α}:JT f l l.length=(l.map f).sum:=by rw [JT,List.take_length]
theorem QN {α:Type} {f:α→Nat} {l:List α} (k:Nat):JT f l k≤(l.map f).sum:=by
 unfold JT;have e:(l.map f).sum=((l.take k).map f).sum+((l.drop k).map f).sum:=by
  rw [← List.sum_append,← List.map_append,List.take_append_drop]
 omega
section
variable {α:Type} [Inhabited α] {f:α→Nat} {l:List α} {k:Nat}
theorem LM (h:k < l.length):JT f l (k+1)=JT f l k+f (gd l k):=by
 unfold JT;rw [AT h,List.map_append,List.sum_append];simp
theorem SG (h:k < l.length):f (gd l k)≤(l.map f).sum:=by
 have h1:=LM (f:=f) h;have h2:=QN (f:=f) (l:=l) (k+1);omega
end
section
variable {α:Type} [Inhabited α] [Mk α] {k0:Int} {l:List α} {k:Nat}
end
theorem LN {S:Nat→Prop} (v:Value) (l:List Int) (left:Int) (w:World) (h:RL w S v l) (h0:0≤left) (h1:left≤1048576) :
 Calls Tryz.prog 84 #[v,.int .i64 left] w fun e w'=>e=.returned (.int .i64 (JX left (Mk.size l)))∧Below w.heap.size w w':=by
 have hm:=h.len;obtain ⟨a,c,rfl⟩:=h.form;by_cases hf:(l.length:Int)≤left
 · refine (O9 a l.length c left w h1 hf).mono ?_
   rintro e w' ⟨rfl,rfl⟩;exact ⟨by rw [show Mk.size l=l.length from rfl,BN hf],Below.refl _ _⟩
 · refine (Pa a l.length c left w h0 Om hm).mono ?_
   rintro e w' ⟨rfl,rfl⟩;exact ⟨by rw [show Mk.size l=l.length from rfl,Bg (by omega)],Below.refl _ _⟩
theorem He {S:Nat→Prop} (v:Value) (l:List Ap) (left:Int) (w:World) (h:RL w S v l) (h0:0≤left) (h1:left≤1048576) :
 Calls Tryz.prog 92 #[v,.int .i64 left] w fun e w'=>e=.returned (.int .i64 (JX left (Mk.size l)))∧Below w.heap.size w w':=by
 have hm:=h.len;obtain ⟨a,c,rfl⟩:=h.form;by_cases hf:(l.length:Int)≤left
 · refine (Np a l.length c left w h1 hf).mono ?_
   rintro e w' ⟨rfl,rfl⟩;exact ⟨by rw [show Mk.size l=l.length from rfl,BN hf],Below.refl _ _⟩
 · refine (Nq a l.length c left w h0 Om hm).mono ?_
   rintro e w' ⟨rfl,rfl⟩;exact ⟨by rw [show Mk.size l=l.length from rfl,Bg (by omega)],Below.refl _ _⟩
theorem Kj {S:Nat→Prop} (v:Value) (l:List Am) (left:Int) (w:World) (h:RL w S v l) (h0:0≤left) (h1:left≤1048576) :
 Calls Tryz.prog 93 #[v,.int .i64 left] w fun e w'=>e=.returned (.int .i64 (JX left (Mk.size l)))∧Below w.heap.size w w':=by
 have hm:=h.len;obtain ⟨a,c,rfl⟩:=h.form;by_cases hf:(l.length:Int)≤left
 · refine (Ns a l.length c left w h1 hf).mono ?_
   rintro e w' ⟨rfl,rfl⟩;exact ⟨by rw [show Mk.size l=l.length from rfl,BN hf],Below.refl _ _⟩
 · refine (Nt a l.length c left w h0 Om hm).mono ?_
   rintro e w' ⟨rfl,rfl⟩;exact ⟨by rw [show Mk.size l=l.length from rfl,Bg (by omega)],Below.refl _ _⟩
theorem SH (w:World) (B:Nat) (x:Int):Own.own w B x [.int .i64 x] []:=⟨rfl,rfl⟩
theorem SI {l:List Int} {i:Nat} (h:i < l.length):Bz 1 (ints l) i=[.int .i64 (gd l i)]:=by
 have hl:(ints l).length=l.length:=by simp
 unfold Bz;rw [Nat.mul_one,List.drop_eq_getElem_cons (by omega)];simp [ints,BT h]
theorem QO {w:World} {B:Nat} {v:Value} {l:List Int} (h:w.ownsRow B 3 1 v l.length (ints l)):OL w B v l v.ownBlock.toList :=
 ME (c:=fun x=>[.int .i64 x]) SH h fun _ hi=>SI hi
theorem Ff (v:Value):v.ownBlock.toList.Nodup:=by cases v.ownBlock <;> simp
theorem Rv {S:Nat→Prop} (v:Value) (l:List Int) (w:World) (h:RL w S v l) (hl:Mk.size l≤1048576) :
 Calls Tryz.prog 88 #[v] w fun e w'=>∃ v',e=.returned v'∧OO w' w.heap.size v' l∧Below w.heap.size w w' :=
 (Pb v l w h.ints hl).mono fun _ _ ⟨v',he,ho,hb⟩=>⟨v',he,⟨_,QO ho,Ff v'⟩,hb⟩
theorem Pk {S:Nat→Prop} (v:Value) (l:List Ap) (w:World) (h:RL w S v l) (hl:Mk.size l≤1048576) :
 Calls Tryz.prog 100 #[v] w fun e w'=>∃ v',e=.returned v'∧OO w' w.heap.size v' l∧Below w.heap.size w w':=Nr v l w h hl
theorem Pm {S:Nat→Prop} (v:Value) (l:List Am) (w:World) (h:RL w S v l) (hl:Mk.size l≤1048576) :
 Calls Tryz.prog 101 #[v] w fun e w'=>∃ v',e=.returned v'∧OO w' w.heap.size v' l∧Below w.heap.size w w':=Nu v l w h hl
theorem Rw {S1 S2:Nat→Prop} (v1 v2:Value) (l1 l2:List Int) (w:World) (h1:RL w S1 v1 l1) (h2:RL w S2 v2 l2) :
 Calls Tryz.prog 91 #[v1,v2] w fun e w'=>e=.returned (.bool (decide (l1=l2)))∧Below w.heap.size w w':=O8 v1 v2 l1 l2 w h1.ints h2.ints
theorem Kk {S1 S2:Nat→Prop} (v1 v2:Value) (l1 l2:List Ap) (w:World) (h1:RL w S1 v1 l1) (h2:RL w S2 v2 l2) :
 Calls Tryz.prog 109 #[v1,v2] w fun e w'=>e=.returned (.bool (decide (l1=l2)))∧Below w.heap.size w w':=Nm v1 v2 l1 l2 w h1 h2
theorem Pn {S1 S2:Nat→Prop} (v1 v2:Value) (l1 l2:List Am) (w:World) (h1:RL w S1 v1 l1) (h2:RL w S2 v2 l2) :
 Calls Tryz.prog 110 #[v1,v2] w fun e w'=>e=.returned (.bool (decide (l1=l2)))∧Below w.heap.size w w':=Nn v1 v2 l1 l2 w h1 h2
theorem OL.setB {α:Type} [Own α] [Tid α] {w:World} {B:Nat} {v:Value} {l:List α} {fp:List Nat} {p:Addr} {u:Value} (h:OL w B v l fp) (hp:p.block < B):OL (w.setCell p u) B v l fp :=
 h.okept (Aw _ _ _) fun k hk e=>by have:=(h.lt k hk).1;omega
theorem RL.ext {α:Type} [Dat α] {w:World} {S:Nat→Prop} {v:Value} {l:List α} (h:RL w S v l) (x:Ext w):RL (ext w x) S v l:=h.keep x.below
theorem A4 {S1 S2:Nat→Prop} (v1 v2:Value) (a:Aj) (left:Int) (w:World) (r1:RL w S1 v1 a.1) (r2:RL w S2 v2 a.2) (h0:0≤left) (h1:left≤1048576) :
 Calls Tryz.prog 25 #[.agg #[v1,v2],.int .i64 left] w fun e w'=>e=.returned (.int .i64 (JX left (Mk.size a)))∧Below w.heap.size w w':=by
 obtain ⟨a1,a2⟩:=a;simp only at r1 r2;have hsz:Mk.size ((a1,a2):Aj)=Mk.size a1+Mk.size a2:=rfl;obtain ⟨b1,c1,rfl⟩:=r1.form;obtain ⟨b2,c2,rfl⟩:=r2.form;have e1:(left < (Mk.size a1:Int))∨((Mk.size a1:Int)≤left):=by omega
 rcases e1 with hb | hf
 · have hfin:JX left (Mk.size ((a1,a2):Aj))=-1:=Bg (by rw [hsz];omega)
   have HF:=Ad (An hfin (Bg hb));clear hfin hb hsz;go_enter Tryz.func25,Tryz.ntmps25
   (go_wp2_with fail);refine (He _ a1 left _ (r1.alloc _) h0 h1).mono ?_;rw [HF.o.2];rintro e w1 ⟨rfl,hb1⟩;go_wp2;go_ret;exact ⟨by rw [HF.o.1];rfl,bt (Aa _ _) hb1⟩
 have HS:=Ad (BN hf);have e2:(left - Mk.size a1 < (Mk.size a2:Int))∨((Mk.size a2:Int)≤left - Mk.size a1):=by omega
 rcases e2 with hb | hf2
 · have hfin:JX left (Mk.size ((a1,a2):Aj))=-1:=Bg (by rw [hsz];omega)
   have HF:=Ad (An hfin (Bg hb));clear hfin hb hsz;go_enter Tryz.func25,Tryz.ntmps25
   (go_wp2_with fail);refine (He _ a1 left _ (r1.alloc _) h0 h1).mono ?_;rw [HS.o];rintro e w1 ⟨rfl,hb1⟩;have hc1:=Ab hb1 (p:=⟨w.heap.size,1,none⟩) (v:=.slice b2 a2.length c2) Sp;(go_wp2_with fail);refine (Kj _ a2 (left - Mk.size a1) _ ((r2.alloc _).keep hb1) Om Om).mono ?_;rw [HF.o.2];rintro e w2 ⟨rfl,hb2⟩;go_wp2;go_ret;exact ⟨by rw [HF.o.1];rfl,bt (bt (Aa _ _) hb1) hb2⟩
 · have hfin:JX left (Mk.size ((a1,a2):Aj))=left - Mk.size a1 - Mk.size a2:=by rw [BN (by rw [hsz];omega),hsz];omega
   have HF:=Ad (An hfin (BN hf2));clear hfin hsz;go_enter Tryz.func25,Tryz.ntmps25
   (go_wp2_with fail);refine (He _ a1 left _ (r1.alloc _) h0 h1).mono ?_;rw [HS.o];rintro e w1 ⟨rfl,hb1⟩;have hc1:=Ab hb1 (p:=⟨w.heap.size,1,none⟩) (v:=.slice b2 a2.length c2) Sp;(go_wp2_with fail);refine (Kj _ a2 (left - Mk.size a1) _ ((r2.alloc _).keep hb1) Om Om).mono ?_;rw [HF.o.2];rintro e w2 ⟨rfl,hb2⟩;go_wp2;go_ret;exact ⟨by rw [HF.o.1];rfl,bt (bt (Aa _ _) hb1) hb2⟩
theorem Ev {S1 S2:Nat→Prop} (v1 v2:Value) (a:Aj) (w:World) (r1:RL w S1 v1 a.1) (r2:RL w S2 v2 a.2) (hl:Mk.size a≤1048576) :
 Calls Tryz.prog 28 #[.agg #[v1,v2]] w fun e w'=>∃ u1 u2,e=.returned (.agg #[u1,u2])∧OA w' w.heap.size u1 u2 a∧Below w.heap.size w w':=by
 obtain ⟨a1,a2⟩:=a;simp only at r1 r2;have hl1:Mk.size a1+Mk.size a2≤1048576:=hl;clear hl;obtain ⟨b1,c1,rfl⟩:=r1.form;obtain ⟨b2,c2,rfl⟩:=r2.form;go_enter Tryz.func28,Tryz.ntmps28
 go_wp2_with fail
 refine (Pk _ a1 _ (((r1.alloc _).alloc _).alloc _) Om).mono ?_;rintro e w1 ⟨u1,rfl,⟨f1,o1,n1⟩,hb1⟩;obtain ⟨d1,k1,rfl⟩:=o1.read.form;have z1:w.heap.size+3≤w1.heap.size:=by have:=hb1.size;simp at this;omega
 have y0:w.heap.size < w1.heap.size:=by omega
 have y1:w.heap.size+1 < w1.heap.size:=by omega
 have y2:w.heap.size+1+1 < w1.heap.size:=by omega
 replace o1:=o1.mono (B':=w.heap.size+3) Sp;obtain ⟨hc1,hf1⟩:=Vk hb1;have hb01:Below w.heap.size w w1:=bt (bt (bt (Aa _ _) (Aa _ _)) (Aa _ _)) hb1;have hbs:Below w.heap.size w (w1.setCell ⟨w.heap.size+1+1,0,none⟩ (.slice d1 a1.length k1)):=hb01.setCell (by simp;omega) _;clear hb1;go_wp2_with fail
 refine (Pm _ a2 _ (r2.keep hbs) Om).mono ?_;rintro e w2 ⟨u2,rfl,⟨f2,o2,n2⟩,hb2⟩;obtain ⟨d2,k2,rfl⟩:=o2.read.form;have o1':=(o1.setB (p:=⟨w.heap.size+1+1,0,none⟩) (u:=.slice d1 a1.length k1) Sp).keep hb2;have o2':=o2.mono (B':=w.heap.size+3) (by simp;omega);have hnd:(f1 ++ f2).Nodup:=List.nodup_append.2 ⟨n1,n2,fun x h1 y h2 e=>by
  have q1:=(o1.lt x h1).2;have q2:=(o2.lt y h2).1;simp at q2;omega⟩
 have hb02:Below w.heap.size w w2:=hbs.trans (hb2.mono (by simp;omega));obtain ⟨hc2,hf2⟩:=Vk hb2;have z2:=hb2.size;simp at z2;have x1:w.heap.size+1 < w2.heap.size:=by omega
 have x2:w.heap.size+1+1 < w2.heap.size:=by omega
 clear o2 o1 n1 n2;go_wp2;refine bodyPost_ret (v:=.agg #[.slice d1 a1.length k1,.slice d2 a2.length k2]) (by simp [results,Tryz.results28,go_sem,y1,hc1,hc2]) rfl ?_;refine ⟨_,_,rfl,⟨f1,f2,?_,?_,hnd⟩,?_⟩
 · exact (((o1'.setB Sp).setB Sp).setB Sp).mono Om
 · exact (((o2'.setB Sp).setB Sp).setB Sp).mono Om
 · exact ((hb02.setCell (by simp;omega) _).setCell Sp _).setCell Sp _
theorem Kl {S1 S2 S3 S4:Nat→Prop} (v1 v2 u1 u2:Value) (a b:Aj) (w:World) (h1:RL w S1 v1 a.1) (h2:RL w S2 v2 a.2) (k1:RL w S3 u1 b.1) (k2:RL w S4 u2 b.2) :
 Calls Tryz.prog 31 #[.agg #[v1,v2],.agg #[u1,u2]] w fun e w'=>e=.returned (.bool (decide (a=b)))∧Below w.heap.size w w':=by
 obtain ⟨a1,a2⟩:=a;obtain ⟨b1,b2⟩:=b;simp only at h1 h2 k1 k2;by_cases e1:a1=b1;rotate_left
 · have hfin:decide ((a1,a2)=(b1,b2))=false:=by simp [e1]
   (have d1:decide (a1=b1)=false:=by simpa using e1);have HF:=Ad (An hfin d1);clear hfin d1 e1;go_enter Tryz.func31,Tryz.ntmps31
   (go_wp2_with fail);refine (cb (Kk _ _ a1 b1 _ ((h1.alloc _).alloc _) ((k1.alloc _).alloc _)) HF.o.2).mono ?_;rintro e w1 ⟨rfl,hb1⟩;go_wp2;go_ret;exact ⟨by rw [HF.o.1];rfl,bt (ba (Aa _ _) _) hb1⟩
 have d1:decide (a1=b1)=true:=by simpa using e1
 have D1:=Ad d1;have hfin:decide ((a1,a2)=(b1,b2))=decide (a2=b2):=by simp [e1]
 clear d1 e1;cases d2:decide (a2=b2)
 all_goals
  rw [d2] at hfin;have HF:=Ad (An hfin d2);clear hfin d2;go_enter Tryz.func31,Tryz.ntmps31
  go_wp2_with fail
  refine (cb (Kk _ _ a1 b1 _ ((h1.alloc _).alloc _) ((k1.alloc _).alloc _)) D1.out).mono ?_;rintro e w1 ⟨rfl,hb1⟩;have hc1:=DD hb1 (p:=⟨w.heap.size,1,none⟩) (v:=v2) (by first | (simp;done) | (simp;omega)) Sp;have hc2:=DD hb1 (p:=⟨w.heap.size+1,1,none⟩) (v:=u2) Sp Sp;go_wp2_with fail
  refine (cb (Pn _ _ a2 b2 _ (((h2.alloc _).alloc _).keep hb1) (((k2.alloc _).alloc _).keep hb1)) HF.o.2).mono ?_;rintro e w2 ⟨rfl,hb2⟩;go_wp2;go_ret;exact ⟨by rw [HF.o.1];rfl,bt (bt (ba (Aa _ _) _) hb1) hb2⟩
theorem Ew {S1 S2 S3 S4:Nat→Prop} (v1 v2 u1 u2:Value) (a b:Aj) (t:Bool) (w:World) (h1:RL w S1 v1 a.1) (h2:RL w S2 v2 a.2) (k1:RL w S3 u1 b.1) (k2:RL w S4 u2 b.2) (ht:decide (a=b)=t) :
 Calls Tryz.prog 31 #[.agg #[v1,v2],.agg #[u1,u2]] w fun e w'=>e=.returned (.bool t)∧Below w.heap.size w w':=cb (Kl v1 v2 u1 u2 a b w h1 h2 k1 k2) ht
theorem Po:(Tryz.prog.info? 27).map (fun i=>(i.zero,i.size,i.bytes))=some (some (.slice none 0 0),1,24):=by kernel_rfl
theorem RL.lt {α:Type} [Dat α] {w:World} {S:Nat→Prop} {v:Value} {l:List α} (h:RL w S v l):RL w (fun k=>k < w.heap.size) v l:=h.more fun _ hk _=>hk
end Go.Proofs.YtkbbmjcfgcfejaaGreat
