/- Walks: assertions sometimes made invalid; chains. (Printed by gen_mut2.py.) -/
import Derived.Test.YtkbbmjcfgcfejaaGreatLCsA
set_option linter.unusedVariables false
set_option linter.unusedSimpArgs false
set_option maxRecDepth 100000
set_option maxHeartbeats 12800000
namespace Go.Proofs.YtkbbmjcfgcfejaaGreat
open Go.RowKit
def FO {α:Type} [Flat α] [Tid α] (w:World) (B:Nat) (v:Value) (l:List α):Prop :=
 ∃ xs,w.ownsRow B (Tid.tid α) (Dat.sz α) v l.length xs∧∀ i,i < l.length→Dat.rd w (fun _=>False) (gd l i) (Bz (Dat.sz α) xs i)
section
variable {α:Type} [Flat α] [Tid α] {w w':World} {B:Nat} {v v':Value} {l:List α} {S:Nat→Prop} {xs cs:List Value} {x:α}
end
structure DC (w0 w:World) (g q bR bA:Nat) (v1 v2:Value) (l1:List Ap) (l2:List Am):Prop where
 f:FO w w0.heap.size v1 l1
 a:FO w w0.heap.size v2 l2
 boxR:w.heap[bR]?=some (.cells #[.slice none 0 0,.slice none 0 0] 26 (0,0))
 boxA:w.heap[bA]?=some (.cells #[v1,v2] 26 (0,0))
 rdr:WI w g q
 fr:Fr (fun j=>j=g) w0 w
section
variable {w0 w w':World} {g q q' bR bA:Nat} {v1 v2 v':Value} {l1:List Ap} {l2 m2:List Am}
end
structure DB (w0 w:World) (bR bA:Nat) (v1 v2:Value) (l1:List Ap) (l2:List Am):Prop where
 f:FE w w0.heap.size v1 l1
 a:FE w w0.heap.size v2 l2
 boxR:w.heap[bR]?=some (.cells #[.slice none 0 0,.slice none 0 0] 26 (0,0))
 boxA:w.heap[bA]?=some (.cells #[v1,v2] 26 (0,0))
 fr:Below w0.heap.size w0 w
section
variable {w0 w w':World} {bR bA:Nat} {v1 v2 v':Value} {l1 m1:List Ap} {l2 m2:List Am}
theorem DB.keep (h:DB w0 w bR bA v1 v2 l1 l2) (hb:Below w.heap.size w w'):DB w0 w' bR bA v1 v2 l1 l2 :=
 ⟨h.f.keep hb,h.a.keep hb,Ac h.boxR hb,Ac h.boxA hb,bt h.fr hb⟩
theorem DB.app2 (h:DB w0 w bR bA v1 v2 l1 l2) (hne:¬ bR=bA) (hlo:w0.heap.size≤bA) (h1:FE w' w0.heap.size v' m2) (hf:Fr (TF w w0.heap.size 118) w w') :
 DB w0 (w'.setCell ⟨bA,1,none⟩ v') bR bA v1 v' l1 m2:=by
 have hA:=AM h.boxA hf Dc;have hS:∀ {e:TypeId},26 ≠ e→¬ TF w' w0.heap.size e bA:=fun hne=>Ge hA hne;exact ⟨(h.f.tf hf Dc).setB (hS Dc),h1.setB (hS Dc),Ax (AM h.boxR hf Dc) _ _ hne,BX hA _,
  (h.fr.trans (AG hf h.fr.size)).setCell (by simp;omega) _⟩
theorem DB.done (h:DB w0 w bR bA v1 v2 l1 l2) (hlo:w0.heap.size≤bR) (x y:Value) :
 (FE ((w.setCell ⟨bR,0,none⟩ x).setCell ⟨bR,1,none⟩ y) w0.heap.size v1 l1∧FE ((w.setCell ⟨bR,0,none⟩ x).setCell ⟨bR,1,none⟩ y) w0.heap.size v2 l2) ∧
 Below w0.heap.size w0 ((w.setCell ⟨bR,0,none⟩ x).setCell ⟨bR,1,none⟩ y) :=
 ⟨⟨h.f.set2 h.boxR Dc,h.a.set2 h.boxR Dc⟩,(h.fr.setCell (by simp;omega) _).setCell (by simp;omega) _⟩
end
theorem J3 {w:World} {o:Obj} {g:Nat} (h:w.heap.size=g):(w.alloc o).heap[g]?=some o:=h ▸ heap_alloc_new w o
theorem FE.litA {w:World} {B g:Nat} {K A C:Int} (h:w.heap[g]?=some (.cells #[.int .i64 K,.int .i64 A,.int .i64 C] 118 (0,0))) (hB:B≤g):FE w B (.slice (some ⟨g,0,none⟩) 1 1) [((K,A,C):Am)]:=by
 refine ⟨[.int .i64 K,.int .i64 A,.int .i64 C],.inr ⟨rfl,.inr ⟨g,1,#[.int .i64 K,.int .i64 A,.int .i64 C],rfl,hB,h,Nat.le_refl _,by unfold maxLen;omega,rfl,rfl⟩⟩,fun i hi=>?_⟩;obtain rfl:i=0:=by simpa using hi
 exact Hb w _ (K,A,C)
section
variable {w0 w:World} {bR bA:Nat} {v1 v2:Value} {l1:List Ap} {l2:List Am}
theorem DB.mkA (h1:FE w w0.heap.size v1 l1) (h2:FE w w0.heap.size v2 l2) (hR:w.heap[bR]?=some (.cells #[.slice none 0 0,.slice none 0 0] 26 (0,0))) (hb:Below w0.heap.size w0 w) (hg:w.heap.size=bA) :
 DB w0 (w.alloc (.cells #[v1,v2] 26)) bR bA v1 v2 l1 l2 :=
 ⟨h1.alloc _,h2.alloc _,Ac hR (Aa _ _),J3 hg,ba hb _⟩
theorem DB.mkC {K A C:Int} (h1:FE w w0.heap.size v1 l1) (hR:w.heap[bR]?=some (.cells #[.slice none 0 0,.slice none 0 0] 26 (0,0))) (hb:Below w0.heap.size w0 w) (hg:w.heap.size=bA) :
 DB w0 ((w.alloc (.cells #[v1,.slice (some ⟨bA+1,0,none⟩) 1 1] 26)).alloc (.cells #[.int .i64 K,.int .i64 A,.int .i64 C] 118)) bR bA v1 (.slice (some ⟨bA+1,0,none⟩) 1 1) l1 [(K,A,C)] :=
 ⟨(h1.alloc _).alloc _,FE.litA (J3 (by simp [hg])) (by have:=hb.size;omega),Ac (Ac hR (Aa _ _)) (Aa _ _),Ac (J3 hg) (Aa _ _),ba (ba hb _) _⟩
theorem DB.mkD {K A C:Int} {g:Nat} (h1:FE w w0.heap.size v1 l1) (hR:w.heap[bR]?=some (.cells #[.slice none 0 0,.slice none 0 0] 26 (0,0))) (hb:Below w0.heap.size w0 w)
 (hA:w.heap[bA]?=some (.cells #[.slice none 0 0,.slice none 0 0] 26 (0,0))) (hne:¬ bR=bA) (hlo:w0.heap.size≤bA) (hg:w.heap.size=g) :
 DB w0 (((w.setCell ⟨bA,0,none⟩ v1).setCell ⟨bA,1,none⟩ (.slice (some ⟨g,0,none⟩) 1 1)).alloc (.cells #[.int .i64 K,.int .i64 A,.int .i64 C] 118)) bR bA v1 (.slice (some ⟨g,0,none⟩) 1 1) l1 [(K,A,C)] :=
 ⟨(h1.set2 hA Dc).alloc _,FE.litA (J3 (by simp [hg])) (by have:=hb.size;omega),Ac (Ax (Ax hR _ _ hne) _ _ hne) (Aa _ _),Ac (BX (BL hA _) _) (Aa _ _),ba ((hb.setCell hlo _).setCell hlo _) _⟩
theorem DB.mkB (h1:FE w w0.heap.size v1 l1) (h2:FE w w0.heap.size v2 l2) (hR:w.heap[bR]?=some (.cells #[.slice none 0 0,.slice none 0 0] 26 (0,0))) (hb:Below w0.heap.size w0 w)
 (hA:w.heap[bA]?=some (.cells #[.slice none 0 0,.slice none 0 0] 26 (0,0))) (hne:¬ bR=bA) (hlo:w0.heap.size≤bA) :
 DB w0 ((w.setCell ⟨bA,0,none⟩ v1).setCell ⟨bA,1,none⟩ v2) bR bA v1 v2 l1 l2 :=
 ⟨h1.set2 hA Dc,h2.set2 hA Dc,Ax (Ax hR _ _ hne) _ _ hne,BX (BL hA _) _,(hb.setCell hlo _).setCell hlo _⟩
end
theorem DY {a:Aj} (h:Ah a=true):(a.1.length≤12∧a.2.length≤6)∧(a.1.all AH=true∧a.2.all AQ=true):=by
 rw [Ah,Bv] at h;simp only [Bool.and_eq_true,decide_eq_true_eq] at h;exact ⟨⟨h.1.1,h.2.1⟩,h.1.2,h.2.2⟩
def KE (f:Ap):Ap:=if f.2.2 < f.2.1 then (f.1,f.2.2,f.2.1) else f
def VY (f:Ap):Bool:=f.1 && f.2.1 == f.2.2
def Do (l:List Ap) (f:Ap):List Ap:=if VY f=true then l else if l.any (· == KE f)=true then l else l ++ [KE f]
def NS (l:List Ap):List Ap:=l.foldl Do []
def O5 (l:List Am):List Am:=l.filter fun x=>x.1 == 1 || x.2.1 != x.2.2
def Ss (a:Aj):Aj:=(NS a.1,O5 a.2)
theorem NT {l:List Ap} {k:Nat} (h:k < l.length):NS (l.take (k+1))=Do (NS (l.take k)) (gd l k):=by
 rw [NS,AT h,List.foldl_append];rfl
theorem PJ (l:List Ap) (f:Ap):(Do l f).length≤l.length+1:=by
 rw [Do];split
 · omega
 · split
   · omega
   · simp
theorem KF:∀ (l m:List Ap),(l.foldl Do m).length≤m.length+l.length
 | [],m=>by simp
 | f :: l,m=>by
   have h1:=KF l (Do m f);have h2:=PJ m f;simp only [List.foldl_cons,List.length_cons];omega
theorem QZ (l:List Ap):(NS l).length≤l.length:=by have:=KF l [];simpa [NS] using this
theorem NU (l:List Ap) (k:Nat):(NS (l.take k)).length≤k:=by
 have h1:=QZ (l.take k);have h2:(l.take k).length≤k:=by rw [List.length_take];omega
 omega
theorem NV {l:List Am} {k:Nat} (h:k < l.length):O5 (l.take (k+1))=O5 (l.take k) ++ (if ((gd l k).1 == 1 || (gd l k).2.1 != (gd l k).2.2)=true then [gd l k] else []):=by
 rw [O5,AT h,List.filter_append,List.filter_cons,List.filter_nil];rfl
theorem NW (l:List Am) (k:Nat):(O5 (l.take k)).length≤k:=by
 have h1:(O5 (l.take k)).length≤(l.take k).length:=List.length_filter_le _ _;have h2:(l.take k).length≤k:=by rw [List.length_take];omega
 omega
theorem LV {α:Type} [Inhabited α] {p:α→Bool} {l:List α} {k:Nat} (h:k < l.length):(l.take (k+1)).any p=((l.take k).any p || p (gd l k)):=by
 rw [AT h,List.any_append];simp
theorem DZ {w:World} {g:Nat} (h:w.heap.size=g) (a b c:Int) (T:TypeId):RL (w.alloc (.cells #[.int .i64 a,.int .i64 b,.int .i64 c] T)) (fun k=>k=g) (.slice (some ⟨g,0,none⟩) 1 1) [((a,b,c):Am)]:=h ▸ BB w a b c T
theorem NX (y1 z1:Bool) (y2 y3 z2 z3:Int):(((y1,y2,y3):Ap) == (z1,z2,z3))=(y1 == z1 && (y2 == z2 && y3 == z3)):=by
 rw [Bool.eq_iff_iff];simp
section
variable {w0 w w':World} {bR bA:Nat} {v1 v2 v':Value} {l1 m1:List Ap} {l2 m2:List Am}
theorem DB.app1 (h:DB w0 w bR bA v1 v2 l1 l2) (hne:¬ bR=bA) (hlo:w0.heap.size≤bA) (h1:FE w' w0.heap.size v' m1) (hf:Fr (TF w w0.heap.size 61) w w') :
 DB w0 (w'.setCell ⟨bA,0,none⟩ v') bR bA v' v2 m1 l2:=by
 have hA:=AM h.boxA hf Dc;have hS:∀ {e:TypeId},26 ≠ e→¬ TF w' w0.heap.size e bA:=fun hne=>Ge hA hne;exact ⟨h1.setB (hS Dc),(h.a.tf hf Dc).setB (hS Dc),Ax (AM h.boxR hf Dc) _ _ hne,BL hA _,
  (h.fr.trans (AG hf h.fr.size)).setCell (by simp;omega) _⟩
end
def DL (x t n:Int):Int:=if (n == x)=true then t else n
def O6 (x t:Int) (f:Ap):Ap:=(f.1,DL x t f.2.1,DL x t f.2.2)
def Q0 (x t:Int) (y:Am):Am:=(y.1,DL x t y.2.1,DL x t y.2.2)
def Cb (a:Aj) (x t:Int):Aj:=(a.1.map (O6 x t),a.2.map (Q0 x t))
theorem NY {α β:Type} [Inhabited α] {f:α→β} {l:List α} {k:Nat} (h:k < l.length):(l.take (k+1)).map f=(l.take k).map f ++ [f (gd l k)]:=by
 rw [AT h,List.map_append];rfl
theorem In {α β:Type} {f:α→β} {l:List α} {k:Nat} (h:k≤l.length):((l.take k).map f).length=k:=by
 rw [List.length_map,List.length_take];omega
section
variable {w0 w W w':World} {bR bA:Nat} {v1 v2 v':Value} {l1 m1:List Ap} {l2 m2:List Am}
theorem DB.boxTf {e:TypeId} (h:DB w0 w bR bA v1 v2 l1 l2) (hf:Fr (TF W w0.heap.size e) W w') (hb:Below w.heap.size w W) (hne:26 ≠ e):w'.heap[bA]?=some (.cells #[v1,v2] 26 (0,0)) :=
 AM (Ac h.boxA hb) hf hne
theorem DB.app1T (h:DB w0 w bR bA v1 v2 l1 l2) (hf:Fr (TF W w0.heap.size 61) W w') (h1:FE w' w0.heap.size v' m1) (hb:Below w.heap.size w W) (hne:¬ bR=bA) (hlo:w0.heap.size≤bA) :
 DB w0 (w'.setCell ⟨bA,0,none⟩ v') bR bA v' v2 m1 l2:=(h.keep hb).app1 hne hlo h1 hf
theorem DB.app2T (h:DB w0 w bR bA v1 v2 l1 l2) (hf:Fr (TF W w0.heap.size 118) W w') (h1:FE w' w0.heap.size v' m2) (hb:Below w.heap.size w W) (hne:¬ bR=bA) (hlo:w0.heap.size≤bA) :
 DB w0 (w'.setCell ⟨bA,1,none⟩ v') bR bA v1 v' l1 m2:=(h.keep hb).app2 hne hlo h1 hf
theorem Tm {b:Nat} {e T:TypeId} {cs:Array Value} (h:w.heap[b]?=some (.cells cs T (0,0))) (hf:Fr (TF W w0.heap.size e) W w') (hb:Below w.heap.size w W) (hne:T ≠ e) (p:Addr) (u:Value) (hp:¬ b=p.block):(w'.setCell p u).heap[b]?=some (.cells cs T (0,0)) :=
 Ax (AM (Ac h hb) hf hne) p u hp
end
theorem DM (n x t:Int) (w:World) :
 Calls Tryz.prog 214 #[.int .i64 n,.int .i64 x,.int .i64 t] w fun e w'=>e=.returned (.int .i64 (DL x t n))∧w=w':=by
 have hs:DL x t n=if (n == x)=true then t else n:=rfl;have HS:=Ad hs;clear hs;cases hc:(n == x) with
 | false =>
   have HC:=Ad hc;go_enter Tryz.func214,Tryz.ntmps214
   go_wp2;go_ret;exact ⟨by rw [HS.o,HC.o];rfl,rfl⟩
 | true =>
   have HC:=Ad hc;go_enter Tryz.func214,Tryz.ntmps214
   go_wp2;go_ret;exact ⟨by rw [HS.o,HC.o];rfl,rfl⟩
theorem Ct (n x t:Int) (w:World) :
 Calls Tryz.prog 212 #[.int .i64 n,.int .i64 x,.int .i64 t] w fun e w'=>e=.returned (.int .i64 (DL x t n))∧w=w':=by
 have hs:DL x t n=if (n == x)=true then t else n:=rfl;have HS:=Ad hs;clear hs;cases hc:(n == x) with
 | false =>
   have HC:=Ad hc;go_enter Tryz.func212,Tryz.ntmps212
   go_wp2;go_ret;exact ⟨by rw [HS.o,HC.o];rfl,rfl⟩
 | true =>
   have HC:=Ad hc;go_enter Tryz.func212,Tryz.ntmps212
   go_wp2;go_ret;exact ⟨by rw [HS.o,HC.o];rfl,rfl⟩
def Ay (l:List Int):Nat:=l.foldl As 0
theorem Jy:∀ {l:List Int} {m:Nat},m < 65536→l.foldl As m < 65536
 | [],_,h=>h
 | x :: l,m,h=>Jy (l:=l) (m:=As m x) (AJ h)
theorem KG (l:List Int):Ay l < 65536:=Jy Dc
theorem KH {l:List Int} {k:Nat} (h:k < l.length):Ay (l.take (k+1))=As (Ay (l.take k)) (gi l k):=by
 rw [Ay,AT h,List.foldl_append,← Wn];rfl
theorem Gn (v:Value) (l:List Int) (w:World) (h:RInts w v l) :
 Calls Tryz.prog 67 #[v] w fun e w'=>e=.returned (.int .u16 (Ay l))∧w=w':=by
 obtain ⟨a,c,rfl,hcell⟩:=h.cells;have hlm:=h.len;unfold maxLen at hlm;have HC:=Ad hcell;clear hcell h;go_enter Tryz.func67,Tryz.ntmps67
 go_wp2;go_loopg [3,8] l.length (fun q x i wr=>∃ k:Nat,k+q=l.length∧i=.int .i64 k∧x=.int .u16 (Ay (l.take k))∧wr=w)
 case atStart=>exact ⟨0,by omega,rfl,rfl,rfl⟩
 case round =>
  obtain ⟨k,hk,rfl,rfl,rfl⟩:=hrel;have HK:=Ad hk;clear hk;by_cases hk8:k < l.length
  · have hki:(k:Int) < (l.length:Int):=by omega
    obtain ⟨b,o,rfl,hzb,hck⟩:=HC.o k hk8;have hst:=KH hk8;obtain ⟨m,hm⟩:=Ex (Ay (l.take k));(have hml:m < 65536:=by rw [← hm];exact KG _);rw [hm] at hst ⊢;have HST:=Ad hst;clear hm hst;(go_wp2_with fail);refine (A6 _ hml HST.o.symm).mono ?_;rintro e w5 ⟨rfl,rfl⟩;go_wp2;go_roundg (gk - 1)
    case rel=>exact ⟨k+1,by have:=HK.o;omega,by go_num,rfl,rfl⟩
    case measure=>have:=HK.o;omega
  · obtain rfl:k=l.length:=by have:=HK.o;omega
    rw [List.take_length];go_wp2;go_ret;exact ⟨rfl,rfl⟩
theorem E1 (v:Value) (l:List Int) (w:World) (h:RInts w v l) :
 Calls Tryz.prog 74 #[v] w fun e w'=>∃ v,e=.returned v∧w'.ownsRow w.heap.size 4 1 v 9 (Av (Ay l))∧Below w.heap.size w w':=by
 have hmk:=Ta;obtain ⟨a,c,rfl,hcell⟩:=h.cells;have hlm:=h.len;unfold maxLen at hlm;have HC:=Ad hcell;have hfl:=LS w w.heap.size (Nat.le_refl _);have HFL:=Ad hfl;clear hcell h hfl;go_enter Tryz.func74,Tryz.ntmps74
 go_wp2;go_loopg [4] l.length (fun q i wr=>∃ k:Nat,k+q=l.length∧i=.int .i64 k∧wr.ownsRow w.heap.size 4 1 (.slice (some ⟨w.heap.size,0,none⟩) 9 9) 9 (Av (Ay (l.take k)))∧Below w.heap.size w wr)
 case atStart=>exact ⟨0,by omega,rfl,HFL.o,Aa _ _⟩
 case round =>
  obtain ⟨k,hk,rfl,ho,hb⟩:=hrel;have HK:=Ad hk;clear hk;have hzf:w.heap.size < wr.heap.size:=(ho.lt _ rfl).2;by_cases hk8:k < l.length
  · have hki:(k:Int) < (l.length:Int):=by omega
    obtain ⟨b,o,rfl,hzb,hck⟩:=HC.o k hk8;replace hck:=Ab hb hck;have hz:=hb.size;(have hzr:b < wr.heap.size:=by omega);(have hne:¬ b=w.heap.size:=by omega);have hst:=KH hk8;obtain ⟨m,hm⟩:=Ex (Ay (l.take k));rw [hm] at hst ho;cases ht:Al (gi l k) with
    | false =>
      rw [As,if_neg (by rw [ht];decide)] at hst;have HST:=Ad (An hst ht);have HO:=Ad (An ho hb);clear hst ht ho hm;(go_wp2_with fail);refine (cb (Cf _ _) HST.o.2).mono ?_;rintro e w5 ⟨rfl,rfl⟩;go_wp2;go_roundg (gk - 1)
      case rel=>exact ⟨k+1,by have:=HK.o;omega,by go_num,by rw [HST.o.1];exact HO.o.1,HO.o.2⟩
      case measure=>have:=HK.o;omega
    | true =>
      have hn:=At.1 ht;obtain ⟨i,hi⟩:=Int.eq_ofNat_of_zero_le (show 0≤gi l k by omega);rw [hi] at hst hck ht;rw [Df (by omega)] at hst;(have hi9:(i:Int) < 9:=by omega);(have hi9n:i < 9:=by omega);obtain ⟨s1,g1⟩:=ho.stored i (.bool true);rw [Da m i (by omega)] at s1;have f1:=AF g1;have z1:=ho.frozenAt i;have y1:wr.cell? ⟨w.heap.size,i,none⟩=some (.bool (m.testBit i)):=by
       have:=ho.cellAt i Om;rw [AP m i (by omega)] at this;simpa using this
      have hb1:=hb.trans (f1.below hb.size fun k _ e=>by have:=Option.some.inj e;omega);have HST:=Ad (An hst ht);have HS:=Ad (An s1 hb1);clear hst ht hn hi s1 g1 f1 hb1 ho hm;(go_wp2_with fail);refine (cb (Cf _ _) HST.o.2).mono ?_;rintro e w5 ⟨rfl,rfl⟩;go_wp2;go_roundg (gk - 1)
      case rel=>exact ⟨k+1,by have:=HK.o;omega,by go_num,by rw [HST.o.1];exact HS.o.1,HS.o.2⟩
      case measure=>have:=HK.o;omega
  · obtain rfl:k=l.length:=by have:=HK.o;omega
    rw [List.take_length] at ho;go_wp2;go_ret;exact ⟨_,rfl,ho,hb⟩
def CR (l:List Am) (m:Nat):List Am:=((List.range l.length).filter fun i=>m.testBit i).map (gd l)
def E5 (a b:Aj):Option Nat:=(List.range (2 ^ a.2.length)).find? fun m=>Ah (b.1,b.2 ++ CR a.2 m) && Cp a (b.1,b.2 ++ CR a.2 m)
def Cz (a b:Aj):Option (List Am):=(E5 a b).map (CR a.2)
def D2 (m:Nat):Option Int:=((List.range 4).find? fun (i:Nat)=>!m.testBit (i+5)).map fun (i:Nat)=>(i:Int)+5
def J4 (a:Aj) (x:Int) (m:Nat):Option Aj:=if AN (Ak a) x=true then (D2 (Ak a ||| m)).map fun n=>Cb a x n else some a
abbrev Q1:Type:=Aj × Aj × List Int
def PK (l:List Int) (i:Nat):Int:=if i=0 then 0 else gi l (i - 1)
def EG (l:List Int) (i:Nat):Bool:=BP (gi l i) && decide (PK l i < gi l i)
def KI (l:List Int):Bool:=(List.range l.length).all (EG l)
def PM (k:Q1):Bool:=Ah k.1 && (Ah k.2.1 && KI k.2.2)
def G5 (m:Nat) (t:Int):Bool:=decide (4 < t) && !AN m t
def Cn (m:Nat) (f:Ap):Option (Int × Int) :=
 if f.1=true then (if f.2.1=f.2.2 then none else if G5 m f.2.1=true then some (f.2.1,f.2.2) else if G5 m f.2.2=true then some (f.2.2,f.2.1) else none) else none
def C7 (m:Nat) (l:List Ap):Option (Int × Int):=l.findSome? (Cn m)
def EH (m:Nat):Nat→Aj→Aj
 | 0,a=>a
 | n+1,a=>match C7 m a.1 with
   | none=>a
   | some s=>EH m n (Cb a s.1 s.2)
def Q2 (k:Nat) (t:Int):Bool:=decide (t≤4) || AN k t
def Gp (k:Nat) (f:Ap):Bool:=Q2 k f.2.1 && Q2 k f.2.2
def I8 (m:Nat) (a:Aj):List Ap:=a.1.filter (Gp (m ||| Ak ([],a.2)))
def Q3 (m:Nat) (a:Aj):Aj:=Ss (I8 m a,a.2)
def BD (m:Nat) (a:Aj):Aj:=Q3 m (EH m 4 a)
def UO (m:Nat) (l:List Ap) (t:Int):Bool:=G5 m t && l.any fun f=>(f.2.1 == t) || (f.2.2 == t)
def PN (m:Nat) (l:List Ap):Nat:=([5,6,7,8]:List Int).countP (UO m l)
theorem LW {p q:Int→Bool}:∀ {r:List Int},(∀ x ∈ r,p x=true→q x=true)→(∃ x,x ∈ r∧q x=true∧p x=false)→r.countP p < r.countP q
 | [],_,h=>by obtain ⟨x,hx,_⟩:=h;cases hx
 | y :: r,hm,h=>by
   have hm2:∀ x ∈ r,p x=true→q x=true:=fun x hx=>hm x (List.mem_cons_of_mem _ hx);have hle:r.countP p≤r.countP q:=List.countP_mono_left hm2;rw [List.countP_cons,List.countP_cons];obtain ⟨x,hx,hq,hp⟩:=h;rcases List.mem_cons.1 hx with rfl | hx
   · rw [hq,hp];simp only [if_true,Bool.false_eq_true,if_false];omega
   · have:=LW hm2 ⟨x,hx,hq,hp⟩
     cases hpy:p y with
     | true=>rw [hm y List.mem_cons_self hpy];simp only [if_true];omega
     | false=>simp only [Bool.false_eq_true,if_false];split <;> omega
theorem Q4 (m:Nat) (l:List Ap):PN m l≤4:=List.countP_le_length
structure Known (m:Nat) (a:Aj) (x t:Int):Prop where
 ne:t ≠ x
 free:G5 m x=true
 mem:∃ f ∈ a.1,f.1=true∧((f.2.1=x∧f.2.2=t)∨(f.2.1=t∧f.2.2=x))
theorem To {m:Nat} {a:Aj} {x t:Int} (h:C7 m a.1=some (x,t)):Known m a x t:=by
 rw [C7] at h;obtain ⟨f,hf,hs⟩:=List.exists_of_findSome?_eq_some h;rw [Cn] at hs;by_cases h1:f.1=true
 · rw [if_pos h1] at hs
   by_cases h2:f.2.1=f.2.2
   · rw [if_pos h2] at hs;cases hs
   · rw [if_neg h2] at hs
     by_cases h3:G5 m f.2.1=true
     · rw [if_pos h3] at hs
       obtain ⟨rfl,rfl⟩:=Prod.mk.inj (Option.some.inj hs);exact ⟨fun e=>h2 e.symm,h3,f,hf,h1,.inl ⟨rfl,rfl⟩⟩
     · rw [if_neg h3] at hs
       by_cases h4:G5 m f.2.2=true
       · rw [if_pos h4] at hs
         obtain ⟨rfl,rfl⟩:=Prod.mk.inj (Option.some.inj hs);exact ⟨h2,h4,f,hf,h1,.inr ⟨rfl,rfl⟩⟩
       · rw [if_neg h4] at hs;cases hs
 · rw [if_neg h1] at hs;cases hs
theorem Tp (x t:Int):DL x t x=t:=by simp [DL]
theorem I9 (x t n:Int):(n=x∧DL x t n=t)∨(n ≠ x∧DL x t n=n):=by
 by_cases h:n=x
 · subst h;exact .inl ⟨rfl,Tp _ _⟩
 · exact .inr ⟨h,by simp [DL,h]⟩
theorem VZ {x t n:Int} (h:t ≠ x):DL x t n ≠ x:=by
 rcases I9 x t n with ⟨_,e⟩ | ⟨h2,e⟩
 · rw [e];exact h
 · rw [e];exact h2
theorem Cw {f:Ap}:AH f=true ↔ (0≤f.2.1∧f.2.1≤8)∧0≤f.2.2∧f.2.2≤8:=by
 simp [AH,Al]
theorem KJ {m:Nat} {a:Aj} {x t:Int} (ha:∀ f ∈ a.1,AH f=true) (h:Known m a x t):(4 < x∧x≤8)∧0≤t∧t≤8:=by
 obtain ⟨f,hf,_,hc⟩:=h.mem;have:=Cw.1 (ha f hf);have h5:4 < x:=by have:=h.free;simp [G5] at this;exact this.1
 rcases hc with ⟨rfl,rfl⟩ | ⟨rfl,rfl⟩ <;> omega
theorem UP {m:Nat} {a:Aj} {x t:Int} (ha:∀ f ∈ a.1,AH f=true) (h:Known m a x t):PN m (Cb a x t).1 < PN m a.1:=by
 refine LW (fun y hy hp=>?_) ⟨x,?_,?_,?_⟩
 · simp only [UO,Bool.and_eq_true,List.any_eq_true,Bool.or_eq_true,beq_iff_eq] at hp ⊢
   obtain ⟨hfr,g,hg,hc⟩:=hp;refine ⟨hfr,?_⟩;obtain ⟨f,hf,rfl⟩:=List.mem_map.1 hg;obtain ⟨k,hk,_,hkc⟩:=h.mem;have key:∀ n,DL x t n=y→(n=y∧n ≠ x)∨t=y:=fun n e=>by
    rcases I9 x t n with ⟨_,e2⟩ | ⟨e1,e2⟩
    · exact .inr (by rw [← e2,e])
    · exact .inl ⟨by rw [← e2,e],e1⟩
   have ht:t=y→∃ z ∈ a.1,z.2.1=y∨z.2.2=y:=fun e=>⟨k,hk,by rcases hkc with ⟨_,e2⟩ | ⟨e2,_⟩ <;> simp [e2,e]⟩;rcases hc with e | e
   · rcases key _ e with ⟨e2,_⟩ | e2
     · exact ⟨f,hf,.inl e2⟩
     · exact ht e2
   · rcases key _ e with ⟨e2,_⟩ | e2
     · exact ⟨f,hf,.inr e2⟩
     · exact ht e2
 · have:=(KJ ha h).1
   simp only [List.mem_cons,List.not_mem_nil,or_false];omega
 · rw [UO,h.free,Bool.true_and,List.any_eq_true]
   obtain ⟨k,hk,_,hkc⟩:=h.mem;exact ⟨k,hk,by rcases hkc with ⟨e,_⟩ | ⟨_,e⟩ <;> simp [e]⟩
 · rw [UO,h.free,Bool.true_and,List.any_eq_false]
   intro g hg;obtain ⟨f,_,rfl⟩:=List.mem_map.1 hg;simp [O6,VZ h.ne]
theorem LX {a:Aj} {x t:Int} (ha:Ah a=true) (ht:0≤t∧t≤8):Ah (Cb a x t)=true:=by
 have h:=DY ha;have p:=AL ha;have k:∀ n:Int,Al n=true→Al (DL x t n)=true:=fun n hn=>by
  rcases I9 x t n with ⟨_,e⟩ | ⟨_,e⟩
  · rw [e];simp [Al];omega
  · rw [e];exact hn
 simp only [Ah,Bv,Cb,Bool.and_eq_true,decide_eq_true_eq,List.all_eq_true,List.length_map];refine ⟨⟨h.1.1,fun f hf=>?_⟩,h.1.2,fun f hf=>?_⟩
 · obtain ⟨g,hg,rfl⟩:=List.mem_map.1 hf
   have:=p.1 g hg;simp only [AH,O6,Bool.and_eq_true] at this ⊢;exact ⟨k _ this.1,k _ this.2⟩
 · obtain ⟨g,hg,rfl⟩:=List.mem_map.1 hf
   have:=p.2 g hg;simp only [AQ,Q0,Bool.and_eq_true] at this ⊢;exact ⟨this.1,k _ this.2.1,k _ this.2.2⟩
theorem LY {m q:Nat} {a:Aj} {s:Int × Int} (h:C7 m a.1=some s):EH m (q+1) a=EH m q (Cb a s.1 s.2):=by
 rw [EH,h]
theorem LZ {m q:Nat} {a:Aj} (h:C7 m a.1=none):EH m q a=a:=by
 cases q with
 | zero=>rfl
 | succ q=>rw [EH,h]
theorem Gq {m:Nat} {a:Aj} {x t:Int} (ha:Ah a=true) (h:C7 m a.1=some (x,t)):(0≤x∧x≤8)∧(0≤t∧t≤8)∧Ah (Cb a x t)=true∧PN m (Cb a x t).1 < PN m a.1:=by
 have hk:=To h;have ht:=KJ (AL ha).1 hk;exact ⟨by omega,ht.2,LX ha ht.2,UP (AL ha).1 hk⟩
theorem PO {l:List Ap} {f g:Ap} (h:g ∈ Do l f):g ∈ l∨g=KE f:=by
 rw [Do] at h;split at h
 · exact .inl h
 · split at h
   · exact .inl h
   · rcases List.mem_append.1 h with h | h
     · exact .inl h
     · exact .inr (List.mem_singleton.1 h)
theorem KK:∀ {l m:List Ap} {g:Ap},g ∈ l.foldl Do m→g ∈ m∨∃ f ∈ l,g=KE f
 | [],m,g,h=>.inl h
 | f :: l,m,g,h=>by
   rcases KK (l:=l) (m:=Do m f) h with h | ⟨k,hk,e⟩
   · rcases PO h with h | h
     · exact .inl h
     · exact .inr ⟨f,List.mem_cons_self,h⟩
   · exact .inr ⟨k,List.mem_cons_of_mem _ hk,e⟩
theorem UQ {l:List Ap} {g:Ap} (h:g ∈ NS l):∃ f ∈ l,g=KE f:=by
 rcases KK h with h | h
 · cases h
 · exact h
theorem PP {f:Ap} (h:AH f=true):AH (KE f)=true:=by
 rw [KE];split
 · rw [Cw] at h ⊢;exact ⟨h.2,h.1⟩
 · exact h
theorem Ja {l1:List Ap} {l2:List Am} (h1:l1.length≤12) (h2:∀ f ∈ l1,AH f=true) (h3:l2.length≤6) (h4:∀ x ∈ l2,AQ x=true):Ah (l1,l2)=true:=by
 rw [Ah,Bv,Bool.and_eq_true,Bool.and_eq_true,Bool.and_eq_true,decide_eq_true_eq,decide_eq_true_eq,List.all_eq_true,List.all_eq_true];exact ⟨⟨h1,h2⟩,h3,h4⟩
theorem Tq {a:Aj} (ha:Ah a=true):Ah (Ss a)=true:=by
 have h:=DY ha;have p:=AL ha;refine Ja (Nat.le_trans (QZ _) h.1.1) (fun f hf=>?_) (Nat.le_trans (List.length_filter_le _ _) h.1.2) fun f hf=>p.2 f (List.mem_filter.1 hf).1;obtain ⟨g,hg,rfl⟩:=UQ hf;exact PP (p.1 g hg)
theorem Hh {m:Nat} {a:Aj} (ha:Ah a=true):Ah (I8 m a,a.2)=true:=by
 have h:=DY ha;have p:=AL ha;exact Ja (Nat.le_trans (List.length_filter_le _ _) h.1.1) (fun f hf=>p.1 f (List.mem_filter.1 hf).1) h.1.2 p.2
theorem NZ {m:Nat} {a:Aj} (ha:Ah a=true):Ah (Q3 m a)=true:=Tq (Hh ha)
theorem Jz {m:Nat}:∀ {n:Nat} {a:Aj},Ah a=true→Ah (EH m n a)=true
 | 0,a,h=>h
 | n+1,a,h=>by
   rw [EH];cases hk:C7 m a.1 with
   | none=>exact h
   | some s=>exact Jz (Gq (t:=s.2) (x:=s.1) h hk).2.2.1
theorem JA {m:Nat} {a:Aj} (ha:Ah a=true):Ah (BD m a)=true:=NZ (Jz ha)
def Vs (l:List Am) (i k:Nat):List Nat:=(List.range l.length).filter fun n=>(n != i) && (n != k)
def Gr (l:List Am) (i k:Nat):List Am:=(Vs l i k).map (gd l)
theorem Io {n k:Nat} {p:Nat→Bool} (hk:k < n) (h0:(List.range k).find? p=none) (h1:p k=true):(List.range n).find? p=some k:=by
 have e:List.range n=List.range k ++ k :: (List.range' (k+1) (n - k - 1)):=by
  rw [List.range_eq_range',List.range_eq_range',← List.range'_succ];have:=@List.range'_append 0 k (n - k) 1;simp only [Nat.one_mul,Nat.zero_add] at this;rw [show n - k - 1+1=n - k by omega,this,show k+(n - k)=n by omega]
 rw [e,List.find?_append,h0,List.find?_cons,h1];rfl
theorem Ep {k:Nat} {p:Nat→Bool} (h0:(List.range k).find? p=none) (h1:p k=false):(List.range (k+1)).find? p=none:=by
 rw [List.range_succ,List.find?_append,h0,List.find?_cons,h1];rfl
def Dp (l:List Am) (m k:Nat):List Am:=((List.range k).filter fun i=>m.testBit i).map (gd l)
theorem L0 {l:List Am} {m k:Nat} (h:m.testBit k=true):Dp l m (k+1)=Dp l m k ++ [gd l k]:=by
 rw [Dp,List.range_succ,List.filter_append,List.map_append];simp [Dp,h]
theorem N0 {l:List Am} {m k:Nat} (h:m.testBit k=false):Dp l m (k+1)=Dp l m k:=by
 rw [Dp,List.range_succ,List.filter_append,List.map_append];simp [Dp,h]
theorem GM (l:List Am) (m k:Nat):(Dp l m k).length≤k:=by
 rw [Dp,List.length_map];exact Nat.le_trans (List.length_filter_le _ _) Sp
theorem Jb (l:List Am) (m:Nat):Dp l m l.length=CR l m:=rfl
theorem RJ {l:List Am} {m:Nat} {x:Am} (h:x ∈ CR l m):x ∈ l:=by
 obtain ⟨i,hi,rfl⟩:=List.mem_map.1 h;exact Be (List.mem_range.1 (List.mem_filter.1 hi).1)
theorem PQ {a:Aj} (ha:Ah a=true) (m:Nat):Ah (a.1,CR a.2 m)=true:=by
 have h:=DY ha;have p:=AL ha;exact Ja h.1.1 p.1 (Nat.le_trans (GM a.2 m _) h.1.2) fun x hx=>p.2 x (RJ hx)
def Su (a b:Aj) (m:Nat):Bool:=Ah (b.1,b.2 ++ CR a.2 m) && Cp a (b.1,b.2 ++ CR a.2 m)
theorem Jc (a b:Aj):E5 a b=(List.range (2 ^ a.2.length)).find? (Su a b):=rfl
theorem RK {m:Nat} {n:Int} (h:D2 m=some n):0≤n∧n≤8:=by
 rw [D2] at h;obtain ⟨i,hi,rfl⟩:=Option.map_eq_some_iff.1 h;have:=List.mem_range.1 (List.mem_of_find?_eq_some hi);omega
theorem Lt {a b:Aj} {x:Int} {m:Nat} (ha:Ah a=true) (h:J4 a x m=some b):Ah b=true:=by
 rw [J4] at h;split at h
 · obtain ⟨n,hn,rfl⟩:=Option.map_eq_some_iff.1 h
   exact LX ha (RK hn)
 · obtain rfl:=Option.some.inj h;exact ha
def AU (a:Aj) (x:Int) (m:Nat):Option (Aj × Int):=if AN (Ak a) x=true then (D2 (Ak a ||| m)).map fun n=>(Cb a x n,n) else some (a,x)
theorem PR (a:Aj) (x:Int) (m:Nat):J4 a x m=(AU a x m).map (·.1):=by
 rw [J4,AU];split
 · rw [Option.map_map];rfl
 · rfl
theorem E6 {a:Aj} {x:Int} {m:Nat} {r:Aj × Int} (ha:Ah a=true) (h:AU a x m=some r):Ah r.1=true :=
 Lt (x:=x) (m:=m) ha (by rw [PR,h];rfl)
theorem Ip {l:List Int} {k:Nat} (hk:k < l.length) (h:EG l k=false):KI l=false:=by
 rw [KI,List.all_eq_false];exact ⟨k,List.mem_range.2 hk,by rw [h];decide⟩
theorem N3 {l:List Int} (h:∀ i,i < l.length→EG l i=true):KI l=true:=by
 rw [KI,List.all_eq_true];exact fun i hi=>h i (List.mem_range.1 hi)
theorem N4 (l:List Int) (k:Nat):PK l (k+1)=gi l k:=by rw [PK,if_neg (by omega)];rfl
def BoxK (w:World) (b:Nat) (p1 p2 q1 q2 ch:Value):Prop:=w.heap[b]?=some (.cells #[p1,p2,q1,q2,ch] 29 (0,0))
section
variable {w w':World} {b:Nat} {p1 p2 q1 q2 ch:Value}
theorem BoxK.keep (h:BoxK w b p1 p2 q1 q2 ch) (hb:Below w.heap.size w w'):BoxK w' b p1 p2 q1 q2 ch:=Ac h hb
theorem BoxK.cells (h:BoxK w b p1 p2 q1 q2 ch):w.cell? ⟨b,0,none⟩=some p1∧w.cell? ⟨b,1,none⟩=some p2∧w.cell? ⟨b,2,none⟩=some q1∧w.cell? ⟨b,3,none⟩=some q2∧w.cell? ⟨b,4,none⟩=some ch :=
 ⟨cell_of_row w b 0 _ _ _ h,cell_of_row w b 1 _ _ _ h,cell_of_row w b 2 _ _ _ h,cell_of_row w b 3 _ _ _ h,cell_of_row w b 4 _ _ _ h⟩
theorem BoxK.lt (h:BoxK w b p1 p2 q1 q2 ch):b < w.heap.size:=Ae h
theorem Iq (w:World) (p1 p2 q1 q2 ch:Value):BoxK (w.alloc (.cells #[p1,p2,q1,q2,ch] 29)) w.heap.size p1 p2 q1 q2 ch:=heap_alloc_new _ _
end
structure RCon (w:World) (S:Nat→Prop) (p1 p2 q1 q2 ch:Value) (k:Q1):Prop where
 pre1:RL w S p1 k.1.1
 pre2:RL w S p2 k.1.2
 post1:RL w S q1 k.2.1.1
 post2:RL w S q2 k.2.1.2
 chg:RL w S ch k.2.2
theorem RCon.keep {w w':World} {S:Nat→Prop} {p1 p2 q1 q2 ch:Value} {k:Q1} (h:RCon w S p1 p2 q1 q2 ch k) (hb:Below w.heap.size w w'):RCon w' S p1 p2 q1 q2 ch k :=
 ⟨h.pre1.keep hb,h.pre2.keep hb,h.post1.keep hb,h.post2.keep hb,h.chg.keep hb⟩
theorem PS (n:Int) (w:World):Calls Tryz.prog 146 #[.int .i64 n] w fun e w'=>e=.returned (.bool (BP n))∧w=w':=by
 have hl:BP n=(decide (1≤n) && decide (n≤4)):=rfl;have HL:=Ad hl;clear hl;by_cases h1:1≤n
 · by_cases h2:n≤4
   · have HD:=Ad (show BP n=true by rw [HL.o,decide_eq_true h1,decide_eq_true h2];rfl)
     go_enter Tryz.func146,Tryz.ntmps146
     go_wp2;go_ret;exact ⟨by rw [HD.o];rfl,rfl⟩
   · have HD:=Ad (show BP n=false by rw [HL.o,decide_eq_false h2];simp)
     go_enter Tryz.func146,Tryz.ntmps146
     go_wp2;go_ret;exact ⟨by rw [HD.o];rfl,rfl⟩
 · have HD:=Ad (show BP n=false by rw [HL.o,decide_eq_false h1];simp)
   go_enter Tryz.func146,Tryz.ntmps146
   go_wp2;go_ret;exact ⟨by rw [HD.o];rfl,rfl⟩
theorem Hi {n:Int} {b:Bool} (w:World) (h:BP n=b):Calls Tryz.prog 146 #[.int .i64 n] w fun e w'=>e=.returned (.bool b)∧w=w':=h ▸ PS n w
theorem Lu {S:Nat→Prop} (p1 p2 q1 q2 ch:Value) (k:Q1) (w:World) (h:RCon w S p1 p2 q1 q2 ch k) :
 Calls Tryz.prog 65 #[.agg #[p1,p2,q1,q2,ch]] w fun e w'=>e=.returned (.bool (PM k))∧Below w.heap.size w w':=by
 obtain ⟨⟨a1,a2⟩,⟨b1,b2⟩,l⟩:=k;have hk0:PM ((a1,a2),(b1,b2),l)=(Ah (a1,a2) && (Ah (b1,b2) && KI l)):=rfl;rw [hk0];clear hk0;obtain ⟨x1,y1,rfl⟩:=h.pre1.form;obtain ⟨x2,y2,rfl⟩:=h.pre2.form;obtain ⟨x3,y3,rfl⟩:=h.post1.form;obtain ⟨x4,y4,rfl⟩:=h.post2.form;obtain ⟨x5,y5,rfl⟩:=h.chg.form;have hb0:=Aa w (.cells #[.slice x1 a1.length y1,.slice x2 a2.length y2,.slice x3 b1.length y3,.slice x4 b2.length y4,.slice x5 l.length y5] 29);have hK:=Iq w (.slice x1 a1.length y1) (.slice x2 a2.length y2) (.slice x3 b1.length y3) (.slice x4 b2.length y4) (.slice x5 l.length y5);have H0:=Ad (An hK (An (h.keep hb0) hb0));clear hK hb0 h;obtain ⟨A,hA⟩:=Ex (Ah (a1,a2));obtain ⟨B,hB⟩:=Ex (Ah (b1,b2));rw [hA,hB];have HAB:=Ad (An hA hB);clear hA hB;go_enter Tryz.func65,Tryz.ntmps65
 go_wp2_with fail
 refine (cb (Aq _ _ (a1,a2) _ H0.o.2.1.pre1 H0.o.2.1.pre2) HAB.o.1).mono ?_;rintro e w1 ⟨rfl,hb1⟩;have H1:=Ad (An (H0.o.1.keep hb1) (An (H0.o.2.1.keep hb1) (bt H0.o.2.2 hb1)));clear hb1;cases A with
 | false =>
   go_wp2;go_returns;exact ⟨rfl,H1.o.2.2⟩
 | true =>
 obtain ⟨k0,k1,k2,k3,k4⟩:=H1.o.1.cells;have kl:=H1.o.1.lt;go_wp2_with fail
 refine (cb (Aq _ _ (b1,b2) _ H1.o.2.1.post1 H1.o.2.1.post2) HAB.o.2).mono ?_;rintro e w2 ⟨rfl,hb2⟩;have H2:=Ad (An (H1.o.1.keep hb2) (An (H1.o.2.1.keep hb2) (bt H1.o.2.2 hb2)));clear hb2 k0 k1 k2 k3 k4 kl;cases B with
 | false =>
   go_wp2;go_returns;exact ⟨rfl,H2.o.2.2⟩
 | true =>
 obtain ⟨k0,k1,k2,k3,k4⟩:=H2.o.1.cells;have kl:=H2.o.1.lt;have hlm:=H2.o.2.1.chg.len;unfold maxLen at hlm;have HC:=Ad H2.o.2.1.chg.ints.cells;go_wp2;clear k0 k1 k2 k3 k4 kl;go_loopg [3,19] l.length (fun q z i wr=>∃ j:Nat,j+q=l.length∧i=.int .i64 j∧z=.int .i64 (PK l j)∧(∀ i,i < j→EG l i=true)∧wr=w2)
 case atStart=>exact ⟨0,by omega,rfl,rfl,fun i hi=>absurd hi Om,rfl⟩
 case round =>
  obtain ⟨j,hj,rfl,rfl,hst,rfl⟩:=hrel;have HJ:=Ad (An hj hst);clear hj hst;by_cases hj8:j < l.length
  · have hji:(j:Int) < (l.length:Int):=by omega
    obtain ⟨xa,xc,hxe,hcell⟩:=HC.o;simp only [Value.slice.injEq] at hxe;obtain ⟨rfl,_,rfl⟩:=hxe;obtain ⟨b,o,rfl,hzb,hck⟩:=hcell j hj8;obtain ⟨x,hx⟩:=Ex (gi l j);obtain ⟨z,hz⟩:=Ex (PK l j);rw [hx] at hck;rw [hz];(have hsp:EG l j=(BP x && decide (z < x)):=by rw [EG,hx,hz]);(have hns:PK l (j+1)=x:=by rw [N4,hx]);obtain ⟨P,hP⟩:=Ex (BP x);rw [hP] at hsp;have HP:=Ad (An hP (An hsp hns));clear hcell hx hz hsp hns hP;cases P with
    | false =>
      go_wp2_with (first | (go_at_call 146;refine (Hi _ HP.o.1).mono ?_;rintro e w' ⟨rfl,rfl⟩))
      go_returns;exact ⟨by rw [Ip hj8 (by rw [HP.o.2.1];rfl)];rfl,H2.o.2.2⟩
    | true =>
      by_cases hzx:x≤z
      · go_wp2_with (first | (go_at_call 146;refine (Hi _ HP.o.1).mono ?_;rintro e w' ⟨rfl,rfl⟩))
        go_returns;exact ⟨by rw [Ip hj8 (by rw [HP.o.2.1,decide_eq_false (by omega)];rfl)];rfl,H2.o.2.2⟩
      · go_wp2_with (first | (go_at_call 146;refine (Hi _ HP.o.1).mono ?_;rintro e w' ⟨rfl,rfl⟩))
        go_roundg (gk - 1)
        case rel=>exact ⟨j+1,by have:=HJ.o;omega,by go_num,by rw [HP.o.2.2],fun i hi=>(Nat.lt_succ_iff_lt_or_eq.1 hi).elim (HJ.o.2 i) (fun e=>by rw [e,HP.o.2.1,decide_eq_true (by omega)];rfl),rfl⟩
        case measure=>have:=HJ.o;omega
  · obtain rfl:j=l.length:=by have:=HJ.o;omega
    go_wp2;go_returns;exact ⟨by rw [N3 HJ.o.2];rfl,H2.o.2.2⟩
end Go.Proofs.YtkbbmjcfgcfejaaGreat
