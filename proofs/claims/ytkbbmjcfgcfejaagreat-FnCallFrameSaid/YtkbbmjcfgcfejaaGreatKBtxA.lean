/- Plain: texts cut at a sign and joined again; the text of a proof of a case. -/
import Derived.Test.YtkbbmjcfgcfejaaGreatKData1
import Derived.Handy
import Derived.Deep.DeepMust
set_option linter.unusedVariables false
namespace Go.Proofs.YtkbbmjcfgcfejaaGreat
open Go.RowKit
def joinT (c:UInt8):List (List UInt8)→List UInt8
 | []=>[]
 | [x]=>x
 | x :: y :: r=>x ++ c :: joinT c (y :: r)
def consH (b:UInt8):List (List UInt8)→List (List UInt8)
 | []=>[[b]]
 | h :: t=>(b :: h) :: t
def cutL (c:UInt8):List UInt8→List (List UInt8)
 | []=>[[]]
 | b :: r=>if b=c then [] :: cutL c r else consH b (cutL c r)
theorem cutL_ne (c:UInt8):∀ s,cutL c s ≠ []
 | []=>by simp [cutL]
 | b :: r=>by
   rw [cutL];split
   · simp
   · cases h:cutL c r <;> simp [consH]
theorem joinT_consH (c b:UInt8) {l:List (List UInt8)} (h:l ≠ []):joinT c (consH b l)=b :: joinT c l:=by
 match l,h with
 | [x],_=>rfl
 | x :: y :: r,_=>rfl
theorem joinT_cons (c:UInt8) (x:List UInt8) {l:List (List UInt8)} (h:l ≠ []):joinT c (x :: l)=x ++ c :: joinT c l:=by
 match l,h with
 | y :: r,_=>rfl
theorem join_cut (c:UInt8):∀ s,joinT c (cutL c s)=s
 | []=>rfl
 | b :: r=>by
   have ih:=join_cut c r
   rw [cutL];split
   · rename_i h;rw [joinT_cons c [] (cutL_ne c r),ih,h];rfl
   · rw [joinT_consH c b (cutL_ne c r),ih]
theorem cutL_none {c:UInt8}:∀ {s:List UInt8},c ∉ s→cutL c s=[s]
 | [],_=>rfl
 | b :: r,h=>by
   rw [List.mem_cons,not_or] at h
   rw [cutL,if_neg (fun e=>h.1 e.symm),cutL_none h.2];rfl
theorem cutL_app {c:UInt8}:∀ {x:List UInt8} (s:List UInt8),c ∉ x→cutL c (x ++ c :: s)=x :: cutL c s
 | [],s,_=>by rw [List.nil_append,cutL,if_pos rfl]
 | b :: r,s,h=>by
   rw [List.mem_cons,not_or] at h
   rw [List.cons_append,cutL,if_neg (fun e=>h.1 e.symm),cutL_app s h.2];rfl
theorem cutL_len (c:UInt8):∀ s,(cutL c s).length≤s.length+1
 | []=>by simp [cutL]
 | b :: r=>by
   have ih:=cutL_len c r
   rw [cutL];split
   · simp;omega
   · cases hc:cutL c r with
     | nil=>exact absurd hc (cutL_ne c r)
     | cons y t=>rw [hc] at ih;simp [consH] at ih ⊢;omega
def numT (n:Int):List UInt8:=if n < 0 then [45] else [UInt8.ofNat (48+n.toNat)]
abbrev Pf:=List Int × List (List Int)
structure Shaped (p:Pf):Prop where
 c9:p.1.length=9
 cl:∀ n ∈ p.1,-1≤n∧n≤8
 u6:p.2.length≤6
 u9:∀ u ∈ p.2,u.length≤9
 ul:∀ u ∈ p.2,∀ n ∈ u,0≤n∧n≤8
structure ReadsAs (ps:List (List UInt8)) (l:List Int):Prop where
 len:l.length=min ps.length 9
 at_:∀ i (n:Int),i < l.length→-1≤n→n≤8→gd ps i=numT n→gi l i=n
end Go.Proofs.YtkbbmjcfgcfejaaGreat
namespace Go.Proofs.YtkbbmjcfgcfejaaGreat
open Go.RowKit
class Mk (α:Type) where
 size:α→Nat
 cnt:α→Nat
 mark:Int→α→α
 le:∀ a,cnt a≤3 * size a
def mkL {α:Type} [Mk α] (k:Int):List α→List α
 | []=>[]
 | x :: r=>Mk.mark k x :: mkL (k+Mk.cnt x) r
theorem sum_le3 {α:Type} [Mk α]:∀ l:List α,(l.map (Mk.cnt (α:=α))).sum≤3 * (l.map (Mk.size (α:=α))).sum
 | []=>by simp
 | x :: r=>by
   have h1:=Mk.le x
   have h2:=sum_le3 r
   simp only [List.map_cons,List.sum_cons]
   omega
instance:Mk (List Int):=⟨fun l=>l.length,fun l=>l.length,fun k l=>mks k l.length,fun l=>by show l.length≤3 * l.length;omega⟩
instance:Mk (List Fact):=⟨fun l=>l.length,fun l=>3 * l.length,fun k l=>mkFacts k l.length,fun _=>Nat.le_refl _⟩
instance:Mk (List Atom):=⟨fun l=>l.length,fun l=>3 * l.length,fun k l=>mkAtoms k l.length,fun _=>Nat.le_refl _⟩
instance {α β:Type} [Mk α] [Mk β]:Mk (α × β) :=
 ⟨fun p=>Mk.size p.1+Mk.size p.2,fun p=>Mk.cnt p.1+Mk.cnt p.2,fun k p=>(Mk.mark k p.1,Mk.mark (k+Mk.cnt p.1) p.2),fun p=>by
   have:=Mk.le p.1
   have:=Mk.le p.2
   show Mk.cnt p.1+Mk.cnt p.2≤3 * (Mk.size p.1+Mk.size p.2)
   omega⟩
instance {α:Type} [Mk α]:Mk (List α) :=
 ⟨fun l=>l.length+(l.map Mk.size).sum,fun l=>(l.map Mk.cnt).sum,mkL,fun l=>by
   have:=sum_le3 l
   show (l.map Mk.cnt).sum≤3 * (l.length+(l.map Mk.size).sum)
   omega⟩
section
variable {α:Type} [Inhabited α] {f:α→Nat} {l:List α} {k:Nat}
end
section
variable {α:Type} [Inhabited α] [Mk α] {k0:Int} {l:List α} {k:Nat}
end
theorem own_cInt (w:World) (B:Nat) (x:Int):Own.own w B x [.int .i64 x] []:=⟨rfl,rfl⟩
theorem nth_ints {l:List Int} {i:Nat} (h:i < l.length):nth 1 (ints l) i=[.int .i64 (gd l i)]:=by
 have hl:(ints l).length=l.length:=by simp
 unfold nth
 rw [Nat.mul_one,List.drop_eq_getElem_cons (by omega)]
 simp [ints,gd_of h]
theorem ints_OL {w:World} {B:Nat} {v:Value} {l:List Int} (h:w.ownsRow B 3 1 v l.length (ints l)):OL w B v l v.ownBlock.toList :=
 flat_OL (c:=fun x=>[.int .i64 x]) own_cInt h fun _ hi=>nth_ints hi
theorem nodup_own (v:Value):v.ownBlock.toList.Nodup:=by cases v.ownBlock <;> simp
end Go.Proofs.YtkbbmjcfgcfejaaGreat
namespace Go.Proofs.YtkbbmjcfgcfejaaGreat
open Go.RowKit
end Go.Proofs.YtkbbmjcfgcfejaaGreat
namespace Go.Proofs.YtkbbmjcfgcfejaaGreat
open Go.RowKit
theorem info_IntSS:(Tryz.prog.info? 27).map (fun i=>(i.zero,i.size,i.bytes))=some (some (.slice none 0 0),1,24):=by kernel_rfl
end Go.Proofs.YtkbbmjcfgcfejaaGreat
namespace Go.Proofs.YtkbbmjcfgcfejaaGreat
open Go.RowKit
theorem RL.lt {α:Type} [Dat α] {w:World} {S:Nat→Prop} {v:Value} {l:List α} (h:RL w S v l):RL w (fun k=>k < w.heap.size) v l:=h.more fun _ hk _=>hk
end Go.Proofs.YtkbbmjcfgcfejaaGreat
namespace Go.Proofs.YtkbbmjcfgcfejaaGreat
open Go.RowKit
def btx (l:List UInt8):ByteArray:=⟨l.toArray⟩
theorem btx_size (l:List UInt8):(btx l).size=l.length:=rfl
theorem btx_app (l m:List UInt8):btx l ++ btx m=btx (l ++ m):=by
 apply ByteArray.ext
 rw [ByteArray.data_append]
 exact Array.toList_inj.1 (by simp [btx])
theorem btx_nil:(⟨#[]⟩:ByteArray)=btx []:=rfl
theorem btx_32:(⟨#[32]⟩:ByteArray)=btx [32]:=rfl
def strs (l:List (List UInt8)):List Value:=l.map fun x=>Value.string (btx x)
theorem info_string:(Tryz.prog.info? 9).map (fun i=>(i.zero,i.size,i.bytes))=some (some (.string ⟨#[]⟩),1,16):=by kernel_rfl
theorem app_str {ops:Array Oper} {rest:List Oper} {o:Oper} {a:Act} {Q:Exit→Act→World→Prop} (w:World) (hgd:o.guard=none) (s x:Operand)
 (ho:o.op=.call { callee:=.builtin .append,args:=#[s,x],argTypes:=#[231,231] })
 (B:Nat) (v:Value) (l:List (List UInt8)) (hs:a.eval s=v) (hown:w.ownsRow B 9 1 v l.length (strs l))
 (ad:Addr) (n:List UInt8) (hx:a.eval x=.slice (some ad) 1 1) (hnew:w.cell? ad=some (.string (btx n))) (hlen:l.length < 1099511627776) (hB:B≤w.heap.size)
 (h:∀ v' w',w'.ownsRow B 9 1 v' (l ++ [n]).length (strs (l ++ [n]))→Fr (fun k=>some k=v.ownBlock) w w'→wpList Tryz.prog ops Q rest (a.put o.dst v') w') :
 wpList Tryz.prog ops Q (o :: rest) a w:=by
 obtain ⟨i0,hi,hz0,hz1,hz2⟩:=info_parts info_string
 refine wpList_append_own w hgd s x 231 ho B 9 i0 (.string ⟨#[]⟩) 1 16 Tryz.underlying231 hi hz0 hz1 hz2 rfl (by decide) v l.length (strs l) hs hown ad 1 1 [.string (btx n)] hx rfl ?_ ?_ ?_ ?_ hB ?_
 · intro j u hj
   cases j with
   | zero=>simp at hj;subst hj;simpa [Addr.add] using hnew
   | succ j=>simp at hj
 · intro u hu;simp at hu;subst hu;rfl
 · unfold maxLen;omega
 · omega
 · intro v' w' h1 h2 _
   refine h v' w' ?_ (grown_fr h2)
   simpa [strs] using h1
def piece (t:List UInt8) (f k:Nat):List UInt8:=(t.take k).drop f
theorem btx_extract (t:List UInt8) (f k:Nat):(btx t).extract f k=btx (piece t f k):=by
 apply ByteArray.ext
 rw [ByteArray.data_extract]
 apply Array.toList_inj.1
 simp [btx,piece,List.drop_take]
structure CutAt (c:UInt8) (t:List UInt8) (k f:Nat) (ds:List (List UInt8)):Prop where
 le:f≤k
 cut:cutL c t=ds ++ cutL c (t.drop f)
 free:c ∉ piece t f k
theorem CutAt.start (c:UInt8) (t:List UInt8):CutAt c t 0 0 []:=⟨Nat.le_refl _,rfl,by simp [piece]⟩
theorem piece_succ {t:List UInt8} {f k:Nat} (h:k < t.length) (hf:f≤k):piece t f (k+1)=piece t f k ++ [gd t k]:=by
 rw [piece,take_gd h,List.drop_append_of_le_length (by rw [List.length_take];omega)];rfl
theorem CutAt.step {c:UInt8} {t:List UInt8} {k f:Nat} {ds:List (List UInt8)} (h:CutAt c t k f ds) (hk:k < t.length) (hc:gd t k ≠ c):CutAt c t (k+1) f ds :=
 ⟨by have:=h.le;omega,h.cut,by
   rw [piece_succ hk h.le,List.mem_append]
   rintro (e | e)
   · exact h.free e
   · simp at e;exact hc e.symm⟩
theorem drop_split {t:List UInt8} {f k:Nat} (hk:k < t.length) (hf:f≤k):t.drop f=piece t f k ++ gd t k :: t.drop (k+1):=by
 have h1:t.drop f=(t.take (k+1)).drop f ++ t.drop (k+1):=by
  conv=>lhs;rw [← List.take_append_drop (k+1) t]
  rw [List.drop_append_of_le_length (by rw [List.length_take];omega)]
 rw [h1,show (t.take (k+1)).drop f=piece t f (k+1) from rfl,piece_succ hk hf];simp
theorem CutAt.hit {c:UInt8} {t:List UInt8} {k f:Nat} {ds:List (List UInt8)} (h:CutAt c t k f ds) (hk:k < t.length) (hc:gd t k=c):CutAt c t (k+1) (k+1) (ds ++ [piece t f k]) :=
 ⟨Nat.le_refl _,by rw [h.cut,drop_split hk h.le,hc,cutL_app _ h.free];simp,by simp [piece]⟩
theorem CutAt.done {c:UInt8} {t:List UInt8} {f:Nat} {ds:List (List UInt8)} (h:CutAt c t t.length f ds):cutL c t=ds ++ [piece t f t.length]:=by
 have hf:=h.free
 rw [piece,List.take_length] at hf ⊢
 rw [h.cut,cutL_none hf]
theorem CutAt.few {c:UInt8} {t:List UInt8} {k f:Nat} {ds:List (List UInt8)} (h:CutAt c t k f ds):ds.length≤t.length:=by
 have h1:=cutL_len c t
 rw [h.cut,List.length_append] at h1
 have h2:0 < (cutL c (t.drop f)).length:=List.length_pos_iff.2 (cutL_ne c _)
 omega
attribute [local go_sem] btx_extract
set_option maxRecDepth 100000 in
set_option maxHeartbeats 1600000 in
theorem cutS_any (t:List UInt8) (c:UInt8) (w:World) (hl:t.length≤1048576) :
 Calls Tryz.prog 245 #[.string (btx t),.int .u8 c.toNat] w fun e w'=>∃ v,e=.returned v∧w'.ownsRow w.heap.size 9 1 v (cutL c t).length (strs (cutL c t))∧Below w.heap.size w w':=by
 obtain ⟨m,hm⟩:∃ m,t.length=m:=⟨_,rfl⟩
 have hsz:(btx t).size=m:=hm
 rw [hm] at hl
 have HM:=Lib.hid hm
 clear hm
 go_enter Tryz.func245,Tryz.ntmps245
 go_wp2
 go_loopg [5,6,7] (m+1) (fun q v f i wr=>∃ (k g:Nat) (ds:List (List UInt8)),k+q=m+1∧i=.int .i64 k∧f=.int .i64 g∧wr.ownsRow w.heap.size 9 1 v ds.length (strs ds)∧(k≤m→CutAt c t k g ds)∧(k=m+1→ds=cutL c t)∧Below w.heap.size w wr)
 case atStart =>
  exact ⟨0,0,[],by omega,rfl,rfl,World.ownsRow_lit (size:=1) w #[] 0 (Nat.le_refl _) (by decide) (by simp) (e:=9),fun _=>CutAt.start c t,fun h=>by omega,Bl⟩
 case round =>
  obtain ⟨k,g,ds,hk,rfl,rfl,hown,hcut,hend,hb⟩:=hrel
  have HK:=Lib.hid hk
  have HE:=Lib.hid hend
  have HC:=Lib.hid hcut
  clear hk hend hcut
  have hs:=hb.size
  by_cases hk8:k < m
  · have i1:(k:Int) < (m:Int):=by omega
    have i2:(k:Int)≤(m:Int):=by omega
    have i3:((k:Int) == (m:Int))=false:=beq_eq_false_iff_ne.2 (by omega)
    have hC:=HC.out (by omega)
    have i5:(g:Int)≤(k:Int):=by have:=hC.le;omega
    have hkt:k < (btx t).size:=by rw [hsz];exact hk8
    have hget:(btx t)[k]=gd t k:=by
     rw [gd_of (show k < t.length from hkt)];rfl
    have FEW:=hC.few
    rw [HM.out] at FEW
    by_cases hc:gd t k=c
    · have i4:(((btx t)[k].toNat:Int) == (c.toNat:Int))=true:=by rw [hget,hc];exact beq_self_eq_true _
      have HN:=Lib.hid (hC.hit (by rw [HM.out];exact hk8) hc)
      clear hget hC hc
      go_wp2_with (at_builtin;go_must (refine app_str _ rfl _ _ rfl w.heap.size _ ds rfl (own_keep hown (below_alloc _ _)) ⟨wr.heap.size,0,none⟩ (piece t g k) rfl (cell_new1 _ _ _) (by omega) (by simp;omega) ?_);intro v' w1 hown1 hf1)
      go_roundg (gk - 1)
      case rel=>exact ⟨k+1,k+1,ds ++ [piece t g k],by have:=HK.out;omega,by go_num,by go_num,hown1,fun _=>HN.out,fun e=>by omega,below_own (own_keep hown (below_alloc _ _)) hf1 (hb.trans ((below_alloc _ _).mono hs)) (by simp;omega)⟩
      case measure=>have:=HK.out;omega
    · have i4:(((btx t)[k].toNat:Int) == (c.toNat:Int))=false:=by
       rw [hget];refine beq_eq_false_iff_ne.2 fun e=>hc (UInt8.toNat_inj.1 (by omega))
      have HN:=Lib.hid (hC.step (by rw [HM.out];exact hk8) hc)
      clear hget hC hc
      go_wp2
      go_roundg (gk - 1)
      case rel=>exact ⟨k+1,g,ds,by have:=HK.out;omega,by go_num,rfl,hown,fun _=>HN.out,fun e=>by omega,hb⟩
      case measure=>have:=HK.out;omega
  · by_cases hk9:k=m
    · subst hk9
      have i3:((k:Int) == (k:Int))=true:=beq_self_eq_true _
      have hC:=HC.out (Nat.le_refl _)
      have i5:(g:Int)≤(k:Int):=by have:=hC.le;omega
      have FEW:=hC.few
      rw [HM.out] at FEW
      have hD:CutAt c t t.length g ds:=by rw [HM.out];exact hC
      have hdone:=hD.done
      rw [HM.out] at hdone
      have HN:=Lib.hid hdone
      clear hC hD hdone hk8
      go_wp2_with (at_builtin;go_must (refine app_str _ rfl _ _ rfl w.heap.size _ ds rfl (own_keep hown (below_alloc _ _)) ⟨wr.heap.size,0,none⟩ (piece t g k) rfl (cell_new1 _ _ _) (by omega) (by simp;omega) ?_);intro v' w1 hown1 hf1)
      go_roundg (gk - 1)
      case rel=>exact ⟨k+1,k+1,ds ++ [piece t g k],by have:=HK.out;omega,by go_num,by go_num,hown1,fun e=>by omega,fun _=>HN.out.symm,below_own (own_keep hown (below_alloc _ _)) hf1 (hb.trans ((below_alloc _ _).mono hs)) (by simp;omega)⟩
      case measure=>have:=HK.out;omega
    · have hke:k=m+1:=by have:=HK.out;omega
      have hds:=HE.out hke
      have i2:¬ (k:Int)≤(m:Int):=by omega
      rw [hds] at hown
      clear hke hds
      go_wp2
      go_ret
      exact ⟨_,rfl,hown,hb⟩
theorem strs_at {w:World} {B:Nat} {v:Value} {l:List (List UInt8)} (h:w.ownsRow B 9 1 v l.length (strs l)) (hl:0 < l.length) :
 ∃ g cap,v=.slice (some ⟨g,0,none⟩) l.length cap∧B≤g∧g < w.heap.size∧∀ i,i < l.length→w.cell? ⟨g,i,none⟩=some (.string (btx (gd l i))):=by
 have h':=h
 rcases h.2 with ⟨e,h1⟩ | ⟨g,cap,cur,hv,hb,h1,_⟩
 · omega
 · subst hv
   refine ⟨g,cap,rfl,hb,(Array.getElem?_eq_some_iff.1 h1).1,fun i hi=>?_⟩
   rw [h'.cellAt i (by omega),strs,List.getElem?_map,gd_of hi,List.getElem?_eq_getElem hi];rfl
theorem btx_toList (x:List UInt8):(btx x).toList=x:=by rw [ByteArray.toList_eq];simp [btx]
theorem btx_leq (x y:List UInt8):((btx x).toList == (btx y).toList)=decide (x=y):=by
 rw [btx_toList,btx_toList]
 by_cases h:x=y
 · simp [h]
 · rw [decide_eq_false h];exact beq_eq_false_iff_ne.2 h
theorem joinT_mem_len (c:UInt8):∀ {l:List (List UInt8)} {x:List UInt8},x ∈ l→x.length≤(joinT c l).length
 | [y],x,h=>by simp at h;subst h;exact Nat.le_refl _
 | y :: z :: r,x,h=>by
   rw [joinT_cons c y (by simp),List.length_append,List.length_cons]
   rcases List.mem_cons.1 h with rfl | h
   · omega
   · have:=joinT_mem_len c h;omega
theorem cut_short {c:UInt8} {t x:List UInt8} (h:x ∈ cutL c t):x.length≤t.length:=by
 have:=joinT_mem_len c h
 rwa [join_cut] at this
end Go.Proofs.YtkbbmjcfgcfejaaGreat
