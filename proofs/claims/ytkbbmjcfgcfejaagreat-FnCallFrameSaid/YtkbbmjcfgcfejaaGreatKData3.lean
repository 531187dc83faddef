/- Data3: texts Ls3, App, App2, AppE in one. -/
import Derived.Test.YtkbbmjcfgcfejaaGreatKData1
import Derived.Maps.AppendAt
import Derived.Deep.AppendLies
import Derived.RegionTactic
import Derived.OwnWalk
import Derived.Laws.OwnMore
import Derived.Deep.Draws
namespace Go.Proofs.YtkbbmjcfgcfejaaGreat
open Go.RowKit
set_option maxHeartbeats 800000 in
theorem asnValidI_any {S1 S2:Nat→Prop} (v1 v2:Value) (a:Asn) (w:World) (h1:RL w S1 v1 a.1) (h2:RL w S2 v2 a.2) :
 Calls Tryz.prog 64 #[.agg #[v1,v2]] w fun e w'=>e=.returned (.bool (asnB a))∧Below w.heap.size w w':=by
 obtain ⟨l1,l⟩:=a
 have hm:=h2.len
 simp only at h1 h2 hm
 unfold maxLen at hm
 obtain ⟨a2,c2,rfl,_,_,hf⟩:=h2.atomAt
 have F1:=Lib.hid hf
 clear hf h2
 cases hq:factsB l1
 · have hfin:asnB (l1,l)=false:=by simp [asnB,hq]
   have HF:=Lib.hid (And.intro hfin hq)
   clear hfin hq
   go_enter Tryz.func64,Tryz.ntmps64
   go_wp2_with fail
   refine (cb (factsValidI_any v1 l1 _ (h1.alloc _)) HF.out.2).mono ?_
   rintro e w1 ⟨rfl,hb1⟩
   go_wp2
   go_ret
   exact ⟨by rw [HF.out.1];rfl,bt (below_alloc _ _) hb1⟩
 by_cases hl:l.length≤6
 rotate_left
 · have hfin:asnB (l1,l)=false:=by simp only [asnB];simp [hl]
   have hgt:(6:Int) < (l.length:Int):=by omega
   have HF:=Lib.hid (And.intro hfin hq)
   clear hfin hl hq
   go_enter Tryz.func64,Tryz.ntmps64
   go_wp2_with fail
   refine (cb (factsValidI_any v1 l1 _ (h1.alloc _)) HF.out.2).mono ?_
   rintro e w1 ⟨rfl,hb1⟩
   have hc1:=cell_keep hb1 (p:=⟨w.heap.size,1,none⟩) (v:=.slice a2 l.length c2) (by simp)
   go_wp2
   go_ret
   exact ⟨by rw [HF.out.1];rfl,bt (below_alloc _ _) hb1⟩
 have hgt:¬ (6:Int) < (l.length:Int):=by omega
 have HQ:=Lib.hid hq
 clear hq
 go_enter Tryz.func64,Tryz.ntmps64
 go_wp2_with fail
 refine (cb (factsValidI_any v1 l1 _ (h1.alloc _)) HQ.out).mono ?_
 rintro e w1 ⟨rfl,hb1⟩
 have hc1:=cell_keep hb1 (p:=⟨w.heap.size,1,none⟩) (v:=.slice a2 l.length c2) (by simp)
 have hb0:=bt (below_alloc _ _) hb1
 clear hb1
 go_wp2
 go_loopg [18] l.length (fun q i wr=>∃ k:Nat,k+q=l.length∧i=.int .i64 k∧(l.take k).all atomB=true∧Below w.heap.size w wr)
 case atStart=>exact ⟨0,by omega,rfl,by simp,hb0⟩
 case round =>
  clear hc1 hb0;obtain ⟨k,hk,rfl,ht,hb⟩:=hrel
  have HK:=Lib.hid hk
  have HT:=Lib.hid ht
  clear hk ht
  by_cases hk8:k < l.length
  · obtain ⟨b1,o1,rfl,_,hbl1,hp1,hp2,hp3⟩:=F1.out k hk8
    replace hp1:=cell_keep hb hp1;replace hp2:=cell_keep hb hp2;replace hp3:=cell_keep hb hp3
    have hs:=hb.size
    have i1:(k:Int) < (l.length:Int):=by omega
    have hzb:b1 < wr.heap.size:=by omega
    cases hp:atomB (gd l k)
    · have hfin:asnB (l1,l)=false:=by simp only [asnB];rw [all_no hk8 hp];simp
      have HF:=Lib.hid (And.intro hfin hp)
      clear hfin hp
      go_wp2_with fail
      refine (cb (atomValidI_any (gd l k) _) HF.out.2).mono ?_
      rintro e w2 ⟨rfl,hb2⟩
      go_wp2
      go_ret
      exact ⟨by rw [HF.out.1];rfl,bt Bl hb2⟩
    · have HP:=Lib.hid hp
      clear hp
      go_wp2_with fail
      refine (cb (atomValidI_any (gd l k) _) HP.out).mono ?_
      rintro e w2 ⟨rfl,hb2⟩
      go_wp2
      go_roundg (gk - 1)
      case rel=>exact ⟨k+1,by have:=HK.out;omega,by go_num,all_take_yes hk8 HT.out HP.out,bt Bl hb2⟩
      case measure=>have:=HK.out;omega
  · obtain rfl:k=l.length:=by have:=HK.out;omega
    have hall:=all_end HT.out
    have HA:=Lib.hid hall
    clear hall HT
    go_wp2
    go_ret
    exact ⟨by simp only [asnB];rw [HA.out,HQ.out];simp;omega,hb⟩
set_option maxHeartbeats 800000 in
theorem asnValidS_any {S1 S2:Nat→Prop} (v1 v2:Value) (a:Asn) (w:World) (h1:RL w S1 v1 a.1) (h2:RL w S2 v2 a.2) :
 Calls Tryz.prog 71 #[.agg #[v1,v2]] w fun e w'=>e=.returned (.bool (asnB a))∧Below w.heap.size w w':=by
 obtain ⟨l1,l⟩:=a
 have hm:=h2.len
 simp only at h1 h2 hm
 unfold maxLen at hm
 obtain ⟨a2,c2,rfl,_,_,hf⟩:=h2.atomAt
 have F1:=Lib.hid hf
 clear hf h2
 go_enter Tryz.func71,Tryz.ntmps71
 go_wp2
 go_loopg [3] l.length (fun q i wr=>∃ k:Nat,k+q=l.length∧i=.int .i64 k∧(l.take k).all atomB=true∧Below w.heap.size w wr∧wr.cell? ⟨w.heap.size,0,none⟩=some v1∧wr.cell? ⟨w.heap.size,1,none⟩=some (.slice a2 l.length c2))
 case atStart=>exact ⟨0,by omega,rfl,by simp,below_alloc _ _,by simp,by simp⟩
 case round =>
  obtain ⟨k,hk,rfl,ht,hb,hc0,hc1⟩:=hrel
  have HK:=Lib.hid hk
  have HT:=Lib.hid ht
  clear hk ht
  by_cases hk8:k < l.length
  · obtain ⟨b1,o1,rfl,_,hbl1,hp1,hp2,hp3⟩:=F1.out k hk8
    replace hp1:=cell_keep hb hp1;replace hp2:=cell_keep hb hp2;replace hp3:=cell_keep hb hp3
    have hs:=hb.size
    have i1:(k:Int) < (l.length:Int):=by omega
    have hzb:b1 < wr.heap.size:=by omega
    cases hp:atomB (gd l k)
    · have hfin:asnB (l1,l)=false:=by simp only [asnB];rw [all_no hk8 hp];simp
      have HF:=Lib.hid (And.intro hfin hp)
      clear hfin hp
      go_wp2_with fail
      refine (cb (atomValidS_any (gd l k) _) HF.out.2).mono ?_
      rintro e w2 ⟨rfl,hb2⟩
      go_wp2
      go_ret
      exact ⟨by rw [HF.out.1];rfl,bt Bl hb2⟩
    · have HP:=Lib.hid hp
      clear hp
      go_wp2_with fail
      refine (cb (atomValidS_any (gd l k) _) HP.out).mono ?_
      rintro e w2 ⟨rfl,hb2⟩
      replace hc0:=cell_keep hb2 hc0;replace hc1:=cell_keep hb2 hc1
      go_wp2
      go_roundg (gk - 1)
      case rel=>exact ⟨k+1,by have:=HK.out;omega,by go_num,all_take_yes hk8 HT.out HP.out,bt Bl hb2,hc0,hc1⟩
      case measure=>have:=HK.out;omega
  · obtain rfl:k=l.length:=by have:=HK.out;omega
    have hall:=all_end HT.out
    have HA:=Lib.hid hall
    clear hall HT
    cases hq:factsB l1
    · have hfin:asnB (l1,l)=false:=by simp [asnB,hq]
      have HF:=Lib.hid (And.intro hfin hq)
      clear hfin hq
      go_wp2_with fail
      refine (cb (factsValidS_any v1 l1 _ (h1.keep hb)) HF.out.2).mono ?_
      rintro e w1 ⟨rfl,hb1⟩
      go_wp2
      go_ret
      exact ⟨by rw [HF.out.1];rfl,bt hb hb1⟩
    · have hfin:asnB (l1,l)=decide (l.length≤6):=by simp only [asnB];rw [HA.out,hq];simp
      have HF:=Lib.hid (And.intro hfin hq)
      clear hfin hq
      go_wp2_with fail
      refine (cb (factsValidS_any v1 l1 _ (h1.keep hb)) HF.out.2).mono ?_
      rintro e w1 ⟨rfl,hb1⟩
      replace hc1:=cell_keep hb1 hc1
      go_wp2
      go_ret
      exact ⟨by rw [HF.out.1];simp;omega,bt hb hb1⟩
end Go.Proofs.YtkbbmjcfgcfejaaGreat
namespace Go.Proofs.YtkbbmjcfgcfejaaGreat
open Go.RowKit
def Reads (w:World) (B size:Nat) (A:Option Addr) (n:Nat) (xs:List Value):Prop :=
 xs.length=n * size∧(0 < n→∃ ad,A=some ad∧ad.block < B∧∀ j u,xs[j]?=some u→w.cell? (ad.add j)=some u)
section
variable {P:Program} (w:World)
theorem run_append_of_nil (base:Nat) (t ty e:TypeId) (i:TypeInfo) (size:Nat) (ht:P.underlying t=some (.slice e)) (hi:P.info? e=some i)
 (v:Value) (n:Nat) (xs:List Value) (hown:w.ownsRow base e size v n xs) (c:Nat):(Builtin.append_ #[t,t] ty #[v,.slice none 0 c]).run P w=.ok v w:=by
 rcases hown.2 with ⟨rfl,rfl⟩ | ⟨g,cap,cur,rfl,_,_,hnc,_⟩
 · simp [Builtin.append_,run_underlying ht,sizeOf,typeInfo,hi,Builtin.lenOf,Builtin.firstCells]
 · simp [Builtin.append_,run_underlying ht,sizeOf,typeInfo,hi,Builtin.lenOf,Builtin.firstCells,hnc,storeCells]
theorem run_append_any (base:Nat) (t ty e:TypeId) (i:TypeInfo) (z:Value) (size bytes:Nat) (ht:P.underlying t=some (.slice e)) (hi:P.info? e=some i) (hz:i.zero=some z)
 (hsize:i.size=size) (hby:i.bytes=bytes) (hzs:z.cells.size=size) (hsz:0 < size)
 (v:Value) (n:Nat) (xs:List Value) (hown:w.ownsRow base e size v n xs)
 (B:Nat) (A:Option Addr) (m c:Nat) (news:List Value) (hr:Reads w B size A m news) (h1:∀ u ∈ news,u.oneCell'=true)
 (h63:n+m≤maxLen) (hbytes:(n+m) * bytes≤140737488355328) (hbase:base≤w.heap.size) :
 ∃ v' w',(Builtin.append_ #[t,t] ty #[v,.slice A m c]).run P w=.ok v' w'∧w'.ownsRow base e size v' (n+m) (xs ++ news)∧w.grownBy w' v.ownBlock ∧
   (v'.ownBlock=v.ownBlock∨v'.ownBlock=some w.heap.size):=by
 rcases A with _ | ad
 · have hm:m=0:=by
    rcases Nat.eq_zero_or_pos m with h0 | h0
    · exact h0
    · obtain ⟨ad,h,_⟩:=hr.2 h0
      cases h
   subst hm
   have hn:news=[]:=List.eq_nil_of_length_eq_zero (by simpa using hr.1)
   subst hn
   exact ⟨v,w,run_append_of_nil w base t ty e i size ht hi v n xs hown c,by simpa using hown,World.grownBy.refl w _,.inl rfl⟩
 · have hcells:∀ j u,news[j]?=some u→w.cell? (ad.add j)=some u:=by
    intro j u hu
    rcases Nat.eq_zero_or_pos m with h0 | h0
    · subst h0
      have hn:news=[]:=List.eq_nil_of_length_eq_zero (by simpa using hr.1)
      subst hn
      simp at hu
    · obtain ⟨ad',h,_,hc⟩:=hr.2 h0
      injection h with h
      subst h
      exact hc j u hu
   obtain ⟨v',w',hrun,h2,h3,_,h5⟩:=run_append_own_at (P:=P) w base t ty e i z size bytes ht hi hz hsize hby hzs hsz v n xs hown ad m c news hr.1 hcells h1 h63 hbytes hbase
   exact ⟨v',w',hrun,h2,h3,h5⟩
end
def TI (t e:TypeId) (sz:Nat):Prop:=∃ (i:TypeInfo) (z:Value),Tryz.prog.underlying t=some (.slice e)∧Tryz.prog.info? e=some i∧i.zero=some z∧i.size=sz∧i.bytes≤128∧z.cells.size=sz∧0 < sz
theorem ti_mk {t e:TypeId} {sz by_:Nat} {z:Value} (ht:Tryz.prog.underlying t=some (.slice e)) (h:(Tryz.prog.info? e).map (fun i=>(i.zero,i.size,i.bytes))=some (some z,sz,by_)) (hb:by_≤128) (hz:z.cells.size=sz) (hs:0 < sz):TI t e sz:=by
 obtain ⟨i,h1,h2,h3,h4⟩:=info_parts h
 exact ⟨i,z,ht,h1,h2,h3,by omega,hz,hs⟩
theorem ti_int:TI 27 3 1:=ti_mk Tryz.underlying27 info_int (by decide) rfl (by decide)
theorem ti_fact:TI 23 61 3:=ti_mk Tryz.underlying23 info_fact (by decide) rfl (by decide)
theorem ti_atom:TI 24 118 3:=ti_mk Tryz.underlying24 info_atom (by decide) rfl (by decide)
section
variable {α:Type} [Dat α] {w:World} {S:Nat→Prop} {l:List α}
theorem nth_flat {sz:Nat}:∀ {L:List (List Value)},(∀ c ∈ L,c.length=sz)→∀ {i:Nat},i < L.length→nth sz L.flatten i=gd L i
 | [],_,i,hi=>absurd hi (by simp)
 | c :: L,h,0,_=>by
   have hc:=h c List.mem_cons_self
   rw [nth,Nat.zero_mul,List.drop_zero,List.flatten_cons,gd_cons0,List.take_append_of_le_length (by omega),← hc,List.take_length]
 | c :: L,h,i+1,hi=>by
   have hc:=h c List.mem_cons_self
   have ih:=nth_flat (L:=L) (fun d hd=>h d (List.mem_cons_of_mem _ hd)) (i:=i) (by simpa using hi)
   rw [nth] at ih ⊢
   rw [List.flatten_cons,Nat.succ_mul,show i * sz+sz=c.length+i * sz by omega,← List.drop_drop,List.drop_left,ih]
   rfl
theorem flat_len {sz:Nat}:∀ {L:List (List Value)},(∀ c ∈ L,c.length=sz)→L.flatten.length=L.length * sz
 | [],_=>by simp
 | c :: L,h=>by
   rw [List.flatten_cons,List.length_append,h c List.mem_cons_self,flat_len (fun d hd=>h d (List.mem_cons_of_mem _ hd)),List.length_cons,Nat.succ_mul];omega
theorem RL.reads {A:Option Addr} {n c:Nat} (h:RL w S (.slice A n c) l):n=l.length∧∃ news,Reads w w.heap.size (Dat.sz α) A l.length news∧(∀ u ∈ news,u.oneCell'=true) ∧
 ∀ i,i < l.length→Dat.rd w S (gd l i) (nth (Dat.sz α) news i):=by
 rcases h with ⟨a,cap,e,rfl,h,_⟩ | ⟨b,o,cap,e,h1,h2,h3,h4⟩
 · injection e with e1 e2 e3
   exact ⟨e2,[],⟨by simp,fun h=>absurd h (by simp)⟩,(fun u hu=>absurd hu (by simp)),(fun i hi=>absurd hi (by simp))⟩
 · injection e with e1 e2 e3
   refine ⟨e2,?_⟩
   obtain ⟨L,hL,hq⟩:=choose_listA (n:=l.length) (Q:=fun i cs=>Dat.rd w S (gd l i) cs∧∀ j u,cs[j]?=some u→w.cell? ⟨b,o+(i * Dat.sz α+j),none⟩=some u) h4
   have hlen:∀ c ∈ L,c.length=Dat.sz α:=fun c hc=>by
    obtain ⟨i,hi,rfl⟩:=List.getElem_of_mem hc
    have:=(hq i (by omega)).1
    rw [gd_of hi] at this
    exact Dat.len this
   have hnth:∀ i,i < l.length→nth (Dat.sz α) L.flatten i=gd L i:=fun i hi=>nth_flat hlen (by omega)
   refine ⟨L.flatten,⟨by rw [flat_len hlen,hL],fun hp=>⟨_,e1,(h3 hp).2,fun j u hj=>?_⟩⟩,fun u hu=>?_,fun i hi=>by rw [hnth i hi];exact (hq i hi).1⟩
   · have hjl:j < L.flatten.length:=(List.getElem?_eq_some_iff.1 hj).1
     rw [flat_len hlen,hL] at hjl
     have hsz:0 < Dat.sz α:=Nat.pos_of_ne_zero fun e=>by rw [e] at hjl;simp at hjl
     have hi:j / Dat.sz α < l.length:=(Nat.div_lt_iff_lt_mul hsz).2 hjl
     have hm:j % Dat.sz α < Dat.sz α:=Nat.mod_lt _ hsz
     have hd:(j / Dat.sz α) * Dat.sz α+j % Dat.sz α=j:=by rw [Nat.mul_comm];exact Nat.div_add_mod _ _
     have hx:(nth (Dat.sz α) L.flatten (j / Dat.sz α))[j % Dat.sz α]?=some u:=by
      rw [nth,List.getElem?_take,if_pos hm,List.getElem?_drop,hd];exact hj
     rw [hnth _ hi] at hx
     have:=(hq _ hi).2 _ _ hx
     rw [hd] at this
     have e:(⟨b,o,none⟩:Addr).add j=⟨b,o+j,none⟩:=by unfold Addr.add;split <;> simp_all
     rw [e];exact this
   · obtain ⟨c,hc,hu⟩:=List.mem_flatten.1 hu
     obtain ⟨i,hi,rfl⟩:=List.getElem_of_mem hc
     have:=(hq i (by omega)).1
     rw [gd_of hi] at this
     exact Dat.one this u hu
where
 choose_listA {Q:Nat→List Value→Prop}:∀ {n:Nat},(∀ i,i < n→∃ x,Q i x)→∃ l:List (List Value),l.length=n∧∀ i,i < n→Q i (gd l i)
  | 0,_=>⟨[],rfl,fun i hi=>absurd hi (by omega)⟩
  | n+1,h=>by
    obtain ⟨l,hl,hq⟩:=choose_listA (n:=n) fun i hi=>h i (by omega)
    obtain ⟨x,hx⟩:=h n (by omega)
    refine ⟨l ++ [x],by simp [hl],fun i hi=>?_⟩
    by_cases e:i < n
    · rw [gd_app1 (by omega)];exact hq i e
    · obtain rfl:i=n:=by omega
      rw [← hl,gd_snoc,hl];exact hx
end
section
variable {α:Type} [Dat α] {w:World} {S:Nat→Prop} {l:List α}
theorem run_app {B:Nat} {t e:TypeId} (ti:TI t e (Dat.sz α)) (ty:TypeId) {v:Value} {n:Nat} {xs:List Value} (hown:w.ownsRow B e (Dat.sz α) v n xs) {x:Value} (hr:RL w S x l) (hn:n+l.length≤1099511627776) (hB:B≤w.heap.size) :
 ∃ v' w' news,(Builtin.append_ #[t,t] ty #[v,x]).run Tryz.prog w=.ok v' w'∧w'.ownsRow B e (Dat.sz α) v' (n+l.length) (xs ++ news)∧news.length=l.length * Dat.sz α ∧
   (∀ i,i < l.length→Dat.rd w S (gd l i) (nth (Dat.sz α) news i))∧Fr (fun k=>some k=v.ownBlock) w w'∧(v'.ownBlock=v.ownBlock∨v'.ownBlock=some w.heap.size):=by
 obtain ⟨i,z,h1,h2,h3,h4,h5,h6,h7⟩:=ti
 obtain ⟨a,c,rfl⟩:=hr.form
 obtain ⟨_,news,hrd,hone,hnth⟩:=hr.reads
 obtain ⟨v',w',hrun,ho,hg,hl⟩:=run_append_any (P:=Tryz.prog) w B t ty e i z _ i.bytes h1 h2 h3 h4 rfl h6 h7 v n xs hown _ a l.length c news hrd hone (by unfold maxLen;omega) (by
  have:(n+l.length) * i.bytes≤1099511627776 * 128:=Nat.mul_le_mul hn h5
  omega) hB
 exact ⟨v',w',news,hrun,ho,hrd.1,hnth,grown_fr hg,hl⟩
theorem wp_app {o:Oper} {a:Act} {K:Act→World→Prop} {Q:Exit→Act→World→Prop} (s x:Operand) (t:TypeId)
 (ho:o.op=.call { callee:=.builtin .append,args:=#[s,x],argTypes:=#[t,t] }) {B:Nat} {e:TypeId} (ti:TI t e (Dat.sz α)) {v vx:Value} {n:Nat} {xs:List Value} (hs:a.eval s=v) (hown:w.ownsRow B e (Dat.sz α) v n xs)
 (hx:a.eval x=vx) (hr:RL w S vx l) (hn:n+l.length≤1099511627776) (hB:B≤w.heap.size)
 (h:∀ v' w' news,w'.ownsRow B e (Dat.sz α) v' (n+l.length) (xs ++ news)→news.length=l.length * Dat.sz α→(∀ i,i < l.length→Dat.rd w S (gd l i) (nth (Dat.sz α) news i))→Fr (fun k=>some k=v.ownBlock) w w'→(v'.ownBlock=v.ownBlock∨v'.ownBlock=some w.heap.size)→K (a.put o.dst v') w'):o.wp Tryz.prog a w K Q:=by
 obtain ⟨v',w',news,hrun,h1,h2,h3,h4,h5⟩:=run_app ti o.type hown hr hn hB
 unfold Oper.wp execOp
 simp only [ho,resolve,invoke,builtin,Sem.run_bind,Sem.run_pure,Result.andThen_ok,List.map_toArray,List.map_cons,List.map_nil,hs,hx,hrun]
 exact h v' w' news h1 h2 h3 h4 h5
theorem app_rl {ops:Array Oper} {rest:List Oper} {o:Oper} {a:Act} {Q:Exit→Act→World→Prop} (hgd:o.guard=none) (s x:Operand) (t:TypeId)
 (ho:o.op=.call { callee:=.builtin .append,args:=#[s,x],argTypes:=#[t,t] }) {B:Nat} {e:TypeId} (ti:TI t e (Dat.sz α)) {v vx:Value} {n:Nat} {xs:List Value} (hs:a.eval s=v) (hown:w.ownsRow B e (Dat.sz α) v n xs)
 (hx:a.eval x=vx) (hr:RL w S vx l) (hn:n+l.length≤1099511627776) (hB:B≤w.heap.size)
 (h:∀ v' w' news,w'.ownsRow B e (Dat.sz α) v' (n+l.length) (xs ++ news)→news.length=l.length * Dat.sz α→(∀ i,i < l.length→Dat.rd w S (gd l i) (nth (Dat.sz α) news i))→Fr (fun k=>some k=v.ownBlock) w w'→(v'.ownBlock=v.ownBlock∨v'.ownBlock=some w.heap.size)→wpList Tryz.prog ops Q rest (a.put o.dst v') w'):wpList Tryz.prog ops Q (o :: rest) a w :=
 wpList_plain hgd fun _ hK=>wp_app s x t ho ti hs hown hx hr hn hB fun v' w' news h1 h2 h3 h4 h5=>hK _ _ (h v' w' news h1 h2 h3 h4 h5)
end
theorem app_first {w:World} {B e sz n:Nat} {v:Value} {news:List Value} (h:w.ownsRow B e sz v (0+n) ([] ++ news)):w.ownsRow B e sz v n news:=by simpa using h
class Flat (α:Type) extends Own α where
 flat:∀ {w w' S B a cs},rd w S a cs→own w' B a cs []
 none:∀ {w B a cs fp},own w B a cs fp→fp=[]
instance:Flat Int where
 flat:=fun h=>⟨h,rfl⟩
 none:=fun h=>h.2
instance:Flat Bool where
 flat:=fun h=>⟨h,rfl⟩
 none:=fun h=>h.2
instance {α β:Type} [Flat α] [Flat β]:Flat (α × β) where
 flat:=fun h=>by
  obtain ⟨c1,c2,rfl,h1,h2⟩:=h
  exact ⟨c1,c2,[],[],rfl,rfl,Flat.flat h1,Flat.flat h2⟩
 none:=fun h=>by
  obtain ⟨c1,c2,f1,f2,_,rfl,h1,h2⟩:=h
  rw [Flat.none h1,Flat.none h2];rfl
section
variable {α:Type} [Flat α] [Tid α] {w w':World} {B:Nat} {v:Value} {l m:List α} {fp:List Nat} {xs news:List Value}
theorem flat_mk (hr:w.ownsRow B (Tid.tid α) (Dat.sz α) v l.length xs) {w1:World} {S:Nat→Prop} (h:∀ i,i < l.length→Dat.rd w1 S (gd l i) (nth (Dat.sz α) xs i)):OL w B v l v.ownBlock.toList:=by
 refine ⟨xs,List.replicate l.length [],hr,by simp,by simp,fun i hi=>?_⟩
 rw [show gd (List.replicate l.length ([]:List Nat)) i=[] by simp [gd,hi]]
 exact Flat.flat (h i hi)
theorem flat_fp (h:OL w B v l fp):fp=v.ownBlock.toList:=(h.row fun h=>Flat.none h).2
theorem flat_parts (h:OL w B v l fp):∃ xs,w.ownsRow B (Tid.tid α) (Dat.sz α) v l.length xs∧∀ i,i < l.length→Dat.rd w (fun _=>True) (gd l i) (nth (Dat.sz α) xs i):=by
 obtain ⟨xs,fps,hr,hl,_,ho⟩:=h
 exact ⟨xs,hr,fun i hi=>Dat.more (Own.read (ho i hi)) fun _ _ _=>trivial⟩
theorem nth_app3 {sz n i:Nat} {xs ys:List Value} (hl:xs.length=n * sz):nth sz (xs ++ ys) (n+i)=nth sz ys i:=by
 unfold nth
 rw [Nat.add_mul,← hl,← List.drop_drop,List.drop_left]
theorem flat_app {w1 w2:World} {S:Nat→Prop} {v':Value} (hr:w'.ownsRow B (Tid.tid α) (Dat.sz α) v' (l.length+m.length) (xs ++ news)) (hx:xs.length=l.length * Dat.sz α)
 (h1:∀ i,i < l.length→Dat.rd w1 (fun _=>True) (gd l i) (nth (Dat.sz α) xs i)) (h2:∀ i,i < m.length→Dat.rd w2 S (gd m i) (nth (Dat.sz α) news i)):OL w' B v' (l ++ m) v'.ownBlock.toList:=by
 refine flat_mk (w1:=w') (S:=fun _=>True) (by rw [List.length_append];exact hr) fun i hi=>?_
 have conv:∀ {w1:World} {S:Nat→Prop} {a:α} {cs:List Value},Dat.rd w1 S a cs→Dat.rd w' (fun _=>True) a cs:=fun h=>Dat.more (Own.read (Flat.flat (w':=w') (B:=0) h)) fun _ _ _=>trivial
 rw [List.length_append] at hi
 by_cases hlt:i < l.length
 · rw [gd_app1 hlt,nth_app1 hx hlt];exact conv (h1 i hlt)
 · obtain ⟨j,rfl⟩:∃ j,i=l.length+j:=⟨i - l.length,by omega⟩
   rw [gd_app2 (by omega),nth_app3 hx,Nat.add_sub_cancel_left]
   exact conv (h2 j (by omega))
end
end Go.Proofs.YtkbbmjcfgcfejaaGreat
namespace Go.Proofs.YtkbbmjcfgcfejaaGreat
open Go.RowKit
section
variable {w:World}
theorem run_cells {B:Nat} {t e:TypeId} {sz:Nat} (ti:TI t e sz) (ty:TypeId) {v:Value} {n:Nat} {xs:List Value} (hown:w.ownsRow B e sz v n xs) {A:Option Addr} {m c:Nat} {news:List Value} (hl:news.length=m * sz)
 (hnews:0 < m→∃ b o,A=some ⟨b,o,none⟩∧∀ j u,news[j]?=some u→w.cell? ⟨b,o+j,none⟩=some u) (h1:∀ u ∈ news,u.oneCell'=true) (hn:n+m≤1099511627776) (hB:B≤w.heap.size) :
 ∃ v' w',(Builtin.append_ #[t,t] ty #[v,.slice A m c]).run Tryz.prog w=.ok v' w'∧w'.ownsRow B e sz v' (n+m) (xs ++ news)∧Fr (fun k=>some k=v.ownBlock) w w'∧(v'.ownBlock=v.ownBlock∨v'.ownBlock=some w.heap.size):=by
 obtain ⟨i,z,t1,t2,t3,t4,t5,t6,t7⟩:=ti
 have hrd:Reads w w.heap.size sz A m news:=⟨hl,fun hm=>by
  obtain ⟨b,o,rfl,hc⟩:=hnews hm
  have hpos:0 < news.length:=by rw [hl];exact Nat.mul_pos hm t7
  have h0:=hc 0 _ (List.getElem?_eq_getElem hpos)
  refine ⟨_,rfl,by have:=World.block_lt_of_cell? w _ h0;simpa using this,fun j u hj=>?_⟩
  have e:(⟨b,o,none⟩:Addr).add j=⟨b,o+j,none⟩:=by unfold Addr.add;split <;> simp_all
  rw [e];exact hc j u hj⟩
 obtain ⟨v',w',hrun,ho,hg,hl⟩:=run_append_any (P:=Tryz.prog) w B t ty e i z _ i.bytes t1 t2 t3 t4 rfl t6 t7 v n xs hown _ A m c news hrd h1 (by unfold maxLen;omega) (by
  have:(n+m) * i.bytes≤1099511627776 * 128:=Nat.mul_le_mul hn t5
  omega) hB
 exact ⟨v',w',hrun,ho,grown_fr hg,hl⟩
theorem wp_cells {o:Oper} {a:Act} {K:Act→World→Prop} {Q:Exit→Act→World→Prop} (s x:Operand) (t:TypeId)
 (ho:o.op=.call { callee:=.builtin .append,args:=#[s,x],argTypes:=#[t,t] }) {B:Nat} {e:TypeId} {sz:Nat} (ti:TI t e sz) {v:Value} {n:Nat} {xs:List Value} (hs:a.eval s=v) (hown:w.ownsRow B e sz v n xs)
 {A:Option Addr} {m c:Nat} {news:List Value} (hx:a.eval x=.slice A m c) (hl:news.length=m * sz)
 (hnews:0 < m→∃ b o,A=some ⟨b,o,none⟩∧∀ j u,news[j]?=some u→w.cell? ⟨b,o+j,none⟩=some u) (h1:∀ u ∈ news,u.oneCell'=true) (hn:n+m≤1099511627776) (hB:B≤w.heap.size)
 (h:∀ v' w',w'.ownsRow B e sz v' (n+m) (xs ++ news)→Fr (fun k=>some k=v.ownBlock) w w'→(v'.ownBlock=v.ownBlock∨v'.ownBlock=some w.heap.size)→K (a.put o.dst v') w'):o.wp Tryz.prog a w K Q:=by
 obtain ⟨v',w',hrun,h1,h2,h3⟩:=run_cells ti o.type hown hl hnews h1 hn hB (c:=c)
 unfold Oper.wp execOp
 simp only [ho,resolve,invoke,builtin,Sem.run_bind,Sem.run_pure,Result.andThen_ok,List.map_toArray,List.map_cons,List.map_nil,hs,hx,hrun]
 exact h v' w' h1 h2 h3
theorem app_cells {ops:Array Oper} {rest:List Oper} {o:Oper} {a:Act} {Q:Exit→Act→World→Prop} (hgd:o.guard=none) (s x:Operand) (t:TypeId)
 (ho:o.op=.call { callee:=.builtin .append,args:=#[s,x],argTypes:=#[t,t] }) {B:Nat} {e:TypeId} {sz:Nat} (ti:TI t e sz) {v:Value} {n:Nat} {xs:List Value} (hs:a.eval s=v) (hown:w.ownsRow B e sz v n xs)
 {A:Option Addr} {m c:Nat} {news:List Value} (hx:a.eval x=.slice A m c) (hl:news.length=m * sz)
 (hnews:0 < m→∃ b o,A=some ⟨b,o,none⟩∧∀ j u,news[j]?=some u→w.cell? ⟨b,o+j,none⟩=some u) (h1:∀ u ∈ news,u.oneCell'=true) (hn:n+m≤1099511627776) (hB:B≤w.heap.size)
 (h:∀ v' w',w'.ownsRow B e sz v' (n+m) (xs ++ news)→Fr (fun k=>some k=v.ownBlock) w w'→(v'.ownBlock=v.ownBlock∨v'.ownBlock=some w.heap.size)→wpList Tryz.prog ops Q rest (a.put o.dst v') w'):wpList Tryz.prog ops Q (o :: rest) a w :=
 wpList_plain hgd fun _ hK=>wp_cells s x t ho ti hs hown hx hl hnews h1 hn hB fun v' w' h1 h2 h3=>hK _ _ (h v' w' h1 h2 h3)
theorem step_cells {ops:Array Oper} {o:Oper} {a:Act} {K:Act→World→Prop} {Q:Exit→Act→World→Prop} {E:Prop} (hgd:o.guard=none) (s x:Operand) (t:TypeId)
 (ho:o.op=.call { callee:=.builtin .append,args:=#[s,x],argTypes:=#[t,t] }) {B:Nat} {e:TypeId} {sz:Nat} (ti:TI t e sz) {v:Value} {n:Nat} {xs:List Value} (hs:a.eval s=v) (hown:w.ownsRow B e sz v n xs)
 {A:Option Addr} {m c:Nat} {news:List Value} (hx:a.eval x=.slice A m c) (hl:news.length=m * sz)
 (hnews:0 < m→∃ b o,A=some ⟨b,o,none⟩∧∀ j u,news[j]?=some u→w.cell? ⟨b,o+j,none⟩=some u) (h1:∀ u ∈ news,u.oneCell'=true) (hn:n+m≤1099511627776) (hB:B≤w.heap.size)
 (h:∀ v' w',w'.ownsRow B e sz v' (n+m) (xs ++ news)→Fr (fun k=>some k=v.ownBlock) w w'→(v'.ownBlock=v.ownBlock∨v'.ownBlock=some w.heap.size)→K (a.put o.dst v') w') :
 if Region.wanted o (yielded ops a.tmps)=true then Oper.wp Tryz.prog o a w K Q else E:=by
 have hw:Region.wanted o (yielded ops a.tmps)=true:=by simp [Region.wanted,hgd]
 rw [if_pos hw]
 exact wp_cells s x t ho ti hs hown hx hl hnews h1 hn hB h
end
section
variable {α:Type} [Own α] [Tid α] {w0 w2 w3:World} {B:Nat} {v v':Value} {l m:List α} {xs ys:List Value} {fps fps2:List (List Nat)}
end
end Go.Proofs.YtkbbmjcfgcfejaaGreat
namespace Go.Proofs.YtkbbmjcfgcfejaaGreat
open Go.RowKit
def RowE (w:World) (B:Nat) (e:TypeId) (sz:Nat) (v:Value) (n:Nat) (xs:List Value):Prop :=
 (n=0∧xs=[]∧∃ a,v=.slice a 0 0)∨w.ownsRow B e sz v n xs
theorem rowE_empty (w:World) (B:Nat) (e:TypeId) (sz:Nat) (a:Option Addr):RowE w B e sz (.slice a 0 0) 0 []:=.inl ⟨rfl,rfl,a,rfl⟩
theorem RowE.keep {w w':World} {B:Nat} {e:TypeId} {sz n:Nat} {v:Value} {xs:List Value} (h:RowE w B e sz v n xs) (hb:Below w.heap.size w w'):RowE w' B e sz v n xs:=by
 rcases h with h | h
 · exact .inl h
 · exact .inr (own_keep h hb)
theorem RowE.len {w:World} {B:Nat} {e:TypeId} {sz n:Nat} {v:Value} {xs:List Value} (h:RowE w B e sz v n xs):xs.length=n * sz:=by
 rcases h with ⟨rfl,rfl,_⟩ | h
 · simp
 · exact h.1
theorem RowE.mono {w:World} {B B':Nat} {e:TypeId} {sz n:Nat} {v:Value} {xs:List Value} (h:RowE w B e sz v n xs) (hB:B'≤B):RowE w B' e sz v n xs:=by
 rcases h with h | h
 · exact .inl h
 · exact .inr (own_mono h hB)
theorem RowE.rl {α:Type} [Dat α] {w:World} {S:Nat→Prop} {B:Nat} {e:TypeId} {v:Value} {l:List α} {xs:List Value} (h:RowE w B e (Dat.sz α) v l.length xs)
 (hx:∀ i,i < l.length→Dat.rd w S (gd l i) (nth (Dat.sz α) xs i)):RL w (fun k=>S k∨B≤k) v l:=by
 rcases h with ⟨h0,_,a,rfl⟩ | h
 · exact .inl ⟨a,0,rfl,List.eq_nil_of_length_eq_zero h0,Nat.zero_le _,fun _=>rfl⟩
 · have hlt:=fun k hk=>own_lt h (k:=k) hk
   rcases own_rsl h with ⟨a,cap,rfl,h0,h1,h2⟩ | ⟨b,o,cap,rfl,h1,h2,h3⟩
   · exact .inl ⟨a,cap,rfl,List.eq_nil_of_length_eq_zero h0,h1,h2⟩
   · refine .inr ⟨b,o,cap,rfl,h1,h2,fun hp=>⟨.inr (hlt b rfl).1,(hlt b rfl).2⟩,fun i hi=>⟨_,Dat.more (hx i hi) fun k _ hk=>.inl hk,fun j u hj=>?_⟩⟩
     have hx2:=nth_at hj
     have hlen:i * Dat.sz α+j < xs.length:=(List.getElem?_eq_some_iff.1 hx2).1
     rw [h3 (i * Dat.sz α+j) (by rw [← h.1];exact hlen)]
     simp [hx2]
section
variable {w:World}
theorem run_same {t ty e:TypeId} {i:TypeInfo} (ht:Tryz.prog.underlying t=some (.slice e)) (hi:Tryz.prog.info? e=some i) (a A:Option Addr) (c:Nat):(Builtin.append_ #[t,t] ty #[.slice a 0 0,.slice A 0 c]).run Tryz.prog w=.ok (.slice a 0 0) w:=by
 cases a <;> cases A <;> simp [Builtin.append_,run_underlying ht,sizeOf,typeInfo,hi,Builtin.lenOf,Builtin.firstCells,loadCells,loadCellsFrom,storeCells]
theorem run_cellsE {B:Nat} {t e:TypeId} {sz:Nat} (ti:TI t e sz) (ty:TypeId) {v:Value} {n:Nat} {xs:List Value} (hown:RowE w B e sz v n xs) {A:Option Addr} {m c:Nat} {news:List Value} (hl:news.length=m * sz)
 (hnews:0 < m→∃ b o,A=some ⟨b,o,none⟩∧∀ j u,news[j]?=some u→w.cell? ⟨b,o+j,none⟩=some u) (h1:∀ u ∈ news,u.oneCell'=true) (hn:n+m≤1099511627776) (hB:B≤w.heap.size) :
 ∃ v' w',(Builtin.append_ #[t,t] ty #[v,.slice A m c]).run Tryz.prog w=.ok v' w'∧RowE w' B e sz v' (n+m) (xs ++ news)∧Below B w w':=by
 rcases hown with ⟨rfl,rfl,a,rfl⟩ | hown
 · by_cases hm:m=0
   · subst hm
     obtain ⟨i,z,t1,t2,_⟩:=ti
     obtain rfl:news=[]:=List.eq_nil_of_length_eq_zero (by simpa using hl)
     exact ⟨_,w,run_same t1 t2 a A c,.inl ⟨rfl,rfl,a,rfl⟩,Below.refl _ _⟩
   · cases a with
     | none =>
       obtain ⟨v',w',hrun,ho,hf,_⟩:=run_cells ti ty (World.ownsRow_nil w B e sz) hl hnews h1 hn hB (c:=c)
       exact ⟨v',w',hrun,.inr ho,hf.below hB fun k _ hk=>by simp [Value.ownBlock] at hk⟩
     | some ad =>
       obtain ⟨i,z,t1,t2,t3,t4,t5,t6,t7⟩:=ti
       obtain ⟨b,o,rfl,hc⟩:=hnews (by omega)
       have hc':∀ j u,news[j]?=some u→w.cell? ((⟨b,o,none⟩:Addr).add j)=some u:=fun j u hj=>by
        have e:(⟨b,o,none⟩:Addr).add j=⟨b,o+j,none⟩:=by unfold Addr.add;split <;> simp_all
        rw [e];exact hc j u hj
       have hbytes:(0+m) * i.bytes≤140737488355328:=by
        have:(0+m) * i.bytes≤1099511627776 * 128:=Nat.mul_le_mul hn t5
        omega
       subst t4
       have hr:=run_append_grow (P:=Tryz.prog) w t ty e i z t1 t2 t3 ad 0 0 [] (by simp) (fun j u hj=>by simp at hj) ⟨b,o,none⟩ m c news hl hc' (by omega) (by omega) (growslice_fits (by omega) hbytes)
       refine ⟨_,_,hr,.inr ?_,?_⟩
       · have hge:=grownCap_ge w (0+m) 0 e
         have hcm:grownCap w (0+m) 0 e≤maxLen:=grownCap_le_maxLen w (0+m) 0 e (by unfold maxLen;omega)
         refine ⟨by rw [List.nil_append,hl,Nat.zero_add],.inr ⟨w.heap.size,_,_,rfl,hB,heap_alloc_new w.drew _,hge,hcm,?_,?_⟩⟩
         · simp only [Array.size_append,List.size_toArray,size_zeroCells,t6,hl,List.length_nil,Nat.zero_add,← Nat.add_mul]
           simp only [Nat.zero_add] at hge
           rw [Nat.add_sub_cancel' hge]
         · simp only [Array.toList_append,List.nil_append,Nat.zero_add]
           rw [← hl]
           exact List.take_left
       · exact (below_drew w |>.trans ((below_alloc w.drew _).mono (Nat.le_refl _))).mono hB
 · obtain ⟨v',w',hrun,ho,hf,_⟩:=run_cells ti ty hown hl hnews h1 hn hB (c:=c)
   exact ⟨v',w',hrun,.inr ho,hf.below hB fun k hk e=>by have:=(own_lt hown e).1;omega⟩
end
section
variable {α:Type} [Dat α] {w:World} {S:Nat→Prop} {l:List α}
theorem run_appE {B:Nat} {t e:TypeId} (ti:TI t e (Dat.sz α)) (ty:TypeId) {v:Value} {n:Nat} {xs:List Value} (hown:RowE w B e (Dat.sz α) v n xs) {x:Value} (hr:RL w S x l) (hn:n+l.length≤1099511627776) (hB:B≤w.heap.size) :
 ∃ v' w' news,(Builtin.append_ #[t,t] ty #[v,x]).run Tryz.prog w=.ok v' w'∧RowE w' B e (Dat.sz α) v' (n+l.length) (xs ++ news)∧news.length=l.length * Dat.sz α ∧
   (∀ i,i < l.length→Dat.rd w S (gd l i) (nth (Dat.sz α) news i))∧Below B w w':=by
 obtain ⟨a,c,rfl⟩:=hr.form
 obtain ⟨_,news,hrd,hone,hnth⟩:=hr.reads
 obtain ⟨v',w',hrun,h1,h2⟩:=run_cellsE ti ty hown hrd.1 (A:=a) (c:=c) (fun hm=>by
  rcases hr with ⟨a',cap,e,rfl,_⟩ | ⟨b,o,cap,e,_⟩
  · simp at hm
  · injection e with e
    subst e
    obtain ⟨ad,e2,_,hc⟩:=hrd.2 hm
    injection e2 with e2
    subst e2
    exact ⟨b,o,rfl,fun j u hj=>by
     have e:(⟨b,o,none⟩:Addr).add j=⟨b,o+j,none⟩:=by unfold Addr.add;split <;> simp_all
     rw [← e];exact hc j u hj⟩) hone hn hB
 exact ⟨v',w',news,hrun,h1,hrd.1,hnth,h2⟩
theorem wp_appE {o:Oper} {a:Act} {K:Act→World→Prop} {Q:Exit→Act→World→Prop} (s x:Operand) (t:TypeId)
 (ho:o.op=.call { callee:=.builtin .append,args:=#[s,x],argTypes:=#[t,t] }) {B:Nat} {e:TypeId} (ti:TI t e (Dat.sz α)) {v vx:Value} {n:Nat} {xs:List Value} (hs:a.eval s=v) (hown:RowE w B e (Dat.sz α) v n xs)
 (hx:a.eval x=vx) (hr:RL w S vx l) (hn:n+l.length≤1099511627776) (hB:B≤w.heap.size)
 (h:∀ v' w' news,RowE w' B e (Dat.sz α) v' (n+l.length) (xs ++ news)→news.length=l.length * Dat.sz α→(∀ i,i < l.length→Dat.rd w S (gd l i) (nth (Dat.sz α) news i))→Below B w w'→K (a.put o.dst v') w'):o.wp Tryz.prog a w K Q:=by
 obtain ⟨v',w',news,hrun,h1,h2,h3,h4⟩:=run_appE ti o.type hown hr hn hB
 unfold Oper.wp execOp
 simp only [ho,resolve,invoke,builtin,Sem.run_bind,Sem.run_pure,Result.andThen_ok,List.map_toArray,List.map_cons,List.map_nil,hs,hx,hrun]
 exact h v' w' news h1 h2 h3 h4
theorem step_appE0 {ops:Array Oper} {o:Oper} {a:Act} {K:Act→World→Prop} {Q:Exit→Act→World→Prop} {E:Prop} (hgd:o.guard=none) (s x:Operand) (t:TypeId)
 (ho:o.op=.call { callee:=.builtin .append,args:=#[s,x],argTypes:=#[t,t] }) {e:TypeId} (ti:TI t e (Dat.sz α)) {vx:Value} {A:Option Addr} (hs:a.eval s=.slice A 0 0)
 (hx:a.eval x=vx) (hr:RL w S vx l) (hn:l.length≤1048576)
 (h:∀ B,B=w.heap.size→∀ v' w' news,RowE w' B e (Dat.sz α) v' l.length news→(∀ i,i < l.length→Dat.rd w S (gd l i) (nth (Dat.sz α) news i))→Below B w w'→K (a.put o.dst v') w') :
 if Region.wanted o (yielded ops a.tmps)=true then Oper.wp Tryz.prog o a w K Q else E:=by
 have hw:Region.wanted o (yielded ops a.tmps)=true:=by simp [Region.wanted,hgd]
 rw [if_pos hw]
 exact wp_appE s x t ho ti hs (rowE_empty w w.heap.size _ _ A) hx hr (by omega) (Nat.le_refl _) fun v' w' news h1 _ h3 h4=>h _ rfl v' w' news (by simpa using h1) h3 h4
theorem step_appE {ops:Array Oper} {o:Oper} {a:Act} {K:Act→World→Prop} {Q:Exit→Act→World→Prop} {E:Prop} (hgd:o.guard=none) (s x:Operand) (t:TypeId)
 (ho:o.op=.call { callee:=.builtin .append,args:=#[s,x],argTypes:=#[t,t] }) {B:Nat} {e:TypeId} (ti:TI t e (Dat.sz α)) {v vx:Value} {n:Nat} {xs:List Value} (hs:a.eval s=v) (hown:RowE w B e (Dat.sz α) v n xs)
 (hx:a.eval x=vx) (hr:RL w S vx l) (hn:n+l.length≤1099511627776) (hB:B≤w.heap.size)
 (h:∀ v' w' news,RowE w' B e (Dat.sz α) v' (n+l.length) (xs ++ news)→news.length=l.length * Dat.sz α→(∀ i,i < l.length→Dat.rd w S (gd l i) (nth (Dat.sz α) news i))→Below B w w'→K (a.put o.dst v') w') :
 if Region.wanted o (yielded ops a.tmps)=true then Oper.wp Tryz.prog o a w K Q else E:=by
 have hw:Region.wanted o (yielded ops a.tmps)=true:=by simp [Region.wanted,hgd]
 rw [if_pos hw]
 exact wp_appE s x t ho ti hs hown hx hr hn hB h
theorem rowE_app {β:Type} [Flat β] {w w1 w2:World} {B:Nat} {e:TypeId} {v:Value} {l m:List β} {xs ys:List Value} {S1 S2:Nat→Prop} (h:RowE w B e (Dat.sz β) v (l.length+m.length) (xs ++ ys)) (hx:xs.length=l.length * Dat.sz β)
 (h1:∀ i,i < l.length→Dat.rd w1 S1 (gd l i) (nth (Dat.sz β) xs i)) (h2:∀ i,i < m.length→Dat.rd w2 S2 (gd m i) (nth (Dat.sz β) ys i)):RL w (fun k=>B≤k) v (l ++ m):=by
 have conv:∀ {w1:World} {S:Nat→Prop} {a:β} {cs:List Value},Dat.rd w1 S a cs→Dat.rd w (fun _=>False) a cs:=fun h=>Dat.more (Own.read (Flat.flat (w':=w) (B:=0) h)) fun k _ hk=>by cases hk
 refine (RowE.rl (S:=fun _=>False) (by rw [List.length_append];exact h) fun i hi=>?_).more fun k _ hk=>hk.elim (fun h=>h.elim) id
 rw [List.length_append] at hi
 by_cases hlt:i < l.length
 · rw [gd_app1 hlt,nth_app1 hx hlt];exact conv (h1 i hlt)
 · obtain ⟨j,rfl⟩:∃ j,i=l.length+j:=⟨i - l.length,by omega⟩
   rw [gd_app2 (by omega),nth_app3 hx,Nat.add_sub_cancel_left]
   exact conv (h2 j (by omega))
end
end Go.Proofs.YtkbbmjcfgcfejaaGreat
