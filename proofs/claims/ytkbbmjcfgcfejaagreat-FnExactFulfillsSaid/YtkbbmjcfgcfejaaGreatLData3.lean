/- Data3: texts Ls3, App, App2, AppE in one. -/
import Derived.Test.YtkbbmjcfgcfejaaGreatLData1
import Derived.Maps.AppendAt
import Derived.RegionTactic
import Derived.OwnWalk
import Derived.Laws.OwnMore
import Derived.Deep.Draws
set_option linter.unusedVariables false
set_option linter.unusedSimpArgs false
set_option maxRecDepth 100000
set_option maxHeartbeats 12800000
namespace Go.Proofs.YtkbbmjcfgcfejaaGreat
open Go.RowKit
theorem Aq {S1 S2:Nat→Prop} (v1 v2:Value) (a:Aj) (w:World) (h1:RL w S1 v1 a.1) (h2:RL w S2 v2 a.2) :
 Calls Tryz.prog 64 #[.agg #[v1,v2]] w fun e w'=>e=.returned (.bool (Ah a))∧Below w.heap.size w w':=by
 obtain ⟨l1,l⟩:=a;have hm:=h2.len;simp only at h1 h2 hm;unfold maxLen at hm;obtain ⟨a2,c2,rfl,_,_,hf⟩:=h2.atomAt;have F1:=Ad hf;clear hf h2;cases hq:Bv l1
 · have hfin:Ah (l1,l)=false:=by simp [Ah,hq]
   have HF:=Ad (An hfin hq);clear hfin hq;go_enter Tryz.func64,Tryz.ntmps64
   (go_wp2_with fail);refine (cb (Ea v1 l1 _ (h1.alloc _)) HF.o.2).mono ?_;rintro e w1 ⟨rfl,hb1⟩;go_wp2;go_ret;exact ⟨by rw [HF.o.1];rfl,bt (Aa _ _) hb1⟩
 by_cases hl:l.length≤6;rotate_left
 · have hfin:Ah (l1,l)=false:=by simp only [Ah];simp [hl]
   (have hgt:(6:Int) < (l.length:Int):=by omega);have HF:=Ad (An hfin hq);clear hfin hl hq;go_enter Tryz.func64,Tryz.ntmps64
   (go_wp2_with fail);refine (cb (Ea v1 l1 _ (h1.alloc _)) HF.o.2).mono ?_;rintro e w1 ⟨rfl,hb1⟩;have hc1:=Ab hb1 (p:=⟨w.heap.size,1,none⟩) (v:=.slice a2 l.length c2) Sp;go_wp2;go_ret;exact ⟨by rw [HF.o.1];rfl,bt (Aa _ _) hb1⟩
 have hgt:¬ (6:Int) < (l.length:Int):=by omega
 have HQ:=Ad hq;clear hq;go_enter Tryz.func64,Tryz.ntmps64
 go_wp2_with fail
 refine (cb (Ea v1 l1 _ (h1.alloc _)) HQ.o).mono ?_;rintro e w1 ⟨rfl,hb1⟩;have hc1:=Ab hb1 (p:=⟨w.heap.size,1,none⟩) (v:=.slice a2 l.length c2) Sp;have hb0:=bt (Aa _ _) hb1;clear hb1;go_wp2;go_loopg [18] l.length (fun q i wr=>∃ k:Nat,k+q=l.length∧i=.int .i64 k∧(l.take k).all AQ=true∧Below w.heap.size w wr)
 case atStart=>exact ⟨0,by omega,rfl,by simp,hb0⟩
 case round =>
  clear hc1 hb0;obtain ⟨k,hk,rfl,ht,hb⟩:=hrel;have HK:=Ad hk;have HT:=Ad ht;clear hk ht;by_cases hk8:k < l.length
  · obtain ⟨b1,o1,rfl,_,hbl1,hp1,hp2,hp3⟩:=F1.o k hk8
    replace hp1:=Ab hb hp1;replace hp2:=Ab hb hp2;replace hp3:=Ab hb hp3;have hs:=hb.size;(have i1:(k:Int) < (l.length:Int):=by omega);(have hzb:b1 < wr.heap.size:=by omega);cases hp:AQ (gd l k)
    · have hfin:Ah (l1,l)=false:=by simp only [Ah];rw [F9 hk8 hp];simp
      have HF:=Ad (An hfin hp);clear hfin hp;(go_wp2_with fail);refine (cb (Ga (gd l k) _) HF.o.2).mono ?_;rintro e w2 ⟨rfl,hb2⟩;go_wp2;go_ret;exact ⟨by rw [HF.o.1];rfl,bt Bl hb2⟩
    · have HP:=Ad hp
      clear hp;(go_wp2_with fail);refine (cb (Ga (gd l k) _) HP.o).mono ?_;rintro e w2 ⟨rfl,hb2⟩;go_wp2;go_roundg (gk - 1)
      case rel=>exact ⟨k+1,by have:=HK.o;omega,by go_num,Bb hk8 HT.o HP.o,bt Bl hb2⟩
      case measure=>have:=HK.o;omega
  · obtain rfl:k=l.length:=by have:=HK.o;omega
    have hall:=Fy HT.o;have HA:=Ad hall;clear hall HT;go_wp2;go_ret;exact ⟨by simp only [Ah];rw [HA.o,HQ.o];simp;omega,hb⟩
theorem Ar {S1 S2:Nat→Prop} (v1 v2:Value) (a:Aj) (w:World) (h1:RL w S1 v1 a.1) (h2:RL w S2 v2 a.2) :
 Calls Tryz.prog 71 #[.agg #[v1,v2]] w fun e w'=>e=.returned (.bool (Ah a))∧Below w.heap.size w w':=by
 obtain ⟨l1,l⟩:=a;have hm:=h2.len;simp only at h1 h2 hm;unfold maxLen at hm;obtain ⟨a2,c2,rfl,_,_,hf⟩:=h2.atomAt;have F1:=Ad hf;clear hf h2;go_enter Tryz.func71,Tryz.ntmps71
 go_wp2;go_loopg [3] l.length (fun q i wr=>∃ k:Nat,k+q=l.length∧i=.int .i64 k∧(l.take k).all AQ=true∧Below w.heap.size w wr∧wr.cell? ⟨w.heap.size,0,none⟩=some v1∧wr.cell? ⟨w.heap.size,1,none⟩=some (.slice a2 l.length c2))
 case atStart=>exact ⟨0,by omega,rfl,by simp,Aa _ _,by simp,by simp⟩
 case round =>
  obtain ⟨k,hk,rfl,ht,hb,hc0,hc1⟩:=hrel;have HK:=Ad hk;have HT:=Ad ht;clear hk ht;by_cases hk8:k < l.length
  · obtain ⟨b1,o1,rfl,_,hbl1,hp1,hp2,hp3⟩:=F1.o k hk8
    replace hp1:=Ab hb hp1;replace hp2:=Ab hb hp2;replace hp3:=Ab hb hp3;have hs:=hb.size;(have i1:(k:Int) < (l.length:Int):=by omega);(have hzb:b1 < wr.heap.size:=by omega);cases hp:AQ (gd l k)
    · have hfin:Ah (l1,l)=false:=by simp only [Ah];rw [F9 hk8 hp];simp
      have HF:=Ad (An hfin hp);clear hfin hp;(go_wp2_with fail);refine (cb (Gb (gd l k) _) HF.o.2).mono ?_;rintro e w2 ⟨rfl,hb2⟩;go_wp2;go_ret;exact ⟨by rw [HF.o.1];rfl,bt Bl hb2⟩
    · have HP:=Ad hp
      clear hp;(go_wp2_with fail);refine (cb (Gb (gd l k) _) HP.o).mono ?_;rintro e w2 ⟨rfl,hb2⟩;replace hc0:=Ab hb2 hc0;replace hc1:=Ab hb2 hc1;go_wp2;go_roundg (gk - 1)
      case rel=>exact ⟨k+1,by have:=HK.o;omega,by go_num,Bb hk8 HT.o HP.o,bt Bl hb2,hc0,hc1⟩
      case measure=>have:=HK.o;omega
  · obtain rfl:k=l.length:=by have:=HK.o;omega
    have hall:=Fy HT.o;have HA:=Ad hall;clear hall HT;cases hq:Bv l1
    · have hfin:Ah (l1,l)=false:=by simp [Ah,hq]
      have HF:=Ad (An hfin hq);clear hfin hq;(go_wp2_with fail);refine (cb (FY v1 l1 _ (h1.keep hb)) HF.o.2).mono ?_;rintro e w1 ⟨rfl,hb1⟩;go_wp2;go_ret;exact ⟨by rw [HF.o.1];rfl,bt hb hb1⟩
    · have hfin:Ah (l1,l)=decide (l.length≤6):=by simp only [Ah];rw [HA.o,hq];simp
      have HF:=Ad (An hfin hq);clear hfin hq;(go_wp2_with fail);refine (cb (FY v1 l1 _ (h1.keep hb)) HF.o.2).mono ?_;rintro e w1 ⟨rfl,hb1⟩;replace hc1:=Ab hb1 hc1;go_wp2;go_ret;exact ⟨by rw [HF.o.1];simp;omega,bt hb hb1⟩
def SD (w:World) (B size:Nat) (A:Option Addr) (n:Nat) (xs:List Value):Prop :=
 xs.length=n * size∧(0 < n→∃ ad,A=some ad∧ad.block < B∧∀ j u,xs[j]?=some u→w.cell? (ad.add j)=some u)
section
variable {P:Program} (w:World)
theorem Hz (base:Nat) (t ty e:TypeId) (i:TypeInfo) (size:Nat) (ht:P.underlying t=some (.slice e)) (hi:P.info? e=some i)
 (v:Value) (n:Nat) (xs:List Value) (hown:w.ownsRow base e size v n xs) (c:Nat):(Builtin.append_ #[t,t] ty #[v,.slice none 0 c]).run P w=.ok v w:=by
 rcases hown.2 with ⟨rfl,rfl⟩ | ⟨g,cap,cur,rfl,_,_,hnc,_⟩
 · simp [Builtin.append_,run_underlying ht,sizeOf,typeInfo,hi,Builtin.lenOf,Builtin.firstCells]
 · simp [Builtin.append_,run_underlying ht,sizeOf,typeInfo,hi,Builtin.lenOf,Builtin.firstCells,hnc,storeCells]
theorem Gc (base:Nat) (t ty e:TypeId) (i:TypeInfo) (z:Value) (size bytes:Nat) (ht:P.underlying t=some (.slice e)) (hi:P.info? e=some i) (hz:i.zero=some z)
 (hsize:i.size=size) (hby:i.bytes=bytes) (hzs:z.cells.size=size) (hsz:0 < size)
 (v:Value) (n:Nat) (xs:List Value) (hown:w.ownsRow base e size v n xs)
 (B:Nat) (A:Option Addr) (m c:Nat) (news:List Value) (hr:SD w B size A m news) (h1:∀ u ∈ news,u.oneCell'=true)
 (h63:n+m≤maxLen) (hbytes:(n+m) * bytes≤140737488355328) (hbase:base≤w.heap.size) :
 ∃ v' w',(Builtin.append_ #[t,t] ty #[v,.slice A m c]).run P w=.ok v' w'∧w'.ownsRow base e size v' (n+m) (xs ++ news)∧w.grownBy w' v.ownBlock ∧
   (v'.ownBlock=v.ownBlock∨v'.ownBlock=some w.heap.size):=by
 rcases A with _ | ad
 · have hm:m=0:=by
    rcases Nat.eq_zero_or_pos m with h0 | h0
    · exact h0
    · obtain ⟨ad,h,_⟩:=hr.2 h0
      cases h
   subst hm;have hn:news=[]:=List.eq_nil_of_length_eq_zero (by simpa using hr.1);subst hn;exact ⟨v,w,Hz w base t ty e i size ht hi v n xs hown c,by simpa using hown,World.grownBy.refl w _,.inl rfl⟩
 · have hcells:∀ j u,news[j]?=some u→w.cell? (ad.add j)=some u:=by
    intro j u hu;rcases Nat.eq_zero_or_pos m with h0 | h0
    · subst h0
      have hn:news=[]:=List.eq_nil_of_length_eq_zero (by simpa using hr.1);subst hn;simp at hu
    · obtain ⟨ad',h,_,hc⟩:=hr.2 h0
      injection h with h
      subst h;exact hc j u hu
   obtain ⟨v',w',hrun,h2,h3,_,h5⟩:=run_append_own_at (P:=P) w base t ty e i z size bytes ht hi hz hsize hby hzs hsz v n xs hown ad m c news hr.1 hcells h1 h63 hbytes hbase;exact ⟨v',w',hrun,h2,h3,h5⟩
end
def TI (t e:TypeId) (sz:Nat):Prop:=∃ (i:TypeInfo) (z:Value),Tryz.prog.underlying t=some (.slice e)∧Tryz.prog.info? e=some i∧i.zero=some z∧i.size=sz∧i.bytes≤128∧z.cells.size=sz∧0 < sz
theorem Nv {t e:TypeId} {sz by_:Nat} {z:Value} (ht:Tryz.prog.underlying t=some (.slice e)) (h:(Tryz.prog.info? e).map (fun i=>(i.zero,i.size,i.bytes))=some (some z,sz,by_)) (hb:by_≤128) (hz:z.cells.size=sz) (hs:0 < sz):TI t e sz:=by
 obtain ⟨i,h1,h2,h3,h4⟩:=info_parts h;exact ⟨i,z,ht,h1,h2,h3,by omega,hz,hs⟩
theorem Ph:TI 27 3 1:=Nv Tryz.underlying27 Ht Dc rfl Dc
theorem A0:TI 23 61 3:=Nv Tryz.underlying23 IW Dc rfl Dc
theorem A3:TI 24 118 3:=Nv Tryz.underlying24 IX Dc rfl Dc
section
variable {α:Type} [Dat α] {w:World} {S:Nat→Prop} {l:List α}
theorem Ia {sz:Nat}:∀ {L:List (List Value)},(∀ c ∈ L,c.length=sz)→∀ {i:Nat},i < L.length→Bz sz L.flatten i=gd L i
 | [],_,i,hi=>absurd hi Sp
 | c :: L,h,0,_=>by
   have hc:=h c List.mem_cons_self;rw [Bz,Nat.zero_mul,List.drop_zero,List.flatten_cons,SA,List.take_append_of_le_length Om,← hc,List.take_length]
 | c :: L,h,i+1,hi=>by
   have hc:=h c List.mem_cons_self;have ih:=Ia (L:=L) (fun d hd=>h d (List.mem_cons_of_mem _ hd)) (i:=i) (by simpa using hi);rw [Bz] at ih ⊢;rw [List.flatten_cons,Nat.succ_mul,show i * sz+sz=c.length+i * sz by omega,← List.drop_drop,List.drop_left,ih];rfl
theorem Kh {sz:Nat}:∀ {L:List (List Value)},(∀ c ∈ L,c.length=sz)→L.flatten.length=L.length * sz
 | [],_=>by simp
 | c :: L,h=>by
   rw [List.flatten_cons,List.length_append,h c List.mem_cons_self,Kh (fun d hd=>h d (List.mem_cons_of_mem _ hd)),List.length_cons,Nat.succ_mul];omega
theorem RL.reads {A:Option Addr} {n c:Nat} (h:RL w S (.slice A n c) l):n=l.length∧∃ news,SD w w.heap.size (Dat.sz α) A l.length news∧(∀ u ∈ news,u.oneCell'=true) ∧
 ∀ i,i < l.length→Dat.rd w S (gd l i) (Bz (Dat.sz α) news i):=by
 rcases h with ⟨a,cap,e,rfl,h,_⟩ | ⟨b,o,cap,e,h1,h2,h3,h4⟩
 · injection e with e1 e2 e3
   exact ⟨e2,[],⟨by simp,fun h=>absurd h Sp⟩,(fun u hu=>absurd hu Sp),(fun i hi=>absurd hi Sp)⟩
 · injection e with e1 e2 e3
   refine ⟨e2,?_⟩;obtain ⟨L,hL,hq⟩:=choose_listA (n:=l.length) (Q:=fun i cs=>Dat.rd w S (gd l i) cs∧∀ j u,cs[j]?=some u→w.cell? ⟨b,o+(i * Dat.sz α+j),none⟩=some u) h4;have hlen:∀ c ∈ L,c.length=Dat.sz α:=fun c hc=>by
    obtain ⟨i,hi,rfl⟩:=List.getElem_of_mem hc;have:=(hq i Om).1;rw [BT hi] at this;exact Dat.len this
   have hnth:∀ i,i < l.length→Bz (Dat.sz α) L.flatten i=gd L i:=fun i hi=>Ia hlen Om;refine ⟨L.flatten,⟨by rw [Kh hlen,hL],fun hp=>⟨_,e1,(h3 hp).2,fun j u hj=>?_⟩⟩,fun u hu=>?_,fun i hi=>by rw [hnth i hi];exact (hq i hi).1⟩
   · have hjl:j < L.flatten.length:=(List.getElem?_eq_some_iff.1 hj).1
     rw [Kh hlen,hL] at hjl;(have hsz:0 < Dat.sz α:=Nat.pos_of_ne_zero fun e=>by rw [e] at hjl;simp at hjl);have hi:j / Dat.sz α < l.length:=(Nat.div_lt_iff_lt_mul hsz).2 hjl;have hm:j % Dat.sz α < Dat.sz α:=Nat.mod_lt _ hsz;(have hd:(j / Dat.sz α) * Dat.sz α+j % Dat.sz α=j:=by rw [Nat.mul_comm];exact Nat.div_add_mod _ _);have hx:(Bz (Dat.sz α) L.flatten (j / Dat.sz α))[j % Dat.sz α]?=some u:=by
      rw [Bz,List.getElem?_take,if_pos hm,List.getElem?_drop,hd];exact hj
     rw [hnth _ hi] at hx;have:=(hq _ hi).2 _ _ hx;rw [hd] at this;(have e:(⟨b,o,none⟩:Addr).add j=⟨b,o+j,none⟩:=by unfold Addr.add;split <;> simp_all);rw [e];exact this
   · obtain ⟨c,hc,hu⟩:=List.mem_flatten.1 hu
     obtain ⟨i,hi,rfl⟩:=List.getElem_of_mem hc;have:=(hq i Om).1;rw [BT hi] at this;exact Dat.one this u hu
where
 choose_listA {Q:Nat→List Value→Prop}:∀ {n:Nat},(∀ i,i < n→∃ x,Q i x)→∃ l:List (List Value),l.length=n∧∀ i,i < n→Q i (gd l i)
  | 0,_=>⟨[],rfl,fun i hi=>absurd hi Om⟩
  | n+1,h=>by
    obtain ⟨l,hl,hq⟩:=choose_listA (n:=n) fun i hi=>h i Om;obtain ⟨x,hx⟩:=h n Om;refine ⟨l ++ [x],by simp [hl],fun i hi=>?_⟩;by_cases e:i < n
    · rw [Dj (by omega)];exact hq i e
    · obtain rfl:i=n:=by omega
      rw [← hl,Hv,hl];exact hx
end
section
variable {α:Type} [Dat α] {w:World} {S:Nat→Prop} {l:List α}
theorem Uw {B:Nat} {t e:TypeId} (ti:TI t e (Dat.sz α)) (ty:TypeId) {v:Value} {n:Nat} {xs:List Value} (hown:w.ownsRow B e (Dat.sz α) v n xs) {x:Value} (hr:RL w S x l) (hn:n+l.length≤1099511627776) (hB:B≤w.heap.size) :
 ∃ v' w' news,(Builtin.append_ #[t,t] ty #[v,x]).run Tryz.prog w=.ok v' w'∧w'.ownsRow B e (Dat.sz α) v' (n+l.length) (xs ++ news)∧news.length=l.length * Dat.sz α ∧
   (∀ i,i < l.length→Dat.rd w S (gd l i) (Bz (Dat.sz α) news i))∧Fr (fun k=>some k=v.ownBlock) w w'∧(v'.ownBlock=v.ownBlock∨v'.ownBlock=some w.heap.size):=by
 obtain ⟨i,z,h1,h2,h3,h4,h5,h6,h7⟩:=ti;obtain ⟨a,c,rfl⟩:=hr.form;obtain ⟨_,news,hrd,hone,hnth⟩:=hr.reads;obtain ⟨v',w',hrun,ho,hg,hl⟩:=Gc (P:=Tryz.prog) w B t ty e i z _ i.bytes h1 h2 h3 h4 rfl h6 h7 v n xs hown _ a l.length c news hrd hone (by unfold maxLen;omega) (by
  have:(n+l.length) * i.bytes≤1099511627776 * 128:=Nat.mul_le_mul hn h5;omega) hB
 exact ⟨v',w',news,hrun,ho,hrd.1,hnth,AF hg,hl⟩
theorem VI {o:Oper} {a:Act} {K:Act→World→Prop} {Q:Exit→Act→World→Prop} (s x:Operand) (t:TypeId)
 (ho:o.op=.call { callee:=.builtin .append,args:=#[s,x],argTypes:=#[t,t] }) {B:Nat} {e:TypeId} (ti:TI t e (Dat.sz α)) {v vx:Value} {n:Nat} {xs:List Value} (hs:a.eval s=v) (hown:w.ownsRow B e (Dat.sz α) v n xs)
 (hx:a.eval x=vx) (hr:RL w S vx l) (hn:n+l.length≤1099511627776) (hB:B≤w.heap.size)
 (h:∀ v' w' news,w'.ownsRow B e (Dat.sz α) v' (n+l.length) (xs ++ news)→news.length=l.length * Dat.sz α→(∀ i,i < l.length→Dat.rd w S (gd l i) (Bz (Dat.sz α) news i))→Fr (fun k=>some k=v.ownBlock) w w'→(v'.ownBlock=v.ownBlock∨v'.ownBlock=some w.heap.size)→K (a.put o.dst v') w'):o.wp Tryz.prog a w K Q:=by
 obtain ⟨v',w',news,hrun,h1,h2,h3,h4,h5⟩:=Uw ti o.type hown hr hn hB;unfold Oper.wp execOp;simp only [ho,resolve,invoke,builtin,Sem.run_bind,Sem.run_pure,Result.andThen_ok,List.map_toArray,List.map_cons,List.map_nil,hs,hx,hrun];exact h v' w' news h1 h2 h3 h4 h5
theorem MF {ops:Array Oper} {rest:List Oper} {o:Oper} {a:Act} {Q:Exit→Act→World→Prop} (hgd:o.guard=none) (s x:Operand) (t:TypeId)
 (ho:o.op=.call { callee:=.builtin .append,args:=#[s,x],argTypes:=#[t,t] }) {B:Nat} {e:TypeId} (ti:TI t e (Dat.sz α)) {v vx:Value} {n:Nat} {xs:List Value} (hs:a.eval s=v) (hown:w.ownsRow B e (Dat.sz α) v n xs)
 (hx:a.eval x=vx) (hr:RL w S vx l) (hn:n+l.length≤1099511627776) (hB:B≤w.heap.size)
 (h:∀ v' w' news,w'.ownsRow B e (Dat.sz α) v' (n+l.length) (xs ++ news)→news.length=l.length * Dat.sz α→(∀ i,i < l.length→Dat.rd w S (gd l i) (Bz (Dat.sz α) news i))→Fr (fun k=>some k=v.ownBlock) w w'→(v'.ownBlock=v.ownBlock∨v'.ownBlock=some w.heap.size)→wpList Tryz.prog ops Q rest (a.put o.dst v') w'):wpList Tryz.prog ops Q (o :: rest) a w :=
 wpList_plain hgd fun _ hK=>VI s x t ho ti hs hown hx hr hn hB fun v' w' news h1 h2 h3 h4 h5=>hK _ _ (h v' w' news h1 h2 h3 h4 h5)
end
theorem LK {w:World} {B e sz n:Nat} {v:Value} {news:List Value} (h:w.ownsRow B e sz v (0+n) ([] ++ news)):w.ownsRow B e sz v n news:=by simpa using h
class Flat (α:Type) extends Own α where
 flat:∀ {w w' S B a cs},rd w S a cs→own w' B a cs []
 none:∀ {w B a cs fp},own w B a cs fp→fp=[]
instance:Flat Int where
 flat:=fun h=>⟨h,rfl⟩
 none:=fun h=>h.2
instance:Flat Bool where
 flat:=fun h=>⟨h,rfl⟩
 none:=fun h=>h.2
instance {α β:Type} [Flat α] [Flat β]:Flat (α × β) where
 flat:=fun h=>by
  obtain ⟨c1,c2,rfl,h1,h2⟩:=h;exact ⟨c1,c2,[],[],rfl,rfl,Flat.flat h1,Flat.flat h2⟩
 none:=fun h=>by
  obtain ⟨c1,c2,f1,f2,_,rfl,h1,h2⟩:=h;rw [Flat.none h1,Flat.none h2];rfl
section
variable {α:Type} [Flat α] [Tid α] {w w':World} {B:Nat} {v:Value} {l m:List α} {fp:List Nat} {xs news:List Value}
theorem MG (hr:w.ownsRow B (Tid.tid α) (Dat.sz α) v l.length xs) {w1:World} {S:Nat→Prop} (h:∀ i,i < l.length→Dat.rd w1 S (gd l i) (Bz (Dat.sz α) xs i)):OL w B v l v.ownBlock.toList:=by
 refine ⟨xs,List.replicate l.length [],hr,by simp,by simp,fun i hi=>?_⟩;rw [show gd (List.replicate l.length ([]:List Nat)) i=[] by simp [gd,hi]];exact Flat.flat (h i hi)
theorem JW (h:OL w B v l fp):fp=v.ownBlock.toList:=(h.row fun h=>Flat.none h).2
theorem Fz (h:OL w B v l fp):∃ xs,w.ownsRow B (Tid.tid α) (Dat.sz α) v l.length xs∧∀ i,i < l.length→Dat.rd w (fun _=>True) (gd l i) (Bz (Dat.sz α) xs i):=by
 obtain ⟨xs,fps,hr,hl,_,ho⟩:=h;exact ⟨xs,hr,fun i hi=>Dat.more (Own.read (ho i hi)) fun _ _ _=>trivial⟩
theorem Gd {sz n i:Nat} {xs ys:List Value} (hl:xs.length=n * sz):Bz sz (xs ++ ys) (n+i)=Bz sz ys i:=by
 unfold Bz;rw [Nat.add_mul,← hl,← List.drop_drop,List.drop_left]
theorem Nw {w1 w2:World} {S:Nat→Prop} {v':Value} (hr:w'.ownsRow B (Tid.tid α) (Dat.sz α) v' (l.length+m.length) (xs ++ news)) (hx:xs.length=l.length * Dat.sz α)
 (h1:∀ i,i < l.length→Dat.rd w1 (fun _=>True) (gd l i) (Bz (Dat.sz α) xs i)) (h2:∀ i,i < m.length→Dat.rd w2 S (gd m i) (Bz (Dat.sz α) news i)):OL w' B v' (l ++ m) v'.ownBlock.toList:=by
 refine MG (w1:=w') (S:=fun _=>True) (by rw [List.length_append];exact hr) fun i hi=>?_;have conv:∀ {w1:World} {S:Nat→Prop} {a:α} {cs:List Value},Dat.rd w1 S a cs→Dat.rd w' (fun _=>True) a cs:=fun h=>Dat.more (Own.read (Flat.flat (w':=w') (B:=0) h)) fun _ _ _=>trivial;rw [List.length_append] at hi;by_cases hlt:i < l.length
 · rw [Dj hlt,Fb hx hlt];exact conv (h1 i hlt)
 · obtain ⟨j,rfl⟩:∃ j,i=l.length+j:=⟨i - l.length,by omega⟩
   rw [Fx Om,Gd hx,Nat.add_sub_cancel_left];exact conv (h2 j Om)
end
section
variable {w:World}
theorem DF {B:Nat} {t e:TypeId} {sz:Nat} (ti:TI t e sz) (ty:TypeId) {v:Value} {n:Nat} {xs:List Value} (hown:w.ownsRow B e sz v n xs) {A:Option Addr} {m c:Nat} {news:List Value} (hl:news.length=m * sz)
 (hnews:0 < m→∃ b o,A=some ⟨b,o,none⟩∧∀ j u,news[j]?=some u→w.cell? ⟨b,o+j,none⟩=some u) (h1:∀ u ∈ news,u.oneCell'=true) (hn:n+m≤1099511627776) (hB:B≤w.heap.size) :
 ∃ v' w',(Builtin.append_ #[t,t] ty #[v,.slice A m c]).run Tryz.prog w=.ok v' w'∧w'.ownsRow B e sz v' (n+m) (xs ++ news)∧Fr (fun k=>some k=v.ownBlock) w w'∧(v'.ownBlock=v.ownBlock∨v'.ownBlock=some w.heap.size):=by
 obtain ⟨i,z,t1,t2,t3,t4,t5,t6,t7⟩:=ti;have hrd:SD w w.heap.size sz A m news:=⟨hl,fun hm=>by
  obtain ⟨b,o,rfl,hc⟩:=hnews hm;have hpos:0 < news.length:=by rw [hl];exact Nat.mul_pos hm t7
  have h0:=hc 0 _ (List.getElem?_eq_getElem hpos);refine ⟨_,rfl,by have:=World.block_lt_of_cell? w _ h0;simpa using this,fun j u hj=>?_⟩;have e:(⟨b,o,none⟩:Addr).add j=⟨b,o+j,none⟩:=by unfold Addr.add;split <;> simp_all
  rw [e];exact hc j u hj⟩
 obtain ⟨v',w',hrun,ho,hg,hl⟩:=Gc (P:=Tryz.prog) w B t ty e i z _ i.bytes t1 t2 t3 t4 rfl t6 t7 v n xs hown _ A m c news hrd h1 (by unfold maxLen;omega) (by
  have:(n+m) * i.bytes≤1099511627776 * 128:=Nat.mul_le_mul hn t5;omega) hB
 exact ⟨v',w',hrun,ho,AF hg,hl⟩
theorem Nx {o:Oper} {a:Act} {K:Act→World→Prop} {Q:Exit→Act→World→Prop} (s x:Operand) (t:TypeId)
 (ho:o.op=.call { callee:=.builtin .append,args:=#[s,x],argTypes:=#[t,t] }) {B:Nat} {e:TypeId} {sz:Nat} (ti:TI t e sz) {v:Value} {n:Nat} {xs:List Value} (hs:a.eval s=v) (hown:w.ownsRow B e sz v n xs)
 {A:Option Addr} {m c:Nat} {news:List Value} (hx:a.eval x=.slice A m c) (hl:news.length=m * sz)
 (hnews:0 < m→∃ b o,A=some ⟨b,o,none⟩∧∀ j u,news[j]?=some u→w.cell? ⟨b,o+j,none⟩=some u) (h1:∀ u ∈ news,u.oneCell'=true) (hn:n+m≤1099511627776) (hB:B≤w.heap.size)
 (h:∀ v' w',w'.ownsRow B e sz v' (n+m) (xs ++ news)→Fr (fun k=>some k=v.ownBlock) w w'→(v'.ownBlock=v.ownBlock∨v'.ownBlock=some w.heap.size)→K (a.put o.dst v') w'):o.wp Tryz.prog a w K Q:=by
 obtain ⟨v',w',hrun,h1,h2,h3⟩:=DF ti o.type hown hl hnews h1 hn hB (c:=c);unfold Oper.wp execOp;simp only [ho,resolve,invoke,builtin,Sem.run_bind,Sem.run_pure,Result.andThen_ok,List.map_toArray,List.map_cons,List.map_nil,hs,hx,hrun];exact h v' w' h1 h2 h3
theorem Fd {ops:Array Oper} {rest:List Oper} {o:Oper} {a:Act} {Q:Exit→Act→World→Prop} (hgd:o.guard=none) (s x:Operand) (t:TypeId)
 (ho:o.op=.call { callee:=.builtin .append,args:=#[s,x],argTypes:=#[t,t] }) {B:Nat} {e:TypeId} {sz:Nat} (ti:TI t e sz) {v:Value} {n:Nat} {xs:List Value} (hs:a.eval s=v) (hown:w.ownsRow B e sz v n xs)
 {A:Option Addr} {m c:Nat} {news:List Value} (hx:a.eval x=.slice A m c) (hl:news.length=m * sz)
 (hnews:0 < m→∃ b o,A=some ⟨b,o,none⟩∧∀ j u,news[j]?=some u→w.cell? ⟨b,o+j,none⟩=some u) (h1:∀ u ∈ news,u.oneCell'=true) (hn:n+m≤1099511627776) (hB:B≤w.heap.size)
 (h:∀ v' w',w'.ownsRow B e sz v' (n+m) (xs ++ news)→Fr (fun k=>some k=v.ownBlock) w w'→(v'.ownBlock=v.ownBlock∨v'.ownBlock=some w.heap.size)→wpList Tryz.prog ops Q rest (a.put o.dst v') w'):wpList Tryz.prog ops Q (o :: rest) a w :=
 wpList_plain hgd fun _ hK=>Nx s x t ho ti hs hown hx hl hnews h1 hn hB fun v' w' h1 h2 h3=>hK _ _ (h v' w' h1 h2 h3)
theorem Pi {ops:Array Oper} {o:Oper} {a:Act} {K:Act→World→Prop} {Q:Exit→Act→World→Prop} {E:Prop} (hgd:o.guard=none) (s x:Operand) (t:TypeId)
 (ho:o.op=.call { callee:=.builtin .append,args:=#[s,x],argTypes:=#[t,t] }) {B:Nat} {e:TypeId} {sz:Nat} (ti:TI t e sz) {v:Value} {n:Nat} {xs:List Value} (hs:a.eval s=v) (hown:w.ownsRow B e sz v n xs)
 {A:Option Addr} {m c:Nat} {news:List Value} (hx:a.eval x=.slice A m c) (hl:news.length=m * sz)
 (hnews:0 < m→∃ b o,A=some ⟨b,o,none⟩∧∀ j u,news[j]?=some u→w.cell? ⟨b,o+j,none⟩=some u) (h1:∀ u ∈ news,u.oneCell'=true) (hn:n+m≤1099511627776) (hB:B≤w.heap.size)
 (h:∀ v' w',w'.ownsRow B e sz v' (n+m) (xs ++ news)→Fr (fun k=>some k=v.ownBlock) w w'→(v'.ownBlock=v.ownBlock∨v'.ownBlock=some w.heap.size)→K (a.put o.dst v') w') :
 if Region.wanted o (yielded ops a.tmps)=true then Oper.wp Tryz.prog o a w K Q else E:=by
 have hw:Region.wanted o (yielded ops a.tmps)=true:=by simp [Region.wanted,hgd]
 rw [if_pos hw];exact Nx s x t ho ti hs hown hx hl hnews h1 hn hB h
end
section
variable {α:Type} [Own α] [Tid α] {w0 w2 w3:World} {B:Nat} {v v':Value} {l m:List α} {xs ys:List Value} {fps fps2:List (List Nat)}
theorem PL.app (hr:w0.ownsRow B (Tid.tid α) (Dat.sz α) v l.length xs) (hl1:fps.length=l.length) (hn:(v.ownBlock.toList ++ fps.flatten).Nodup) (ho:∀ i,i < l.length→Own.own w0 B (gd l i) (Bz (Dat.sz α) xs i) (gd fps i))
 (hb:Below w0.heap.size w0 w2) (h2:∀ i,i < m.length→Own.own w2 w0.heap.size (gd m i) (Bz (Dat.sz α) ys i) (gd fps2 i)) (hl2:fps2.length=m.length) (hn2:fps2.flatten.Nodup) (hB:B≤w0.heap.size)
 (hf:Fr (fun k=>some k=v.ownBlock) w2 w3) (hr3:w3.ownsRow B (Tid.tid α) (Dat.sz α) v' (l.length+m.length) (xs ++ ys)) (hlie:v'.ownBlock=v.ownBlock∨v'.ownBlock=some w2.heap.size) :
 PL w3 B v' (l ++ m).length (l ++ m) (l ++ m).length:=by
 have hlt1:∀ k ∈ fps.flatten,k < w0.heap.size:=fun k hk=>by
  obtain ⟨i,hi,hm⟩:=F8 hk;exact (Own.lt (ho i Om) k hm).2
 have hlt2:∀ k ∈ fps2.flatten,w0.heap.size≤k∧k < w2.heap.size:=fun k hk=>by
  obtain ⟨i,hi,hm⟩:=F8 hk;exact Own.lt (h2 i Om) k hm
 have hn0:=List.nodup_append.1 hn;have hz:=hb.size;have hvl:∀ k,some k=v.ownBlock→k < w0.heap.size:=fun k hk=>(AD hr hk).2;refine ⟨xs ++ ys,fps ++ fps2,by rw [List.length_append];exact hr3,by simp [hl1,hl2],?_,fun i hi=>?_⟩
 · rw [List.flatten_append]
   refine List.nodup_append.2 ⟨nodup_ownA v',List.nodup_append.2 ⟨hn0.2.1,hn2,fun a ha b hb e=>by
    have:=hlt1 a ha;have:=(hlt2 b hb).1;omega⟩,fun a ha b hb2 e=>?_⟩
   subst e;have ha':=Ba.1 ha;rcases hlie with h | h
   · rw [h] at ha'
     rcases List.mem_append.1 hb2 with hm | hm
     · exact hn0.2.2 a (Ba.2 ha') a hm rfl
     · have:=hvl a ha'
       have:=(hlt2 a hm).1;omega
   · rw [h] at ha'
     injection ha' with ha'
     rcases List.mem_append.1 hb2 with hm | hm
     · have:=hlt1 a hm;omega
     · have:=(hlt2 a hm).2;omega
 · rw [List.length_append] at hi
   by_cases hlt:i < l.length
   · rw [Dj hlt,Dj Om,Fb hr.1 hlt]
     refine Own.okept (Own.okept (ho i hlt) (Below.fr hb) fun _ _ h=>h) hf fun k hk e=>?_;exact hn0.2.2 k (Ba.2 e) k (Fc Om hk) rfl
   · obtain ⟨j,rfl⟩:∃ j,i=l.length+j:=⟨i - l.length,by omega⟩
     rw [Fx Om,Fx Om,Gd hr.1,Nat.add_sub_cancel_left,show l.length+j - fps.length=j by omega];refine Own.mono (Own.okept (h2 j Om) hf fun k hk e=>?_) hB;have:=hvl k e;have:=(hlt2 k (Fc Om hk)).1;omega
where
 nodup_ownA (v:Value):v.ownBlock.toList.Nodup:=by cases v.ownBlock <;> simp
end
def RowE (w:World) (B:Nat) (e:TypeId) (sz:Nat) (v:Value) (n:Nat) (xs:List Value):Prop :=
 (n=0∧xs=[]∧∃ a,v=.slice a 0 0)∨w.ownsRow B e sz v n xs
theorem Hc (w:World) (B:Nat) (e:TypeId) (sz:Nat) (a:Option Addr):RowE w B e sz (.slice a 0 0) 0 []:=.inl ⟨rfl,rfl,a,rfl⟩
theorem RowE.keep {w w':World} {B:Nat} {e:TypeId} {sz n:Nat} {v:Value} {xs:List Value} (h:RowE w B e sz v n xs) (hb:Below w.heap.size w w'):RowE w' B e sz v n xs:=by
 rcases h with h | h
 · exact .inl h
 · exact .inr (Ag h hb)
theorem RowE.len {w:World} {B:Nat} {e:TypeId} {sz n:Nat} {v:Value} {xs:List Value} (h:RowE w B e sz v n xs):xs.length=n * sz:=by
 rcases h with ⟨rfl,rfl,_⟩ | h
 · simp
 · exact h.1
theorem RowE.mono {w:World} {B B':Nat} {e:TypeId} {sz n:Nat} {v:Value} {xs:List Value} (h:RowE w B e sz v n xs) (hB:B'≤B):RowE w B' e sz v n xs:=by
 rcases h with h | h
 · exact .inl h
 · exact .inr (BK h hB)
theorem RowE.rl {α:Type} [Dat α] {w:World} {S:Nat→Prop} {B:Nat} {e:TypeId} {v:Value} {l:List α} {xs:List Value} (h:RowE w B e (Dat.sz α) v l.length xs)
 (hx:∀ i,i < l.length→Dat.rd w S (gd l i) (Bz (Dat.sz α) xs i)):RL w (fun k=>S k∨B≤k) v l:=by
 rcases h with ⟨h0,_,a,rfl⟩ | h
 · exact .inl ⟨a,0,rfl,List.eq_nil_of_length_eq_zero h0,Nat.zero_le _,fun _=>rfl⟩
 · have hlt:=fun k hk=>AD h (k:=k) hk
   rcases JV h with ⟨a,cap,rfl,h0,h1,h2⟩ | ⟨b,o,cap,rfl,h1,h2,h3⟩
   · exact .inl ⟨a,cap,rfl,List.eq_nil_of_length_eq_zero h0,h1,h2⟩
   · refine .inr ⟨b,o,cap,rfl,h1,h2,fun hp=>⟨.inr (hlt b rfl).1,(hlt b rfl).2⟩,fun i hi=>⟨_,Dat.more (hx i hi) fun k _ hk=>.inl hk,fun j u hj=>?_⟩⟩
     have hx2:=E3 hj;have hlen:i * Dat.sz α+j < xs.length:=(List.getElem?_eq_some_iff.1 hx2).1;rw [h3 (i * Dat.sz α+j) (by rw [← h.1];exact hlen)];simp [hx2]
section
variable {w:World}
theorem Ki {t ty e:TypeId} {i:TypeInfo} (ht:Tryz.prog.underlying t=some (.slice e)) (hi:Tryz.prog.info? e=some i) (a A:Option Addr) (c:Nat):(Builtin.append_ #[t,t] ty #[.slice a 0 0,.slice A 0 c]).run Tryz.prog w=.ok (.slice a 0 0) w:=by
 cases a <;> cases A <;> simp [Builtin.append_,run_underlying ht,sizeOf,typeInfo,hi,Builtin.lenOf,Builtin.firstCells,loadCells,loadCellsFrom,storeCells]
theorem Pj {B:Nat} {t e:TypeId} {sz:Nat} (ti:TI t e sz) (ty:TypeId) {v:Value} {n:Nat} {xs:List Value} (hown:RowE w B e sz v n xs) {A:Option Addr} {m c:Nat} {news:List Value} (hl:news.length=m * sz)
 (hnews:0 < m→∃ b o,A=some ⟨b,o,none⟩∧∀ j u,news[j]?=some u→w.cell? ⟨b,o+j,none⟩=some u) (h1:∀ u ∈ news,u.oneCell'=true) (hn:n+m≤1099511627776) (hB:B≤w.heap.size) :
 ∃ v' w',(Builtin.append_ #[t,t] ty #[v,.slice A m c]).run Tryz.prog w=.ok v' w'∧RowE w' B e sz v' (n+m) (xs ++ news)∧Below B w w':=by
 rcases hown with ⟨rfl,rfl,a,rfl⟩ | hown
 · by_cases hm:m=0
   · subst hm
     obtain ⟨i,z,t1,t2,_⟩:=ti;obtain rfl:news=[]:=List.eq_nil_of_length_eq_zero (by simpa using hl);exact ⟨_,w,Ki t1 t2 a A c,.inl ⟨rfl,rfl,a,rfl⟩,Below.refl _ _⟩
   · cases a with
     | none =>
       obtain ⟨v',w',hrun,ho,hf,_⟩:=DF ti ty (World.ownsRow_nil w B e sz) hl hnews h1 hn hB (c:=c);exact ⟨v',w',hrun,.inr ho,hf.below hB fun k _ hk=>by simp [Value.ownBlock] at hk⟩
     | some ad =>
       obtain ⟨i,z,t1,t2,t3,t4,t5,t6,t7⟩:=ti;obtain ⟨b,o,rfl,hc⟩:=hnews Om;have hc':∀ j u,news[j]?=some u→w.cell? ((⟨b,o,none⟩:Addr).add j)=some u:=fun j u hj=>by
        (have e:(⟨b,o,none⟩:Addr).add j=⟨b,o+j,none⟩:=by unfold Addr.add;split <;> simp_all);rw [e];exact hc j u hj
       have hbytes:(0+m) * i.bytes≤140737488355328:=by
        have:(0+m) * i.bytes≤1099511627776 * 128:=Nat.mul_le_mul hn t5;omega
       subst t4;have hr:=run_append_grow (P:=Tryz.prog) w t ty e i z t1 t2 t3 ad 0 0 [] Sp (fun j u hj=>by simp at hj) ⟨b,o,none⟩ m c news hl hc' Om Om (growslice_fits Om hbytes);refine ⟨_,_,hr,.inr ?_,?_⟩
       · have hge:=grownCap_ge w (0+m) 0 e
         have hcm:grownCap w (0+m) 0 e≤maxLen:=grownCap_le_maxLen w (0+m) 0 e (by unfold maxLen;omega);refine ⟨by rw [List.nil_append,hl,Nat.zero_add],.inr ⟨w.heap.size,_,_,rfl,hB,heap_alloc_new w.drew _,hge,hcm,?_,?_⟩⟩
         · simp only [Array.size_append,List.size_toArray,size_zeroCells,t6,hl,List.length_nil,Nat.zero_add,← Nat.add_mul]
           simp only [Nat.zero_add] at hge;rw [Nat.add_sub_cancel' hge]
         · simp only [Array.toList_append,List.nil_append,Nat.zero_add]
           rw [← hl];exact List.take_left
       · exact (Ai w |>.trans ((Aa w.drew _).mono (Nat.le_refl _))).mono hB
 · obtain ⟨v',w',hrun,ho,hf,_⟩:=DF ti ty hown hl hnews h1 hn hB (c:=c)
   exact ⟨v',w',hrun,.inr ho,hf.below hB fun k hk e=>by have:=(AD hown e).1;omega⟩
end
section
variable {α:Type} [Dat α] {w:World} {S:Nat→Prop} {l:List α}
theorem SE {B:Nat} {t e:TypeId} (ti:TI t e (Dat.sz α)) (ty:TypeId) {v:Value} {n:Nat} {xs:List Value} (hown:RowE w B e (Dat.sz α) v n xs) {x:Value} (hr:RL w S x l) (hn:n+l.length≤1099511627776) (hB:B≤w.heap.size) :
 ∃ v' w' news,(Builtin.append_ #[t,t] ty #[v,x]).run Tryz.prog w=.ok v' w'∧RowE w' B e (Dat.sz α) v' (n+l.length) (xs ++ news)∧news.length=l.length * Dat.sz α ∧
   (∀ i,i < l.length→Dat.rd w S (gd l i) (Bz (Dat.sz α) news i))∧Below B w w':=by
 obtain ⟨a,c,rfl⟩:=hr.form;obtain ⟨_,news,hrd,hone,hnth⟩:=hr.reads;obtain ⟨v',w',hrun,h1,h2⟩:=Pj ti ty hown hrd.1 (A:=a) (c:=c) (fun hm=>by
  rcases hr with ⟨a',cap,e,rfl,_⟩ | ⟨b,o,cap,e,_⟩
  · simp at hm
  · injection e with e
    subst e;obtain ⟨ad,e2,_,hc⟩:=hrd.2 hm;injection e2 with e2
    subst e2;exact ⟨b,o,rfl,fun j u hj=>by
     (have e:(⟨b,o,none⟩:Addr).add j=⟨b,o+j,none⟩:=by unfold Addr.add;split <;> simp_all);rw [← e];exact hc j u hj⟩) hone hn hB
 exact ⟨v',w',news,hrun,h1,hrd.1,hnth,h2⟩
theorem QL {o:Oper} {a:Act} {K:Act→World→Prop} {Q:Exit→Act→World→Prop} (s x:Operand) (t:TypeId)
 (ho:o.op=.call { callee:=.builtin .append,args:=#[s,x],argTypes:=#[t,t] }) {B:Nat} {e:TypeId} (ti:TI t e (Dat.sz α)) {v vx:Value} {n:Nat} {xs:List Value} (hs:a.eval s=v) (hown:RowE w B e (Dat.sz α) v n xs)
 (hx:a.eval x=vx) (hr:RL w S vx l) (hn:n+l.length≤1099511627776) (hB:B≤w.heap.size)
 (h:∀ v' w' news,RowE w' B e (Dat.sz α) v' (n+l.length) (xs ++ news)→news.length=l.length * Dat.sz α→(∀ i,i < l.length→Dat.rd w S (gd l i) (Bz (Dat.sz α) news i))→Below B w w'→K (a.put o.dst v') w'):o.wp Tryz.prog a w K Q:=by
 obtain ⟨v',w',news,hrun,h1,h2,h3,h4⟩:=SE ti o.type hown hr hn hB;unfold Oper.wp execOp;simp only [ho,resolve,invoke,builtin,Sem.run_bind,Sem.run_pure,Result.andThen_ok,List.map_toArray,List.map_cons,List.map_nil,hs,hx,hrun];exact h v' w' news h1 h2 h3 h4
theorem DG {ops:Array Oper} {o:Oper} {a:Act} {K:Act→World→Prop} {Q:Exit→Act→World→Prop} {E:Prop} (hgd:o.guard=none) (s x:Operand) (t:TypeId)
 (ho:o.op=.call { callee:=.builtin .append,args:=#[s,x],argTypes:=#[t,t] }) {e:TypeId} (ti:TI t e (Dat.sz α)) {vx:Value} {A:Option Addr} (hs:a.eval s=.slice A 0 0)
 (hx:a.eval x=vx) (hr:RL w S vx l) (hn:l.length≤1048576)
 (h:∀ B,B=w.heap.size→∀ v' w' news,RowE w' B e (Dat.sz α) v' l.length news→(∀ i,i < l.length→Dat.rd w S (gd l i) (Bz (Dat.sz α) news i))→Below B w w'→K (a.put o.dst v') w') :
 if Region.wanted o (yielded ops a.tmps)=true then Oper.wp Tryz.prog o a w K Q else E:=by
 have hw:Region.wanted o (yielded ops a.tmps)=true:=by simp [Region.wanted,hgd]
 rw [if_pos hw];exact QL s x t ho ti hs (Hc w w.heap.size _ _ A) hx hr Om (Nat.le_refl _) fun v' w' news h1 _ h3 h4=>h _ rfl v' w' news (by simpa using h1) h3 h4
theorem Eo {ops:Array Oper} {o:Oper} {a:Act} {K:Act→World→Prop} {Q:Exit→Act→World→Prop} {E:Prop} (hgd:o.guard=none) (s x:Operand) (t:TypeId)
 (ho:o.op=.call { callee:=.builtin .append,args:=#[s,x],argTypes:=#[t,t] }) {B:Nat} {e:TypeId} (ti:TI t e (Dat.sz α)) {v vx:Value} {n:Nat} {xs:List Value} (hs:a.eval s=v) (hown:RowE w B e (Dat.sz α) v n xs)
 (hx:a.eval x=vx) (hr:RL w S vx l) (hn:n+l.length≤1099511627776) (hB:B≤w.heap.size)
 (h:∀ v' w' news,RowE w' B e (Dat.sz α) v' (n+l.length) (xs ++ news)→news.length=l.length * Dat.sz α→(∀ i,i < l.length→Dat.rd w S (gd l i) (Bz (Dat.sz α) news i))→Below B w w'→K (a.put o.dst v') w') :
 if Region.wanted o (yielded ops a.tmps)=true then Oper.wp Tryz.prog o a w K Q else E:=by
 have hw:Region.wanted o (yielded ops a.tmps)=true:=by simp [Region.wanted,hgd]
 rw [if_pos hw];exact QL s x t ho ti hs hown hx hr hn hB h
theorem Fe {β:Type} [Flat β] {w w1 w2:World} {B:Nat} {e:TypeId} {v:Value} {l m:List β} {xs ys:List Value} {S1 S2:Nat→Prop} (h:RowE w B e (Dat.sz β) v (l.length+m.length) (xs ++ ys)) (hx:xs.length=l.length * Dat.sz β)
 (h1:∀ i,i < l.length→Dat.rd w1 S1 (gd l i) (Bz (Dat.sz β) xs i)) (h2:∀ i,i < m.length→Dat.rd w2 S2 (gd m i) (Bz (Dat.sz β) ys i)):RL w (fun k=>B≤k) v (l ++ m):=by
 have conv:∀ {w1:World} {S:Nat→Prop} {a:β} {cs:List Value},Dat.rd w1 S a cs→Dat.rd w (fun _=>False) a cs:=fun h=>Dat.more (Own.read (Flat.flat (w':=w) (B:=0) h)) fun k _ hk=>by cases hk
 refine (RowE.rl (S:=fun _=>False) (by rw [List.length_append];exact h) fun i hi=>?_).more fun k _ hk=>hk.elim (fun h=>h.elim) id;rw [List.length_append] at hi;by_cases hlt:i < l.length
 · rw [Dj hlt,Fb hx hlt];exact conv (h1 i hlt)
 · obtain ⟨j,rfl⟩:∃ j,i=l.length+j:=⟨i - l.length,by omega⟩
   rw [Fx Om,Gd hx,Nat.add_sub_cancel_left];exact conv (h2 j Om)
end
end Go.Proofs.YtkbbmjcfgcfejaaGreat
