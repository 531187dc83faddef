/- Walks: the words of a text (reference: l18Words). -/
import Derived.Test.YtkbbmjcfgcfejaaGreatKBtxA
import Derived.Handy
import Derived.Deep.DeepMust
import Derived.Test.YtkbbmjcfgcfejaaGreatKData3
import Derived.Test.YtkbbmjcfgcfejaaGreatKDraw1
set_option linter.unusedVariables false
set_option linter.unusedSimpArgs false
namespace Go.Proofs.YtkbbmjcfgcfejaaGreat
open Go.RowKit
def wordsL (x:List UInt8):List (List UInt8):=(cutL 32 x).filter fun p=>decide (p ≠ [])
theorem filter_take {α:Type} [Inhabited α] {p:α→Bool} {l:List α} {k:Nat} (h:k < l.length):(l.take (k+1)).filter p=(l.take k).filter p ++ (if p (gd l k)=true then [gd l k] else []):=by
 rw [take_gd h,List.filter_append];congr 1
 cases hp:p (gd l k) <;> simp [hp]
theorem filter_few {α:Type} (p:α→Bool) (l:List α) (k:Nat):((l.take k).filter p).length≤k :=
 Nat.le_trans (List.length_filter_le _ _) (by rw [List.length_take];exact Nat.min_le_left _ _)
theorem words_short {t x:List UInt8} (h:x ∈ wordsL t):x.length≤t.length:=cut_short (List.mem_filter.1 h).1
theorem words_few (t:List UInt8):(wordsL t).length≤t.length+1:=Nat.le_trans (List.length_filter_le _ _) (cutL_len 32 t)
attribute [local go_sem] btx_nil
set_option maxRecDepth 100000 in
set_option maxHeartbeats 3200000 in
theorem wordsS_any (t:List UInt8) (w:World) (hl:t.length≤1048576) :
 Calls Tryz.prog 240 #[.string (btx t)] w fun e w'=>∃ v,e=.returned v∧w'.ownsRow w.heap.size 9 1 v (wordsL t).length (strs (wordsL t))∧Below w.heap.size w w':=by
 go_enter Tryz.func240,Tryz.ntmps240
 go_wp2_with fail
 refine (cutS_any t 32 _ hl).mono ?_
 rintro e w1 ⟨v,rfl,hrow,hb1⟩
 have hne:0 < (cutL 32 t).length:=List.length_pos_iff.2 (cutL_ne 32 t)
 obtain ⟨g,cap,rfl,hg1,hg2,hcell⟩:=strs_at hrow hne
 have hcl:=cutL_len 32 t
 have hwd:wordsL t=(cutL 32 t).filter fun p=>decide (p ≠ []):=rfl
 obtain ⟨ps,hps⟩:∃ ps,cutL 32 t=ps:=⟨_,rfl⟩
 rw [hps] at hne hcell hcl hwd ⊢
 have HW:=Lib.hid hwd
 obtain ⟨m,hm⟩:∃ m,ps.length=m:=⟨_,rfl⟩
 have HM:=Lib.hid hm
 rw [hm] at hne hcell hcl ⊢
 have HC:=Lib.hid hcell
 have hown0:=World.ownsRow_lit (base:=w1.heap.size) (size:=1) w1 #[] 0 (Nat.le_refl _) (by decide) (by simp) (e:=9)
 have HL:=Lib.hid hb1.size
 clear hps hcell hrow hm hwd
 go_wp2
 go_loopg [4,5] m (fun q v i wr=>∃ k:Nat,k+q=m∧i=.int .i64 k∧wr.ownsRow w1.heap.size 9 1 v ((ps.take k).filter fun p=>decide (p ≠ [])).length (strs ((ps.take k).filter fun p=>decide (p ≠ [])))∧Below w.heap.size w wr∧w1.heap.size≤wr.heap.size∧(∀ i,i < m→wr.cell? ⟨g,i,none⟩=some (.string (btx (gd ps i)))))
 case atStart=>exact ⟨0,by omega,rfl,hown0,bt hb1 Bl,by simp,fun i hi=>cell_keep Bl (HC.out i hi)⟩
 case round =>
  clear hown0 hb1
  obtain ⟨k,hk,rfl,hown,hb,hg3,hce⟩:=hrel
  have HK:=Lib.hid hk
  have HCE:=Lib.hid hce
  obtain ⟨va,vc,rfl,_⟩:=own_form hown
  clear hk hce
  have hs:=hb.size
  by_cases hk8:k < m
  · have i1:(k:Int) < (m:Int):=by omega
    have hp:=HCE.out k hk8
    have hst:=filter_take (p:=fun p=>decide (p ≠ [])) (show k < ps.length by rw [HM.out];exact hk8)
    obtain ⟨x,hx⟩:∃ x,gd ps k=x:=⟨_,rfl⟩
    rw [hx] at hp hst
    have hfew:=filter_few (fun p=>decide (p ≠ [])) ps k
    obtain ⟨ds,hds⟩:∃ ds,(ps.take k).filter (fun p=>decide (p ≠ []))=ds:=⟨_,rfl⟩
    rw [hds] at hst hfew hown ⊢
    by_cases hx0:x=[]
    · have j1:((btx x).toList == (btx []).toList)=true:=by rw [btx_leq];exact decide_eq_true hx0
      rw [hx0,show decide (([]:List UInt8) ≠ [])=false from rfl,if_neg (by decide),List.append_nil] at hst
      have HST:=Lib.hid hst
      clear hx0 hst hds hx
      go_wp2
      go_roundg (gk - 1)
      case rel=>exact ⟨k+1,by have:=HK.out;omega,by go_num,by rw [HST.out];exact hown,hb,hg3,HCE.out⟩
      case measure=>have:=HK.out;omega
    · have j1b:((btx x).toList == (btx []).toList)=false:=by rw [btx_leq];exact decide_eq_false hx0
      rw [if_pos (decide_eq_true hx0)] at hst
      have HST:=Lib.hid hst
      clear hx0 hst hds hx
      go_wp2_with (at_builtin;go_must (refine app_str _ rfl _ _ rfl w1.heap.size _ ds rfl (own_keep hown (below_alloc _ _)) ⟨wr.heap.size,0,none⟩ x rfl (cell_new1 _ _ _) (by omega) (by simp;omega) ?_);intro v' w2 hown1 hf1)
      have hsz:=hf1.size
      rw [World.size_alloc] at hsz
      go_roundg (gk - 1)
      case rel=>exact ⟨k+1,by have:=HK.out;omega,by go_num,by rw [HST.out];exact hown1,below_own (own_mono (own_keep hown (below_alloc _ _)) HL.out) hf1 (hb.trans ((below_alloc _ _).mono hs)) (by simp;omega),by omega,fun i hi=>hf1.cell (fun e=>absurd (own_lt hown e).1 (Nat.not_le.2 hg2)) (cell_keep (below_alloc _ _) (HCE.out i hi))⟩
      case measure=>have:=HK.out;omega
  · obtain rfl:k=m:=by have:=HK.out;omega
    rw [List.take_of_length_le (by rw [HM.out];exact Nat.le_refl _)] at hown ⊢
    go_wp2
    go_ret
    exact ⟨_,rfl,by rw [HW.out];exact own_mono hown HL.out,hb⟩
end Go.Proofs.YtkbbmjcfgcfejaaGreat
namespace Go.Proofs.YtkbbmjcfgcfejaaGreat
open Go.RowKit
def TF (w:World) (B:Nat) (e:TypeId) (k:Nat):Prop:=B≤k∧∃ cs,w.heap[k]?=some (.cells cs e (0,0))
theorem tf_ne {w:World} {B b:Nat} {e T:TypeId} {cs:Array Value} (h:w.heap[b]?=some (.cells cs T (0,0))) (hne:T ≠ e):¬ TF w B e b:=by
 rintro ⟨_,cs',h'⟩
 rw [h] at h'
 injection h' with h'
 injection h' with _ h2
 exact hne h2
theorem tf_lt {w:World} {B b:Nat} {e:TypeId} (h:b < B):¬ TF w B e b:=fun h2=>by have:=h2.1;omega
theorem row_tf {w:World} {B e sz n:Nat} {v:Value} {xs:List Value} (h:w.ownsRow B e sz v n xs):∀ k,some k=v.ownBlock→TF w B e k:=fun k hk=>by
 rcases h.2 with ⟨rfl,_⟩ | ⟨g,cap,cur,rfl,hg,hh,_⟩
 · simp [Value.ownBlock] at hk
 · injection hk with hk
   have hk':k=g:=hk
   subst hk'
   exact ⟨hg,cur,hh⟩
theorem box_tf {w w':World} {B b:Nat} {e T:TypeId} {cs:Array Value} (h:w.heap[b]?=some (.cells cs T (0,0))) (hf:Fr (TF w B e) w w') (hne:T ≠ e):w'.heap[b]?=some (.cells cs T (0,0)) :=
 box_kept h hf (tf_ne h hne)
section
variable {w:World}
theorem run_cellsT {B:Nat} {t e:TypeId} {sz:Nat} (ti:TI t e sz) (ty:TypeId) {v:Value} {n:Nat} {xs:List Value} (hown:RowE w B e sz v n xs) {A:Option Addr} {m c:Nat} {news:List Value} (hl:news.length=m * sz)
 (hnews:0 < m→∃ b o,A=some ⟨b,o,none⟩∧∀ j u,news[j]?=some u→w.cell? ⟨b,o+j,none⟩=some u) (h1:∀ u ∈ news,u.oneCell'=true) (hn:n+m≤1099511627776) (hB:B≤w.heap.size) :
 ∃ v' w',(Builtin.append_ #[t,t] ty #[v,.slice A m c]).run Tryz.prog w=.ok v' w'∧RowE w' B e sz v' (n+m) (xs ++ news)∧Fr (TF w B e) w w':=by
 rcases hown with ⟨rfl,rfl,a,rfl⟩ | hown
 · by_cases hm:m=0
   · subst hm
     obtain ⟨i,z,t1,t2,_⟩:=ti
     obtain rfl:news=[]:=List.eq_nil_of_length_eq_zero (by simpa using hl)
     exact ⟨_,w,run_same t1 t2 a A c,.inl ⟨rfl,rfl,a,rfl⟩,Fr.refl _ _⟩
   · cases a with
     | none =>
       obtain ⟨v',w',hrun,ho,hf,_⟩:=run_cells ti ty (World.ownsRow_nil w B e sz) hl hnews h1 hn hB (c:=c)
       exact ⟨v',w',hrun,.inr ho,hf.mono fun k _ hk=>by simp [Value.ownBlock] at hk⟩
     | some ad =>
       obtain ⟨i,z,t1,t2,t3,t4,t5,t6,t7⟩:=ti
       obtain ⟨b,o,rfl,hc⟩:=hnews (by omega)
       have hc':∀ j u,news[j]?=some u→w.cell? ((⟨b,o,none⟩:Addr).add j)=some u:=fun j u hj=>by
        have e:(⟨b,o,none⟩:Addr).add j=⟨b,o+j,none⟩:=by unfold Addr.add;split <;> simp_all
        rw [e];exact hc j u hj
       have hbytes:(0+m) * i.bytes≤140737488355328:=by
        have:(0+m) * i.bytes≤1099511627776 * 128:=Nat.mul_le_mul hn t5
        omega
       subst t4
       have hr:=run_append_grow (P:=Tryz.prog) w t ty e i z t1 t2 t3 ad 0 0 [] (by simp) (fun j u hj=>by simp at hj) ⟨b,o,none⟩ m c news hl hc' (by omega) (by omega) (growslice_fits (by omega) hbytes)
       refine ⟨_,_,hr,.inr ?_,?_⟩
       · have hge:=grownCap_ge w (0+m) 0 e
         have hcm:grownCap w (0+m) 0 e≤maxLen:=grownCap_le_maxLen w (0+m) 0 e (by unfold maxLen;omega)
         refine ⟨by rw [List.nil_append,hl,Nat.zero_add],.inr ⟨w.heap.size,_,_,rfl,hB,heap_alloc_new w.drew _,hge,hcm,?_,?_⟩⟩
         · simp only [Array.size_append,List.size_toArray,size_zeroCells,t6,hl,List.length_nil,Nat.zero_add,← Nat.add_mul]
           simp only [Nat.zero_add] at hge
           rw [Nat.add_sub_cancel' hge]
         · simp only [Array.toList_append,List.nil_append,Nat.zero_add]
           rw [← hl]
           exact List.take_left
       · exact (Below.fr (below_drew w |>.trans ((below_alloc w.drew _).mono (Nat.le_refl _)))).mono fun _ _ h=>h.elim
 · obtain ⟨v',w',hrun,ho,hf,_⟩:=run_cells ti ty hown hl hnews h1 hn hB (c:=c)
   exact ⟨v',w',hrun,.inr ho,hf.mono fun k _ hk=>row_tf hown k hk⟩
end
def FE {α:Type} [Flat α] [Tid α] (w:World) (B:Nat) (v:Value) (l:List α):Prop :=
 ∃ xs,RowE w B (Tid.tid α) (Dat.sz α) v l.length xs∧∀ i,i < l.length→Dat.rd w (fun _=>False) (gd l i) (nth (Dat.sz α) xs i)
theorem flat_conv {α:Type} [Flat α] {w w1:World} {S:Nat→Prop} {a:α} {cs:List Value} (h:Dat.rd w1 S a cs):Dat.rd w (fun _=>False) a cs:=Dat.more (Own.read (Flat.flat (w':=w) (B:=0) h)) fun k _ hk=>by cases hk
section
variable {α:Type} [Flat α] [Tid α] {w w':World} {B:Nat} {v:Value} {l m:List α} {S:Nat→Prop}
theorem FE.nil (w:World) (B:Nat) (a:Option Addr):FE w B (.slice a 0 0) ([]:List α):=⟨[],rowE_empty _ _ _ _ a,fun i hi=>absurd hi (by simp)⟩
theorem FE.rl (h:FE w B v l):RL w (fun k=>B≤k) v l:=by
 obtain ⟨xs,h1,h2⟩:=h
 exact (RowE.rl h1 h2).more fun k _ hk=>hk.elim (fun h=>h.elim) id
theorem FE.kept (h:FE w B v l) (hf:Fr S w w') (hs:∀ k,TF w B (Tid.tid α) k→¬ S k):FE w' B v l:=by
 obtain ⟨xs,h1,h2⟩:=h
 refine ⟨xs,?_,fun i hi=>flat_conv (h2 i hi)⟩
 rcases h1 with h1 | h1
 · exact .inl h1
 · exact .inr (own_kept h1 hf fun k hk=>hs k (row_tf h1 k hk))
theorem FE.keep (h:FE w B v l) (hb:Below w.heap.size w w'):FE w' B v l:=h.kept (Below.fr hb) fun _ _ h=>h
theorem FE.alloc (h:FE w B v l) (o:Obj):FE (w.alloc o) B v l:=h.keep (below_alloc _ _)
theorem FE.mono {B':Nat} (h:FE w B v l) (hB:B'≤B):FE w B' v l:=by
 obtain ⟨xs,h1,h2⟩:=h
 exact ⟨xs,h1.mono hB,h2⟩
theorem FE.setB (h:FE w B v l) {p:Addr} {u:Value} (hp:¬ TF w B (Tid.tid α) p.block):FE (w.setCell p u) B v l:=h.kept (fr_set _ _ _) fun _ hk e=>hp (e ▸ hk)
theorem FE.tf {B':Nat} {e':TypeId} (h:FE w B v l) (hf:Fr (TF w B' e') w w') (hne:Tid.tid α ≠ e'):FE w' B v l:=h.kept hf fun k hk hk2=>by
 obtain ⟨_,cs,hc⟩:=hk
 exact tf_ne hc hne hk2
theorem FE.form (h:FE w B v l):∃ a c,v=.slice a l.length c:=h.rl.form
theorem FE.forms (h:FE w B v l):∃ a n c,v=.slice a n c:=by obtain ⟨a,c,h⟩:=h.form;exact ⟨a,_,c,h⟩
theorem run_appF {t:TypeId} (ti:TI t (Tid.tid α) (Dat.sz α)) (ty:TypeId) (h:FE w B v l) {x:Value} (hr:RL w S x m) (hn:l.length+m.length≤1099511627776) (hB:B≤w.heap.size) :
 ∃ v' w',(Builtin.append_ #[t,t] ty #[v,x]).run Tryz.prog w=.ok v' w'∧FE w' B v' (l ++ m)∧Fr (TF w B (Tid.tid α)) w w':=by
 obtain ⟨xs,hown,hx⟩:=h
 obtain ⟨a,c,rfl⟩:=hr.form
 obtain ⟨_,news,hrd,hone,hnth⟩:=hr.reads
 obtain ⟨v',w',hrun,h1,h2⟩:=run_cellsT ti ty hown hrd.1 (A:=a) (c:=c) (fun hm=>by
  rcases hr with ⟨a',cap,e,rfl,_⟩ | ⟨b,o,cap,e,_⟩
  · simp at hm
  · injection e with e
    subst e
    obtain ⟨ad,e2,_,hc⟩:=hrd.2 hm
    injection e2 with e2
    subst e2
    exact ⟨b,o,rfl,fun j u hj=>by
     have e:(⟨b,o,none⟩:Addr).add j=⟨b,o+j,none⟩:=by unfold Addr.add;split <;> simp_all
     rw [← e];exact hc j u hj⟩) hone hn hB
 refine ⟨v',w',hrun,⟨xs ++ news,by rw [List.length_append];exact h1,fun i hi=>?_⟩,h2⟩
 rw [List.length_append] at hi
 have hxl:=hown.len
 by_cases hlt:i < l.length
 · rw [gd_app1 hlt,nth_app1 hxl hlt];exact flat_conv (hx i hlt)
 · obtain ⟨j,rfl⟩:∃ j,i=l.length+j:=⟨i - l.length,by omega⟩
   rw [gd_app2 (by omega),nth_app3 hxl,Nat.add_sub_cancel_left]
   exact flat_conv (hnth j (by omega))
theorem wp_appF {o:Oper} {a:Act} {K:Act→World→Prop} {Q:Exit→Act→World→Prop} (s x:Operand) (t:TypeId)
 (ho:o.op=.call { callee:=.builtin .append,args:=#[s,x],argTypes:=#[t,t] }) (ti:TI t (Tid.tid α) (Dat.sz α)) {v vx:Value} (hs:a.eval s=v) (hown:FE w B v l)
 (hx:a.eval x=vx) (hr:RL w S vx m) (hn:l.length+m.length≤1099511627776) (hB:B≤w.heap.size)
 (h:∀ v' w',FE w' B v' (l ++ m)→Fr (TF w B (Tid.tid α)) w w'→K (a.put o.dst v') w'):o.wp Tryz.prog a w K Q:=by
 obtain ⟨v',w',hrun,h1,h2⟩:=run_appF ti o.type hown hr hn hB
 unfold Oper.wp execOp
 simp only [ho,resolve,invoke,builtin,Sem.run_bind,Sem.run_pure,Result.andThen_ok,List.map_toArray,List.map_cons,List.map_nil,hs,hx,hrun]
 exact h v' w' h1 h2
theorem app_F {ops:Array Oper} {rest:List Oper} {o:Oper} {a:Act} {Q:Exit→Act→World→Prop} (hgd:o.guard=none) (s x:Operand) (t:TypeId)
 (ho:o.op=.call { callee:=.builtin .append,args:=#[s,x],argTypes:=#[t,t] }) (ti:TI t (Tid.tid α) (Dat.sz α)) {v vx:Value} (hs:a.eval s=v) (hown:FE w B v l)
 (hx:a.eval x=vx) (hr:RL w S vx m) (hn:l.length+m.length≤1099511627776) (hB:B≤w.heap.size)
 (h:∀ v' w',FE w' B v' (l ++ m)→Fr (TF w B (Tid.tid α)) w w'→wpList Tryz.prog ops Q rest (a.put o.dst v') w'):wpList Tryz.prog ops Q (o :: rest) a w :=
 wpList_plain hgd fun _ hK=>wp_appF s x t ho ti hs hown hx hr hn hB fun v' w' h1 h2=>hK _ _ (h v' w' h1 h2)
theorem step_F {ops:Array Oper} {o:Oper} {a:Act} {K:Act→World→Prop} {Q:Exit→Act→World→Prop} {E:Prop} (hgd:o.guard=none) (s x:Operand) (t:TypeId)
 (ho:o.op=.call { callee:=.builtin .append,args:=#[s,x],argTypes:=#[t,t] }) (ti:TI t (Tid.tid α) (Dat.sz α)) {v vx:Value} (hs:a.eval s=v) (hown:FE w B v l)
 (hx:a.eval x=vx) (hr:RL w S vx m) (hn:l.length+m.length≤1099511627776) (hB:B≤w.heap.size)
 (h:∀ v' w',FE w' B v' (l ++ m)→Fr (TF w B (Tid.tid α)) w w'→K (a.put o.dst v') w') :
 if Region.wanted o (yielded ops a.tmps)=true then Oper.wp Tryz.prog o a w K Q else E:=by
 have hw:Region.wanted o (yielded ops a.tmps)=true:=by simp [Region.wanted,hgd]
 rw [if_pos hw]
 exact wp_appF s x t ho ti hs hown hx hr hn hB h
end
theorem lit_one {α:Type} [Dat α] (w:World) (cs:List Value) (T:TypeId) (x:α) (hrd:Dat.rd w (fun _=>False) x cs):RL (w.alloc (.cells cs.toArray T)) (fun k=>k=w.heap.size) (.slice (some ⟨w.heap.size,0,none⟩) 1 1) [x]:=by
 refine .inr ⟨w.heap.size,0,1,rfl,by simp,by unfold maxLen;omega,fun _=>⟨rfl,by simp⟩,fun i hi=>⟨cs,?_,fun j u hj=>?_⟩⟩
 · have:i=0:=by simpa using hi
   subst this
   exact Dat.more (Dat.kept hrd (Below.fr (below_alloc w _)) fun _ _ h=>h.elim) fun _ _ h=>h.elim
 · have:i=0:=by simpa using hi
   subst this
   rw [cell_of_row _ _ _ _ _ _ (heap_alloc_new w _)]
   simp [hj]
theorem lit_fact (w:World) (a:Bool) (b c:Int) (T:TypeId):RL (w.alloc (.cells #[.bool a,.int .i64 b,.int .i64 c] T)) (fun k=>k=w.heap.size) (.slice (some ⟨w.heap.size,0,none⟩) 1 1) [((a,b,c):Fact)] :=
 lit_one w [.bool a,.int .i64 b,.int .i64 c] T ((a,b,c):Fact) (rd_fact_mk w _ (a,b,c))
theorem lit_atom (w:World) (a b c:Int) (T:TypeId):RL (w.alloc (.cells #[.int .i64 a,.int .i64 b,.int .i64 c] T)) (fun k=>k=w.heap.size) (.slice (some ⟨w.heap.size,0,none⟩) 1 1) [((a,b,c):Atom)] :=
 lit_one w [.int .i64 a,.int .i64 b,.int .i64 c] T ((a,b,c):Atom) (rd_atom_mk w _ (a,b,c))
end Go.Proofs.YtkbbmjcfgcfejaaGreat
