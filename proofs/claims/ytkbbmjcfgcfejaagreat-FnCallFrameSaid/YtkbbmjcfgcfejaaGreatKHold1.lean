/- Rows of commands of the call's own, what they point to elsewhere. -/
import Derived.Test.YtkbbmjcfgcfejaaGreatKPgr
import Derived.Test.YtkbbmjcfgcfejaaGreatKAppF
import Derived.Test.YtkbbmjcfgcfejaaGreatKData3
import Derived.Handy
set_option linter.unusedVariables false
namespace Go.Proofs.YtkbbmjcfgcfejaaGreat
open Go.RowKit
def UC {d:Nat} (w:World) (B:Nat) (v:Value) (l:List (Cm d)):Prop :=
 ∃ xs:List Value,w.ownsRow B 63 10 v l.length xs∧∀ k,k < l.length→Dat.rd w (fun j=>B≤j∧¬ some j=v.ownBlock) (gd l k) (nth 10 xs k)
section
variable {d:Nat} {w w':World} {B:Nat} {v:Value} {l:List (Cm d)} {T:Nat→Prop}
theorem UC.kept (h:UC w B v l) (hf:Fr T w w') (hs:∀ k,B≤k→k < w.heap.size→¬ T k):UC w' B v l:=by
 obtain ⟨xs,hr,hx⟩:=h
 exact ⟨xs,own_kept hr hf (fun k hk=>hs k (own_lt hr hk).1 (own_lt hr hk).2),fun k hk=>Dat.kept (hx k hk) hf fun j hj h=>hs j h.1 hj⟩
theorem UC.keep (h:UC w B v l) (hb:Below w.heap.size w w'):UC w' B v l:=h.kept (Below.fr hb) fun _ _ _ h=>h
theorem UC.mono {B':Nat} (h:UC w B v l) (hB:B'≤B):UC w B' v l:=by
 obtain ⟨xs,hr,hx⟩:=h
 exact ⟨xs,own_mono hr hB,fun k hk=>Dat.more (hx k hk) fun j _ h=>⟨Nat.le_trans hB h.1,h.2⟩⟩
theorem UC.rl (h:UC w B v l):RL w (fun k=>B≤k) v l:=by
 obtain ⟨xs,hr,hx⟩:=h
 have hcells:=own_rsl hr
 rcases hcells with ⟨a,cap,rfl,h0,h1,h2⟩ | ⟨b,o,cap,rfl,h1,h2,h3⟩
 · exact .inl ⟨a,cap,rfl,List.eq_nil_of_length_eq_zero h0,h1,h2⟩
 · refine .inr ⟨b,o,cap,rfl,h1,h2,fun hp=>own_lt hr rfl,fun i hi=>⟨_,Dat.more (hx i hi) fun k _ hk=>hk.1,fun j u hj=>?_⟩⟩
   have hj':=nth_at hj
   have hlen:i * 10+j < xs.length:=(List.getElem?_eq_some_iff.1 hj').1
   have:=h3 (i * 10+j) (by rw [← hr.1];exact hlen)
   rw [sz_cm,this]
   simp [hj']
theorem UC.form (h:UC w B v l):∃ a cap,v=.slice a l.length cap:=h.rl.form
theorem UC.snoc {w1:World} {v':Value} {x:Cm d} {cs xs:List Value} (hr:w.ownsRow B 63 10 v l.length xs) (hxs:∀ k,k < l.length→Dat.rd w (fun j=>B≤j∧¬ some j=v.ownBlock) (gd l k) (nth 10 xs k))
 (hr1:w1.ownsRow B 63 10 v' (l.length+1) (xs ++ cs)) (hf:Fr (fun k=>some k=v.ownBlock) w w1) (hv:v'.ownBlock=v.ownBlock∨v'.ownBlock=some w.heap.size) (hx:Dat.rd w (fun j=>B≤j∧¬ some j=v.ownBlock) x cs) :
 UC w1 B v' (l ++ [x]):=by
 have hcv:∀ {y:Cm d} {ys:List Value},Dat.rd w (fun j=>B≤j∧¬ some j=v.ownBlock) y ys→Dat.rd w1 (fun j=>B≤j∧¬ some j=v'.ownBlock) y ys:=fun {y ys} h=>by
  have h1:Dat.rd w (fun j=>B≤j∧¬ some j=v.ownBlock∧¬ some j=v'.ownBlock) y ys:=Dat.more h fun j hj hh=>⟨hh.1,hh.2,fun e=>by
   rcases hv with h2 | h2
   · exact hh.2 (e.trans h2)
   · rw [h2] at e;injection e with e;omega⟩
  exact Dat.more (Dat.kept h1 hf fun j _ hh e=>hh.2.1 e) fun j _ hh=>⟨hh.1,hh.2.2⟩
 have hcl:cs.length=10:=by rw [Dat.len hx,sz_cm]
 refine ⟨xs ++ cs,by rw [List.length_append];exact hr1,fun k hk=>?_⟩
 rw [List.length_append,List.length_singleton] at hk
 by_cases hlt:k < l.length
 · rw [gd_app1 hlt,nth_app1 hr.1 hlt];exact hcv (hxs k hlt)
 · obtain rfl:k=l.length:=by omega
   rw [gd_snoc,nth_app2 hr.1 hcl];exact hcv hx
end
theorem info_cmd:(Tryz.prog.info? 63).map (fun i=>(i.zero,i.size,i.bytes))=some (some (.agg #[.int .i64 0,.int .i64 0,.int .i64 0,.bool false,.int .i64 0,.int .i64 0,.slice none 0 0,.slice none 0 0,.slice none 0 0,.slice none 0 0]),10,144):=by kernel_rfl
section
variable {w:World}
theorem run_C {B:Nat} (ty:TypeId) {v:Value} {n:Nat} {xs:List Value} (hown:w.ownsRow B 63 10 v n xs) {b c:Nat} {news:List Value} (hl:news.length=10)
 (hnews:∀ j u,news[j]?=some u→w.cell? ⟨b,j,none⟩=some u) (h1:∀ u ∈ news,u.oneCell'=true) (hn:n≤100000000) (hB:B≤w.heap.size) :
 ∃ v' w',(Builtin.append_ #[47,47] ty #[v,.slice (some ⟨b,0,none⟩) 1 c]).run Tryz.prog w=.ok v' w'∧w'.ownsRow B 63 10 v' (n+1) (xs ++ news)∧Fr (fun k=>some k=v.ownBlock) w w'∧(v'.ownBlock=v.ownBlock∨v'.ownBlock=some w.heap.size):=by
 obtain ⟨i,t2,t3,t4,t5⟩:=info_parts info_cmd
 have hrd:Reads w w.heap.size 10 (some ⟨b,0,none⟩) 1 news:=⟨by rw [hl],fun hm=>by
  have h0:=hnews 0 _ (List.getElem?_eq_getElem (show 0 < news.length by omega))
  refine ⟨_,rfl,by have:=World.block_lt_of_cell? w _ h0;simpa using this,fun j u hj=>?_⟩
  have e:(⟨b,0,none⟩:Addr).add j=⟨b,j,none⟩:=by unfold Addr.add;split <;> simp_all
  rw [e];exact hnews j u hj⟩
 obtain ⟨v',w',hrun,ho,hg,hl⟩:=run_append_any (P:=Tryz.prog) w B 47 ty 63 i _ _ i.bytes Tryz.underlying47 t2 t3 t4 rfl rfl (by decide) v n xs hown _ _ 1 c news hrd h1 (by unfold maxLen;omega) (by
  rw [t5];omega) hB
 exact ⟨v',w',hrun,ho,grown_fr hg,hl⟩
theorem wp_C {o:Oper} {a:Act} {K:Act→World→Prop} {Q:Exit→Act→World→Prop} (s x:Operand)
 (ho:o.op=.call { callee:=.builtin .append,args:=#[s,x],argTypes:=#[47,47] }) {B:Nat} {v:Value} {n:Nat} {xs:List Value} (hs:a.eval s=v) (hown:w.ownsRow B 63 10 v n xs)
 {b c:Nat} {news:List Value} (hx:a.eval x=.slice (some ⟨b,0,none⟩) 1 c) (hl:news.length=10)
 (hnews:∀ j u,news[j]?=some u→w.cell? ⟨b,j,none⟩=some u) (h1:∀ u ∈ news,u.oneCell'=true) (hn:n≤100000000) (hB:B≤w.heap.size)
 (h:∀ v' w',w'.ownsRow B 63 10 v' (n+1) (xs ++ news)→Fr (fun k=>some k=v.ownBlock) w w'→(v'.ownBlock=v.ownBlock∨v'.ownBlock=some w.heap.size)→K (a.put o.dst v') w'):o.wp Tryz.prog a w K Q:=by
 obtain ⟨v',w',hrun,h1,h2,h3⟩:=run_C o.type hown hl hnews h1 hn hB (c:=c)
 unfold Oper.wp execOp
 simp only [ho,resolve,invoke,builtin,Sem.run_bind,Sem.run_pure,Result.andThen_ok,List.map_toArray,List.map_cons,List.map_nil,hs,hx,hrun]
 exact h v' w' h1 h2 h3
theorem app_C {ops:Array Oper} {rest:List Oper} {o:Oper} {a:Act} {Q:Exit→Act→World→Prop} (hgd:o.guard=none) (s x:Operand)
 (ho:o.op=.call { callee:=.builtin .append,args:=#[s,x],argTypes:=#[47,47] }) {B:Nat} {v:Value} {n:Nat} {xs:List Value} (hs:a.eval s=v) (hown:w.ownsRow B 63 10 v n xs)
 {b c:Nat} {news:List Value} (hx:a.eval x=.slice (some ⟨b,0,none⟩) 1 c) (hl:news.length=10)
 (hnews:∀ j u,news[j]?=some u→w.cell? ⟨b,j,none⟩=some u) (h1:∀ u ∈ news,u.oneCell'=true) (hn:n≤100000000) (hB:B≤w.heap.size)
 (h:∀ v' w',w'.ownsRow B 63 10 v' (n+1) (xs ++ news)→Fr (fun k=>some k=v.ownBlock) w w'→(v'.ownBlock=v.ownBlock∨v'.ownBlock=some w.heap.size)→wpList Tryz.prog ops Q rest (a.put o.dst v') w'):wpList Tryz.prog ops Q (o :: rest) a w :=
 wpList_plain hgd fun _ hK=>wp_C s x ho hs hown hx hl hnews h1 hn hB fun v' w' h1 h2 h3=>hK _ _ (h v' w' h1 h2 h3)
end
theorem news_cm (w:World) (k a b:Int) (t:Fact) (f1 f2 x y:Value) (e:TypeId):∀ j u,(cmCells k a b t f1 f2 x y)[j]?=some u→(w.alloc (.cells #[.int .i64 k,.int .i64 a,.int .i64 b,.bool t.1,.int .i64 t.2.1,.int .i64 t.2.2,f1,f2,x,y] e)).cell? ⟨w.heap.size,j,none⟩=some u:=fun j u hj=>by
 rw [World.cell?_alloc_mark,List.getElem?_toArray];exact hj
theorem one_cm (k a b:Int) (t:Fact) (a1 a2 a3 a4:Option Addr) (n1 n2 n3 n4 c1 c2 c3 c4:Nat):∀ u ∈ cmCells k a b t (.slice a1 n1 c1) (.slice a2 n2 c2) (.slice a3 n3 c3) (.slice a4 n4 c4),u.oneCell'=true:=fun u hu=>by
 simp only [cmCells,List.mem_cons,List.not_mem_nil,or_false] at hu
 rcases hu with rfl | rfl | rfl | rfl | rfl | rfl | rfl | rfl | rfl | rfl <;> rfl
end Go.Proofs.YtkbbmjcfgcfejaaGreat
set_option linter.unusedVariables false
set_option linter.unusedSimpArgs false
namespace Go.Proofs.YtkbbmjcfgcfejaaGreat
open Go.RowKit
def progB (n:Int):Bool:=decide (1≤n) && decide (n≤4)
def nofB (f:Fact):Bool:=!f.1 && (decide (f.2.1=0) && decide (f.2.2=0))
def noinvB (a:InvA):Bool:=decide (a.1.length=0) && decide (a.2.length=0)
def basicB {d:Nat} (c:Cm (d+1)):Bool :=
 nofB c.test && (noinvB c.inv && (decide (c.body.length=0) && (decide (c.els.length=0) &&
  (((decide (c.kind=1) || decide (c.kind=2)) && (progB c.a && isTermB c.b)) ||
    ((decide (c.kind=3) && (isTermB c.a && isTermB c.b)) ||
      ((decide (c.kind=4) && (progB c.a && decide (c.b=0))) || (decide (c.kind=5) && (isTermB c.a && decide (c.b=0)))))))))
set_option maxHeartbeats 400000 in
theorem l8Prog_any (n:Int) (w:World) :
 Calls Tryz.prog 154 #[.int .i64 n] w fun e w'=>e=.returned (.bool (progB n))∧w=w':=by
 by_cases h1:1≤n
 · by_cases h2:n≤4
   all_goals
    go_enter Tryz.func154,Tryz.ntmps154
    go_wp2
    go_ret
    simp [progB,h1,h2]
 · go_enter Tryz.func154,Tryz.ntmps154
   go_wp2
   go_ret
   simp [progB];omega
set_option maxHeartbeats 400000 in
theorem l8NoInv_any {S1 S2:Nat→Prop} (v1 v2:Value) (a:InvA) (w:World) (h1:RL w S1 v1 a.1) (h2:RL w S2 v2 a.2) :
 Calls Tryz.prog 215 #[.agg #[v1,v2]] w fun e w'=>e=.returned (.bool (noinvB a))∧Below w.heap.size w w':=by
 obtain ⟨a1,c1,rfl⟩:=h1.form
 obtain ⟨a2,c2,rfl⟩:=h2.form
 have hm1:a.1.length≤maxLen:=by have:=h1.len;omega
 have hm2:a.2.length≤maxLen:=by have:=h2.len;omega
 by_cases e1:a.1.length=0
 · by_cases e2:a.2.length=0
   all_goals
    go_enter Tryz.func215,Tryz.ntmps215
    go_wp2
    go_ret
    exact ⟨by simp [noinvB,e1,e2],below_alloc _ _⟩
 · go_enter Tryz.func215,Tryz.ntmps215
   go_wp2
   go_ret
   exact ⟨by simp [noinvB,e1],below_alloc _ _⟩
set_option maxHeartbeats 400000 in
theorem l8NoFact_any (f:Fact) (w:World) :
 Calls Tryz.prog 255 #[.agg #[.bool f.1,.int .i64 f.2.1,.int .i64 f.2.2]] w fun e w'=>e=.returned (.bool (nofB f))∧Below w.heap.size w w':=by
 go_enter Tryz.func255,Tryz.ntmps255
 go_wp2
 all_goals
  go_ret
  refine ⟨?_,below_alloc _ _⟩
  simp [nofB, *]
end Go.Proofs.YtkbbmjcfgcfejaaGreat
set_option linter.unusedVariables false
set_option linter.unusedSimpArgs false
namespace Go.Proofs.YtkbbmjcfgcfejaaGreat
open Go.RowKit
set_option maxRecDepth 100000 in
set_option maxHeartbeats 3200000 in
theorem l8Basic_any {d:Nat} {S1 S2 S3 S4:Nat→Prop} (c:Cm (d+1)) (f1 f2 x y:Value) (w:World) (h1:RL w S1 f1 c.inv.1) (h2:RL w S2 f2 c.inv.2) (h3:RL w S3 x c.body) (h4:RL w S4 y c.els) :
 Calls Tryz.prog 216 #[.agg #[.int .i64 c.kind,.int .i64 c.a,.int .i64 c.b,.bool c.test.1,.int .i64 c.test.2.1,.int .i64 c.test.2.2,f1,f2,x,y]] w fun e w'=>e=.returned (.bool (basicB c))∧Below w.heap.size w w':=by
 obtain ⟨a1,c1,rfl⟩:=h1.form
 obtain ⟨a2,c2,rfl⟩:=h2.form
 obtain ⟨a3,c3,rfl⟩:=h3.form
 obtain ⟨a4,c4,rfl⟩:=h4.form
 have hm3:c.body.length≤maxLen:=by have:=h3.len;omega
 have hm4:c.els.length≤maxLen:=by have:=h4.len;omega
 have HR1:=Lib.hid h1
 have HR2:=Lib.hid h2
 clear h1 h2 h3 h4
 go_enter Tryz.func216,Tryz.ntmps216
 go_wp2_with fail
 refine (l8NoFact_any c.test _).mono ?_
 rintro e w1 ⟨rfl,hb1⟩
 cases e1:nofB c.test
 · go_wp2
   go_ret
   exact ⟨by simp [basicB,e1],bt (below_alloc _ _) (by simpa using hb1)⟩
 · have hp:=box_keep (heap_alloc_new w (.cells #[.int .i64 c.kind,.int .i64 c.a,.int .i64 c.b,.bool c.test.1,.int .i64 c.test.2.1,.int .i64 c.test.2.2,.slice a1 c.inv.1.length c1,.slice a2 c.inv.2.length c2,.slice a3 c.body.length c3,.slice a4 c.els.length c4] 63)) hb1
   have HP:=Lib.hid hp
   have p0:=cell_of_row _ _ 0 _ _ _ hp
   have p1:=cell_of_row _ _ 1 _ _ _ hp
   have p2:=cell_of_row _ _ 2 _ _ _ hp
   have p3:=cell_of_row _ _ 3 _ _ _ hp
   have p4:=cell_of_row _ _ 4 _ _ _ hp
   have p5:=cell_of_row _ _ 5 _ _ _ hp
   have p6:=cell_of_row _ _ 6 _ _ _ hp
   have p7:=cell_of_row _ _ 7 _ _ _ hp
   have p8:=cell_of_row _ _ 8 _ _ _ hp
   have p9:=cell_of_row _ _ 9 _ _ _ hp
   go_wp2_with fail
   refine (l8NoInv_any (.slice a1 c.inv.1.length c1) (.slice a2 c.inv.2.length c2) c.inv _ ((HR1.out.keep (below_alloc _ _)).keep hb1) ((HR2.out.keep (below_alloc _ _)).keep hb1)).mono ?_
   rintro e w2 ⟨rfl,hb2⟩
   have hB2:=bt (below_alloc w (.cells #[.int .i64 c.kind,.int .i64 c.a,.int .i64 c.b,.bool c.test.1,.int .i64 c.test.2.1,.int .i64 c.test.2.2,.slice a1 c.inv.1.length c1,.slice a2 c.inv.2.length c2,.slice a3 c.body.length c3,.slice a4 c.els.length c4] 63)) (bt hb1 hb2)
   have hq:=box_keep hp hb2
   have q0:=cell_of_row _ _ 0 _ _ _ hq
   have q1:=cell_of_row _ _ 1 _ _ _ hq
   have q2:=cell_of_row _ _ 2 _ _ _ hq
   have q3:=cell_of_row _ _ 3 _ _ _ hq
   have q4:=cell_of_row _ _ 4 _ _ _ hq
   have q5:=cell_of_row _ _ 5 _ _ _ hq
   have q6:=cell_of_row _ _ 6 _ _ _ hq
   have q7:=cell_of_row _ _ 7 _ _ _ hq
   have q8:=cell_of_row _ _ 8 _ _ _ hq
   have q9:=cell_of_row _ _ 9 _ _ _ hq
   clear p0 p1 p2 p3 p4 p5 p6 p7 p8 p9 hp hb1 hb2
   have HB:=Lib.hid hB2
   clear hB2 hm3 hm4
   cases e2:noinvB c.inv
   · go_wp2
     go_ret
     exact ⟨by simp [basicB,e2],HB.out⟩
   · by_cases k3:c.body.length=0
     · by_cases k4:c.els.length=0
       · have b3:c.body=[]:=List.length_eq_zero_iff.1 k3
         have b4:c.els=[]:=List.length_eq_zero_iff.1 k4
         by_cases z1:c.kind=1
         · have y1:(c.kind == 1)=true:=by simp [z1]
           go_wp2_with fail
           refine (l8Prog_any c.a _).mono ?_
           rintro e w3 ⟨rfl,rfl⟩
           cases e3:progB c.a
           · go_wp2
             go_ret
             exact ⟨by simp [basicB,e1,e2,e3,b3,b4,z1],HB.out⟩
           · go_wp2_with fail
             refine (l1Is_any c.b _).mono ?_
             rintro e w4 ⟨rfl,rfl⟩
             go_wp2
             go_ret
             exact ⟨by simp [basicB,e1,e2,e3,b3,b4,z1],HB.out⟩
         have y1:(c.kind == 1)=false:=by simp [z1]
         by_cases z2:c.kind=2
         · have y2:(c.kind == 2)=true:=by simp [z2]
           go_wp2_with fail
           refine (l8Prog_any c.a _).mono ?_
           rintro e w3 ⟨rfl,rfl⟩
           cases e3:progB c.a
           · go_wp2
             go_ret
             exact ⟨by simp [basicB,e1,e2,e3,b3,b4,z2],HB.out⟩
           · go_wp2_with fail
             refine (l1Is_any c.b _).mono ?_
             rintro e w4 ⟨rfl,rfl⟩
             go_wp2
             go_ret
             exact ⟨by simp [basicB,e1,e2,e3,b3,b4,z2],HB.out⟩
         have y2:(c.kind == 2)=false:=by simp [z2]
         by_cases z3:c.kind=3
         · have y3:(c.kind == 3)=true:=by simp [z3]
           go_wp2_with fail
           refine (l1Is_any c.a _).mono ?_
           rintro e w3 ⟨rfl,rfl⟩
           cases e3:isTermB c.a
           · go_wp2
             go_ret
             exact ⟨by simp [basicB,e1,e2,e3,b3,b4,z3],HB.out⟩
           · go_wp2_with fail
             refine (l1Is_any c.b _).mono ?_
             rintro e w4 ⟨rfl,rfl⟩
             go_wp2
             go_ret
             exact ⟨by simp [basicB,e1,e2,e3,b3,b4,z3],HB.out⟩
         have y3:(c.kind == 3)=false:=by simp [z3]
         by_cases z4:c.kind=4
         · have y4:(c.kind == 4)=true:=by simp [z4]
           go_wp2_with fail
           refine (l8Prog_any c.a _).mono ?_
           rintro e w3 ⟨rfl,rfl⟩
           cases e3:progB c.a
           · go_wp2
             go_ret
             exact ⟨by simp [basicB,e1,e2,e3,b3,b4,z4],HB.out⟩
           · go_wp2
             all_goals
              go_ret
              exact ⟨by simp [basicB,e1,e2,e3,b3,b4,z4];rfl,HB.out⟩
         have y4:(c.kind == 4)=false:=by simp [z4]
         by_cases z5:c.kind=5
         · have y5:(c.kind == 5)=true:=by simp [z5]
           go_wp2_with fail
           refine (l1Is_any c.a _).mono ?_
           rintro e w3 ⟨rfl,rfl⟩
           cases e3:isTermB c.a
           · go_wp2
             go_ret
             exact ⟨by simp [basicB,e1,e2,e3,b3,b4,z5],HB.out⟩
           · go_wp2
             all_goals
              go_ret
              exact ⟨by simp [basicB,e1,e2,e3,b3,b4,z5];rfl,HB.out⟩
         have y5:(c.kind == 5)=false:=by simp [z5]
         go_wp2
         go_ret
         exact ⟨by simp [basicB,z1,z2,z3,z4,z5],HB.out⟩
       · go_wp2
         go_ret
         exact ⟨by simp [basicB,show ¬ c.els=[] from fun h=>k4 (by rw [h];rfl)],HB.out⟩
     · go_wp2
       go_ret
       exact ⟨by simp [basicB,show ¬ c.body=[] from fun h=>k3 (by rw [h];rfl)],HB.out⟩
end Go.Proofs.YtkbbmjcfgcfejaaGreat
namespace Go.Proofs.YtkbbmjcfgcfejaaGreat
open Go.RowKit
theorem factB_le {f:Fact} (h:factB f=true):0≤f.2.1∧f.2.1≤8∧0≤f.2.2∧f.2.2≤8:=by
 simp [factB,isTermB] at h;omega
theorem all_of {α:Type} [Dat α] {p:α→Bool} {l:List α} (h:l.all p=true) (k:Nat) (hk:k < l.length):p (gd l k)=true:=by
 rw [List.all_eq_true] at h
 have e:gd l k=l[k]:=by simp [gd,hk]
 rw [e];exact h _ (List.getElem_mem hk)
end Go.Proofs.YtkbbmjcfgcfejaaGreat
