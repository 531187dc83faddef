/- The walk of the law FnExactFulfills. (Printed by gen_exful.py.) -/
import Derived.Test.YtkbbmjcfgcfejaaGreatLFulS
import Derived.Test.YtkbbmjcfgcfejaaGreatChecked
import Derived.Deep.Slices
import Derived.Deep.Fields
import Derived.ChangeSame
set_option linter.unusedVariables false
set_option linter.unusedSimpArgs false
namespace Go.Proofs.YtkbbmjcfgcfejaaGreat
open Go.RowKit
set_option maxRecDepth 100000 in
set_option maxHeartbeats 12800000 in
theorem fnExactFulfills_walk {S0 S1:Nat→Prop} (d:Nat) (v p1 p2 q1 q2 ch:Value) (l:List (Cm d)) (k:Q1) (w:World) (h:RL w S0 v l) (hk:RCon w S1 p1 p2 q1 q2 ch k) :
 Calls Tryz.prog 4 #[v,.agg #[p1,p2,q1,q2,ch]] w fun e w'=>e=.returned (.bool true)∧Below w.heap.size w w':=by
 obtain ⟨va,vc,rfl⟩:=h.form
 obtain ⟨a1,c1,rfl⟩:=hk.pre1.form
 obtain ⟨a2,c2,rfl⟩:=hk.pre2.form
 obtain ⟨a3,c3,rfl⟩:=hk.post1.form
 obtain ⟨a4,c4,rfl⟩:=hk.post2.form
 obtain ⟨a5,c5,rfl⟩:=hk.chg.form
 obtain ⟨z,hz⟩:=Ey (Lq d l)
 obtain ⟨y,hy⟩:=Ey (G6 k)
 have HZ:=Ad (An hz hy)
 have h0:=h
 have HR:=Ad (An h hk)
 clear h hk hz hy h0
 have HBX:=Ad (An (Aa w (.cells #[.slice a1 k.1.1.length c1,.slice a2 k.1.2.length c2,.slice a3 k.2.1.1.length c3,.slice a4 k.2.1.2.length c4,.slice a5 k.2.2.length c5] 43)) (heap_alloc_new w (.cells #[.slice a1 k.1.1.length c1,.slice a2 k.1.2.length c2,.slice a3 k.2.1.1.length c3,.slice a4 k.2.1.2.length c4,.slice a5 k.2.2.length c5] 43)))
 have hsp0:(1048576:Int) < (z:Nat)∨((z:Nat):Int)≤1048576:=by omega
 rcases hsp0 with hbig | hfit0
 · have HB:=Ad (Bg hbig)
   clear hbig
   go_enter Tryz.func4,Tryz.ntmps4
   go_wp2_with fail
   refine (FI d _ _ l _ _ (HR.o.1.keep HBX.o.1) (by omega) (by omega)).mono ?_
   rw [← HZ.o.1,HB.o]
   rintro e z0 ⟨rfl,hb⟩
   go_wp2
   go_ret
   exact ⟨rfl,bt HBX.o.1 hb⟩
 have HS0:=Ad (BN hfit0)
 have hnn0:¬ (1048576:Int) - (z:Int) < 0:=by omega
 have hsp1:(1048576:Int) - z < (y:Nat)∨((y:Nat):Int)≤1048576 - z:=by omega
 rcases hsp1 with hbig | hfit1
 · have HB:=Ad (Bg hbig)
   clear hbig
   go_enter Tryz.func4,Tryz.ntmps4
   go_wp2_with fail
   refine (FI d _ _ l _ _ (HR.o.1.keep HBX.o.1) (by omega) (by omega)).mono ?_
   rw [← HZ.o.1,HS0.o]
   rintro e z0 ⟨rfl,hb⟩
   have hW:=bt HBX.o.1 hb
   have hc:=Ac HBX.o.2 hb
   clear hb
   have hc0:=cr 0 hc
   have hc1:=cr 1 hc
   have hc2:=cr 2 hc
   have hc3:=cr 3 hc
   have hc4:=cr 4 hc
   go_wp2_with fail
   refine (Gs _ _ _ _ _ k _ _ (HR.o.2.keep hW) (by omega) (by omega)).mono ?_
   rw [← HZ.o.2,HB.o]
   rintro e z1 ⟨rfl,hb⟩
   go_wp2
   go_ret
   exact ⟨rfl,bt hW hb⟩
 have HS1:=Ad (BN hfit1)
 have hnn1:¬ (1048576:Int) - (z:Int) - (y:Int) < 0:=by omega
 have hs0:Lq d l≤1048576:=by rw [← HZ.o.1];omega
 have hs1:G6 k≤1048576:=by rw [← HZ.o.2];omega
 have hs2:C4 d l≤1000000000000000000:=Nat.le_trans (Py d l) (by omega)
 have HL:=Ad (An hs0 (An hs1 hs2))
 obtain ⟨ok,hok⟩:=Ey (P9 l k)
 have hbne:(ok != ok)=false:=by cases ok <;> rfl
 have HD:=Ad hok
 clear hok hfit0 hfit1 hs0 hs1 hs2
 go_enter Tryz.func4,Tryz.ntmps4
 go_wp2_with fail
 refine (FI d _ _ l _ _ (HR.o.1.keep HBX.o.1) (by omega) (by omega)).mono ?_
 rw [← HZ.o.1,HS0.o]
 rintro e z0 ⟨rfl,hb⟩
 have hW:=bt HBX.o.1 hb
 have hc:=Ac HBX.o.2 hb
 clear hb
 have hc0:=cr 0 hc
 have hc1:=cr 1 hc
 have hc2:=cr 2 hc
 have hc3:=cr 3 hc
 have hc4:=cr 4 hc
 go_wp2_with fail
 refine (Gs _ _ _ _ _ k _ _ (HR.o.2.keep hW) (by omega) (by omega)).mono ?_
 rw [← HZ.o.2,HS1.o]
 rintro e z1 ⟨rfl,hb⟩
 replace hW:=bt hW hb
 replace hc:=Ac hc hb
 clear hb hc0 hc1 hc2 hc3 hc4
 have hc0:=cr 0 hc
 have hc1:=cr 1 hc
 have hc2:=cr 2 hc
 have hc3:=cr 3 hc
 have hc4:=cr 4 hc
 go_upto_region 8 with fail
 go_cut [6] from 20 (fun fl wc=>fl=.bool ok∧Below z1.heap.size z1 wc)
 case first =>
  go_region_held3 (fun w'=>(w'.cell? ⟨w.heap.size,0,none⟩=some (.slice a1 k.1.1.length c1)∧w'.cell? ⟨w.heap.size,1,none⟩=some (.slice a2 k.1.2.length c2))∧(w'.cell? ⟨w.heap.size,2,none⟩=some (.slice a3 k.2.1.1.length c3)∧w'.cell? ⟨w.heap.size,3,none⟩=some (.slice a4 k.2.1.2.length c4))∧w'.cell? ⟨w.heap.size,4,none⟩=some (.slice a5 k.2.2.length c5))
   (exact ⟨⟨Ab Bl hc0,Ab Bl hc1⟩,⟨Ab Bl hc2,Ab Bl hc3⟩,Ab Bl hc4⟩)
   (first
     | (go_at_call 20;go_must (refine (FJ d _ _ l _ (HR.o.1.keep (bt hW Bl)) HL.o.1).mono ?_;rintro e y0 ⟨v0,rfl,oo0,hb0'⟩;obtain ⟨x0a,x0c,rfl⟩:=oo0.form;have r0:=oo0.read;clear oo0;have hb0:Below z1.heap.size z1 y0:=bt Bl hb0'))
     | (go_at_call 21;go_must (refine (EI _ _ _ _ _ k _ (HR.o.2.keep (bt hW (bt hb0 Bl))) HL.o.2.1).mono ?_;rintro e y1 ⟨t1,t2,t3,t4,t5,rfl,rk,hb1'⟩;have hb1:Below y0.heap.size y0 y1:=bt Bl hb1';have hq1:Below z1.heap.size z1 y1:=bt hb0 hb1;have r1:=r0.keep hb1))
     | (go_at_call 19;go_must (refine (LH d _ _ _ _ _ _ k l _ (r1.keep Bl) (rk.keep Bl) HL.o.2.2).mono ?_;rw [← HD.o];rintro e y2 ⟨rfl,hb2'⟩;have hb2:Below y1.heap.size y1 y2:=bt Bl hb2';have hq2:Below z1.heap.size z1 y2:=bt hq1 hb2)))
  all_goals
   go_wp2
   go_meet
   case rel=>exact ⟨rfl,bt hq2 Bl⟩
 case rest =>
  obtain ⟨rfl,hb⟩:=hcut
  replace hW:=bt hW hb
  replace hc:=Ac hc hb
  clear hb hc0 hc1 hc2 hc3 hc4
  have hc0:=cr 0 hc
  have hc1:=cr 1 hc
  have hc2:=cr 2 hc
  have hc3:=cr 3 hc
  have hc4:=cr 4 hc
  go_wp2_with fail
  refine (FJ d _ _ l _ (HR.o.1.keep hW) HL.o.1).mono ?_
  rintro e w2 ⟨x0,rfl,oo0,hb⟩
  obtain ⟨x0a,x0c,rfl⟩:=oo0.form
  have r0:=oo0.read
  clear oo0
  replace hW:=bt hW hb
  replace hc:=Ac hc hb
  clear hb hc0 hc1 hc2 hc3 hc4
  have hc0:=cr 0 hc
  have hc1:=cr 1 hc
  have hc2:=cr 2 hc
  have hc3:=cr 3 hc
  have hc4:=cr 4 hc
  go_wp2_with fail
  refine (EI _ _ _ _ _ k _ (HR.o.2.keep hW) HL.o.2.1).mono ?_
  rintro e w3 ⟨t1,t2,t3,t4,t5,rfl,rk,hb⟩
  obtain ⟨xa1,xc1,rfl⟩:=rk.pre1.form
  obtain ⟨xa2,xc2,rfl⟩:=rk.pre2.form
  obtain ⟨xa3,xc3,rfl⟩:=rk.post1.form
  obtain ⟨xa4,xc4,rfl⟩:=rk.post2.form
  obtain ⟨xa5,xc5,rfl⟩:=rk.chg.form
  replace hW:=bt hW hb
  replace hc:=Ac hc hb
  replace r0:=r0.keep hb
  clear hb hc0 hc1 hc2 hc3 hc4
  have hx:=heap_alloc_new w3 (.cells #[.slice xa1 k.1.1.length xc1,.slice xa2 k.1.2.length xc2,.slice xa3 k.2.1.1.length xc3,.slice xa4 k.2.1.2.length xc4,.slice xa5 k.2.2.length xc5] 29)
  have hb:=Aa w3 (.cells #[.slice xa1 k.1.1.length xc1,.slice xa2 k.1.2.length xc2,.slice xa3 k.2.1.1.length xc3,.slice xa4 k.2.1.2.length xc4,.slice xa5 k.2.2.length xc5] 29)
  have rk0:=rk.keep hb
  have r00:=r0.keep hb
  have hW0:=bt hW hb
  have hcc:=Ac hc hb
  have HP:=Ad (An hx (An rk0 (An r00 (An hW0 hcc))))
  clear hx hb rk rk0 r00 hW0 hcc hc r0 hW
  go_wp2_with fail
  refine (LD d _ _ _ _ _ _ k l _ HP.o.2.2.1 HP.o.2.1).mono ?_
  rw [← HD.o]
  rintro e w4 ⟨rfl,hb⟩
  have hx:=Ac HP.o.1 hb
  have rk:=HP.o.2.1.keep hb
  have r0:=HP.o.2.2.1.keep hb
  have hW:=bt HP.o.2.2.2.1 hb
  have hc:=Ac HP.o.2.2.2.2 hb
  clear hb HP
  go_wp2_with fail
  refine (FJ d _ _ l _ (HR.o.1.keep hW) HL.o.1).mono ?_
  rintro e w5 ⟨y0,rfl,oo0,hb⟩
  obtain ⟨y0a,y0c,rfl⟩:=oo0.form
  have r1:=oo0.read
  clear oo0
  replace hx:=Ac hx hb
  replace rk:=rk.keep hb
  replace r0:=r0.keep hb
  replace hW:=bt hW hb
  replace hc:=Ac hc hb
  clear hb
  go_wp2_with fail
  refine (Ks d _ _ _ _ l _ r0 r1).mono ?_
  rintro e w6 ⟨rfl,hb⟩
  replace hx:=Ac hx hb
  replace rk:=rk.keep hb
  replace hW:=bt hW hb
  replace hc:=Ac hc hb
  clear hb r0 r1
  have hc0:=cr 0 hc
  have hc1:=cr 1 hc
  have hc2:=cr 2 hc
  have hc3:=cr 3 hc
  have hc4:=cr 4 hc
  have hx0:=cr 0 hx
  have hx1:=cr 1 hx
  have hx2:=cr 2 hx
  have hx3:=cr 3 hx
  have hx4:=cr 4 hx
  go_upto_region 16 with fail
  go_region_held3 (fun w'=>((w'.cell? ⟨w.heap.size,0,none⟩=some (.slice a1 k.1.1.length c1)∧w'.cell? ⟨w.heap.size,1,none⟩=some (.slice a2 k.1.2.length c2))∧(w'.cell? ⟨w.heap.size,2,none⟩=some (.slice a3 k.2.1.1.length c3)∧w'.cell? ⟨w.heap.size,3,none⟩=some (.slice a4 k.2.1.2.length c4))∧w'.cell? ⟨w.heap.size,4,none⟩=some (.slice a5 k.2.2.length c5))∧((w'.cell? ⟨w3.heap.size,0,none⟩=some (.slice xa1 k.1.1.length xc1)∧w'.cell? ⟨w3.heap.size,1,none⟩=some (.slice xa2 k.1.2.length xc2))∧(w'.cell? ⟨w3.heap.size,2,none⟩=some (.slice xa3 k.2.1.1.length xc3)∧w'.cell? ⟨w3.heap.size,3,none⟩=some (.slice xa4 k.2.1.2.length xc4))∧w'.cell? ⟨w3.heap.size,4,none⟩=some (.slice xa5 k.2.2.length xc5)))
   (exact ⟨⟨⟨Ab Bl hc0,Ab Bl hc1⟩,⟨Ab Bl hc2,Ab Bl hc3⟩,Ab Bl hc4⟩,⟨⟨Ab Bl hx0,Ab Bl hx1⟩,⟨Ab Bl hx2,Ab Bl hx3⟩,Ab Bl hx4⟩⟩)
   (first
     | (go_at_call 21;go_must (refine (EI _ _ _ _ _ k _ (HR.o.2.keep (bt hW Bl)) HL.o.2.1).mono ?_;rintro e y1 ⟨t1,t2,t3,t4,t5,rfl,sk,hb1'⟩;have hb1:Below w6.heap.size w6 y1:=bt Bl hb1'))
     | (go_at_call 24;go_must (refine (KM _ _ _ _ _ _ _ _ _ _ k _ (rk.keep (bt hb1 Bl)) (sk.keep Bl)).mono ?_;rintro e y2 ⟨rfl,hb2'⟩;have hb2:Below w6.heap.size w6 y2:=bt (bt hb1 Bl) hb2')))
  all_goals
   go_wp2
   go_ret
   exact ⟨rfl,bt (bt hW hb2) Bl⟩
end Go.Proofs.YtkbbmjcfgcfejaaGreat
namespace Go.Proofs.YtkbbmjcfgcfejaaGreat
open Go
theorem seat_enters:Tryz.checked.prog.mayEnter=true:=by as_aux_lemma=>kernel_rfl
theorem seat_lifts:Tryz.checked.prog.liftsFinal=false:=by as_aux_lemma=>kernel_rfl
theorem seat_make:Tryz.checked.prog.make=some .cut:=by as_aux_lemma=>kernel_rfl
end Go.Proofs.YtkbbmjcfgcfejaaGreat
namespace Go.Proofs.YtkbbmjcfgcfejaaGreat
open Go.ChangeShapes Go.WideShapes Go.ChangeAt Go.RowKit Go.Joins Go.Deep
section
variable {H:Type} {enc:TypeId × Value→H} {P:Program} {w:World} {base:Nat} {spare:Nat→Bool} {held:Bool}
theorem open_slice_fields {t e:TypeId} {fs:Array Field} {fuel:Nat} {cs:List Value} {x:DataW H × List MemPlace} (ht:P.underlying t=some (.slice e)) (he:P.underlying e=some (.struct fs))
 (hone:oneCellFields P fs=true) (hC:P.cellsOf e=fs.size) (h:DataW.trod enc P w base spare held fuel t cs=some x) :
 (cs=[.slice none 0 0]∧x=(.nil,[])) ∨
 ∃ (a:Addr) (len cap m:Nat) (D:Nat→DataW H) (Pl:Nat→List MemPlace),cs=[.slice (some a) len cap]∧base≤a.block∧len≤cap∧cap≤maxLen∧m=(if spare a.block then cap else len) ∧
   x=(.slice ((List.range len).map D) ((List.range (m - len)).map fun j=>D (len+j)),MemPlace.row a (m * fs.size) ++ (List.range m).flatMap Pl) ∧
   ∀ i,i < m→∃ (ys:List (DataW H × List MemPlace)) (n:Nat),D i=.agg (ys.map (·.1))∧Pl i=ys.flatMap (·.2)∧ys.length=fs.size ∧
     ∀ (j:Nat) (f:Field),fs[j]?=some f→∃ (v:Value) (y:DataW H × List MemPlace),w.cell? (a.add (i * fs.size+j))=some v∧ys[j]?=some y∧DataW.trod enc P w base spare held n f.type [v]=some y:=by
 rcases open_slice ht h with h0 | ⟨a,len,cap,m,n,D,Pl,hcs,hb,hl,hm,hmm,hx,hi⟩
 · exact .inl h0
 · refine .inr ⟨a,len,cap,m,D,Pl,hcs,hb,hl,hm,hmm,by rw [hC] at hx;exact hx,fun i him=>?_⟩
   obtain ⟨cs',hc,ht'⟩:=hi i him
   rw [hC] at hc
   obtain ⟨ys,n',hn',hy,hlen,hyl,hf⟩:=DataW.trod_struct he ht'
   obtain ⟨_,hcl,hat⟩:=World.cells?_some hc
   simp only [Prod.mk.injEq] at hy
   refine ⟨ys,n',hy.1,hy.2,hyl,fun j f hj=>?_⟩
   obtain ⟨ho,hk⟩:=hone_of hone j f hj
   have hjl:j < fs.size:=(Array.getElem?_eq_some_iff.1 hj).1
   have hcell:=hat j hjl
   have hv:cs'[j]?=some (cs'[j]'(by omega)):=List.getElem?_eq_getElem (by omega)
   have h1:=hf j f hj
   rw [ho,hk] at h1
   have hone':(cs'.drop j).take 1=[cs'[j]'(by omega)]:=by
    rw [List.drop_eq_getElem_cons (by omega)]
    rfl
   rw [hone'] at h1
   have hys:ys[j]?=some (ys[j]'(by omega)):=List.getElem?_eq_getElem (by omega)
   refine ⟨_,_,?_,hys,h1.trans hys⟩
   rw [← Go.Deep.add_add,hcell,hv]
end
theorem choose_list {α:Type} [Inhabited α] {Q:Nat→α→Prop}:∀ {n:Nat},(∀ i,i < n→∃ x,Q i x)→∃ l:List α,l.length=n∧∀ i,i < n→Q i (gd l i)
 | 0,_=>⟨[],rfl,fun i hi=>absurd hi (by omega)⟩
 | n+1,h=>by
   obtain ⟨l,hl,hq⟩:=choose_list (n:=n) fun i hi=>h i (by omega)
   obtain ⟨x,hx⟩:=h n (by omega)
   refine ⟨l ++ [x],by simp [hl],fun i hi=>?_⟩
   by_cases e:i < n
   · rw [Dj (by omega)];exact hq i e
   · obtain rfl:i=n:=by omega
     rw [← hl,Hv,hl];exact hx
theorem add_plain (b o i:Nat):(⟨b,o,none⟩:Addr).add i=⟨b,o+i,none⟩:=by unfold Addr.add;split <;> simp_all
theorem rl_mk {α:Type} [Dat α] {W:World} {a:Addr} {len cap:Nat} (hl:len≤cap) (hm:cap≤maxLen) (hpos:0 < Dat.sz α)
 (he:∀ i,i < len→∃ x:α,∃ cs,Dat.rd W (fun _=>True) x cs∧∀ j u,cs[j]?=some u→W.cell? (a.add (i * Dat.sz α+j))=some u) :
 ∃ l:List α,RL W (fun _=>True) (.slice (some a) len cap) l:=by
 by_cases h0:len=0
 · subst h0
   exact ⟨[],.inl ⟨some a,cap,rfl,rfl,hm,by simp⟩⟩
 obtain ⟨l,hll,hq⟩:=choose_list he
 obtain ⟨cs,hr,hc⟩:=hq 0 (by omega)
 have hcl:=Dat.len hr
 have hc0:=hc 0 (cs[0]'(by omega)) (List.getElem?_eq_getElem _)
 obtain ⟨b,o,sp⟩:=a
 have hsp:sp=none:=by
  have:=World.cell?_spot hc0
  simpa [Addr.add] using this
 subst hsp
 refine ⟨l,.inr ⟨b,o,cap,by rw [hll],by omega,hm,fun _=>⟨trivial,?_⟩,fun i hi=>?_⟩⟩
 · have:=World.block_lt_of_cell? W _ hc0
   simpa [Addr.add] using this
 · obtain ⟨cs,hr,hc⟩:=hq i (by omega)
   exact ⟨cs,hr,fun j u hj=>by rw [← add_plain];exact hc j u hj⟩
section
variable {H:Type} {enc:TypeId × Value→H} {W:World}
theorem rl_ints {fuel:Nat} {v:Value} {y:DataW H × List MemPlace} (h:DataW.trod enc Tryz.prog W 0 (fun _=>true) true fuel 27 [v]=some y):∃ l:List Int,RL W (fun _=>True) v l:=by
 obtain ⟨l,hr,_⟩:=MC Tryz.underlying27 Tryz.underlying3 (by kernel_rfl) h
 exact ⟨l,hr.rl.any⟩
theorem int_of_trod {fuel:Nat} {v:Value} {y:DataW H × List MemPlace} (h:DataW.trod enc Tryz.prog W 0 (fun _=>true) true fuel 3 [v]=some y):∃ n:Int,v=.int .i64 n∧-9223372036854775808≤n∧n≤9223372036854775807:=by
 obtain ⟨n,hn,_,hw⟩:=DataW.trod_int Tryz.underlying3 h
 simp at hn
 exact ⟨n,hn,bounds_i64 hw⟩
theorem bool_of_trod {fuel:Nat} {v:Value} {y:DataW H × List MemPlace} (h:DataW.trod enc Tryz.prog W 0 (fun _=>true) true fuel 4 [v]=some y):∃ n:Bool,v=.bool n:=by
 obtain ⟨n,hn,_⟩:=DataW.trod_bool Tryz.underlying4 h
 simp at hn
 exact ⟨n,hn⟩
theorem rl_facts {fuel:Nat} {v:Value} {y:DataW H × List MemPlace} (h:DataW.trod enc Tryz.prog W 0 (fun _=>true) true fuel 38 [v]=some y):∃ l:List Ap,RL W (fun _=>True) v l:=by
 rcases open_slice_fields Tryz.underlying38 Tryz.underlying54 (by kernel_rfl) (by kernel_rfl) h with ⟨hcs,_⟩ | ⟨a,len,cap,m,D,Pl,hcs,_,hl,hm,hmm,_,hi⟩
 · simp at hcs;subst hcs;exact ⟨[],RL.nil _ _⟩
 · simp at hcs;subst hcs
   simp only [if_true] at hmm
   refine rl_mk hl hm (by decide) fun i hil=>?_
   obtain ⟨ys,n,_,_,_,hf⟩:=hi i (by omega)
   obtain ⟨v0,y0,c0,_,t0⟩:=hf 0 _ rfl
   obtain ⟨v1,y1,c1,_,t1⟩:=hf 1 _ rfl
   obtain ⟨v2,y2,c2,_,t2⟩:=hf 2 _ rfl
   obtain ⟨b,rfl⟩:=bool_of_trod t0
   obtain ⟨x,rfl,_⟩:=int_of_trod t1
   obtain ⟨z,rfl,_⟩:=int_of_trod t2
   refine ⟨(b,x,z),_,Ha W _ (b,x,z),fun j u hj=>?_⟩
   match j,hj with
   | 0,hj=>simp at hj;subst hj;exact c0
   | 1,hj=>simp at hj;subst hj;exact c1
   | 2,hj=>simp at hj;subst hj;exact c2
theorem rl_atoms {fuel:Nat} {v:Value} {y:DataW H × List MemPlace} (h:DataW.trod enc Tryz.prog W 0 (fun _=>true) true fuel 39 [v]=some y):∃ l:List Am,RL W (fun _=>True) v l:=by
 rcases open_slice_fields Tryz.underlying39 Tryz.underlying218 (by kernel_rfl) (by kernel_rfl) h with ⟨hcs,_⟩ | ⟨a,len,cap,m,D,Pl,hcs,_,hl,hm,hmm,_,hi⟩
 · simp at hcs;subst hcs;exact ⟨[],RL.nil _ _⟩
 · simp at hcs;subst hcs
   simp only [if_true] at hmm
   refine rl_mk hl hm (by decide) fun i hil=>?_
   obtain ⟨ys,n,_,_,_,hf⟩:=hi i (by omega)
   obtain ⟨v0,y0,c0,_,t0⟩:=hf 0 _ rfl
   obtain ⟨v1,y1,c1,_,t1⟩:=hf 1 _ rfl
   obtain ⟨v2,y2,c2,_,t2⟩:=hf 2 _ rfl
   obtain ⟨b,rfl,_⟩:=int_of_trod t0
   obtain ⟨x,rfl,_⟩:=int_of_trod t1
   obtain ⟨z,rfl,_⟩:=int_of_trod t2
   refine ⟨(b,x,z),_,Hb W _ (b,x,z),fun j u hj=>?_⟩
   match j,hj with
   | 0,hj=>simp at hj;subst hj;exact c0
   | 1,hj=>simp at hj;subst hj;exact c1
   | 2,hj=>simp at hj;subst hj;exact c2
end
theorem rl_up {d:Nat} {W:World} {S:Nat→Prop} {v:Value} {l:List (Cm d)} (h:RL W S v l):∀ k:Nat,∃ l':List (Cm (d+k)),RL W S v l'
 | 0=>⟨l,h⟩
 | k+1=>by
   obtain ⟨l',h'⟩:=rl_up h k
   exact ⟨Ie _ l',ML _ h'⟩
theorem rl_to {d e:Nat} {W:World} {S:Nat→Prop} {v:Value} {l:List (Cm d)} (h:RL W S v l) (hde:d≤e):∃ l':List (Cm e),RL W S v l':=by
 obtain ⟨k,rfl⟩:∃ k,e=d+k:=⟨e - d,by omega⟩
 exact rl_up h k
def CmIn (W:World) (a:Addr) (d i:Nat):Prop:=∃ (k x y:Int) (t:Ap) (inv:Aj) (body els:List (Cm d)) (f1 f2 u v:Value),(RL W (fun _=>True) f1 inv.1∧RL W (fun _=>True) f2 inv.2)∧(RL W (fun _=>True) u body∧RL W (fun _=>True) v els)∧∀ j c,(Cq k x y t f1 f2 u v)[j]?=some c→W.cell? (a.add (i * 10+j))=some c
theorem CmIn.to {W:World} {a:Addr} {d e i:Nat} (h:CmIn W a d i) (hde:d≤e):CmIn W a e i:=by
 obtain ⟨k,x,y,t,inv,body,els,f1,f2,u,v,h1,⟨h2,h3⟩,h4⟩:=h
 obtain ⟨b',hb⟩:=rl_to h2 hde
 obtain ⟨e',he⟩:=rl_to h3 hde
 exact ⟨k,x,y,t,inv,b',e',f1,f2,u,v,h1,⟨hb,he⟩,h4⟩
theorem cm_all {W:World} {a:Addr}:∀ {n:Nat},(∀ i,i < n→∃ d,CmIn W a d i)→∃ d,∀ i,i < n→CmIn W a d i
 | 0,_=>⟨0,fun i hi=>absurd hi (by omega)⟩
 | n+1,h=>by
   obtain ⟨d,hd⟩:=cm_all (n:=n) fun i hi=>h i (by omega)
   obtain ⟨e,he⟩:=h n (by omega)
   refine ⟨max d e,fun i hi=>?_⟩
   by_cases h1:i < n
   · exact (hd i h1).to (Nat.le_max_left _ _)
   · obtain rfl:i=n:=by omega
     exact he.to (Nat.le_max_right _ _)
theorem ten_of {cs:List Value} (h:cs.length=10):∃ c0 c1 c2 c3 c4 c5 c6 c7 c8 c9,cs=[c0,c1,c2,c3,c4,c5,c6,c7,c8,c9]:=by
 match cs,h with
 | [c0,c1,c2,c3,c4,c5,c6,c7,c8,c9],_=>exact ⟨c0,c1,c2,c3,c4,c5,c6,c7,c8,c9,rfl⟩
section
variable {H:Type} {enc:TypeId × Value→H} {W:World}
set_option maxRecDepth 100000 in
theorem rl_cmds:∀ (fuel:Nat) {v:Value} {y:DataW H × List MemPlace} (_h:DataW.trod enc Tryz.prog W 0 (fun _=>true) true fuel 37 [v]=some y),∃ (d:Nat) (l:List (Cm d)),RL W (fun _=>True) v l:=by
 intro fuel
 induction fuel using Nat.strongRecOn with
 | _ fuel ih =>
   intro v y h
   rcases DataW.trod_slice Tryz.underlying37 h with ⟨hcs,_⟩ | ⟨a,len,cap,elems,rest,n,rfl,hcs,_,_,hl,hm,hlen,hel,_,_⟩
   · simp at hcs;subst hcs;exact ⟨0,[],RL.nil _ _⟩
   · simp at hcs;subst hcs
     have hsome:∀ i,i < len→∃ d,CmIn W a d i:=fun i hi=>by
      have h1:=hel i hi
      rw [List.getElem?_eq_getElem (by omega),Option.bind_eq_some_iff] at h1
      obtain ⟨cs,hc,ht⟩:=h1
      obtain ⟨_,hcl,hat⟩:=World.cells?_some hc
      have h10:Tryz.prog.cellsOf 56=10:=by kernel_rfl
      rw [h10] at hcl hat
      obtain ⟨xs,n2,rfl,_,_,hxl,hf⟩:=DataW.trod_struct Tryz.underlying56 ht
      obtain ⟨c0,c1,c2,c3,c4,c5,c6,c7,c8,c9,rfl⟩:=ten_of hcl
      have k1:Tryz.prog.cellsOf 3=1:=by kernel_rfl
      have k2:Tryz.prog.cellsOf 54=3:=by kernel_rfl
      have k3:Tryz.prog.cellsOf 41=2:=by kernel_rfl
      have k4:Tryz.prog.cellsOf 37=1:=by kernel_rfl
      have k5:Tryz.prog.cellsOf 4=1:=by kernel_rfl
      have k6:Tryz.prog.cellsOf 38=1:=by kernel_rfl
      have k7:Tryz.prog.cellsOf 39=1:=by kernel_rfl
      have g:∀ j,j < 7→∃ q,xs[j]?=some q:=fun j hj=>⟨_,List.getElem?_eq_getElem (by rw [hxl];exact hj)⟩
      have e0:DataW.trod enc Tryz.prog W 0 (fun _=>true) true n2 3 (([c0,c1,c2,c3,c4,c5,c6,c7,c8,c9].drop 0).take (Tryz.prog.cellsOf 3))=xs[0]?:=hf 0 _ rfl
      have e1:DataW.trod enc Tryz.prog W 0 (fun _=>true) true n2 3 (([c0,c1,c2,c3,c4,c5,c6,c7,c8,c9].drop 1).take (Tryz.prog.cellsOf 3))=xs[1]?:=hf 1 _ rfl
      have e2:DataW.trod enc Tryz.prog W 0 (fun _=>true) true n2 3 (([c0,c1,c2,c3,c4,c5,c6,c7,c8,c9].drop 2).take (Tryz.prog.cellsOf 3))=xs[2]?:=hf 2 _ rfl
      have e3:DataW.trod enc Tryz.prog W 0 (fun _=>true) true n2 54 (([c0,c1,c2,c3,c4,c5,c6,c7,c8,c9].drop 3).take (Tryz.prog.cellsOf 54))=xs[3]?:=hf 3 _ rfl
      have e4:DataW.trod enc Tryz.prog W 0 (fun _=>true) true n2 41 (([c0,c1,c2,c3,c4,c5,c6,c7,c8,c9].drop 6).take (Tryz.prog.cellsOf 41))=xs[4]?:=hf 4 _ rfl
      have e5:DataW.trod enc Tryz.prog W 0 (fun _=>true) true n2 37 (([c0,c1,c2,c3,c4,c5,c6,c7,c8,c9].drop 8).take (Tryz.prog.cellsOf 37))=xs[5]?:=hf 5 _ rfl
      have e6:DataW.trod enc Tryz.prog W 0 (fun _=>true) true n2 37 (([c0,c1,c2,c3,c4,c5,c6,c7,c8,c9].drop 9).take (Tryz.prog.cellsOf 37))=xs[6]?:=hf 6 _ rfl
      rw [k1] at e0 e1 e2
      rw [k2] at e3
      rw [k3] at e4
      rw [k4] at e5 e6
      obtain ⟨q0,hq0⟩:=g 0 (by decide)
      obtain ⟨q1,hq1⟩:=g 1 (by decide)
      obtain ⟨q2,hq2⟩:=g 2 (by decide)
      obtain ⟨q3,hq3⟩:=g 3 (by decide)
      obtain ⟨q4,hq4⟩:=g 4 (by decide)
      obtain ⟨q5,hq5⟩:=g 5 (by decide)
      obtain ⟨q6,hq6⟩:=g 6 (by decide)
      obtain ⟨ik,rfl,_⟩:=int_of_trod (e0.trans hq0)
      obtain ⟨ia,rfl,_⟩:=int_of_trod (e1.trans hq1)
      obtain ⟨ib,rfl,_⟩:=int_of_trod (e2.trans hq2)
      obtain ⟨ys,n3,_,_,_,hyl,hg⟩:=DataW.trod_struct Tryz.underlying54 (e3.trans hq3)
      have g3:∀ j,j < 3→∃ q,ys[j]?=some q:=fun j hj=>⟨_,List.getElem?_eq_getElem (by rw [hyl];exact hj)⟩
      have o0:DataW.trod enc Tryz.prog W 0 (fun _=>true) true n3 4 (([c3,c4,c5].drop 0).take (Tryz.prog.cellsOf 4))=ys[0]?:=hg 0 _ rfl
      have o1:DataW.trod enc Tryz.prog W 0 (fun _=>true) true n3 3 (([c3,c4,c5].drop 1).take (Tryz.prog.cellsOf 3))=ys[1]?:=hg 1 _ rfl
      have o2:DataW.trod enc Tryz.prog W 0 (fun _=>true) true n3 3 (([c3,c4,c5].drop 2).take (Tryz.prog.cellsOf 3))=ys[2]?:=hg 2 _ rfl
      rw [k5] at o0
      rw [k1] at o1 o2
      obtain ⟨p0,hp0⟩:=g3 0 (by decide)
      obtain ⟨p1,hp1⟩:=g3 1 (by decide)
      obtain ⟨p2,hp2⟩:=g3 2 (by decide)
      obtain ⟨tb,rfl⟩:=bool_of_trod (o0.trans hp0)
      obtain ⟨tx,rfl,_⟩:=int_of_trod (o1.trans hp1)
      obtain ⟨ty,rfl,_⟩:=int_of_trod (o2.trans hp2)
      obtain ⟨zs,n4,_,_,_,hzl,hz⟩:=DataW.trod_struct Tryz.underlying41 (e4.trans hq4)
      have g4:∀ j,j < 2→∃ q,zs[j]?=some q:=fun j hj=>⟨_,List.getElem?_eq_getElem (by rw [hzl];exact hj)⟩
      have s0:DataW.trod enc Tryz.prog W 0 (fun _=>true) true n4 38 (([c6,c7].drop 0).take (Tryz.prog.cellsOf 38))=zs[0]?:=hz 0 _ rfl
      have s1:DataW.trod enc Tryz.prog W 0 (fun _=>true) true n4 39 (([c6,c7].drop 1).take (Tryz.prog.cellsOf 39))=zs[1]?:=hz 1 _ rfl
      rw [k6] at s0
      rw [k7] at s1
      obtain ⟨r0,hr0⟩:=g4 0 (by decide)
      obtain ⟨r1,hr1⟩:=g4 1 (by decide)
      obtain ⟨l0,w0⟩:=rl_facts (s0.trans hr0)
      obtain ⟨l1,w1⟩:=rl_atoms (s1.trans hr1)
      obtain ⟨d5,b5,w5⟩:=ih n2 (by omega) (e5.trans hq5)
      obtain ⟨d6,b6,w6⟩:=ih n2 (by omega) (e6.trans hq6)
      obtain ⟨b5',w5'⟩:=rl_to w5 (Nat.le_max_left d5 d6)
      obtain ⟨b6',w6'⟩:=rl_to w6 (Nat.le_max_right d5 d6)
      refine ⟨max d5 d6,ik,ia,ib,(tb,tx,ty),(l0,l1),b5',b6',c6,c7,c8,c9,⟨w0,w1⟩,⟨w5',w6'⟩,fun j c hj=>?_⟩
      have hj10:j < 10:=by
       have:=(List.getElem?_eq_some_iff.1 hj).1
       simpa [Cq] using this
      have:=hat j hj10
      rw [Go.Deep.add_add] at this
      exact this.trans hj
     obtain ⟨d,hd⟩:=cm_all hsome
     refine ⟨d+1,?_⟩
     refine rl_mk (α:=Cm (d+1)) hl hm (by rw [Ny];decide) fun i hi=>?_
     obtain ⟨k,x,y,t,inv,body,els,f1,f2,u,v,⟨h1,h2⟩,⟨h3,h4⟩,h5⟩:=hd i hi
     refine ⟨Cm.mk k x y t inv body els,_,Nz (c:=Cm.mk k x y t inv body els) h1 h2 h3 h4,fun j c hj=>?_⟩
     rw [Ny]
     exact h5 j c hj
end
section
variable {H:Type} {enc:TypeId × Value→H} {W:World}
theorem five_of {cs:Array Value} (h:cs.size=5):∃ c0 c1 c2 c3 c4,cs=#[c0,c1,c2,c3,c4]:=by
 obtain ⟨l⟩:=cs
 match l,h with
 | [c0,c1,c2,c3,c4],_=>exact ⟨c0,c1,c2,c3,c4,rfl⟩
theorem asn_in {fuel:Nat} {a b:Value} {y:DataW H × List MemPlace} (h:DataW.trod enc Tryz.prog W 0 (fun _=>true) true fuel 41 [a,b]=some y):∃ k:Aj,RL W (fun _=>True) a k.1∧RL W (fun _=>True) b k.2:=by
 obtain ⟨zs,n4,_,_,_,hzl,hz⟩:=DataW.trod_struct Tryz.underlying41 h
 have g4:∀ j,j < 2→∃ q,zs[j]?=some q:=fun j hj=>⟨_,List.getElem?_eq_getElem (by rw [hzl];exact hj)⟩
 have k6:Tryz.prog.cellsOf 38=1:=by kernel_rfl
 have k7:Tryz.prog.cellsOf 39=1:=by kernel_rfl
 have s0:DataW.trod enc Tryz.prog W 0 (fun _=>true) true n4 38 (([a,b].drop 0).take (Tryz.prog.cellsOf 38))=zs[0]?:=hz 0 _ rfl
 have s1:DataW.trod enc Tryz.prog W 0 (fun _=>true) true n4 39 (([a,b].drop 1).take (Tryz.prog.cellsOf 39))=zs[1]?:=hz 1 _ rfl
 rw [k6] at s0
 rw [k7] at s1
 obtain ⟨r0,hr0⟩:=g4 0 (by decide)
 obtain ⟨r1,hr1⟩:=g4 1 (by decide)
 obtain ⟨l0,w0⟩:=rl_facts (s0.trans hr0)
 obtain ⟨l1,w1⟩:=rl_atoms (s1.trans hr1)
 exact ⟨(l0,l1),w0,w1⟩
set_option maxRecDepth 100000 in
theorem con_in {r:Reach} {b0:Nat} {v:Value} {d:DataW H} {p:List MemPlace} (hv:Value.okWide Tryz.prog W r b0 43 v) (h:DataW.Trod enc Tryz.prog W 0 (fun _=>true) true 43 v d p) :
 ∃ (p1 p2 q1 q2 ch:Value) (k:Q1),v=.agg #[p1,p2,q1,q2,ch]∧RCon W (fun _=>True) p1 p2 q1 q2 ch k:=by
 obtain ⟨cs,rfl,hsz⟩:=okWide_struct Tryz.underlying43 hv
 have hc5:Tryz.prog.cellsOf 43=5:=by kernel_rfl
 obtain ⟨c0,c1,c2,c3,c4,rfl⟩:=five_of (hsz.trans hc5)
 obtain ⟨fuel,hf⟩:=h
 have hf':DataW.trod enc Tryz.prog W 0 (fun _=>true) true fuel 43 [c0,c1,c2,c3,c4]=some (d,p):=hf
 obtain ⟨xs,n2,_,_,_,hxl,hg⟩:=DataW.trod_struct Tryz.underlying43 hf'
 have g:∀ j,j < 3→∃ q,xs[j]?=some q:=fun j hj=>⟨_,List.getElem?_eq_getElem (by rw [hxl];exact hj)⟩
 have k3:Tryz.prog.cellsOf 41=2:=by kernel_rfl
 have k4:Tryz.prog.cellsOf 27=1:=by kernel_rfl
 have s0:DataW.trod enc Tryz.prog W 0 (fun _=>true) true n2 41 (([c0,c1,c2,c3,c4].drop 0).take (Tryz.prog.cellsOf 41))=xs[0]?:=hg 0 _ rfl
 have s1:DataW.trod enc Tryz.prog W 0 (fun _=>true) true n2 41 (([c0,c1,c2,c3,c4].drop 2).take (Tryz.prog.cellsOf 41))=xs[1]?:=hg 1 _ rfl
 have s2:DataW.trod enc Tryz.prog W 0 (fun _=>true) true n2 27 (([c0,c1,c2,c3,c4].drop 4).take (Tryz.prog.cellsOf 27))=xs[2]?:=hg 2 _ rfl
 rw [k3] at s0 s1
 rw [k4] at s2
 obtain ⟨r0,hr0⟩:=g 0 (by decide)
 obtain ⟨r1,hr1⟩:=g 1 (by decide)
 obtain ⟨r2,hr2⟩:=g 2 (by decide)
 obtain ⟨P,a0,a1⟩:=asn_in (s0.trans hr0)
 obtain ⟨Q,b0,b1⟩:=asn_in (s1.trans hr1)
 obtain ⟨L,e0⟩:=rl_ints (s2.trans hr2)
 exact ⟨c0,c1,c2,c3,c4,(P,Q,L),rfl,⟨a0,a1,b0,b1,e0⟩⟩
end
end Go.Proofs.YtkbbmjcfgcfejaaGreat
namespace Go.Proofs.YtkbbmjcfgcfejaaGreat.exFul
open Go.ChangeShapes Go.WideShapes Go.ChangeAt Go.RowKit Go.Joins
set_option maxRecDepth 100000 in
theorem lifted (os:Os) (started:os.Started) (H:Type) (enc:TypeId × Value→H) :
 ReturnsInHanded {} Tryz.checked os 4 .any (Rows.fnExactFulfillsSpec.pre6 enc Tryz.prog Tryz.f4 Rows.fnExactFulfillsRow.domain false) (Rows.fnExactFulfillsSpec.post enc Tryz.prog Tryz.f4 false true false false):=by
 refine returnsInHanded_of_change (C:=Tryz.checked) Sz started (by kernel_rfl) Tryz.func4
  (ChangeSpec.witness6 (enc:=enc) (C:=Tryz.checked) false ⟨#[],#[.slice none 0 0,.agg #[.slice none 0 0,.slice none 0 0,.slice none 0 0,.slice none 0 0,.slice none 0 0]],[]⟩ 8 (by kernel_rfl) (by kernel_rfl) (by kernel_rfl) (by kernel_rfl)) ?_
 intro W base args ds gs before hval0 hW hcnd _
 have hval:∀ (j:Nat) t v,Tryz.f4.params[j]?=some t→args[j]?=some v→Value.okWide Tryz.prog W .any base t v:=hval0
 have hW':=hW
 obtain ⟨p,q,hA0,hV,rfl,hfz,hnd⟩:=hW
 have hA:DataW.TrodAll enc Tryz.prog W 0 (fun _=>true) true Tryz.f4.params.toList args.toList ds p:=hA0
 rw [Tryz.params4] at hA hval
 obtain ⟨v0,vs0,d0,ds0,p0,q0,hargs,rfl,rfl,h0,r0⟩:=trodAll_cons hA
 obtain ⟨v1,vs1,d1,ds1,p1,q1,rfl,rfl,rfl,h1,r1⟩:=trodAll_cons r0
 obtain ⟨rfl,rfl,rfl⟩:=trodAll_nil r1
 obtain rfl:args=#[v0,v1]:=by cases args;simp_all
 obtain ⟨rfl,rfl⟩:=trodVars_none hV
 have k0:=h0
 have lt0:∀ x ∈ p0,x.block < W.heap.size:=by obtain ⟨m,hm⟩:=k0;exact DataW.trod_lt m _ _ _ hm
 have k1:=h1
 have lt1:∀ x ∈ p1,x.block < W.heap.size:=by obtain ⟨m,hm⟩:=k1;exact DataW.trod_lt m _ _ _ hm
 obtain ⟨m0,hm0⟩:=h0
 obtain ⟨a0,s0,t0,e0⟩:=okWide_slice Tryz.underlying37 (hval 0 37 v0 rfl rfl)
 have c0:v0.cells.toList=[v0]:=by rw [e0];rfl
 rw [c0] at hm0
 obtain ⟨D0,n0,w0⟩:=rl_cmds _ hm0
 obtain ⟨c10,c11,c12,c13,c14,l1,hv1,w1⟩:=con_in (hval 1 43 v1 rfl rfl) h1
 clear hA0 hval0
 subst hv1
 refine (fnExactFulfills_walk D0 v0 c10 c11 c12 c13 c14 n0 l1 W w0 w1).mono fun e W' ⟨he,bel⟩=>?_
 subst he
 exact ⟨_,rfl,_,_,_,[],_,[],hW',trodAll_mk1 (shut_bool Tryz.underlying4 _),(trodAll_cons_mk (Below.trod Nk (by kernel_rfl) (of_decide_eq_true (by kernel_rfl)) k0 bel lt0) (trodAll_cons_mk (Below.trod Nk (by kernel_rfl) (of_decide_eq_true (by kernel_rfl)) k1 bel lt1) trodAll_mk0)),rfl,bel.frame _,fun h=>by cases h⟩
set_option maxHeartbeats 6400000 in
theorem closed:joinedFacts Tryz.checked.prog 4 Tryz.f4 Rows.fnExactFulfillsSpec Rows.fnExactFulfillsRow=true:=by
 simp only [joinedFacts,Bool.and_eq_true,seat_enters,seat_lifts,seat_make,and_true]
 repeat' apply An
 all_goals as_aux_lemma=>kernel_rfl
theorem proved:Rows.FnExactFulfillsSaid :=
 OpenClaim.holds_of_wide 4 Tryz.f4 rfl rfl rfl rfl rfl rfl rfl ⟨rfl,rfl,rfl,rfl,rfl⟩ rfl rfl rfl rfl rfl (by kernel_rfl) Tryz.func4 closed
  (of_decide_eq_true (by kernel_rfl)) (by unfold Func.isWrapper;first | (rw [if_pos (by decide +kernel)];kernel_rfl) | (rw [if_neg (by decide +kernel)];exact ⟨rfl,rfl⟩))
  (fun os started H enc _=>lifted os started H enc)
#print axioms proved
end Go.Proofs.YtkbbmjcfgcfejaaGreat.exFul
