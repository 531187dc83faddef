/- Walks: commands are copied (reference: l8Copy). -/
import Derived.Test.YtkbbmjcfgcfejaaGreatKHold1
import Derived.Test.YtkbbmjcfgcfejaaGreatKMut1
import Derived.Handy
import Derived.Deep.DeepMust
import Derived.Test.YtkbbmjcfgcfejaaGreatKHed
import Derived.Test.YtkbbmjcfgcfejaaGreatKDraw1
set_option linter.unusedVariables false
set_option linter.unusedSimpArgs false
namespace Go.Proofs.YtkbbmjcfgcfejaaGreat
open Go.RowKit
def FewC:(d:Nat)→List (Cm d)→Prop
 | 0,_=>True
 | d+1,l=>l.length≤2000∧∀ c ∈ l,asSz (Cm.inv c)∧FewC d (Cm.body c)∧FewC d (Cm.els c)
theorem row_set {w:World} {C:Nat} {cs:Array Value} {T:TypeId} (h:w.heap[C]?=some (.cells cs T (0,0))) (i:Nat) (v:Value):(w.setCell ⟨C,i,none⟩ v).heap[C]?=some (.cells (cs.setIfInBounds i v) T (0,0)):=by
 rw [heap_setCell_same w C i _ T v h]
theorem own_formG {w:World} {B e sz n:Nat} {v:Value} {xs:List Value} (h:w.ownsRow B e sz v n xs):∃ a c,v=.slice a n c:=by
 rcases h.2 with ⟨rfl,rfl⟩ | ⟨g,cap,cur,rfl,_⟩
 · exact ⟨_,_,rfl⟩
 · exact ⟨_,_,rfl⟩
end Go.Proofs.YtkbbmjcfgcfejaaGreat
set_option linter.unusedVariables false
set_option linter.unusedSimpArgs false
namespace Go.Proofs.YtkbbmjcfgcfejaaGreat
open Go.RowKit
set_option maxRecDepth 100000 in
set_option maxHeartbeats 6400000 in
theorem l8Simple_any (g q:Nat) (w:World) (hr:Rdr w g q) (hq:q≤900000) :
 Calls Tryz.prog 205 #[.pointer (some ⟨g,0,none⟩)] w fun e w'=>∃ k a b:Int,e=.returned (.agg #[.int .i64 k,.int .i64 a,.int .i64 b,.bool false,.int .i64 0,.int .i64 0,.slice none 0 0,.slice none 0 0,.slice none 0 0,.slice none 0 0])∧(1≤k∧k≤5)∧Rdr w' g (q+3)∧Fr (fun j=>j=g) w w':=by
 have hgl:=hr.lt
 have hR:=heap_alloc_new w (.cells #[.int .i64 0,.int .i64 0,.int .i64 0,.bool false,.int .i64 0,.int .i64 0,.slice none 0 0,.slice none 0 0,.slice none 0 0,.slice none 0 0] 63)
 have hF:Fr (fun j=>j=g) w (w.alloc (.cells #[.int .i64 0,.int .i64 0,.int .i64 0,.bool false,.int .i64 0,.int .i64 0,.slice none 0 0,.slice none 0 0,.slice none 0 0,.slice none 0 0] 63)):=(Below.fr (below_alloc w _)).mono fun _ _ h=>h.elim
 replace hr:=hr.keep (below_alloc w (.cells #[.int .i64 0,.int .i64 0,.int .i64 0,.bool false,.int .i64 0,.int .i64 0,.slice none 0 0,.slice none 0 0,.slice none 0 0,.slice none 0 0] 63))
 go_enter Tryz.func205,Tryz.ntmps205
 go_wp2_with fail
 refine (pick_any g q 5 _ hr (by omega) (by decide) (by decide)).mono ?_
 rintro e w1 ⟨k,rfl,hk,hr1,hf1⟩
 replace hR:=box_kept hR hf1 (by omega)
 replace hF:=hF.trans hf1
 have hs1:=hf1.size
 rw [World.size_alloc] at hs1
 clear hr hf1
 go_wp2_with fail
 refine (num_any g (q+1) _ [1,2,3,1,4] _ (hr1.keep (below_alloc _ _)) (lit_ints _ [1,2,3,1,4] (by decide)) (by omega) (by decide) (by decide) (fun k hk e=>by simp [Value.ownBlock] at hk;omega)).mono ?_
 rintro e w2 ⟨x,hx,rfl,hr2,hf2⟩
 replace hR:=box_kept (box_keep hR (below_alloc _ _)) hf2 (by omega)
 replace hF:=(hF.thenB (below_alloc _ _)).trans hf2
 have hs2:=hf2.size
 rw [World.size_alloc] at hs2
 clear hr1 hf2
 go_wp2_with fail
 refine (num_any g (q+1+1) _ [2,0,1,3,5] _ (hr2.keep (below_alloc _ _)) (lit_ints _ [2,0,1,3,5] (by decide)) (by omega) (by decide) (by decide) (fun k hk e=>by simp [Value.ownBlock] at hk;omega)).mono ?_
 rintro e w3 ⟨y,hy,rfl,hr3,hf3⟩
 replace hR:=box_kept (box_keep hR (below_alloc _ _)) hf3 (by omega)
 replace hF:=(hF.thenB (below_alloc _ _)).trans hf3
 clear hr2 hf3 hs1 hs2
 have hRC:=box_lt hR
 have hwr:IntKind.i64.wrap (1+(k:Int))=1+(k:Int):=(IntKind.wrap_i64 _).trans (by omega)
 go_upto_region 2 with fail
 have hBC:=heap_alloc_new w3 (.cells #[.int .i64 (1+(k:Int)),.int .i64 x,.int .i64 y,.bool false,.int .i64 0,.int .i64 0,.slice none 0 0,.slice none 0 0,.slice none 0 0,.slice none 0 0] 63)
 have hbC:=below_alloc w3 (.cells #[.int .i64 (1+(k:Int)),.int .i64 x,.int .i64 y,.bool false,.int .i64 0,.int .i64 0,.slice none 0 0,.slice none 0 0,.slice none 0 0,.slice none 0 0] 63)
 replace hR:=box_keep hR hbC
 replace hF:=hF.thenB hbC
 have hr:=hr3.keep hbC
 generalize w3.alloc (.cells #[.int .i64 (1+(k:Int)),.int .i64 x,.int .i64 y,.bool false,.int .i64 0,.int .i64 0,.slice none 0 0,.slice none 0 0,.slice none 0 0,.slice none 0 0] 63)=wC at hBC hbC hR hF hr ⊢
 obtain ⟨C,hCe⟩:∃ C,w3.heap.size=C:=⟨_,rfl⟩
 rw [hCe] at hBC hRC ⊢
 have hCl:=box_lt hBC
 clear hbC hr3 hCe
 have hR0:=hR
 have c0:=cell_of_row _ _ 0 _ _ _ hBC
 have c1:=cell_of_row _ _ 1 _ _ _ hBC
 have c2:=cell_of_row _ _ 2 _ _ _ hBC
 have c3:=cell_of_row _ _ 3 _ _ _ hBC
 have c4:=cell_of_row _ _ 4 _ _ _ hBC
 have c5:=cell_of_row _ _ 5 _ _ _ hBC
 have c6:=cell_of_row _ _ 6 _ _ _ hBC
 have c7:=cell_of_row _ _ 7 _ _ _ hBC
 have c8:=cell_of_row _ _ 8 _ _ _ hBC
 have c9:=cell_of_row _ _ 9 _ _ _ hBC
 have zc:=frozen_of_row _ _ 2 _ _ hBC
 by_cases k3:k=3
 · have t1:(1+(k:Int) == 4)=true:=beq_iff_eq.2 (by omega)
   clear k3
   have hFC:=fr_set wC ⟨C,2,none⟩ (.int .i64 0)
   replace hR:=box_kept hR hFC (fun e=>by have e2:w.heap.size=C:=e;omega)
   replace hr:=hr.kept hFC (fun i hi e=>by have e2:i=C:=e;omega)
   replace hF:=hF.then hFC (fun i hi e=>by have e2:i=C:=e;omega)
   have hszC:(wC.setCell ⟨C,2,none⟩ (.int .i64 0)).heap.size=wC.heap.size:=by simp
   have r0:=cell_of_row _ _ 0 _ _ _ hR0
   have r1:=cell_of_row _ _ 1 _ _ _ hR0
   have r2:=cell_of_row _ _ 2 _ _ _ hR0
   have r3:=cell_of_row _ _ 3 _ _ _ hR0
   have r4:=cell_of_row _ _ 4 _ _ _ hR0
   have r5:=cell_of_row _ _ 5 _ _ _ hR0
   have r6:=cell_of_row _ _ 6 _ _ _ hR0
   have r7:=cell_of_row _ _ 7 _ _ _ hR0
   have r8:=cell_of_row _ _ 8 _ _ _ hR0
   have r9:=cell_of_row _ _ 9 _ _ _ hR0
   have z0:=frozen_of_row _ _ 0 _ _ hR0
   have z1:=frozen_of_row _ _ 1 _ _ hR0
   have z2:=frozen_of_row _ _ 2 _ _ hR0
   have z3:=frozen_of_row _ _ 3 _ _ hR0
   have z4:=frozen_of_row _ _ 4 _ _ hR0
   have z5:=frozen_of_row _ _ 5 _ _ hR0
   have z6:=frozen_of_row _ _ 6 _ _ hR0
   have z7:=frozen_of_row _ _ 7 _ _ hR0
   have z8:=frozen_of_row _ _ 8 _ _ hR0
   have z9:=frozen_of_row _ _ 9 _ _ hR0
   have hzz:=box_lt hR0
   have hne:¬ C=w.heap.size:=by omega
   have hne2:¬ w.heap.size=C:=by omega
   have hFR:=fr_ten (wC.setCell ⟨C,2,none⟩ (.int .i64 0)) w.heap.size (.int .i64 (1+(k:Int))) (.int .i64 x) (.int .i64 0) (.bool false) (.int .i64 0) (.int .i64 0) (.slice none 0 0) (.slice none 0 0) (.slice none 0 0) (.slice none 0 0)
   have HE:=Lib.hid (And.intro (hr.kept hFR (fun i hi e=>by omega)) (hF.then hFR (fun i hi e=>by omega)))
   clear hR hR0 hr hF hFR hBC hFC hszC
   go_wp2
   refine bodyPost_ret (v:=.agg #[.int .i64 (1+(k:Int)),.int .i64 x,.int .i64 0,.bool false,.int .i64 0,.int .i64 0,.slice none 0 0,.slice none 0 0,.slice none 0 0,.slice none 0 0]) (by simp [results,Tryz.results205,go_sem,r0,r1,r2,r3,r4,r5,r6,r7,r8,r9]) rfl ?_
   exact ⟨1+(k:Int),x,0,rfl,⟨by omega,by omega⟩,HE.out.1,HE.out.2⟩
 by_cases k4:k=4
 · have t1:(1+(k:Int) == 4)=false:=beq_eq_false_iff_ne.2 (by omega)
   have t2:(1+(k:Int) == 5)=true:=beq_iff_eq.2 (by omega)
   clear k3 k4
   have hFC:=fr_set wC ⟨C,2,none⟩ (.int .i64 0)
   replace hR:=box_kept hR hFC (fun e=>by have e2:w.heap.size=C:=e;omega)
   replace hr:=hr.kept hFC (fun i hi e=>by have e2:i=C:=e;omega)
   replace hF:=hF.then hFC (fun i hi e=>by have e2:i=C:=e;omega)
   have hszC:(wC.setCell ⟨C,2,none⟩ (.int .i64 0)).heap.size=wC.heap.size:=by simp
   have r0:=cell_of_row _ _ 0 _ _ _ hR0
   have r1:=cell_of_row _ _ 1 _ _ _ hR0
   have r2:=cell_of_row _ _ 2 _ _ _ hR0
   have r3:=cell_of_row _ _ 3 _ _ _ hR0
   have r4:=cell_of_row _ _ 4 _ _ _ hR0
   have r5:=cell_of_row _ _ 5 _ _ _ hR0
   have r6:=cell_of_row _ _ 6 _ _ _ hR0
   have r7:=cell_of_row _ _ 7 _ _ _ hR0
   have r8:=cell_of_row _ _ 8 _ _ _ hR0
   have r9:=cell_of_row _ _ 9 _ _ _ hR0
   have z0:=frozen_of_row _ _ 0 _ _ hR0
   have z1:=frozen_of_row _ _ 1 _ _ hR0
   have z2:=frozen_of_row _ _ 2 _ _ hR0
   have z3:=frozen_of_row _ _ 3 _ _ hR0
   have z4:=frozen_of_row _ _ 4 _ _ hR0
   have z5:=frozen_of_row _ _ 5 _ _ hR0
   have z6:=frozen_of_row _ _ 6 _ _ hR0
   have z7:=frozen_of_row _ _ 7 _ _ hR0
   have z8:=frozen_of_row _ _ 8 _ _ hR0
   have z9:=frozen_of_row _ _ 9 _ _ hR0
   have hzz:=box_lt hR0
   have hne:¬ C=w.heap.size:=by omega
   have hne2:¬ w.heap.size=C:=by omega
   have hFR:=fr_ten (wC.setCell ⟨C,2,none⟩ (.int .i64 0)) w.heap.size (.int .i64 (1+(k:Int))) (.int .i64 x) (.int .i64 0) (.bool false) (.int .i64 0) (.int .i64 0) (.slice none 0 0) (.slice none 0 0) (.slice none 0 0) (.slice none 0 0)
   have HE:=Lib.hid (And.intro (hr.kept hFR (fun i hi e=>by omega)) (hF.then hFR (fun i hi e=>by omega)))
   clear hR hR0 hr hF hFR hBC hFC hszC
   go_wp2
   refine bodyPost_ret (v:=.agg #[.int .i64 (1+(k:Int)),.int .i64 x,.int .i64 0,.bool false,.int .i64 0,.int .i64 0,.slice none 0 0,.slice none 0 0,.slice none 0 0,.slice none 0 0]) (by simp [results,Tryz.results205,go_sem,r0,r1,r2,r3,r4,r5,r6,r7,r8,r9]) rfl ?_
   exact ⟨1+(k:Int),x,0,rfl,⟨by omega,by omega⟩,HE.out.1,HE.out.2⟩
 have t1:(1+(k:Int) == 4)=false:=beq_eq_false_iff_ne.2 (by omega)
 have t2:(1+(k:Int) == 5)=false:=beq_eq_false_iff_ne.2 (by omega)
 clear k3 k4
 have r0:=cell_of_row _ _ 0 _ _ _ hR0
 have r1:=cell_of_row _ _ 1 _ _ _ hR0
 have r2:=cell_of_row _ _ 2 _ _ _ hR0
 have r3:=cell_of_row _ _ 3 _ _ _ hR0
 have r4:=cell_of_row _ _ 4 _ _ _ hR0
 have r5:=cell_of_row _ _ 5 _ _ _ hR0
 have r6:=cell_of_row _ _ 6 _ _ _ hR0
 have r7:=cell_of_row _ _ 7 _ _ _ hR0
 have r8:=cell_of_row _ _ 8 _ _ _ hR0
 have r9:=cell_of_row _ _ 9 _ _ _ hR0
 have z0:=frozen_of_row _ _ 0 _ _ hR0
 have z1:=frozen_of_row _ _ 1 _ _ hR0
 have z2:=frozen_of_row _ _ 2 _ _ hR0
 have z3:=frozen_of_row _ _ 3 _ _ hR0
 have z4:=frozen_of_row _ _ 4 _ _ hR0
 have z5:=frozen_of_row _ _ 5 _ _ hR0
 have z6:=frozen_of_row _ _ 6 _ _ hR0
 have z7:=frozen_of_row _ _ 7 _ _ hR0
 have z8:=frozen_of_row _ _ 8 _ _ hR0
 have z9:=frozen_of_row _ _ 9 _ _ hR0
 have hzz:=box_lt hR0
 have hne:¬ C=w.heap.size:=by omega
 have hne2:¬ w.heap.size=C:=by omega
 have hFR:=fr_ten wC w.heap.size (.int .i64 (1+(k:Int))) (.int .i64 x) (.int .i64 y) (.bool false) (.int .i64 0) (.int .i64 0) (.slice none 0 0) (.slice none 0 0) (.slice none 0 0) (.slice none 0 0)
 have HE:=Lib.hid (And.intro (hr.kept hFR (fun i hi e=>by omega)) (hF.then hFR (fun i hi e=>by omega)))
 clear hR hR0 hr hF hFR hBC
 go_wp2
 refine bodyPost_ret (v:=.agg #[.int .i64 (1+(k:Int)),.int .i64 x,.int .i64 y,.bool false,.int .i64 0,.int .i64 0,.slice none 0 0,.slice none 0 0,.slice none 0 0,.slice none 0 0]) (by simp [results,Tryz.results205,go_sem,r0,r1,r2,r3,r4,r5,r6,r7,r8,r9]) rfl ?_
 exact ⟨1+(k:Int),x,y,rfl,⟨by omega,by omega⟩,HE.out.1,HE.out.2⟩
set_option maxRecDepth 100000 in
set_option maxHeartbeats 3200000 in
theorem l8Test_any (g q:Nat) (w:World) (hr:Rdr w g q) (hq:q≤900000) :
 Calls Tryz.prog 204 #[.pointer (some ⟨g,0,none⟩)] w fun e w'=>∃ f:Fact,e=.returned (.agg #[.bool f.1,.int .i64 f.2.1,.int .i64 f.2.2])∧factB f=true∧Rdr w' g (q+3)∧Fr (fun j=>j=g) w w':=by
 have hgl:=hr.lt
 have hR:=heap_alloc_new w (.cells #[.bool false,.int .i64 0,.int .i64 0] 61)
 have hF:Fr (fun j=>j=g) w (w.alloc (.cells #[.bool false,.int .i64 0,.int .i64 0] 61)):=(Below.fr (below_alloc w _)).mono fun _ _ h=>h.elim
 replace hr:=hr.keep (below_alloc w (.cells #[.bool false,.int .i64 0,.int .i64 0] 61))
 go_enter Tryz.func204,Tryz.ntmps204
 go_wp2_with fail
 refine (pick_any g q 3 _ hr (by omega) (by decide) (by decide)).mono ?_
 rintro e w1 ⟨k,rfl,hk,hr1,hf1⟩
 obtain ⟨c,hc⟩:∃ c,((k:Int) == 0)=c:=⟨_,rfl⟩
 replace hR:=box_kept hR hf1 (by omega)
 replace hF:=hF.trans hf1
 have hs1:=hf1.size
 rw [World.size_alloc] at hs1
 clear hr hf1
 go_wp2_with fail
 refine (num_any g (q+1) _ [1,2,3] _ (hr1.keep (below_alloc _ _)) (lit_ints _ [1,2,3] (by decide)) (by omega) (by decide) (by decide) (fun k hk e=>by simp [Value.ownBlock] at hk;omega)).mono ?_
 rintro e w2 ⟨x,hx,rfl,hr2,hf2⟩
 replace hR:=box_kept (box_keep hR (below_alloc _ _)) hf2 (by omega)
 replace hF:=(hF.thenB (below_alloc _ _)).trans hf2
 have hs2:=hf2.size
 rw [World.size_alloc] at hs2
 clear hr1 hf2
 go_wp2_with fail
 refine (num_any g (q+1+1) _ [0,2,0,5] _ (hr2.keep (below_alloc _ _)) (lit_ints _ [0,2,0,5] (by decide)) (by omega) (by decide) (by decide) (fun k hk e=>by simp [Value.ownBlock] at hk;omega)).mono ?_
 rintro e w3 ⟨y,hy,rfl,hr3,hf3⟩
 replace hR:=box_kept (box_keep hR (below_alloc _ _)) hf3 (by omega)
 replace hF:=(hF.thenB (below_alloc _ _)).trans hf3
 have hfb:factB ((c,x,y):Fact)=true:=by
  simp only [List.mem_cons,List.not_mem_nil,or_false] at hx hy
  rcases hx with rfl | rfl | rfl <;> rcases hy with rfl | rfl | rfl | rfl <;> rfl
 have HFB:=Lib.hid hfb
 have r0:=cell_of_row _ _ 0 _ _ _ hR
 have r1:=cell_of_row _ _ 1 _ _ _ hR
 have r2:=cell_of_row _ _ 2 _ _ _ hR
 have z0:=frozen_of_row _ _ 0 _ _ hR
 have z1:=frozen_of_row _ _ 1 _ _ hR
 have z2:=frozen_of_row _ _ 2 _ _ hR
 have hzz:=box_lt hR
 have hFR:=(((fr_set w3 ⟨w.heap.size,0,none⟩ (.bool c)).then (fr_set (w3.setCell ⟨w.heap.size,0,none⟩ (.bool c)) ⟨w.heap.size,1,none⟩ (.int .i64 x)) fun _ _ e=>e).then (fr_set ((w3.setCell ⟨w.heap.size,0,none⟩ (.bool c)).setCell ⟨w.heap.size,1,none⟩ (.int .i64 x)) ⟨w.heap.size,2,none⟩ (.int .i64 y)) fun _ _ e=>e)
 have HE:=Lib.hid (And.intro (hr3.kept hFR (fun i hi e=>by have e2:i=w.heap.size:=e;omega)) (hF.then hFR (fun i hi e=>by have e2:i=w.heap.size:=e;omega)))
 clear hR hr2 hr3 hF hf3 hFR hs1 hs2 hx hy hk hfb
 go_wp2
 refine bodyPost_ret (v:=.agg #[.bool c,.int .i64 x,.int .i64 y]) (by simp [results,Tryz.results204,go_sem,r0,r1,r2]) rfl ?_
 exact ⟨(c,x,y),rfl,HFB.out,HE.out.1,HE.out.2⟩
end Go.Proofs.YtkbbmjcfgcfejaaGreat
