/- Walk: spec.l3Subst. -/
import Derived.Test.YtkbbmjcfgcfejaaGreatKFrm
import Derived.Test.YtkbbmjcfgcfejaaGreatKMut1
import Derived.Laws.StructEq
import Derived.Deep.Cut
import Derived.Deep.RegionLaw
import Derived.Handy
import Derived.BigQuiet
import Derived.Test.YtkbbmjcfgcfejaaGreatKImpA
import Derived.Test.YtkbbmjcfgcfejaaGreatKCaseA
set_option linter.unusedVariables false
set_option linter.unusedSimpArgs false
namespace Go.Proofs.YtkbbmjcfgcfejaaGreat
open Go.RowKit
set_option maxRecDepth 100000 in
set_option maxHeartbeats 6400000 in
theorem l3Subst_any {S1 S2:Nat→Prop} (v1 v2:Value) (a:Asn) (x t:Int) (w:World) (h1:RL w S1 v1 a.1) (h2:RL w S2 v2 a.2) (hl1:(a.1.length:Int)≤12) (hl2:(a.2.length:Int)≤8) :
 Calls Tryz.prog 158 #[.agg #[v1,v2],.int .i64 x,.int .i64 t] w fun e w'=>∃ x1 x2,e=.returned (.agg #[x1,x2])∧(FE w' w.heap.size x1 (subB a x t).1∧FE w' w.heap.size x2 (subB a x t).2)∧Below w.heap.size w w':=by
 obtain ⟨a1,a2⟩:=a
 simp only at h1 h2 hl1 hl2
 obtain ⟨p1,c1,rfl⟩:=h1.form
 obtain ⟨p2,c2,rfl⟩:=h2.form
 have hbA:=box_keep (box_keep (heap_alloc_new w (.cells #[.slice p1 a1.length c1,.slice p2 a2.length c2] 26)) (below_alloc _ (.cells #[.slice none 0 0,.slice none 0 0] 26))) (below_alloc _ (.cells #[.slice none 0 0,.slice none 0 0] 26))
 have hbR:=heap_alloc_new (w.alloc (.cells #[.slice p1 a1.length c1,.slice p2 a2.length c2] 26)) (.cells #[.slice none 0 0,.slice none 0 0] 26)
 rw [World.size_alloc] at hbR
 have hB0:Below w.heap.size w ((w.alloc (.cells #[.slice p1 a1.length c1,.slice p2 a2.length c2] 26)).alloc (.cells #[.slice none 0 0,.slice none 0 0] 26)):=Bl
 have H1:=Lib.hid (And.intro (And.intro hbA hbR) hB0)
 have HH:=Lib.hid (And.intro h1 h2)
 clear hbA hbR hB0 h1 h2
 go_enter Tryz.func158,Tryz.ntmps158
 go_wp2
 go_loopg [8] a1.length (fun q i wr=>∃ (k:Nat) (y1:Value),k+q=a1.length∧i=.int .i64 k∧DB w wr (w.heap.size+1) (w.heap.size+1+1) y1 (.slice none 0 0) ((a1.take k).map (sbF x t)) []∧wr.heap[w.heap.size]?=some (.cells #[.slice p1 a1.length c1,.slice p2 a2.length c2] 26 (0,0)))
 case atStart=>exact ⟨0,_,by omega,rfl,DB.mkA (FE.nil _ _ _) (FE.nil _ _ _) H1.out.1.2 H1.out.2 (by simp),H1.out.1.1⟩
 case round =>
  obtain ⟨k,y1,hk,rfl,D,hBX⟩:=hrel
  have hLk:=map_take_len (f:=sbF x t) (show k≤a1.length by omega)
  obtain ⟨L,hL⟩:∃ L,(a1.take k).map (sbF x t)=L:=⟨_,rfl⟩
  rw [hL] at D hLk
  obtain ⟨ua1,uc1,rfl⟩:=D.f.form
  have x0:=box0 hBX
  have x1:=box1 hBX
  have xl:=box_lt hBX
  have hwz:=D.fr.size
  have hbo:=box_lt D.boxA
  by_cases hk8:k < a1.length
  · have hki:(k:Int) < (a1.length:Int):=by omega
    have hst:=map_more (f:=sbF x t) hk8
    obtain ⟨qa,qc,hqe,_,_,hqf⟩:=(HH.out.1.keep D.fr).factAt
    simp only [Value.slice.injEq] at hqe
    obtain ⟨rfl,_,rfl⟩:=hqe
    obtain ⟨b1,o1,rfl,_,hz1,hp1,hp2,hp3⟩:=hqf k hk8
    obtain ⟨X,hX⟩:∃ X,gd a1 k=X:=⟨_,rfl⟩
    obtain ⟨X1,X2,X3⟩:=X
    rw [hX] at hp1 hp2 hp3 hst
    rw [hL] at hst
    simp only [sbF] at hp1 hp2 hp3 hst
    have HK:=Lib.hid (And.intro hk (And.intro hst hLk))
    clear hqf hX hL hk hst hLk
    have HD:=Lib.hid (And.intro D hBX)
    clear D hBX
    go_upto_region 6 with fail
    have hwo:Below wr.heap.size wr (wr.alloc (.cells #[.bool X1,.int .i64 X2,.int .i64 X3] 61)):=below_alloc _ _
    have hF:=heap_alloc_new wr (.cells #[.bool X1,.int .i64 X2,.int .i64 X3] 61)
    generalize wr.alloc (.cells #[.bool X1,.int .i64 X2,.int .i64 X3] 61)=we at hwo hF ⊢
    have HE:=Lib.hid (And.intro (HD.out.1.keep hwo) (box_keep HD.out.2 hwo))
    clear x0 x1 xl hp1 hp2 hp3 hz1 hwo hwz hbo
    generalize wr.heap.size=bF at hF ⊢
    have g0:=c30 hF
    have g1:=c31 hF
    have g2:=c32 hF
    have gz:=box_lt hF
    have d0:=box0 HE.out.1.boxA
    have dz:=boxz HE.out.1.boxA 0
    have hbo:=box_lt HE.out.1.boxA
    have hwz:=HE.out.1.fr.size
    have hlk:L.length≤k:=Nat.le_of_eq HK.out.2.2
    have HS:=Lib.hid (And.intro (cell_keep (below_drew we) d0) (And.intro (cell_keep (below_drew we) g0) (And.intro (cell_keep (below_drew we) g1) (cell_keep (below_drew we) g2))))
    clear hF g0 g1 g2 d0
    refine wp_region_late (S:=(fun w'=>w'.cell? ⟨w.heap.size+1+1,0,none⟩=some (.slice ua1 L.length uc1)∧(w'.cell? ⟨bF,0,none⟩=some (.bool X1)∧(w'.cell? ⟨bF,1,none⟩=some (.int .i64 X2)∧w'.cell? ⟨bF,2,none⟩=some (.int .i64 X3))))) (dep:=[16,18]) (by kernel_rfl) HS.out (fun hHeld=>?_)
    refine wpAnyD_free (i:=0) (oi:=_) (v:=?_) rfl (by kernel_rfl) (by kernel_rfl) (by kernel_rfl) (by kernel_rfl) (fun _ _ _ h=>h) (Or.inl ⟨by rfl,?_⟩) hHeld (fun hHeld=>?_)
    rotate_left
    · (intro w _;first | (go_simp;done) | (go_simp;with_reducible rfl))
    try simp only [Act.put,List.setIfInBounds_toArray,List.set_cons_zero,List.set_cons_succ]
    refine wpAnyD_free (i:=2) (oi:=_) (v:=?_) rfl (by kernel_rfl) (by kernel_rfl) (by kernel_rfl) (by kernel_rfl) (fun _ _ _ h=>h) (Or.inl ⟨by rfl,?_⟩) hHeld (fun hHeld=>?_)
    rotate_left
    · (intro w _;first | (go_simp;done) | (go_simp;with_reducible rfl))
    try simp only [Act.put,List.setIfInBounds_toArray,List.set_cons_zero,List.set_cons_succ]
    refine wpAnyD_free (i:=4) (oi:=_) (v:=?_) rfl (by kernel_rfl) (by kernel_rfl) (by kernel_rfl) (by kernel_rfl) (fun _ _ _ h=>h) (Or.inl ⟨by rfl,?_⟩) hHeld (fun hHeld=>?_)
    rotate_left
    · (intro w _;first | (go_simp;done) | (go_simp;with_reducible rfl))
    try simp only [Act.put,List.setIfInBounds_toArray,List.set_cons_zero,List.set_cons_succ]
    refine wpAnyD_free (i:=6) (oi:=_) (v:=?_) rfl (by kernel_rfl) (by kernel_rfl) (by kernel_rfl) (by kernel_rfl) (fun _ _ _ h=>h) (Or.inl ⟨by rfl,?_⟩) hHeld (fun hHeld=>?_)
    rotate_left
    · (intro w _;first | (go_simp;done) | (go_simp;with_reducible rfl))
    try simp only [Act.put,List.setIfInBounds_toArray,List.set_cons_zero,List.set_cons_succ]
    refine wpAnyD_free (i:=7) (oi:=_) (v:=?_) rfl (by kernel_rfl) (by kernel_rfl) (by kernel_rfl) (by kernel_rfl) (fun _ _ _ h=>h) (Or.inl ⟨by rfl,?_⟩) hHeld (fun hHeld=>?_)
    rotate_left
    · (intro w _;first | (go_simp;done) | (go_simp;with_reducible rfl))
    try simp only [Act.put,List.setIfInBounds_toArray,List.set_cons_zero,List.set_cons_succ]
    refine wpAnyD_free (i:=9) (oi:=_) (v:=?_) rfl (by kernel_rfl) (by kernel_rfl) (by kernel_rfl) (by kernel_rfl) (fun _ _ _ h=>h) (Or.inl ⟨by rfl,?_⟩) hHeld (fun hHeld=>?_)
    rotate_left
    · (intro w _;first | (go_simp;done) | (go_simp;with_reducible rfl))
    try simp only [Act.put,List.setIfInBounds_toArray,List.set_cons_zero,List.set_cons_succ]
    refine wpAnyD_free (i:=11) (oi:=_) (v:=?_) rfl (by kernel_rfl) (by kernel_rfl) (by kernel_rfl) (by kernel_rfl) (fun _ _ _ h=>h) (Or.inl ⟨by rfl,?_⟩) hHeld (fun hHeld=>?_)
    rotate_left
    · (intro w _;first | (go_simp;done) | (go_simp;with_reducible rfl))
    try simp only [Act.put,List.setIfInBounds_toArray,List.set_cons_zero,List.set_cons_succ]
    refine wpAnyD_free (i:=12) (oi:=_) (v:=?_) rfl (by kernel_rfl) (by kernel_rfl) (by kernel_rfl) (by kernel_rfl) (fun _ _ _ h=>h) (Or.inl ⟨by rfl,?_⟩) hHeld (fun hHeld=>?_)
    rotate_left
    · (intro w _;first | (go_simp;done) | (go_simp;with_reducible rfl))
    try simp only [Act.put,List.setIfInBounds_toArray,List.set_cons_zero,List.set_cons_succ]
    refine wpAnyD_take (i:=1) (oi:=_) (v:=?_) rfl (by kernel_rfl) (by kernel_rfl) (by kernel_rfl) (by kernel_rfl) (by kernel_rfl) (fun _ _ _ h=>h) (Or.inl ⟨by rfl,?_⟩) (hHeld (early_of (by kernel_rfl))) ?_
    rotate_left
    · (intro w hSw;obtain ⟨hS0,hS1,hS2,hS3⟩:=hSw;first | (go_simp;done) | (go_simp;with_reducible rfl))
    try simp only [Act.put,List.setIfInBounds_toArray,List.set_cons_zero,List.set_cons_succ]
    replace hHeld:=fun (he:Early _ _)=>hHeld (Early.of_set (i:=1) he (by decide))
    refine wpAnyD_take (i:=3) (oi:=_) (v:=?_) rfl (by kernel_rfl) (by kernel_rfl) (by kernel_rfl) (by kernel_rfl) (by kernel_rfl) (fun _ _ _ h=>h) (Or.inl ⟨by rfl,?_⟩) (hHeld (early_of (by kernel_rfl))) ?_
    rotate_left
    · (intro w hSw;obtain ⟨hS0,hS1,hS2,hS3⟩:=hSw;first | (go_simp;done) | (go_simp;with_reducible rfl))
    try simp only [Act.put,List.setIfInBounds_toArray,List.set_cons_zero,List.set_cons_succ]
    replace hHeld:=fun (he:Early _ _)=>hHeld (Early.of_set (i:=3) he (by decide))
    refine wpAnyD_take (i:=5) (oi:=_) (v:=?_) rfl (by kernel_rfl) (by kernel_rfl) (by kernel_rfl) (by kernel_rfl) (by kernel_rfl) (fun _ _ _ h=>h) (Or.inl ⟨by rfl,?_⟩) (hHeld (early_of (by kernel_rfl))) ?_
    rotate_left
    · (intro w hSw;obtain ⟨hS0,hS1,hS2,hS3⟩:=hSw;first | (go_simp;done) | (go_simp;with_reducible rfl))
    try simp only [Act.put,List.setIfInBounds_toArray,List.set_cons_zero,List.set_cons_succ]
    replace hHeld:=fun (he:Early _ _)=>hHeld (Early.of_set (i:=5) he (by decide))
    refine wpAnyD_take (i:=10) (oi:=_) (v:=?_) rfl (by kernel_rfl) (by kernel_rfl) (by kernel_rfl) (by kernel_rfl) (by kernel_rfl) (fun _ _ _ h=>h) (Or.inl ⟨by rfl,?_⟩) (hHeld (early_of (by kernel_rfl))) ?_
    rotate_left
    · (intro w hSw;obtain ⟨hS0,hS1,hS2,hS3⟩:=hSw;first | (go_simp;done) | (go_simp;with_reducible rfl))
    try simp only [Act.put,List.setIfInBounds_toArray,List.set_cons_zero,List.set_cons_succ]
    replace hHeld:=fun (he:Early _ _)=>hHeld (Early.of_set (i:=10) he (by decide))
    refine wpAnyD_ready (rs:=[8]) (by kernel_rfl) (by simp) ?_
    refine (AllReadyD.cons (o:=_) rfl (fun K hK=>?_) AllReadyD.nil)
    clear hHeld
    go_simp
    (go_at_call 214;refine (l3Swap_any _ _ _ _).mono ?_;rintro e y1 ⟨rfl,rfl⟩)
    go_wp2_with fail
    refine hK.out _ _ ?_ (fun hHeld=>?_)
    · exact fun _=>HS.out
    clear hK K
    try simp only [Act.put,List.setIfInBounds_toArray,List.set_cons_zero,List.set_cons_succ]
    refine wpAnyD_ready (rs:=[13]) (by kernel_rfl) (by simp) ?_
    refine (AllReadyD.cons (o:=_) rfl (fun K hK=>?_) AllReadyD.nil)
    clear hHeld
    go_simp
    (go_at_call 214;refine (l3Swap_any _ _ _ _).mono ?_;rintro e y2 ⟨rfl,rfl⟩)
    go_wp2_with fail
    refine hK.out _ _ ?_ (fun hHeld=>?_)
    · exact fun _=>HS.out
    clear hK K
    try simp only [Act.put,List.setIfInBounds_toArray,List.set_cons_zero,List.set_cons_succ]
    refine wpAnyD_free (i:=14) (oi:=_) (v:=?_) rfl (by kernel_rfl) (by kernel_rfl) (by kernel_rfl) (by kernel_rfl) (fun _ _ _ h=>h) (Or.inl ⟨by rfl,?_⟩) hHeld (fun hHeld=>?_)
    rotate_left
    · (intro w _;first | (go_simp;done) | (go_simp;with_reducible rfl))
    try simp only [Act.put,List.setIfInBounds_toArray,List.set_cons_zero,List.set_cons_succ]
    refine wpAnyD_ready (rs:=[15]) (by kernel_rfl) (by simp) ?_
    refine (AllReadyD.cons (o:=_) rfl (fun K hK=>?_) AllReadyD.nil)
    clear hHeld
    go_simp
    refine hK.out _ _ ?_ (fun hHeld=>?_)
    · exact fun _=>⟨cell_keep (below_alloc _ _) HS.out.1,cell_keep (below_alloc _ _) HS.out.2.1,cell_keep (below_alloc _ _) HS.out.2.2.1,cell_keep (below_alloc _ _) HS.out.2.2.2⟩
    clear hK K
    try simp only [Act.put,List.setIfInBounds_toArray,List.set_cons_zero,List.set_cons_succ]
    refine wpAnyD_ready (rs:=[16]) (by kernel_rfl) (by simp) ?_
    refine (AllReadyD.cons (o:=_) rfl (fun K hK=>?_) AllReadyD.nil)
    clear hHeld
    refine step_F (l:=L) (m:=[((X1,swT x t X2,swT x t X3):Fact)]) (B:=w.heap.size) (by rfl) (.tmp 26) (.tmp 40) _ (by rfl) ti_fact (by rfl) (HE.out.1.f.keep Bl) (by rfl) (lit_fact _ _ _ _ _) (by simp;omega) (by simp;omega) ?_
    intro v' w7 o7 hf7
    obtain ⟨a7,n7,c7,rfl⟩:=o7.forms
    have hA7:=HE.out.1.boxTf hf7 Bl (by decide)
    have hb0:=box0 hA7
    have hbz:=boxz hA7 0
    have hbl7:=box_lt hA7
    clear hA7
    refine hK.out _ _ ?_ (fun hHeld=>?_)
    · exact late_none (by kernel_rfl)
    clear hK K
    try simp only [Act.put,List.setIfInBounds_toArray,List.set_cons_zero,List.set_cons_succ]
    refine wpAnyD_free (i:=17) (oi:=_) (v:=?_) rfl (by kernel_rfl) (by kernel_rfl) (by kernel_rfl) (by kernel_rfl) (fun _ _ _ h=>h) (Or.inl ⟨by rfl,?_⟩) hHeld (fun hHeld=>?_)
    rotate_left
    · (intro w _;first | (go_simp;done) | (go_simp;with_reducible rfl))
    try simp only [Act.put,List.setIfInBounds_toArray,List.set_cons_zero,List.set_cons_succ]
    refine wpAnyD_ready (rs:=[18]) (by kernel_rfl) (by simp) ?_
    refine (AllReadyD.cons (o:=_) rfl (fun K hK=>?_) AllReadyD.nil)
    clear hHeld
    go_simp
    refine hK.out _ _ ?_ (fun hHeld=>?_)
    · exact late_none (by kernel_rfl)
    clear hK K
    try simp only [Act.put,List.setIfInBounds_toArray,List.set_cons_zero,List.set_cons_succ]
    refine wpAnyD_done (by kernel_rfl) ?_ _
    clear hHeld
    have D9:=HE.out.1.app1T hf7 o7 Bl (by omega) (by omega)
    have hB9:=boxOtf HE.out.2 hf7 Bl (by decide) ⟨w.heap.size+1+1,0,none⟩ (.slice a7 n7 c7) (by show ¬ w.heap.size=w.heap.size+1+1;omega)
    have H9:=Lib.hid (And.intro D9 hB9)
    clear D9 hB9 o7 hf7
    go_wp2
    go_roundg (gk - 1)
    case rel=>exact ⟨k+1,_,by have:=HK.out.1;omega,by go_num,by rw [HK.out.2.1];exact H9.out.1,H9.out.2⟩
    case measure=>have:=HK.out.1;omega
  · obtain rfl:k=a1.length:=by omega
    rw [List.take_length] at hL
    obtain ⟨wm,rfl⟩:∃ wm:World,wm=wr:=⟨_,rfl⟩
    have HD0:=Lib.hid (And.intro D hBX)
    have HL:=Lib.hid hL
    have hLl:L.length≤12:=by omega
    clear D hBX hL hk hLk hbo hwz
    go_wp2
    clear x0 x1 xl
    go_loopg [10] a2.length (fun q i wr=>∃ (n:Nat) (y2:Value),n+q=a2.length∧i=.int .i64 n∧DB w wr (w.heap.size+1) (w.heap.size+1+1) (.slice ua1 L.length uc1) y2 L ((a2.take n).map (sbA x t))∧wr.heap[w.heap.size]?=some (.cells #[.slice p1 a1.length c1,.slice p2 a2.length c2] 26 (0,0)))
    case atStart=>exact ⟨0,_,by omega,rfl,HD0.out.1,HD0.out.2⟩
    case round =>
     clear HD0
     obtain ⟨n,y2,hn,rfl,D,hBX⟩:=hrel
     have hMn:=map_take_len (f:=sbA x t) (show n≤a2.length by omega)
     obtain ⟨M,hM⟩:∃ M,(a2.take n).map (sbA x t)=M:=⟨_,rfl⟩
     rw [hM] at D hMn
     obtain ⟨ua2,uc2,rfl⟩:=D.a.form
     by_cases hn8:n < a2.length
     · have x0:=box0 hBX
       have x1:=box1 hBX
       have xl:=box_lt hBX
       have hni:(n:Int) < (a2.length:Int):=by omega
       have hst:=map_more (f:=sbA x t) hn8
       obtain ⟨qa,qc,hqe,_,_,hqf⟩:=(HH.out.2.keep D.fr).atomAt
       simp only [Value.slice.injEq] at hqe
       obtain ⟨rfl,_,rfl⟩:=hqe
       obtain ⟨b1,o1,rfl,_,hz1,hp1,hp2,hp3⟩:=hqf n hn8
       obtain ⟨X,hX⟩:∃ X,gd a2 n=X:=⟨_,rfl⟩
       obtain ⟨X1,X2,X3⟩:=X
       rw [hX] at hp1 hp2 hp3 hst
       rw [hM] at hst
       simp only [sbA] at hp1 hp2 hp3 hst
       have HN:=Lib.hid (And.intro hn (And.intro hst hMn))
       clear hqf hX hM hn hst hMn
       have HD:=Lib.hid (And.intro D hBX)
       clear D hBX
       go_upto_region 11 with fail
       have hwo:Below wr.heap.size wr (wr.alloc (.cells #[.int .i64 X1,.int .i64 X2,.int .i64 X3] 118)):=below_alloc _ _
       have hF:=heap_alloc_new wr (.cells #[.int .i64 X1,.int .i64 X2,.int .i64 X3] 118)
       generalize wr.alloc (.cells #[.int .i64 X1,.int .i64 X2,.int .i64 X3] 118)=we at hwo hF ⊢
       have HE:=Lib.hid (And.intro (HD.out.1.keep hwo) (box_keep HD.out.2 hwo))
       clear x0 x1 xl hp1 hp2 hp3 hz1 hwo
       generalize wr.heap.size=bF at hF ⊢
       have gz:=box_lt hF
       have dz:=boxz HE.out.1.boxA 1
       have hbo:=box_lt HE.out.1.boxA
       have hwz:=HE.out.1.fr.size
       have hlk:M.length≤n:=Nat.le_of_eq HN.out.2.2
       have HS:=Lib.hid (And.intro (cell_keep (below_drew we) (box1 HE.out.1.boxA)) (And.intro (cell_keep (below_drew we) (c30 hF)) (And.intro (cell_keep (below_drew we) (c31 hF)) (cell_keep (below_drew we) (c32 hF)))))
       clear hF
       refine wp_region_late (S:=(fun w'=>w'.cell? ⟨w.heap.size+1+1,1,none⟩=some (.slice ua2 M.length uc2)∧(w'.cell? ⟨bF,0,none⟩=some (.int .i64 X1)∧(w'.cell? ⟨bF,1,none⟩=some (.int .i64 X2)∧w'.cell? ⟨bF,2,none⟩=some (.int .i64 X3))))) (dep:=[16,18]) (by kernel_rfl) HS.out (fun hHeld=>?_)
       refine wpAnyD_free (i:=0) (oi:=_) (v:=?_) rfl (by kernel_rfl) (by kernel_rfl) (by kernel_rfl) (by kernel_rfl) (fun _ _ _ h=>h) (Or.inl ⟨by rfl,?_⟩) hHeld (fun hHeld=>?_)
       rotate_left
       · (intro w _;first | (go_simp;done) | (go_simp;with_reducible rfl))
       try simp only [Act.put,List.setIfInBounds_toArray,List.set_cons_zero,List.set_cons_succ]
       refine wpAnyD_free (i:=2) (oi:=_) (v:=?_) rfl (by kernel_rfl) (by kernel_rfl) (by kernel_rfl) (by kernel_rfl) (fun _ _ _ h=>h) (Or.inl ⟨by rfl,?_⟩) hHeld (fun hHeld=>?_)
       rotate_left
       · (intro w _;first | (go_simp;done) | (go_simp;with_reducible rfl))
       try simp only [Act.put,List.setIfInBounds_toArray,List.set_cons_zero,List.set_cons_succ]
       refine wpAnyD_free (i:=4) (oi:=_) (v:=?_) rfl (by kernel_rfl) (by kernel_rfl) (by kernel_rfl) (by kernel_rfl) (fun _ _ _ h=>h) (Or.inl ⟨by rfl,?_⟩) hHeld (fun hHeld=>?_)
       rotate_left
       · (intro w _;first | (go_simp;done) | (go_simp;with_reducible rfl))
       try simp only [Act.put,List.setIfInBounds_toArray,List.set_cons_zero,List.set_cons_succ]
       refine wpAnyD_free (i:=6) (oi:=_) (v:=?_) rfl (by kernel_rfl) (by kernel_rfl) (by kernel_rfl) (by kernel_rfl) (fun _ _ _ h=>h) (Or.inl ⟨by rfl,?_⟩) hHeld (fun hHeld=>?_)
       rotate_left
       · (intro w _;first | (go_simp;done) | (go_simp;with_reducible rfl))
       try simp only [Act.put,List.setIfInBounds_toArray,List.set_cons_zero,List.set_cons_succ]
       refine wpAnyD_free (i:=7) (oi:=_) (v:=?_) rfl (by kernel_rfl) (by kernel_rfl) (by kernel_rfl) (by kernel_rfl) (fun _ _ _ h=>h) (Or.inl ⟨by rfl,?_⟩) hHeld (fun hHeld=>?_)
       rotate_left
       · (intro w _;first | (go_simp;done) | (go_simp;with_reducible rfl))
       try simp only [Act.put,List.setIfInBounds_toArray,List.set_cons_zero,List.set_cons_succ]
       refine wpAnyD_free (i:=9) (oi:=_) (v:=?_) rfl (by kernel_rfl) (by kernel_rfl) (by kernel_rfl) (by kernel_rfl) (fun _ _ _ h=>h) (Or.inl ⟨by rfl,?_⟩) hHeld (fun hHeld=>?_)
       rotate_left
       · (intro w _;first | (go_simp;done) | (go_simp;with_reducible rfl))
       try simp only [Act.put,List.setIfInBounds_toArray,List.set_cons_zero,List.set_cons_succ]
       refine wpAnyD_free (i:=11) (oi:=_) (v:=?_) rfl (by kernel_rfl) (by kernel_rfl) (by kernel_rfl) (by kernel_rfl) (fun _ _ _ h=>h) (Or.inl ⟨by rfl,?_⟩) hHeld (fun hHeld=>?_)
       rotate_left
       · (intro w _;first | (go_simp;done) | (go_simp;with_reducible rfl))
       try simp only [Act.put,List.setIfInBounds_toArray,List.set_cons_zero,List.set_cons_succ]
       refine wpAnyD_free (i:=12) (oi:=_) (v:=?_) rfl (by kernel_rfl) (by kernel_rfl) (by kernel_rfl) (by kernel_rfl) (fun _ _ _ h=>h) (Or.inl ⟨by rfl,?_⟩) hHeld (fun hHeld=>?_)
       rotate_left
       · (intro w _;first | (go_simp;done) | (go_simp;with_reducible rfl))
       try simp only [Act.put,List.setIfInBounds_toArray,List.set_cons_zero,List.set_cons_succ]
       refine wpAnyD_take (i:=1) (oi:=_) (v:=?_) rfl (by kernel_rfl) (by kernel_rfl) (by kernel_rfl) (by kernel_rfl) (by kernel_rfl) (fun _ _ _ h=>h) (Or.inl ⟨by rfl,?_⟩) (hHeld (early_of (by kernel_rfl))) ?_
       rotate_left
       · (intro w hSw;obtain ⟨hS0,hS1,hS2,hS3⟩:=hSw;first | (go_simp;done) | (go_simp;with_reducible rfl))
       try simp only [Act.put,List.setIfInBounds_toArray,List.set_cons_zero,List.set_cons_succ]
       replace hHeld:=fun (he:Early _ _)=>hHeld (Early.of_set (i:=1) he (by decide))
       refine wpAnyD_take (i:=3) (oi:=_) (v:=?_) rfl (by kernel_rfl) (by kernel_rfl) (by kernel_rfl) (by kernel_rfl) (by kernel_rfl) (fun _ _ _ h=>h) (Or.inl ⟨by rfl,?_⟩) (hHeld (early_of (by kernel_rfl))) ?_
       rotate_left
       · (intro w hSw;obtain ⟨hS0,hS1,hS2,hS3⟩:=hSw;first | (go_simp;done) | (go_simp;with_reducible rfl))
       try simp only [Act.put,List.setIfInBounds_toArray,List.set_cons_zero,List.set_cons_succ]
       replace hHeld:=fun (he:Early _ _)=>hHeld (Early.of_set (i:=3) he (by decide))
       refine wpAnyD_take (i:=5) (oi:=_) (v:=?_) rfl (by kernel_rfl) (by kernel_rfl) (by kernel_rfl) (by kernel_rfl) (by kernel_rfl) (fun _ _ _ h=>h) (Or.inl ⟨by rfl,?_⟩) (hHeld (early_of (by kernel_rfl))) ?_
       rotate_left
       · (intro w hSw;obtain ⟨hS0,hS1,hS2,hS3⟩:=hSw;first | (go_simp;done) | (go_simp;with_reducible rfl))
       try simp only [Act.put,List.setIfInBounds_toArray,List.set_cons_zero,List.set_cons_succ]
       replace hHeld:=fun (he:Early _ _)=>hHeld (Early.of_set (i:=5) he (by decide))
       refine wpAnyD_take (i:=10) (oi:=_) (v:=?_) rfl (by kernel_rfl) (by kernel_rfl) (by kernel_rfl) (by kernel_rfl) (by kernel_rfl) (fun _ _ _ h=>h) (Or.inl ⟨by rfl,?_⟩) (hHeld (early_of (by kernel_rfl))) ?_
       rotate_left
       · (intro w hSw;obtain ⟨hS0,hS1,hS2,hS3⟩:=hSw;first | (go_simp;done) | (go_simp;with_reducible rfl))
       try simp only [Act.put,List.setIfInBounds_toArray,List.set_cons_zero,List.set_cons_succ]
       replace hHeld:=fun (he:Early _ _)=>hHeld (Early.of_set (i:=10) he (by decide))
       refine wpAnyD_ready (rs:=[8]) (by kernel_rfl) (by simp) ?_
       refine (AllReadyD.cons (o:=_) rfl (fun K hK=>?_) AllReadyD.nil)
       clear hHeld
       go_simp
       (go_at_call 214;refine (l3Swap_any _ _ _ _).mono ?_;rintro e y1 ⟨rfl,rfl⟩)
       go_wp2_with fail
       refine hK.out _ _ ?_ (fun hHeld=>?_)
       · exact fun _=>HS.out
       clear hK K
       try simp only [Act.put,List.setIfInBounds_toArray,List.set_cons_zero,List.set_cons_succ]
       refine wpAnyD_ready (rs:=[13]) (by kernel_rfl) (by simp) ?_
       refine (AllReadyD.cons (o:=_) rfl (fun K hK=>?_) AllReadyD.nil)
       clear hHeld
       go_simp
       (go_at_call 214;refine (l3Swap_any _ _ _ _).mono ?_;rintro e y2 ⟨rfl,rfl⟩)
       go_wp2_with fail
       refine hK.out _ _ ?_ (fun hHeld=>?_)
       · exact fun _=>HS.out
       clear hK K
       try simp only [Act.put,List.setIfInBounds_toArray,List.set_cons_zero,List.set_cons_succ]
       refine wpAnyD_free (i:=14) (oi:=_) (v:=?_) rfl (by kernel_rfl) (by kernel_rfl) (by kernel_rfl) (by kernel_rfl) (fun _ _ _ h=>h) (Or.inl ⟨by rfl,?_⟩) hHeld (fun hHeld=>?_)
       rotate_left
       · (intro w _;first | (go_simp;done) | (go_simp;with_reducible rfl))
       try simp only [Act.put,List.setIfInBounds_toArray,List.set_cons_zero,List.set_cons_succ]
       refine wpAnyD_ready (rs:=[15]) (by kernel_rfl) (by simp) ?_
       refine (AllReadyD.cons (o:=_) rfl (fun K hK=>?_) AllReadyD.nil)
       clear hHeld
       go_simp
       refine hK.out _ _ ?_ (fun hHeld=>?_)
       · exact fun _=>⟨cell_keep (below_alloc _ _) HS.out.1,cell_keep (below_alloc _ _) HS.out.2.1,cell_keep (below_alloc _ _) HS.out.2.2.1,cell_keep (below_alloc _ _) HS.out.2.2.2⟩
       clear hK K
       try simp only [Act.put,List.setIfInBounds_toArray,List.set_cons_zero,List.set_cons_succ]
       refine wpAnyD_ready (rs:=[16]) (by kernel_rfl) (by simp) ?_
       refine (AllReadyD.cons (o:=_) rfl (fun K hK=>?_) AllReadyD.nil)
       clear hHeld
       refine step_F (l:=M) (m:=[((X1,swT x t X2,swT x t X3):Atom)]) (B:=w.heap.size) (by rfl) (.tmp 56) (.tmp 70) _ (by rfl) ti_atom (by rfl) (HE.out.1.a.keep Bl) (by rfl) (lit_atom _ _ _ _ _) (by simp;omega) (by simp;omega) ?_
       intro v' w7 o7 hf7
       obtain ⟨a7,n7,c7,rfl⟩:=o7.forms
       have hA7:=HE.out.1.boxTf hf7 Bl (by decide)
       have hb0:=box1 hA7
       have hbz:=boxz hA7 1
       have hbl7:=box_lt hA7
       clear hA7
       refine hK.out _ _ ?_ (fun hHeld=>?_)
       · exact late_none (by kernel_rfl)
       clear hK K
       try simp only [Act.put,List.setIfInBounds_toArray,List.set_cons_zero,List.set_cons_succ]
       refine wpAnyD_free (i:=17) (oi:=_) (v:=?_) rfl (by kernel_rfl) (by kernel_rfl) (by kernel_rfl) (by kernel_rfl) (fun _ _ _ h=>h) (Or.inl ⟨by rfl,?_⟩) hHeld (fun hHeld=>?_)
       rotate_left
       · (intro w _;first | (go_simp;done) | (go_simp;with_reducible rfl))
       try simp only [Act.put,List.setIfInBounds_toArray,List.set_cons_zero,List.set_cons_succ]
       refine wpAnyD_ready (rs:=[18]) (by kernel_rfl) (by simp) ?_
       refine (AllReadyD.cons (o:=_) rfl (fun K hK=>?_) AllReadyD.nil)
       clear hHeld
       go_simp
       refine hK.out _ _ ?_ (fun hHeld=>?_)
       · exact late_none (by kernel_rfl)
       clear hK K
       try simp only [Act.put,List.setIfInBounds_toArray,List.set_cons_zero,List.set_cons_succ]
       refine wpAnyD_done (by kernel_rfl) ?_ _
       clear hHeld
       have D9:=HE.out.1.app2T hf7 o7 Bl (by omega) (by omega)
       have hB9:=boxOtf HE.out.2 hf7 Bl (by decide) ⟨w.heap.size+1+1,1,none⟩ (.slice a7 n7 c7) (by show ¬ w.heap.size=w.heap.size+1+1;omega)
       have H9:=Lib.hid (And.intro D9 hB9)
       clear D9 hB9 o7 hf7
       go_wp2
       go_roundg (gk - 1)
       case rel=>exact ⟨n+1,_,by have:=HN.out.1;omega,by go_num,by rw [HN.out.2.1];exact H9.out.1,H9.out.2⟩
       case measure=>have:=HN.out.1;omega
     · obtain rfl:n=a2.length:=by omega
       rw [List.take_length] at hM
       have x0:=box0 hBX
       have x1:=box1 hBX
       have b0:=box0 D.boxA
       have b1:=box1 D.boxA
       have bz:=boxz D.boxA
       have bl:=box_lt D.boxA
       have r0:=box0 D.boxR
       have r1:=box1 D.boxR
       have rz:=boxz D.boxR
       have rl:=box_lt D.boxR
       have r:=box_two (.slice ua1 L.length uc1) (.slice ua2 M.length uc2) r0 r1
       have HO:=Lib.hid (And.intro hM (D.done (by omega) (.slice ua1 L.length uc1) (.slice ua2 M.length uc2)))
       clear D hBX hM hn hMn
       go_wp2
       refine bodyPost_ret (v:=.agg #[.slice ua1 L.length uc1,.slice ua2 M.length uc2]) (by simp [results,Tryz.results158,go_sem,r.1,r.2]) rfl ?_
       exact ⟨_,_,rfl,by rw [subB,HL.out,HO.out.1];exact HO.out.2.1,HO.out.2.2⟩
end Go.Proofs.YtkbbmjcfgcfejaaGreat
namespace Go.Proofs.YtkbbmjcfgcfejaaGreat
open Go.RowKit
theorem rows_eq {sz n:Nat} {xs ys:List Value} (hx:xs.length=n * sz) (hy:ys.length=n * sz) (h:∀ i,i < n→nth sz xs i=nth sz ys i):xs=ys:=by
 induction n generalizing xs ys with
 | zero =>
   rw [Nat.zero_mul] at hx hy
   rw [List.eq_nil_of_length_eq_zero hx,List.eq_nil_of_length_eq_zero hy]
 | succ n ih =>
   have h0:=h 0 (by omega)
   rw [nth,nth,Nat.zero_mul,List.drop_zero,List.drop_zero] at h0
   have hd:xs.drop sz=ys.drop sz:=by
    refine ih (by rw [List.length_drop,hx,Nat.succ_mul];omega) (by rw [List.length_drop,hy,Nat.succ_mul];omega) fun i hi=>?_
    have:=h (i+1) (by omega)
    rw [nth,nth,Nat.succ_mul] at this
    rw [nth,nth,List.drop_drop,List.drop_drop,Nat.add_comm sz]
    exact this
   rw [← List.take_append_drop sz xs,← List.take_append_drop sz ys,h0,hd]
theorem acl_len (l:List Atom):(acl l).length=l.length * 3:=by
 induction l with
 | nil=>rfl
 | cons x l ih=>show (acl l).length+1+1+1=(l.length+1) * 3;rw [ih];omega
theorem acl_of {l:List Atom} {xs:List Value} {w:World} {S:Nat→Prop} (hx:xs.length=l.length * 3) (h:∀ i,i < l.length→Dat.rd w S (gd l i) (nth 3 xs i)):xs=acl l :=
 rows_eq hx (acl_len l) fun i hi=>by
  rw [acl_nth hi]
  obtain ⟨c1,c2,e,h1,c3,c4,e2,h3,h4⟩:=h i hi
  rw [e,e2,show c1=[.int .i64 (gd l i).1] from h1,show c3=[.int .i64 (gd l i).2.1] from h3,show c4=[.int .i64 (gd l i).2.2] from h4];rfl
section
variable {w:World} {B g n cap:Nat} {l:List Atom} {v:Value}
theorem AO.at (h:AO w B (.slice (some ⟨g,0,none⟩) n cap) l) (hn:n=l.length) {k:Nat} (hk:k < l.length) :
 (w.cell? ⟨g,k * 3,none⟩=some (.int .i64 (gd l k).1)∧w.cell? ⟨g,k * 3+1,none⟩=some (.int .i64 (gd l k).2.1)∧w.cell? ⟨g,k * 3+2,none⟩=some (.int .i64 (gd l k).2.2))∧∀ i,w.frozen? ⟨g,i,none⟩=false:=by
 subst hn
 have h2:w.ownsRow B 118 3 (.slice (some ⟨g,0,none⟩) l.length cap) l.length (acl l):=h
 have hx:=acl_nth hk
 refine ⟨⟨?_,?_,?_⟩,h2.frozenAt⟩
 · rw [h2.cellAt (k * 3) (by omega)];exact nth_at (j:=0) (by rw [hx];rfl)
 · rw [h2.cellAt (k * 3+1) (by omega)];exact nth_at (j:=1) (by rw [hx];rfl)
 · rw [h2.cellAt (k * 3+2) (by omega)];exact nth_at (j:=2) (by rw [hx];rfl)
theorem AO.form (h:AO w B v l):∃ a cap,v=.slice a l.length cap∧∀ k,k < l.length→∃ g,a=some ⟨g,0,none⟩:=row_form h
theorem OL.AO {fp:List Nat} (h:OL w B v l fp):AO w B v l∧fp=v.ownBlock.toList:=by
 obtain ⟨xs,hr,hx⟩:=flat_parts h
 obtain rfl:xs=acl l:=acl_of hr.1 hx
 exact ⟨hr,flat_fp h⟩
end
section
variable {w w':World} {B B':Nat} {v:Value} {l:List Atom}
end
end Go.Proofs.YtkbbmjcfgcfejaaGreat
