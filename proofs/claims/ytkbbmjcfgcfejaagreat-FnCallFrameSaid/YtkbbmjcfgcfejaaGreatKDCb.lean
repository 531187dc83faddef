/- Walks: an assertion for a call is drawn, a contract is bent (reference: l12Call, l12Mutate). (Printed by gen_dcb.py.) -/
import Derived.Test.YtkbbmjcfgcfejaaGreatKDTidy
import Derived.Handy
import Derived.Deep.DeepMust
import Derived.Deep.Cut
import Derived.Deep.DeepCutAuto
import Derived.Test.YtkbbmjcfgcfejaaGreatKMut2
import Derived.Deep.CutBlock
import Derived.Deep.CutRange
set_option linter.unusedVariables false
set_option linter.unusedSimpArgs false
namespace Go.Proofs.YtkbbmjcfgcfejaaGreat
open Go.RowKit
set_option maxRecDepth 100000 in
set_option maxHeartbeats 6400000 in
theorem l12Call_any {S:Nat→Prop} (g q:Nat) (v1 v2 u1 u2 ch:Value) (c:Con) (w:World) (hr:Rdr w g q) (hq:q≤900000) (h:RCon w S v1 v2 u1 u2 ch c) (hs:asSz c.1) :
 Calls Tryz.prog 61 #[.pointer (some ⟨g,0,none⟩),.agg #[v1,v2,u1,u2,ch]] w fun e w'=>∃ (x1 x2:Value) (b:Asn),e=.returned (.agg #[x1,x2])∧(b.1.length≤c.1.1.length+1∧b.2.length≤c.1.2.length+1)∧FE w' w.heap.size x1 b.1∧FE w' w.heap.size x2 b.2∧Rdr w' g (q+2)∧Fr (fun j=>j=g) w w':=by
 have hgl:=hr.lt
 have h1:=h.pre1
 have h2:=h.pre2
 clear h
 obtain ⟨a,c2⟩:=c
 simp only at h1 h2 hs
 obtain ⟨p1,c1,rfl⟩:=h1.form
 obtain ⟨p2,c2,rfl⟩:=h2.form
 have hs1:=hs.1
 have hs2:=hs.2
 have HS:=Lib.hid hs
 clear hs
 go_enter Tryz.func61,Tryz.ntmps61
 go_wp2_with fail
 refine (l3CopyF_any _ _ a _ ((h1.alloc _).alloc _) ((h2.alloc _).alloc _) HS.out).mono ?_
 rintro e w5 ⟨x1,x2,rfl,o1,o2,hb⟩
 obtain ⟨d1,k1,rfl⟩:=o1.form
 obtain ⟨d2,k2,rfl⟩:=o2.form
 have hA:=box_keep (heap_alloc_new (w.alloc (.cells #[.slice p1 a.1.length c1,.slice p2 a.2.length c2,u1,u2,ch] 29)) (.cells #[.slice none 0 0,.slice none 0 0] 26)) hb
 rw [World.size_alloc] at hA
 have hz5:w.heap.size+2≤w5.heap.size:=by have:=hb.size;simp at this;omega
 have D0:DA w (w5.alloc (.cells #[.slice d1 a.1.length k1,.slice d2 a.2.length k2] 26)) g q (w.heap.size+1) w5.heap.size (.slice d1 a.1.length k1) (.slice d2 a.2.length k2) a.1 a.2 :=
  ⟨(o1.mono (by simp;omega)).keep (below_alloc _ _),(o2.mono (by simp;omega)).keep (below_alloc _ _),box_keep hA (below_alloc _ _),heap_alloc_new w5 _,
    hr.keep (bt (bt (bt (below_alloc _ _) (below_alloc _ _)) hb) (below_alloc _ _)),(Below.fr (bt (bt (bt (below_alloc _ _) (below_alloc _ _)) hb) (below_alloc _ _))).mono fun _ _ h=>h.elim⟩
 clear hr h1 h2 o1 o2 hb hA HS
 go_wp2_with fail
 refine (pick_any g q _ _ D0.rdr (by omega) (by decide) (by decide)).mono ?_
 rintro e w6 ⟨k,rfl,hk,hr6,hf6⟩
 have D:=D0.drawn hr6 hf6 hgl (by omega) (by omega)
 have hz6:w.heap.size≤w6.heap.size:=D.fr.size
 have hw6:=box_lt D.boxA
 clear D0 hr6 hf6
 have hc0:=box0 D.boxA
 have hc1:=box1 D.boxA
 have hcz:=boxz D.boxA
 go_upto_block 0 with fail
 go_cut [] (fun wc=>∃ (y1 y2:Value) (b:Asn),(b.1.length≤a.1.length+1∧b.2.length≤a.2.length+1)∧DA w wc g (q+2) (w.heap.size+1) w5.heap.size y1 y2 b.1 b.2)
 case first =>
  have HLE:=Lib.hid hs2
  have HLF:=Lib.hid hs1
  by_cases hk0:k=0
  · subst hk0
    have HD:=Lib.hid D
    clear D
    go_wp2_with (at_builtin;go_must (refine app_F (l:=a.2) (m:=[(1,4,0)]) (B:=w.heap.size) rfl (.tmp 14) (.tmp 16) _ rfl ti_atom rfl (HD.out.a.keep (below_alloc _ _)) rfl (lit_atom _ _ _ _ _) (by simp;omega) (by simp;omega) ?_;intro v8 w8 o8 hf8;obtain ⟨a8,n8,c8,rfl⟩:=o8.forms;have hA8:=box_tf (HD.out.keep (below_alloc w6 (.cells #[.int .i64 1,.int .i64 4,.int .i64 0] 118))).boxA hf8 (by decide);have e81:=box1 hA8;have z81:=boxz hA8 1;have l81:=box_lt hA8;clear hA8))
    have DZ:=(HD.out.keep (below_alloc w6 (.cells #[.int .i64 1,.int .i64 4,.int .i64 0] 118))).app2 hgl (by omega) (by omega) o8 hf8
    have HZ:=Lib.hid DZ
    clear DZ o8 hf8
    go_meet
    case rel=>exact ⟨_,_,(a.1,a.2 ++ [(1,4,0)]),⟨by simp,by simp⟩,da_more2 HZ.out (by omega)⟩
  · have kb0:((k:Int) == 0)=false:=by simp;omega
    by_cases hk1:k=1
    · subst hk1
      go_wp2
      refine wp_region_late (S:=(fun w'=>w'.cell? ⟨w5.heap.size,1,none⟩=some (.slice d2 a.2.length k2))) (dep:=[7,9]) (by kernel_rfl) (cell_keep (below_drew _) (box1 D.boxA)) (fun hHeld=>?_)
      refine wpAnyD_free (i:=0) (oi:=_) (v:=?_) rfl (by kernel_rfl) (by kernel_rfl) (by kernel_rfl) (by kernel_rfl) (fun _ _ _ h=>h) (Or.inl ⟨by rfl,?_⟩) hHeld (fun hHeld=>?_)
      rotate_left
      · (intro w _;first | (go_simp;done) | (go_simp;with_reducible rfl))
      try simp only [Act.put,List.setIfInBounds_toArray,List.set_cons_zero,List.set_cons_succ]
      refine wpAnyD_free (i:=2) (oi:=_) (v:=?_) rfl (by kernel_rfl) (by kernel_rfl) (by kernel_rfl) (by kernel_rfl) (fun _ _ _ h=>h) (Or.inl ⟨by rfl,?_⟩) hHeld (fun hHeld=>?_)
      rotate_left
      · (intro w _;first | (go_simp;done) | (go_simp;with_reducible rfl))
      try simp only [Act.put,List.setIfInBounds_toArray,List.set_cons_zero,List.set_cons_succ]
      refine wpAnyD_take (i:=1) (oi:=_) (v:=?_) rfl (by kernel_rfl) (by kernel_rfl) (by kernel_rfl) (by kernel_rfl) (by kernel_rfl) (fun _ _ _ h=>h) (Or.inl ⟨by rfl,?_⟩) (hHeld (early_of (by kernel_rfl))) ?_
      rotate_left
      · (intro w hSw;(try dsimp only at hSw);first | (go_simp;done) | (go_simp;with_reducible rfl))
      try simp only [Act.put,List.setIfInBounds_toArray,List.set_cons_zero,List.set_cons_succ]
      replace hHeld:=fun (he:Early _ _)=>hHeld (Early.of_set (i:=1) he (by decide))
      refine wpAnyD_ready (rs:=[3]) (by kernel_rfl) (by simp) ?_
      refine (AllReadyD.cons (o:=_) rfl (fun K hK=>?_) AllReadyD.nil)
      clear hHeld
      go_simp
      refine hK.out _ _ ?_ (fun hHeld=>?_)
      · exact fun _=>cell_keep (w':=(w6.drew.alloc (.cells #[.int .i64 0,.int .i64 1,.int .i64 3] 3))) Bl (box1 D.boxA)
      clear hK K
      try simp only [Act.put,List.setIfInBounds_toArray,List.set_cons_zero,List.set_cons_succ]
      have L3:RInts (w6.drew.alloc (.cells #[.int .i64 0,.int .i64 1,.int .i64 3] 3)) (.slice (some ⟨w6.heap.size,0,none⟩) 3 3) [0,1,3]:=by have h:=lit_ints w6.drew [0,1,3] (by decide);(try simp only [World.size_alloc,World.size_drew] at h);exact h
      refine wpAnyD_ready (rs:=[4]) (by kernel_rfl) (by simp) ?_
      refine (AllReadyD.cons (o:=_) rfl (fun K hK=>?_) AllReadyD.nil)
      clear hHeld
      go_simp
      (go_at_call 143;refine (num_any g (q+1) _ [0,1,3] _ (D.keep (w':=(w6.drew.alloc (.cells #[.int .i64 0,.int .i64 1,.int .i64 3] 3))) Bl).rdr (L3.keep (w':=(w6.drew.alloc (.cells #[.int .i64 0,.int .i64 1,.int .i64 3] 3))) Bl) (by omega) (by decide) (by decide) (fun k hk e=>by simp [Value.ownBlock] at hk;omega)).mono ?_;rintro e y1 ⟨x1,hx1,rfl,hr1,hf1⟩)
      have D1:=(D.keep (w':=(w6.drew.alloc (.cells #[.int .i64 0,.int .i64 1,.int .i64 3] 3))) Bl).drawn hr1 hf1 hgl (by omega) (by omega)
      have hg1:=D1.rdr.lt
      clear hr1 hf1 L3
      go_wp2_with fail
      refine hK.out _ _ ?_ (fun hHeld=>?_)
      · exact fun _=>(box1 D1.boxA)
      clear hK K
      try simp only [Act.put,List.setIfInBounds_toArray,List.set_cons_zero,List.set_cons_succ]
      refine wpAnyD_free (i:=5) (oi:=_) (v:=?_) rfl (by kernel_rfl) (by kernel_rfl) (by kernel_rfl) (by kernel_rfl) (fun _ _ _ h=>h) (Or.inl ⟨by rfl,?_⟩) hHeld (fun hHeld=>?_)
      rotate_left
      · (intro w _;first | (go_simp;done) | (go_simp;with_reducible rfl))
      try simp only [Act.put,List.setIfInBounds_toArray,List.set_cons_zero,List.set_cons_succ]
      refine wpAnyD_ready (rs:=[6]) (by kernel_rfl) (by simp) ?_
      refine (AllReadyD.cons (o:=_) rfl (fun K hK=>?_) AllReadyD.nil)
      clear hHeld
      go_simp
      refine hK.out _ _ ?_ (fun hHeld=>?_)
      · exact fun _=>cell_keep (below_alloc _ _) (box1 D1.boxA)
      clear hK K
      try simp only [Act.put,List.setIfInBounds_toArray,List.set_cons_zero,List.set_cons_succ]
      refine wpAnyD_ready (rs:=[7]) (by kernel_rfl) (by simp) ?_
      refine (AllReadyD.cons (o:=_) rfl (fun K hK=>?_) AllReadyD.nil)
      clear hHeld
      refine step_F (by rfl) (.tmp 22) (.tmp 27) _ (by rfl) ti_atom (by rfl) (D1.a.keep (below_alloc _ _)) (by rfl) (lit_atom _ _ _ _ _) (by have:=HLE.out;simp;omega) (by have:=D1.fr.size;simp;omega) ?_
      intro v' y9 hfe hfr
      obtain ⟨a',n',c',rfl⟩:=hfe.forms
      have DZ:=(D1.keep (below_alloc _ _)).app2 hgl (by omega) (by omega) hfe hfr
      have hbz:=box_tf (D1.keep (below_alloc _ _)).boxA hfr (by decide)
      have hbz0:=box1 hbz
      have hbzz:=boxz hbz 1
      clear hbz
      refine hK.out _ _ ?_ (fun hHeld=>?_)
      · exact late_none (by kernel_rfl)
      clear hK K
      try simp only [Act.put,List.setIfInBounds_toArray,List.set_cons_zero,List.set_cons_succ]
      refine wpAnyD_free (i:=8) (oi:=_) (v:=?_) rfl (by kernel_rfl) (by kernel_rfl) (by kernel_rfl) (by kernel_rfl) (fun _ _ _ h=>h) (Or.inl ⟨by rfl,?_⟩) hHeld (fun hHeld=>?_)
      rotate_left
      · (intro w _;first | (go_simp;done) | (go_simp;with_reducible rfl))
      try simp only [Act.put,List.setIfInBounds_toArray,List.set_cons_zero,List.set_cons_succ]
      refine wpAnyD_ready (rs:=[9]) (by kernel_rfl) (by simp) ?_
      refine (AllReadyD.cons (o:=_) rfl (fun K hK=>?_) AllReadyD.nil)
      clear hHeld
      go_simp
      refine hK.out _ _ ?_ (fun hHeld=>?_)
      · exact late_none (by kernel_rfl)
      clear hK K
      try simp only [Act.put,List.setIfInBounds_toArray,List.set_cons_zero,List.set_cons_succ]
      refine wpAnyD_done (by kernel_rfl) ?_ _
      clear hHeld
      have hDZ:=Lib.hid DZ
      clear DZ D D1 hfe hfr hbz0 hbzz
      go_wp2
      go_meet
      case rel=>exact ⟨_,_,(a.1,a.2 ++ [(2,6,x1)]),⟨by simp,by simp⟩,hDZ.out⟩
    · have kb1:((k:Int) == 1)=false:=by simp;omega
      by_cases hk2:k=2
      · subst hk2
        go_wp2
        refine wp_region_late (S:=(fun w'=>w'.cell? ⟨w5.heap.size,0,none⟩=some (.slice d1 a.1.length k1))) (dep:=[7,9]) (by kernel_rfl) (cell_keep (below_drew _) (box0 D.boxA)) (fun hHeld=>?_)
        refine wpAnyD_free (i:=0) (oi:=_) (v:=?_) rfl (by kernel_rfl) (by kernel_rfl) (by kernel_rfl) (by kernel_rfl) (fun _ _ _ h=>h) (Or.inl ⟨by rfl,?_⟩) hHeld (fun hHeld=>?_)
        rotate_left
        · (intro w _;first | (go_simp;done) | (go_simp;with_reducible rfl))
        try simp only [Act.put,List.setIfInBounds_toArray,List.set_cons_zero,List.set_cons_succ]
        refine wpAnyD_free (i:=2) (oi:=_) (v:=?_) rfl (by kernel_rfl) (by kernel_rfl) (by kernel_rfl) (by kernel_rfl) (fun _ _ _ h=>h) (Or.inl ⟨by rfl,?_⟩) hHeld (fun hHeld=>?_)
        rotate_left
        · (intro w _;first | (go_simp;done) | (go_simp;with_reducible rfl))
        try simp only [Act.put,List.setIfInBounds_toArray,List.set_cons_zero,List.set_cons_succ]
        refine wpAnyD_take (i:=1) (oi:=_) (v:=?_) rfl (by kernel_rfl) (by kernel_rfl) (by kernel_rfl) (by kernel_rfl) (by kernel_rfl) (fun _ _ _ h=>h) (Or.inl ⟨by rfl,?_⟩) (hHeld (early_of (by kernel_rfl))) ?_
        rotate_left
        · (intro w hSw;(try dsimp only at hSw);first | (go_simp;done) | (go_simp;with_reducible rfl))
        try simp only [Act.put,List.setIfInBounds_toArray,List.set_cons_zero,List.set_cons_succ]
        replace hHeld:=fun (he:Early _ _)=>hHeld (Early.of_set (i:=1) he (by decide))
        refine wpAnyD_ready (rs:=[3]) (by kernel_rfl) (by simp) ?_
        refine (AllReadyD.cons (o:=_) rfl (fun K hK=>?_) AllReadyD.nil)
        clear hHeld
        go_simp
        refine hK.out _ _ ?_ (fun hHeld=>?_)
        · exact fun _=>cell_keep (w':=(w6.drew.alloc (.cells #[.int .i64 1,.int .i64 2,.int .i64 6] 3))) Bl (box0 D.boxA)
        clear hK K
        try simp only [Act.put,List.setIfInBounds_toArray,List.set_cons_zero,List.set_cons_succ]
        have L3:RInts (w6.drew.alloc (.cells #[.int .i64 1,.int .i64 2,.int .i64 6] 3)) (.slice (some ⟨w6.heap.size,0,none⟩) 3 3) [1,2,6]:=by have h:=lit_ints w6.drew [1,2,6] (by decide);(try simp only [World.size_alloc,World.size_drew] at h);exact h
        refine wpAnyD_ready (rs:=[4]) (by kernel_rfl) (by simp) ?_
        refine (AllReadyD.cons (o:=_) rfl (fun K hK=>?_) AllReadyD.nil)
        clear hHeld
        go_simp
        (go_at_call 143;refine (num_any g (q+1) _ [1,2,6] _ (D.keep (w':=(w6.drew.alloc (.cells #[.int .i64 1,.int .i64 2,.int .i64 6] 3))) Bl).rdr (L3.keep (w':=(w6.drew.alloc (.cells #[.int .i64 1,.int .i64 2,.int .i64 6] 3))) Bl) (by omega) (by decide) (by decide) (fun k hk e=>by simp [Value.ownBlock] at hk;omega)).mono ?_;rintro e y1 ⟨x1,hx1,rfl,hr1,hf1⟩)
        have D1:=(D.keep (w':=(w6.drew.alloc (.cells #[.int .i64 1,.int .i64 2,.int .i64 6] 3))) Bl).drawn hr1 hf1 hgl (by omega) (by omega)
        have hg1:=D1.rdr.lt
        clear hr1 hf1 L3
        go_wp2_with fail
        refine hK.out _ _ ?_ (fun hHeld=>?_)
        · exact fun _=>(box0 D1.boxA)
        clear hK K
        try simp only [Act.put,List.setIfInBounds_toArray,List.set_cons_zero,List.set_cons_succ]
        refine wpAnyD_free (i:=5) (oi:=_) (v:=?_) rfl (by kernel_rfl) (by kernel_rfl) (by kernel_rfl) (by kernel_rfl) (fun _ _ _ h=>h) (Or.inl ⟨by rfl,?_⟩) hHeld (fun hHeld=>?_)
        rotate_left
        · (intro w _;first | (go_simp;done) | (go_simp;with_reducible rfl))
        try simp only [Act.put,List.setIfInBounds_toArray,List.set_cons_zero,List.set_cons_succ]
        refine wpAnyD_ready (rs:=[6]) (by kernel_rfl) (by simp) ?_
        refine (AllReadyD.cons (o:=_) rfl (fun K hK=>?_) AllReadyD.nil)
        clear hHeld
        go_simp
        refine hK.out _ _ ?_ (fun hHeld=>?_)
        · exact fun _=>cell_keep (below_alloc _ _) (box0 D1.boxA)
        clear hK K
        try simp only [Act.put,List.setIfInBounds_toArray,List.set_cons_zero,List.set_cons_succ]
        refine wpAnyD_ready (rs:=[7]) (by kernel_rfl) (by simp) ?_
        refine (AllReadyD.cons (o:=_) rfl (fun K hK=>?_) AllReadyD.nil)
        clear hHeld
        refine step_F (by rfl) (.tmp 33) (.tmp 38) _ (by rfl) ti_fact (by rfl) (D1.f.keep (below_alloc _ _)) (by rfl) (lit_fact _ _ _ _ _) (by have:=HLF.out;simp;omega) (by have:=D1.fr.size;simp;omega) ?_
        intro v' y9 hfe hfr
        obtain ⟨a',n',c',rfl⟩:=hfe.forms
        have DZ:=(D1.keep (below_alloc _ _)).app1 hgl (by omega) (by omega) hfe hfr
        have hbz:=box_tf (D1.keep (below_alloc _ _)).boxA hfr (by decide)
        have hbz0:=box0 hbz
        have hbzz:=boxz hbz 0
        clear hbz
        refine hK.out _ _ ?_ (fun hHeld=>?_)
        · exact late_none (by kernel_rfl)
        clear hK K
        try simp only [Act.put,List.setIfInBounds_toArray,List.set_cons_zero,List.set_cons_succ]
        refine wpAnyD_free (i:=8) (oi:=_) (v:=?_) rfl (by kernel_rfl) (by kernel_rfl) (by kernel_rfl) (by kernel_rfl) (fun _ _ _ h=>h) (Or.inl ⟨by rfl,?_⟩) hHeld (fun hHeld=>?_)
        rotate_left
        · (intro w _;first | (go_simp;done) | (go_simp;with_reducible rfl))
        try simp only [Act.put,List.setIfInBounds_toArray,List.set_cons_zero,List.set_cons_succ]
        refine wpAnyD_ready (rs:=[9]) (by kernel_rfl) (by simp) ?_
        refine (AllReadyD.cons (o:=_) rfl (fun K hK=>?_) AllReadyD.nil)
        clear hHeld
        go_simp
        refine hK.out _ _ ?_ (fun hHeld=>?_)
        · exact late_none (by kernel_rfl)
        clear hK K
        try simp only [Act.put,List.setIfInBounds_toArray,List.set_cons_zero,List.set_cons_succ]
        refine wpAnyD_done (by kernel_rfl) ?_ _
        clear hHeld
        have hDZ:=Lib.hid DZ
        clear DZ D D1 hfe hfr hbz0 hbzz
        go_wp2
        go_meet
        case rel=>exact ⟨_,_,(a.1 ++ [(true,4,x1)],a.2),⟨by simp,by simp⟩,hDZ.out⟩
      · have kb2:((k:Int) == 2)=false:=by simp;omega
        have HD:=Lib.hid D
        clear D
        go_wp2
        go_meet
        case rel=>exact ⟨_,_,a,⟨by omega,by omega⟩,da_more2 HD.out (by omega)⟩
 case rest =>
  obtain ⟨y1,y2,b,hbl,D⟩:=hcut
  obtain ⟨e1,m1,rfl⟩:=D.f.form
  obtain ⟨e2,m2,rfl⟩:=D.a.form
  have ha0:=box0 D.boxR
  have ha1:=box1 D.boxR
  have haz:=boxz D.boxR
  have hal:=box_lt D.boxR
  have hb0:=box0 D.boxA
  have hb1:=box1 D.boxA
  have hblt:=box_lt D.boxA
  have HD:=Lib.hid (And.intro D hbl)
  clear D hbl hc0 hc1 hcz
  go_wp2
  have hD:=HD.out.1.done hgl (by omega) (.slice e1 b.1.length m1) (.slice e2 b.2.length m2)
  refine bodyPost_ret (v:=.agg #[.slice e1 b.1.length m1,.slice e2 b.2.length m2]) (by simp [results,Tryz.results61,go_sem,ha0,ha1]) rfl ?_
  exact ⟨_,_,b,rfl,HD.out.2,hD.1.1,hD.1.2,hD.2.1,hD.2.2⟩
end Go.Proofs.YtkbbmjcfgcfejaaGreat
