/- Walks: assertions sometimes made invalid; chains. (Printed by gen_mut2.py.) -/
import Derived.Test.YtkbbmjcfgcfejaaGreatKMut1
import Derived.Deep.Cut
import Derived.Deep.CutBlock
import Derived.Deep.CutRange
namespace Go.Proofs.YtkbbmjcfgcfejaaGreat
open Go.RowKit
set_option linter.unusedSimpArgs false in
set_option maxRecDepth 100000 in
set_option maxHeartbeats 6400000 in
theorem l3Mutate_any {S1 S2:Nat→Prop} (g q:Nat) (v1 v2:Value) (a:Asn) (w:World) (hr:Rdr w g q) (hq:q≤900000) (h1:RL w S1 v1 a.1) (h2:RL w S2 v2 a.2) (hs:asSz a) :
 Calls Tryz.prog 60 #[.pointer (some ⟨g,0,none⟩),.agg #[v1,v2]] w fun e w'=>∃ (x1 x2:Value) (b:Asn),e=.returned (.agg #[x1,x2])∧(b.1.length≤a.1.length+14∧b.2.length≤a.2.length+7)∧FE w' w.heap.size x1 b.1∧FE w' w.heap.size x2 b.2∧Rdr w' g (q+3)∧Fr (fun j=>j=g) w w':=by
 have hgl:=hr.lt
 obtain ⟨p1,c1,rfl⟩:=h1.form
 obtain ⟨p2,c2,rfl⟩:=h2.form
 have hs1:=hs.1
 have hs2:=hs.2
 have HS:=Lib.hid hs
 clear hs
 go_enter Tryz.func60,Tryz.ntmps60
 go_wp2_with fail
 refine (l3CopyF_any _ _ a _ ((h1.alloc _).alloc _) ((h2.alloc _).alloc _) HS.out).mono ?_
 rintro e w5 ⟨x1,x2,rfl,o1,o2,hb⟩
 obtain ⟨d1,k1,rfl⟩:=o1.form
 obtain ⟨d2,k2,rfl⟩:=o2.form
 have hA:=box_keep (heap_alloc_new (w.alloc (.cells #[.slice p1 a.1.length c1,.slice p2 a.2.length c2] 26)) (.cells #[.slice none 0 0,.slice none 0 0] 26)) hb
 rw [World.size_alloc] at hA
 have hz5:w.heap.size+2≤w5.heap.size:=by have:=hb.size;simp at this;omega
 have D0:DA w (w5.alloc (.cells #[.slice d1 a.1.length k1,.slice d2 a.2.length k2] 26)) g q (w.heap.size+1) w5.heap.size (.slice d1 a.1.length k1) (.slice d2 a.2.length k2) a.1 a.2 :=
  ⟨(o1.mono (by simp;omega)).keep (below_alloc _ _),(o2.mono (by simp;omega)).keep (below_alloc _ _),box_keep hA (below_alloc _ _),heap_alloc_new w5 _,
    hr.keep (bt (bt (bt (below_alloc _ _) (below_alloc _ _)) hb) (below_alloc _ _)),(Below.fr (bt (bt (bt (below_alloc _ _) (below_alloc _ _)) hb) (below_alloc _ _))).mono fun _ _ h=>h.elim⟩
 clear hr h1 h2 o1 o2 hb hA HS
 go_wp2_with fail
 refine (pick_any g q _ _ D0.rdr (by omega) (by decide) (by decide)).mono ?_
 rintro e w6 ⟨k,rfl,hk,hr6,hf6⟩
 have D:=D0.drawn hr6 hf6 hgl (by omega) (by omega)
 have hz6:w.heap.size≤w6.heap.size:=D.fr.size
 have hw6:=box_lt D.boxA
 clear D0 hr6 hf6
 have hc0:=box0 D.boxA
 have hc1:=box1 D.boxA
 have hcz:=boxz D.boxA
 go_upto_block 0 with fail
 go_cut [] from 10 (fun wc=>∃ (y1 y2:Value) (b:Asn),(b.1.length≤a.1.length+14∧b.2.length≤a.2.length+7)∧DA w wc g (q+3) (w.heap.size+1) w5.heap.size y1 y2 b.1 b.2)
 case first =>
  by_cases hk0:k=0
  · subst hk0
    have HD:=Lib.hid D
    clear D
    go_wp2_with (at_builtin;go_must (refine app_F (l:=a.1) (m:=[(false,9,0)]) (B:=w.heap.size) rfl (.tmp 14) (.tmp 16) _ rfl ti_fact rfl (HD.out.f.keep (below_alloc _ _)) rfl (lit_fact _ _ _ _ _) (by simp;omega) (by simp;omega) ?_;intro v8 w8 o8 hf8;obtain ⟨a8,n8,c8,rfl⟩:=o8.forms))
    have D7:=HD.out.keep (below_alloc w6 (.cells #[.bool false,.int .i64 9,.int .i64 0] 61))
    have hA8:=box_tf D7.boxA hf8 (by decide)
    have hR8:=box_tf D7.boxR hf8 (by decide)
    have oa8:=D7.a.tf hf8 (by decide)
    have hr8:=D7.rdr.kept hf8 (fun k hk e=>by have:=e.1;omega)
    have fr8:=D7.fr.then hf8 fun i hi e=>by have:=e.1;omega
    have hz8:w.heap.size≤w8.heap.size:=fr8.size
    clear hf8 D7 HD hc0 hc1 hcz
    refine (l1Mutate_any g (q+1) _ (a.1 ++ [(false,9,0)]) _ hr8 (by omega) o8.rl (by simp;omega)).mono ?_
    rintro e w9 ⟨v9,l9,rfl,hl9,o9,hr9,hf9⟩
    obtain ⟨a9,n9,c9,rfl⟩:=o9.forms
    have hA9:=box_kept hA8 hf9 (by omega)
    have hS:∀ {e:TypeId},26 ≠ e→¬ TF w9 w.heap.size e w5.heap.size:=fun hne=>tf_ne hA9 hne
    have DZ:DA w (w9.setCell ⟨w5.heap.size,0,none⟩ (.slice a9 n9 c9)) g (q+1+2) (w.heap.size+1) w5.heap.size (.slice a9 n9 c9) (.slice d2 a.2.length k2) l9 a.2 :=
     ⟨(o9.mono hz8).setB (hS (by decide)),(oa8.kept hf9 fun k hk e=>by have:=hk.1;omega).setB (hS (by decide)),box_other (box_kept hR8 hf9 (by omega)) _ _ (by simp;omega),box_set0 hA9 _,
       hr9.kept (fr_set _ _ _) (fun k hk e=>by simp at e;omega),(fr8.trans hf9).then (fr_set _ _ _) fun i hi e=>by simp at e;omega⟩
    have c90:=box0 hA9
    have z90:=boxz hA9 0
    have l90:=box_lt hA9
    have HZ:=Lib.hid (And.intro DZ hl9)
    clear DZ hl9 hA8 hR8 oa8 hr8 fr8 o8 o9 hr9 hf9 hA9
    go_wp2
    go_meet
    case rel=>exact ⟨_,_,(l9,a.2),⟨by have:=HZ.out.2;simp at this;simp;omega,by simp⟩,HZ.out.1⟩
  · have kb0:((k:Int) == 0)=false:=by simp;omega
    by_cases hk1:k=1
    · subst hk1
      have HLE:=Lib.hid hs2
      go_wp2
      refine wp_region_late (S:=(fun w'=>w'.cell? ⟨w5.heap.size,1,none⟩=some (.slice d2 a.2.length k2))) (dep:=[10,12]) (by kernel_rfl) (cell_keep (below_drew _) (box1 D.boxA)) (fun hHeld=>?_)
      refine wpAnyD_free (i:=0) (oi:=_) (v:=?_) rfl (by kernel_rfl) (by kernel_rfl) (by kernel_rfl) (by kernel_rfl) (fun _ _ _ h=>h) (Or.inl ⟨by rfl,?_⟩) hHeld (fun hHeld=>?_)
      rotate_left
      · (intro w _;first | (go_simp;done) | (go_simp;with_reducible rfl))
      try simp only [Act.put,List.setIfInBounds_toArray,List.set_cons_zero,List.set_cons_succ]
      refine wpAnyD_free (i:=2) (oi:=_) (v:=?_) rfl (by kernel_rfl) (by kernel_rfl) (by kernel_rfl) (by kernel_rfl) (fun _ _ _ h=>h) (Or.inl ⟨by rfl,?_⟩) hHeld (fun hHeld=>?_)
      rotate_left
      · (intro w _;first | (go_simp;done) | (go_simp;with_reducible rfl))
      try simp only [Act.put,List.setIfInBounds_toArray,List.set_cons_zero,List.set_cons_succ]
      refine wpAnyD_free (i:=5) (oi:=_) (v:=?_) rfl (by kernel_rfl) (by kernel_rfl) (by kernel_rfl) (by kernel_rfl) (fun _ _ _ h=>h) (Or.inl ⟨by rfl,?_⟩) hHeld (fun hHeld=>?_)
      rotate_left
      · (intro w _;first | (go_simp;done) | (go_simp;with_reducible rfl))
      try simp only [Act.put,List.setIfInBounds_toArray,List.set_cons_zero,List.set_cons_succ]
      refine wpAnyD_take (i:=1) (oi:=_) (v:=?_) rfl (by kernel_rfl) (by kernel_rfl) (by kernel_rfl) (by kernel_rfl) (by kernel_rfl) (fun _ _ _ h=>h) (Or.inl ⟨by rfl,?_⟩) (hHeld (early_of (by kernel_rfl))) ?_
      rotate_left
      · (intro w hSw;(try dsimp only at hSw);first | (go_simp;done) | (go_simp;with_reducible rfl))
      try simp only [Act.put,List.setIfInBounds_toArray,List.set_cons_zero,List.set_cons_succ]
      replace hHeld:=fun (he:Early _ _)=>hHeld (Early.of_set (i:=1) he (by decide))
      refine wpAnyD_ready (rs:=[3,6]) (by kernel_rfl) (by simp) ?_
      refine (AllReadyD.cons (o:=_) rfl (fun K hK=>?_) (AllReadyD.cons (o:=_) rfl (fun K hK=>?_) AllReadyD.nil))
      · clear hHeld
        go_simp
        refine hK.out _ _ ?_ (fun hHeld=>?_)
        · exact fun _=>cell_keep (w':=(w6.drew.alloc (.cells #[.int .i64 0,.int .i64 3,.int .i64 1] 3))) Bl (box1 D.boxA)
        clear hK K
        try simp only [Act.put,List.setIfInBounds_toArray,List.set_cons_zero,List.set_cons_succ]
        have L3:RInts (w6.drew.alloc (.cells #[.int .i64 0,.int .i64 3,.int .i64 1] 3)) (.slice (some ⟨w6.heap.size,0,none⟩) 3 3) [0,3,1]:=by have h:=lit_ints w6.drew [0,3,1] (by decide);(try simp only [World.size_alloc,World.size_drew] at h);exact h
        refine wpAnyD_ready (rs:=[4,6]) (by kernel_rfl) (by simp) ?_
        refine (AllReadyD.cons (o:=_) rfl (fun K hK=>?_) (AllReadyD.cons (o:=_) rfl (fun K hK=>?_) AllReadyD.nil))
        · clear hHeld
          go_simp
          (go_at_call 143;refine (num_any g (q+1) _ [0,3,1] _ (D.keep (w':=(w6.drew.alloc (.cells #[.int .i64 0,.int .i64 3,.int .i64 1] 3))) Bl).rdr (L3.keep (w':=(w6.drew.alloc (.cells #[.int .i64 0,.int .i64 3,.int .i64 1] 3))) Bl) (by omega) (by decide) (by decide) (fun k hk e=>by simp [Value.ownBlock] at hk;omega)).mono ?_;rintro e y1 ⟨x1,hx1,rfl,hr1,hf1⟩)
          have D1:=(D.keep (w':=(w6.drew.alloc (.cells #[.int .i64 0,.int .i64 3,.int .i64 1] 3))) Bl).drawn hr1 hf1 hgl (by omega) (by omega)
          have hg1:=D1.rdr.lt
          clear hr1 hf1 L3
          go_wp2_with fail
          refine hK.out _ _ ?_ (fun hHeld=>?_)
          · exact fun _=>(box1 D1.boxA)
          clear hK K
          try simp only [Act.put,List.setIfInBounds_toArray,List.set_cons_zero,List.set_cons_succ]
          refine wpAnyD_ready (rs:=[6]) (by kernel_rfl) (by simp) ?_
          refine (AllReadyD.cons (o:=_) rfl (fun K hK=>?_) AllReadyD.nil)
          clear hHeld
          go_simp
          refine hK.out _ _ ?_ (fun hHeld=>?_)
          · exact fun _=>cell_keep (w':=(y1.alloc (.cells #[.int .i64 (1),.int .i64 (9),.int .i64 (-1)] 3))) Bl (box1 D1.boxA)
          clear hK K
          try simp only [Act.put,List.setIfInBounds_toArray,List.set_cons_zero,List.set_cons_succ]
          have L6:RInts (y1.alloc (.cells #[.int .i64 (1),.int .i64 (9),.int .i64 (-1)] 3)) (.slice (some ⟨y1.heap.size,0,none⟩) 3 3) [1,9,-1]:=by have h:=lit_ints y1 [1,9,-1] (by decide);(try simp only [World.size_alloc,World.size_drew] at h);exact h
          refine wpAnyD_ready (rs:=[7]) (by kernel_rfl) (by simp) ?_
          refine (AllReadyD.cons (o:=_) rfl (fun K hK=>?_) AllReadyD.nil)
          clear hHeld
          go_simp
          (go_at_call 143;refine (num_any g (q+1+1) _ [1,9,-1] _ (D1.keep (w':=(y1.alloc (.cells #[.int .i64 (1),.int .i64 (9),.int .i64 (-1)] 3))) Bl).rdr (L6.keep (w':=(y1.alloc (.cells #[.int .i64 (1),.int .i64 (9),.int .i64 (-1)] 3))) Bl) (by omega) (by decide) (by decide) (fun k hk e=>by simp [Value.ownBlock] at hk;omega)).mono ?_;rintro e y2 ⟨x2,hx2,rfl,hr2,hf2⟩)
          have D2:=(D1.keep (w':=(y1.alloc (.cells #[.int .i64 (1),.int .i64 (9),.int .i64 (-1)] 3))) Bl).drawn hr2 hf2 hgl (by omega) (by omega)
          have hg2:=D2.rdr.lt
          clear hr2 hf2 L6
          go_wp2_with fail
          refine hK.out _ _ ?_ (fun hHeld=>?_)
          · exact fun _=>(box1 D2.boxA)
          clear hK K
          try simp only [Act.put,List.setIfInBounds_toArray,List.set_cons_zero,List.set_cons_succ]
          refine wpAnyD_free (i:=8) (oi:=_) (v:=?_) rfl (by kernel_rfl) (by kernel_rfl) (by kernel_rfl) (by kernel_rfl) (fun _ _ _ h=>h) (Or.inl ⟨by rfl,?_⟩) hHeld (fun hHeld=>?_)
          rotate_left
          · (intro w _;first | (go_simp;done) | (go_simp;with_reducible rfl))
          try simp only [Act.put,List.setIfInBounds_toArray,List.set_cons_zero,List.set_cons_succ]
          refine wpAnyD_ready (rs:=[9]) (by kernel_rfl) (by simp) ?_
          refine (AllReadyD.cons (o:=_) rfl (fun K hK=>?_) AllReadyD.nil)
          clear hHeld
          go_simp
          refine hK.out _ _ ?_ (fun hHeld=>?_)
          · exact fun _=>cell_keep (below_alloc _ _) (box1 D2.boxA)
          clear hK K
          try simp only [Act.put,List.setIfInBounds_toArray,List.set_cons_zero,List.set_cons_succ]
          refine wpAnyD_ready (rs:=[10]) (by kernel_rfl) (by simp) ?_
          refine (AllReadyD.cons (o:=_) rfl (fun K hK=>?_) AllReadyD.nil)
          clear hHeld
          refine step_F (by rfl) (.tmp 23) (.tmp 31) _ (by rfl) ti_atom (by rfl) (D2.a.keep (below_alloc _ _)) (by rfl) (lit_atom _ _ _ _ _) (by have:=HLE.out;simp;omega) (by have:=D2.fr.size;simp;omega) ?_
          intro v' y9 hfe hfr
          obtain ⟨a',n',c',rfl⟩:=hfe.forms
          have DZ:=(D2.keep (below_alloc _ _)).app2 hgl (by omega) (by omega) hfe hfr
          have hbz:=box_tf (D2.keep (below_alloc _ _)).boxA hfr (by decide)
          have hbz0:=box1 hbz
          have hbzz:=boxz hbz 1
          clear hbz
          refine hK.out _ _ ?_ (fun hHeld=>?_)
          · exact late_none (by kernel_rfl)
          clear hK K
          try simp only [Act.put,List.setIfInBounds_toArray,List.set_cons_zero,List.set_cons_succ]
          refine wpAnyD_free (i:=11) (oi:=_) (v:=?_) rfl (by kernel_rfl) (by kernel_rfl) (by kernel_rfl) (by kernel_rfl) (fun _ _ _ h=>h) (Or.inl ⟨by rfl,?_⟩) hHeld (fun hHeld=>?_)
          rotate_left
          · (intro w _;first | (go_simp;done) | (go_simp;with_reducible rfl))
          try simp only [Act.put,List.setIfInBounds_toArray,List.set_cons_zero,List.set_cons_succ]
          refine wpAnyD_ready (rs:=[12]) (by kernel_rfl) (by simp) ?_
          refine (AllReadyD.cons (o:=_) rfl (fun K hK=>?_) AllReadyD.nil)
          clear hHeld
          go_simp
          refine hK.out _ _ ?_ (fun hHeld=>?_)
          · exact late_none (by kernel_rfl)
          clear hK K
          try simp only [Act.put,List.setIfInBounds_toArray,List.set_cons_zero,List.set_cons_succ]
          refine wpAnyD_done (by kernel_rfl) ?_ _
          clear hHeld
          have hDZ:=Lib.hid DZ
          clear DZ D D1 D2 hfe hfr hbz0 hbzz
          go_wp2
          go_meet
          case rel=>exact ⟨_,_,(a.1,a.2 ++ [(x1,x2,2)]),⟨by simp,by simp⟩,hDZ.out⟩
        · clear hHeld
          go_simp
          refine hK.out _ _ ?_ (fun hHeld=>?_)
          · exact fun _=>cell_keep (w':=((w6.drew.alloc (.cells #[.int .i64 0,.int .i64 3,.int .i64 1] 3)).alloc (.cells #[.int .i64 (1),.int .i64 (9),.int .i64 (-1)] 3))) Bl (box1 D.boxA)
          clear hK K
          try simp only [Act.put,List.setIfInBounds_toArray,List.set_cons_zero,List.set_cons_succ]
          have L6:RInts ((w6.drew.alloc (.cells #[.int .i64 0,.int .i64 3,.int .i64 1] 3)).alloc (.cells #[.int .i64 (1),.int .i64 (9),.int .i64 (-1)] 3)) (.slice (some ⟨w6.heap.size+1,0,none⟩) 3 3) [1,9,-1]:=by have h:=lit_ints (w6.drew.alloc (.cells #[.int .i64 0,.int .i64 3,.int .i64 1] 3)) [1,9,-1] (by decide);(try simp only [World.size_alloc,World.size_drew] at h);exact h
          refine wpAnyD_ready (rs:=[4]) (by kernel_rfl) (by simp) ?_
          refine (AllReadyD.cons (o:=_) rfl (fun K hK=>?_) AllReadyD.nil)
          clear hHeld
          go_simp
          (go_at_call 143;refine (num_any g (q+1) _ [0,3,1] _ (D.keep (w':=((w6.drew.alloc (.cells #[.int .i64 0,.int .i64 3,.int .i64 1] 3)).alloc (.cells #[.int .i64 (1),.int .i64 (9),.int .i64 (-1)] 3))) Bl).rdr (L3.keep (w':=((w6.drew.alloc (.cells #[.int .i64 0,.int .i64 3,.int .i64 1] 3)).alloc (.cells #[.int .i64 (1),.int .i64 (9),.int .i64 (-1)] 3))) Bl) (by omega) (by decide) (by decide) (fun k hk e=>by simp [Value.ownBlock] at hk;omega)).mono ?_;rintro e y1 ⟨x1,hx1,rfl,hr1,hf1⟩)
          have D1:=(D.keep (w':=((w6.drew.alloc (.cells #[.int .i64 0,.int .i64 3,.int .i64 1] 3)).alloc (.cells #[.int .i64 (1),.int .i64 (9),.int .i64 (-1)] 3))) Bl).drawn hr1 hf1 hgl (by omega) (by omega)
          have hg1:=D1.rdr.lt
          replace L6:=RInts.kept (L6.keep (w':=((w6.drew.alloc (.cells #[.int .i64 0,.int .i64 3,.int .i64 1] 3)).alloc (.cells #[.int .i64 (1),.int .i64 (9),.int .i64 (-1)] 3))) Bl) hf1 (fun k hk e=>by simp [Value.ownBlock] at hk;omega)
          clear hr1 hf1 L3
          go_wp2_with fail
          refine hK.out _ _ ?_ (fun hHeld=>?_)
          · exact fun _=>(box1 D1.boxA)
          clear hK K
          try simp only [Act.put,List.setIfInBounds_toArray,List.set_cons_zero,List.set_cons_succ]
          refine wpAnyD_ready (rs:=[7]) (by kernel_rfl) (by simp) ?_
          refine (AllReadyD.cons (o:=_) rfl (fun K hK=>?_) AllReadyD.nil)
          clear hHeld
          go_simp
          (go_at_call 143;refine (num_any g (q+1+1) _ [1,9,-1] _ (D1.keep (w':=y1) Bl).rdr (L6.keep (w':=y1) Bl) (by omega) (by decide) (by decide) (fun k hk e=>by simp [Value.ownBlock] at hk;omega)).mono ?_;rintro e y2 ⟨x2,hx2,rfl,hr2,hf2⟩)
          have D2:=(D1.keep (w':=y1) Bl).drawn hr2 hf2 hgl (by omega) (by omega)
          have hg2:=D2.rdr.lt
          clear hr2 hf2 L6
          go_wp2_with fail
          refine hK.out _ _ ?_ (fun hHeld=>?_)
          · exact fun _=>(box1 D2.boxA)
          clear hK K
          try simp only [Act.put,List.setIfInBounds_toArray,List.set_cons_zero,List.set_cons_succ]
          refine wpAnyD_free (i:=8) (oi:=_) (v:=?_) rfl (by kernel_rfl) (by kernel_rfl) (by kernel_rfl) (by kernel_rfl) (fun _ _ _ h=>h) (Or.inl ⟨by rfl,?_⟩) hHeld (fun hHeld=>?_)
          rotate_left
          · (intro w _;first | (go_simp;done) | (go_simp;with_reducible rfl))
          try simp only [Act.put,List.setIfInBounds_toArray,List.set_cons_zero,List.set_cons_succ]
          refine wpAnyD_ready (rs:=[9]) (by kernel_rfl) (by simp) ?_
          refine (AllReadyD.cons (o:=_) rfl (fun K hK=>?_) AllReadyD.nil)
          clear hHeld
          go_simp
          refine hK.out _ _ ?_ (fun hHeld=>?_)
          · exact fun _=>cell_keep (below_alloc _ _) (box1 D2.boxA)
          clear hK K
          try simp only [Act.put,List.setIfInBounds_toArray,List.set_cons_zero,List.set_cons_succ]
          refine wpAnyD_ready (rs:=[10]) (by kernel_rfl) (by simp) ?_
          refine (AllReadyD.cons (o:=_) rfl (fun K hK=>?_) AllReadyD.nil)
          clear hHeld
          refine step_F (by rfl) (.tmp 23) (.tmp 31) _ (by rfl) ti_atom (by rfl) (D2.a.keep (below_alloc _ _)) (by rfl) (lit_atom _ _ _ _ _) (by have:=HLE.out;simp;omega) (by have:=D2.fr.size;simp;omega) ?_
          intro v' y9 hfe hfr
          obtain ⟨a',n',c',rfl⟩:=hfe.forms
          have DZ:=(D2.keep (below_alloc _ _)).app2 hgl (by omega) (by omega) hfe hfr
          have hbz:=box_tf (D2.keep (below_alloc _ _)).boxA hfr (by decide)
          have hbz0:=box1 hbz
          have hbzz:=boxz hbz 1
          clear hbz
          refine hK.out _ _ ?_ (fun hHeld=>?_)
          · exact late_none (by kernel_rfl)
          clear hK K
          try simp only [Act.put,List.setIfInBounds_toArray,List.set_cons_zero,List.set_cons_succ]
          refine wpAnyD_free (i:=11) (oi:=_) (v:=?_) rfl (by kernel_rfl) (by kernel_rfl) (by kernel_rfl) (by kernel_rfl) (fun _ _ _ h=>h) (Or.inl ⟨by rfl,?_⟩) hHeld (fun hHeld=>?_)
          rotate_left
          · (intro w _;first | (go_simp;done) | (go_simp;with_reducible rfl))
          try simp only [Act.put,List.setIfInBounds_toArray,List.set_cons_zero,List.set_cons_succ]
          refine wpAnyD_ready (rs:=[12]) (by kernel_rfl) (by simp) ?_
          refine (AllReadyD.cons (o:=_) rfl (fun K hK=>?_) AllReadyD.nil)
          clear hHeld
          go_simp
          refine hK.out _ _ ?_ (fun hHeld=>?_)
          · exact late_none (by kernel_rfl)
          clear hK K
          try simp only [Act.put,List.setIfInBounds_toArray,List.set_cons_zero,List.set_cons_succ]
          refine wpAnyD_done (by kernel_rfl) ?_ _
          clear hHeld
          have hDZ:=Lib.hid DZ
          clear DZ D D1 D2 hfe hfr hbz0 hbzz
          go_wp2
          go_meet
          case rel=>exact ⟨_,_,(a.1,a.2 ++ [(x1,x2,2)]),⟨by simp,by simp⟩,hDZ.out⟩
      · clear hHeld
        go_simp
        refine hK.out _ _ ?_ (fun hHeld=>?_)
        · exact fun _=>cell_keep (w':=(w6.drew.alloc (.cells #[.int .i64 (1),.int .i64 (9),.int .i64 (-1)] 3))) Bl (box1 D.boxA)
        clear hK K
        try simp only [Act.put,List.setIfInBounds_toArray,List.set_cons_zero,List.set_cons_succ]
        have L6:RInts (w6.drew.alloc (.cells #[.int .i64 (1),.int .i64 (9),.int .i64 (-1)] 3)) (.slice (some ⟨w6.heap.size,0,none⟩) 3 3) [1,9,-1]:=by have h:=lit_ints w6.drew [1,9,-1] (by decide);(try simp only [World.size_alloc,World.size_drew] at h);exact h
        refine wpAnyD_ready (rs:=[3]) (by kernel_rfl) (by simp) ?_
        refine (AllReadyD.cons (o:=_) rfl (fun K hK=>?_) AllReadyD.nil)
        clear hHeld
        go_simp
        refine hK.out _ _ ?_ (fun hHeld=>?_)
        · exact fun _=>cell_keep (w':=((w6.drew.alloc (.cells #[.int .i64 (1),.int .i64 (9),.int .i64 (-1)] 3)).alloc (.cells #[.int .i64 0,.int .i64 3,.int .i64 1] 3))) Bl (box1 D.boxA)
        clear hK K
        try simp only [Act.put,List.setIfInBounds_toArray,List.set_cons_zero,List.set_cons_succ]
        have L3:RInts ((w6.drew.alloc (.cells #[.int .i64 (1),.int .i64 (9),.int .i64 (-1)] 3)).alloc (.cells #[.int .i64 0,.int .i64 3,.int .i64 1] 3)) (.slice (some ⟨w6.heap.size+1,0,none⟩) 3 3) [0,3,1]:=by have h:=lit_ints (w6.drew.alloc (.cells #[.int .i64 (1),.int .i64 (9),.int .i64 (-1)] 3)) [0,3,1] (by decide);(try simp only [World.size_alloc,World.size_drew] at h);exact h
        refine wpAnyD_ready (rs:=[4]) (by kernel_rfl) (by simp) ?_
        refine (AllReadyD.cons (o:=_) rfl (fun K hK=>?_) AllReadyD.nil)
        clear hHeld
        go_simp
        (go_at_call 143;refine (num_any g (q+1) _ [0,3,1] _ (D.keep (w':=((w6.drew.alloc (.cells #[.int .i64 (1),.int .i64 (9),.int .i64 (-1)] 3)).alloc (.cells #[.int .i64 0,.int .i64 3,.int .i64 1] 3))) Bl).rdr (L3.keep (w':=((w6.drew.alloc (.cells #[.int .i64 (1),.int .i64 (9),.int .i64 (-1)] 3)).alloc (.cells #[.int .i64 0,.int .i64 3,.int .i64 1] 3))) Bl) (by omega) (by decide) (by decide) (fun k hk e=>by simp [Value.ownBlock] at hk;omega)).mono ?_;rintro e y1 ⟨x1,hx1,rfl,hr1,hf1⟩)
        have D1:=(D.keep (w':=((w6.drew.alloc (.cells #[.int .i64 (1),.int .i64 (9),.int .i64 (-1)] 3)).alloc (.cells #[.int .i64 0,.int .i64 3,.int .i64 1] 3))) Bl).drawn hr1 hf1 hgl (by omega) (by omega)
        have hg1:=D1.rdr.lt
        replace L6:=RInts.kept (L6.keep (w':=((w6.drew.alloc (.cells #[.int .i64 (1),.int .i64 (9),.int .i64 (-1)] 3)).alloc (.cells #[.int .i64 0,.int .i64 3,.int .i64 1] 3))) Bl) hf1 (fun k hk e=>by simp [Value.ownBlock] at hk;omega)
        clear hr1 hf1 L3
        go_wp2_with fail
        refine hK.out _ _ ?_ (fun hHeld=>?_)
        · exact fun _=>(box1 D1.boxA)
        clear hK K
        try simp only [Act.put,List.setIfInBounds_toArray,List.set_cons_zero,List.set_cons_succ]
        refine wpAnyD_ready (rs:=[7]) (by kernel_rfl) (by simp) ?_
        refine (AllReadyD.cons (o:=_) rfl (fun K hK=>?_) AllReadyD.nil)
        clear hHeld
        go_simp
        (go_at_call 143;refine (num_any g (q+1+1) _ [1,9,-1] _ (D1.keep (w':=y1) Bl).rdr (L6.keep (w':=y1) Bl) (by omega) (by decide) (by decide) (fun k hk e=>by simp [Value.ownBlock] at hk;omega)).mono ?_;rintro e y2 ⟨x2,hx2,rfl,hr2,hf2⟩)
        have D2:=(D1.keep (w':=y1) Bl).drawn hr2 hf2 hgl (by omega) (by omega)
        have hg2:=D2.rdr.lt
        clear hr2 hf2 L6
        go_wp2_with fail
        refine hK.out _ _ ?_ (fun hHeld=>?_)
        · exact fun _=>(box1 D2.boxA)
        clear hK K
        try simp only [Act.put,List.setIfInBounds_toArray,List.set_cons_zero,List.set_cons_succ]
        refine wpAnyD_free (i:=8) (oi:=_) (v:=?_) rfl (by kernel_rfl) (by kernel_rfl) (by kernel_rfl) (by kernel_rfl) (fun _ _ _ h=>h) (Or.inl ⟨by rfl,?_⟩) hHeld (fun hHeld=>?_)
        rotate_left
        · (intro w _;first | (go_simp;done) | (go_simp;with_reducible rfl))
        try simp only [Act.put,List.setIfInBounds_toArray,List.set_cons_zero,List.set_cons_succ]
        refine wpAnyD_ready (rs:=[9]) (by kernel_rfl) (by simp) ?_
        refine (AllReadyD.cons (o:=_) rfl (fun K hK=>?_) AllReadyD.nil)
        clear hHeld
        go_simp
        refine hK.out _ _ ?_ (fun hHeld=>?_)
        · exact fun _=>cell_keep (below_alloc _ _) (box1 D2.boxA)
        clear hK K
        try simp only [Act.put,List.setIfInBounds_toArray,List.set_cons_zero,List.set_cons_succ]
        refine wpAnyD_ready (rs:=[10]) (by kernel_rfl) (by simp) ?_
        refine (AllReadyD.cons (o:=_) rfl (fun K hK=>?_) AllReadyD.nil)
        clear hHeld
        refine step_F (by rfl) (.tmp 23) (.tmp 31) _ (by rfl) ti_atom (by rfl) (D2.a.keep (below_alloc _ _)) (by rfl) (lit_atom _ _ _ _ _) (by have:=HLE.out;simp;omega) (by have:=D2.fr.size;simp;omega) ?_
        intro v' y9 hfe hfr
        obtain ⟨a',n',c',rfl⟩:=hfe.forms
        have DZ:=(D2.keep (below_alloc _ _)).app2 hgl (by omega) (by omega) hfe hfr
        have hbz:=box_tf (D2.keep (below_alloc _ _)).boxA hfr (by decide)
        have hbz0:=box1 hbz
        have hbzz:=boxz hbz 1
        clear hbz
        refine hK.out _ _ ?_ (fun hHeld=>?_)
        · exact late_none (by kernel_rfl)
        clear hK K
        try simp only [Act.put,List.setIfInBounds_toArray,List.set_cons_zero,List.set_cons_succ]
        refine wpAnyD_free (i:=11) (oi:=_) (v:=?_) rfl (by kernel_rfl) (by kernel_rfl) (by kernel_rfl) (by kernel_rfl) (fun _ _ _ h=>h) (Or.inl ⟨by rfl,?_⟩) hHeld (fun hHeld=>?_)
        rotate_left
        · (intro w _;first | (go_simp;done) | (go_simp;with_reducible rfl))
        try simp only [Act.put,List.setIfInBounds_toArray,List.set_cons_zero,List.set_cons_succ]
        refine wpAnyD_ready (rs:=[12]) (by kernel_rfl) (by simp) ?_
        refine (AllReadyD.cons (o:=_) rfl (fun K hK=>?_) AllReadyD.nil)
        clear hHeld
        go_simp
        refine hK.out _ _ ?_ (fun hHeld=>?_)
        · exact late_none (by kernel_rfl)
        clear hK K
        try simp only [Act.put,List.setIfInBounds_toArray,List.set_cons_zero,List.set_cons_succ]
        refine wpAnyD_done (by kernel_rfl) ?_ _
        clear hHeld
        have hDZ:=Lib.hid DZ
        clear DZ D D1 D2 hfe hfr hbz0 hbzz
        go_wp2
        go_meet
        case rel=>exact ⟨_,_,(a.1,a.2 ++ [(x1,x2,2)]),⟨by simp,by simp⟩,hDZ.out⟩
    · have kb1:((k:Int) == 1)=false:=by simp;omega
      by_cases hk2:k=2
      · subst hk2
        have HD:=Lib.hid D
        clear D hc0 hc1 hcz
        go_wp2
        go_loopg [] (7 - a.2.length) (fun qq wr=>∃ (y2:Value) (l2:List Atom),qq=7 - l2.length∧l2.length≤a.2.length+7∧DA w wr g (q+1) (w.heap.size+1) w5.heap.size (.slice d1 a.1.length k1) y2 a.1 l2)
        case atStart=>exact ⟨_,a.2,rfl,by omega,HD.out⟩
        case round =>
         obtain ⟨y2,l2,hq',hle,D⟩:=hrel
         obtain ⟨a',c',rfl⟩:=D.a.form
         have hz:w.heap.size≤wr.heap.size:=D.fr.size
         have HQ:=Lib.hid hq'
         have c0:=box0 D.boxA
         have c1:=box1 D.boxA
         have cz:=boxz D.boxA
         have cl:=box_lt D.boxA
         have HDD:=Lib.hid D
         clear hq' D
         by_cases h6:l2.length≤6
         · have hi:(l2.length:Int)≤6:=by omega
           go_wp2_with (at_builtin;go_must (refine app_F (l:=l2) (m:=[(2,1,1)]) (B:=w.heap.size) rfl (.tmp 41) (.tmp 43) _ rfl ti_atom rfl (HDD.out.a.keep (below_alloc _ _)) rfl (lit_atom _ _ _ _ _) (by simp;omega) (by simp;omega) ?_;intro v8 w8 o8 hf8;obtain ⟨a8,n8,c8,rfl⟩:=o8.forms;have hA8:=box_tf (HDD.out.keep (below_alloc wr (.cells #[.int .i64 2,.int .i64 1,.int .i64 1] 118))).boxA hf8 (by decide);have e81:=box1 hA8;have z81:=boxz hA8 1;have l81:=box_lt hA8;clear hA8))
           have DZ:=(HDD.out.keep (below_alloc wr (.cells #[.int .i64 2,.int .i64 1,.int .i64 1] 118))).app2 hgl (by omega) (by omega) o8 hf8
           have HZ:=Lib.hid DZ
           clear DZ o8 hf8
           go_roundg (7 - (l2.length+1))
           case rel=>exact ⟨_,l2 ++ [(2,1,1)],by simp,by simp;omega,HZ.out⟩
           case measure=>have:=HQ.out;omega
         · have hi:(6:Int) < (l2.length:Int):=by omega
           go_wp2
           go_meet
           case rel=>exact ⟨_,_,(a.1,l2),⟨by simp,hle⟩,da_more2 HDD.out (by omega)⟩
      · have kb2:((k:Int) == 2)=false:=by simp;omega
        have HD:=Lib.hid D
        clear D
        go_wp2
        go_meet
        case rel=>exact ⟨_,_,a,⟨by omega,by omega⟩,da_more2 HD.out (by omega)⟩
 case rest =>
  obtain ⟨y1,y2,b,hbl,D⟩:=hcut
  obtain ⟨e1,m1,rfl⟩:=D.f.form
  obtain ⟨e2,m2,rfl⟩:=D.a.form
  have ha0:=box0 D.boxR
  have ha1:=box1 D.boxR
  have haz:=boxz D.boxR
  have hal:=box_lt D.boxR
  have hb0:=box0 D.boxA
  have hb1:=box1 D.boxA
  have hblt:=box_lt D.boxA
  have HD:=Lib.hid (And.intro D hbl)
  clear D hbl hc0 hc1 hcz
  go_wp2
  have hD:=HD.out.1.done hgl (by omega) (.slice e1 b.1.length m1) (.slice e2 b.2.length m2)
  refine bodyPost_ret (v:=.agg #[.slice e1 b.1.length m1,.slice e2 b.2.length m2]) (by simp [results,Tryz.results60,go_sem,ha0,ha1]) rfl ?_
  exact ⟨_,_,b,rfl,HD.out.2,hD.1.1,hD.1.2,hD.2.1,hD.2.2⟩
end Go.Proofs.YtkbbmjcfgcfejaaGreat
