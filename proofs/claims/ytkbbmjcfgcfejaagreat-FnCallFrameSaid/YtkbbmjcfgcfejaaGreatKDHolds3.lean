/- Walks: draws of assertions. (Printed by gen_l3draw.py.) -/
import Derived.Test.YtkbbmjcfgcfejaaGreatKDHolds2
import Derived.Test.YtkbbmjcfgcfejaaGreatKMut1
namespace Go.Proofs.YtkbbmjcfgcfejaaGreat
open Go.RowKit
theorem facts_snoc {l:List Fact} {b:Bool} {x y:Int} (h:l.all factB=true) (h1:0≤x) (h2:x≤8) (h3:0≤y) (h4:y≤8):(l ++ [(b,x,y)]).all factB=true:=by
 rw [List.all_append,h]
 have e1:=isTermB_iff.2 (And.intro h1 h2)
 have e2:=isTermB_iff.2 (And.intro h3 h4)
 simp [factB,e1,e2]
theorem atoms_snoc {l:List Atom} {x:Atom} (h:l.all atomB=true) (hx:atomB x=true):(l ++ [x]).all atomB=true:=by
 rw [List.all_append,h];simp [hx]
theorem da_more {w0 w:World} {g q q' bR bA:Nat} {v1 v2:Value} {l1:List Fact} {l2:List Atom} (h:DA w0 w g q bR bA v1 v2 l1 l2) (hq:q≤q'):DA w0 w g q' bR bA v1 v2 l1 l2 :=
 ⟨h.f,h.a,h.boxR,h.boxA,h.rdr.more hq,h.fr⟩
set_option linter.unusedSimpArgs false in
set_option maxRecDepth 100000 in
set_option maxHeartbeats 12800000 in
theorem l3Draw_any (g q:Nat) (w:World) (hr:Rdr w g q) (hq:q≤900000) :
 Calls Tryz.prog 295 #[.pointer (some ⟨g,0,none⟩)] w fun e w'=>∃ v1 v2 a,e=.returned (.agg #[v1,v2])∧asnB a=true∧FE w' w.heap.size v1 a.1∧FE w' w.heap.size v2 a.2∧Rdr w' g (q+30)∧Fr (fun j=>j=g) w w':=by
 have hgl:=hr.lt
 have D0:DA w ((w.alloc (.cells #[.slice none 0 0,.slice none 0 0] 26)).alloc (.cells #[.slice none 0 0,.slice none 0 0] 26)) g q w.heap.size (w.heap.size+1) (.slice none 0 0) (.slice none 0 0) [] [] :=
  ⟨FE.nil _ _ _,FE.nil _ _ _,box_keep (heap_alloc_new w _) (below_alloc _ _),by have:=heap_alloc_new (w.alloc (.cells #[.slice none 0 0,.slice none 0 0] 26)) (.cells #[.slice none 0 0,.slice none 0 0] 26);rwa [World.size_alloc] at this,
    (hr.keep (below_alloc _ _)).keep (below_alloc _ _),(Below.fr (bt (below_alloc w _) (below_alloc _ _))).mono fun _ _ h=>h.elim⟩
 have hlit:=lit_ints ((w.alloc (.cells #[.slice none 0 0,.slice none 0 0] 26)).alloc (.cells #[.slice none 0 0,.slice none 0 0] 26)) [1,0,2,0] (by decide)
 simp only [World.size_alloc] at hlit
 have HLIT:=Lib.hid hlit
 clear hlit
 go_enter Tryz.func295,Tryz.ntmps295
 go_wp2_with fail
 refine (num_any g q _ [1,0,2,0] _ (D0.rdr.keep (below_alloc _ _)) HLIT.out (by omega) (by decide) (by decide) (fun k hk e=>by simp [Value.ownBlock] at hk;omega)).mono ?_
 rintro e w1 ⟨x,hx,rfl,hr1,hf1⟩
 obtain ⟨m,rfl,hm⟩:∃ m:Nat,x=(m:Int)∧m≤2:=⟨x.toNat,by simp at hx;omega,by simp at hx;omega⟩
 have D1:=(D0.keep (below_alloc _ _)).drawn hr1 hf1 hgl (by omega) (by omega)
 have HM:=Lib.hid hm
 clear D0 hr1 hf1 hx hr hm HLIT
 go_wp2
 go_loopg [4] m (fun k i wr=>∃ (v1:Value) (l1:List Fact),i=.int .i64 (k:Nat)∧l1.length+k≤2∧l1.all factB=true∧DA w wr g (q+1+3 * l1.length) w.heap.size (w.heap.size+1) v1 (.slice none 0 0) l1 [])
 case atStart=>exact ⟨_,[],rfl,by have:=HM.out;simpa using this,rfl,D1⟩
 case round =>
  clear D1
  obtain ⟨v1,l1,rfl,hle,hall,D⟩:=hrel
  obtain ⟨a1,c1,rfl⟩:=D.f.form
  have HLE:=Lib.hid hle
  have HA:=Lib.hid hall
  have hll:l1.length≤2:=by omega
  have hg2:(gk:Int)≤2:=by omega
  have hc0:=box0 D.boxA
  have hzz:=box_lt D.boxA
  clear hle hall
  by_cases hk0:0 < gk
  · have hki:(0:Int) < (gk:Int):=by omega
    go_wp2
    refine wp_region_late (S:=(fun w'=>w'.cell? ⟨w.heap.size+1,0,none⟩=some (.slice a1 l1.length c1))) (dep:=[13,15]) (by kernel_rfl) (cell_keep (below_drew _) (box0 D.boxA)) (fun hHeld=>?_)
    refine wpAnyD_free (i:=0) (oi:=_) (v:=?_) rfl (by kernel_rfl) (by kernel_rfl) (by kernel_rfl) (by kernel_rfl) (fun _ _ _ h=>h) (Or.inl ⟨by rfl,?_⟩) hHeld (fun hHeld=>?_)
    rotate_left
    · (intro w _;first | (go_simp;done) | (go_simp;with_reducible rfl))
    try simp only [Act.put,List.setIfInBounds_toArray,List.set_cons_zero,List.set_cons_succ]
    refine wpAnyD_free (i:=2) (oi:=_) (v:=?_) rfl (by kernel_rfl) (by kernel_rfl) (by kernel_rfl) (by kernel_rfl) (fun _ _ _ h=>h) (Or.inl ⟨by rfl,?_⟩) hHeld (fun hHeld=>?_)
    rotate_left
    · (intro w _;first | (go_simp;done) | (go_simp;with_reducible rfl))
    try simp only [Act.put,List.setIfInBounds_toArray,List.set_cons_zero,List.set_cons_succ]
    refine wpAnyD_free (i:=5) (oi:=_) (v:=?_) rfl (by kernel_rfl) (by kernel_rfl) (by kernel_rfl) (by kernel_rfl) (fun _ _ _ h=>h) (Or.inl ⟨by rfl,?_⟩) hHeld (fun hHeld=>?_)
    rotate_left
    · (intro w _;first | (go_simp;done) | (go_simp;with_reducible rfl))
    try simp only [Act.put,List.setIfInBounds_toArray,List.set_cons_zero,List.set_cons_succ]
    refine wpAnyD_free (i:=8) (oi:=_) (v:=?_) rfl (by kernel_rfl) (by kernel_rfl) (by kernel_rfl) (by kernel_rfl) (fun _ _ _ h=>h) (Or.inl ⟨by rfl,?_⟩) hHeld (fun hHeld=>?_)
    rotate_left
    · (intro w _;first | (go_simp;done) | (go_simp;with_reducible rfl))
    try simp only [Act.put,List.setIfInBounds_toArray,List.set_cons_zero,List.set_cons_succ]
    refine wpAnyD_take (i:=1) (oi:=_) (v:=?_) rfl (by kernel_rfl) (by kernel_rfl) (by kernel_rfl) (by kernel_rfl) (by kernel_rfl) (fun _ _ _ h=>h) (Or.inl ⟨by rfl,?_⟩) (hHeld (early_of (by kernel_rfl))) ?_
    rotate_left
    · (intro w hSw;(try dsimp only at hSw);first | (go_simp;done) | (go_simp;with_reducible rfl))
    try simp only [Act.put,List.setIfInBounds_toArray,List.set_cons_zero,List.set_cons_succ]
    replace hHeld:=fun (he:Early _ _)=>hHeld (Early.of_set (i:=1) he (by decide))
    refine wpAnyD_ready (rs:=[3,6,9]) (by kernel_rfl) (by simp) ?_
    refine (AllReadyD.cons (o:=_) rfl (fun K hK=>?_) (AllReadyD.cons (o:=_) rfl (fun K hK=>?_) (AllReadyD.cons (o:=_) rfl (fun K hK=>?_) AllReadyD.nil)))
    · clear hHeld
      go_simp
      (go_at_call 134;refine (pick_any g (q+1+3 * l1.length) 3 _ (D.keep (w':=wr.drew) Bl).rdr (by omega) (by decide) (by decide)).mono ?_;rintro e y1 ⟨k1,rfl,hk1,hr1,hf1⟩)
      have D1:=(D.keep (w':=wr.drew) Bl).drawn hr1 hf1 hgl (by omega) (by omega)
      have hg1:=D1.rdr.lt
      clear hr1 hf1
      go_wp2_with fail
      refine hK.out _ _ ?_ (fun hHeld=>?_)
      · exact fun _=>(box0 D1.boxA)
      clear hK K
      try simp only [Act.put,List.setIfInBounds_toArray,List.set_cons_zero,List.set_cons_succ]
      refine wpAnyD_free (i:=4) (oi:=_) (v:=?_) rfl (by kernel_rfl) (by kernel_rfl) (by kernel_rfl) (by kernel_rfl) (fun _ _ _ h=>h) (Or.inl ⟨by rfl,?_⟩) hHeld (fun hHeld=>?_)
      rotate_left
      · (intro w _;first | (go_simp;done) | (go_simp;with_reducible rfl))
      try simp only [Act.put,List.setIfInBounds_toArray,List.set_cons_zero,List.set_cons_succ]
      refine wpAnyD_ready (rs:=[6,9]) (by kernel_rfl) (by simp) ?_
      refine (AllReadyD.cons (o:=_) rfl (fun K hK=>?_) (AllReadyD.cons (o:=_) rfl (fun K hK=>?_) AllReadyD.nil))
      · clear hHeld
        go_simp
        refine hK.out _ _ ?_ (fun hHeld=>?_)
        · exact fun _=>cell_keep (w':=(y1.alloc (.cells #[.int .i64 1,.int .i64 2,.int .i64 3,.int .i64 5] 3))) Bl (box0 D1.boxA)
        clear hK K
        try simp only [Act.put,List.setIfInBounds_toArray,List.set_cons_zero,List.set_cons_succ]
        have L6:RInts (y1.alloc (.cells #[.int .i64 1,.int .i64 2,.int .i64 3,.int .i64 5] 3)) (.slice (some ⟨y1.heap.size,0,none⟩) 4 4) [1,2,3,5]:=by have h:=lit_ints y1 [1,2,3,5] (by decide);(try simp only [World.size_alloc,World.size_drew] at h);exact h
        refine wpAnyD_ready (rs:=[7,9]) (by kernel_rfl) (by simp) ?_
        refine (AllReadyD.cons (o:=_) rfl (fun K hK=>?_) (AllReadyD.cons (o:=_) rfl (fun K hK=>?_) AllReadyD.nil))
        · clear hHeld
          go_simp
          (go_at_call 143;refine (num_any g (q+1+3 * l1.length+1) _ [1,2,3,5] _ (D1.keep (w':=(y1.alloc (.cells #[.int .i64 1,.int .i64 2,.int .i64 3,.int .i64 5] 3))) Bl).rdr (L6.keep (w':=(y1.alloc (.cells #[.int .i64 1,.int .i64 2,.int .i64 3,.int .i64 5] 3))) Bl) (by omega) (by decide) (by decide) (fun k hk e=>by simp [Value.ownBlock] at hk;omega)).mono ?_;rintro e y2 ⟨x2,hx2,rfl,hr2,hf2⟩)
          have D2:=(D1.keep (w':=(y1.alloc (.cells #[.int .i64 1,.int .i64 2,.int .i64 3,.int .i64 5] 3))) Bl).drawn hr2 hf2 hgl (by omega) (by omega)
          have hg2:=D2.rdr.lt
          clear hr2 hf2 L6
          go_wp2_with fail
          refine hK.out _ _ ?_ (fun hHeld=>?_)
          · exact fun _=>(box0 D2.boxA)
          clear hK K
          try simp only [Act.put,List.setIfInBounds_toArray,List.set_cons_zero,List.set_cons_succ]
          refine wpAnyD_ready (rs:=[9]) (by kernel_rfl) (by simp) ?_
          refine (AllReadyD.cons (o:=_) rfl (fun K hK=>?_) AllReadyD.nil)
          clear hHeld
          go_simp
          refine hK.out _ _ ?_ (fun hHeld=>?_)
          · exact fun _=>cell_keep (w':=(y2.alloc (.cells #[.int .i64 0,.int .i64 2,.int .i64 3,.int .i64 1,.int .i64 6] 3))) Bl (box0 D2.boxA)
          clear hK K
          try simp only [Act.put,List.setIfInBounds_toArray,List.set_cons_zero,List.set_cons_succ]
          have L9:RInts (y2.alloc (.cells #[.int .i64 0,.int .i64 2,.int .i64 3,.int .i64 1,.int .i64 6] 3)) (.slice (some ⟨y2.heap.size,0,none⟩) 5 5) [0,2,3,1,6]:=by have h:=lit_ints y2 [0,2,3,1,6] (by decide);(try simp only [World.size_alloc,World.size_drew] at h);exact h
          refine wpAnyD_ready (rs:=[10]) (by kernel_rfl) (by simp) ?_
          refine (AllReadyD.cons (o:=_) rfl (fun K hK=>?_) AllReadyD.nil)
          clear hHeld
          go_simp
          (go_at_call 143;refine (num_any g (q+1+3 * l1.length+1+1) _ [0,2,3,1,6] _ (D2.keep (w':=(y2.alloc (.cells #[.int .i64 0,.int .i64 2,.int .i64 3,.int .i64 1,.int .i64 6] 3))) Bl).rdr (L9.keep (w':=(y2.alloc (.cells #[.int .i64 0,.int .i64 2,.int .i64 3,.int .i64 1,.int .i64 6] 3))) Bl) (by omega) (by decide) (by decide) (fun k hk e=>by simp [Value.ownBlock] at hk;omega)).mono ?_;rintro e y3 ⟨x3,hx3,rfl,hr3,hf3⟩)
          have D3:=(D2.keep (w':=(y2.alloc (.cells #[.int .i64 0,.int .i64 2,.int .i64 3,.int .i64 1,.int .i64 6] 3))) Bl).drawn hr3 hf3 hgl (by omega) (by omega)
          have hg3:=D3.rdr.lt
          clear hr3 hf3 L9
          go_wp2_with fail
          refine hK.out _ _ ?_ (fun hHeld=>?_)
          · exact fun _=>(box0 D3.boxA)
          clear hK K
          try simp only [Act.put,List.setIfInBounds_toArray,List.set_cons_zero,List.set_cons_succ]
          refine wpAnyD_free (i:=11) (oi:=_) (v:=?_) rfl (by kernel_rfl) (by kernel_rfl) (by kernel_rfl) (by kernel_rfl) (fun _ _ _ h=>h) (Or.inl ⟨by rfl,?_⟩) hHeld (fun hHeld=>?_)
          rotate_left
          · (intro w _;first | (go_simp;done) | (go_simp;with_reducible rfl))
          try simp only [Act.put,List.setIfInBounds_toArray,List.set_cons_zero,List.set_cons_succ]
          refine wpAnyD_ready (rs:=[12]) (by kernel_rfl) (by simp) ?_
          refine (AllReadyD.cons (o:=_) rfl (fun K hK=>?_) AllReadyD.nil)
          clear hHeld
          go_simp
          refine hK.out _ _ ?_ (fun hHeld=>?_)
          · exact fun _=>cell_keep (below_alloc _ _) (box0 D3.boxA)
          clear hK K
          try simp only [Act.put,List.setIfInBounds_toArray,List.set_cons_zero,List.set_cons_succ]
          refine wpAnyD_ready (rs:=[13]) (by kernel_rfl) (by simp) ?_
          refine (AllReadyD.cons (o:=_) rfl (fun K hK=>?_) AllReadyD.nil)
          clear hHeld
          refine step_F (by rfl) (.tmp 15) (.tmp 26) _ (by rfl) ti_fact (by rfl) (D3.f.keep (below_alloc _ _)) (by rfl) (lit_fact _ _ _ _ _) (by have:=HLE.out;simp;omega) (by have:=D3.fr.size;simp;omega) ?_
          intro v' y9 hfe hfr
          obtain ⟨a',n',c',rfl⟩:=hfe.forms
          have DZ:=(D3.keep (below_alloc _ _)).app1 hgl (by omega) (by omega) hfe hfr
          have hbz:=box_tf (D3.keep (below_alloc _ _)).boxA hfr (by decide)
          have hbz0:=box0 hbz
          have hbzz:=boxz hbz 0
          clear hbz
          refine hK.out _ _ ?_ (fun hHeld=>?_)
          · exact late_none (by kernel_rfl)
          clear hK K
          try simp only [Act.put,List.setIfInBounds_toArray,List.set_cons_zero,List.set_cons_succ]
          refine wpAnyD_free (i:=14) (oi:=_) (v:=?_) rfl (by kernel_rfl) (by kernel_rfl) (by kernel_rfl) (by kernel_rfl) (fun _ _ _ h=>h) (Or.inl ⟨by rfl,?_⟩) hHeld (fun hHeld=>?_)
          rotate_left
          · (intro w _;first | (go_simp;done) | (go_simp;with_reducible rfl))
          try simp only [Act.put,List.setIfInBounds_toArray,List.set_cons_zero,List.set_cons_succ]
          refine wpAnyD_ready (rs:=[15]) (by kernel_rfl) (by simp) ?_
          refine (AllReadyD.cons (o:=_) rfl (fun K hK=>?_) AllReadyD.nil)
          clear hHeld
          go_simp
          refine hK.out _ _ ?_ (fun hHeld=>?_)
          · exact late_none (by kernel_rfl)
          clear hK K
          try simp only [Act.put,List.setIfInBounds_toArray,List.set_cons_zero,List.set_cons_succ]
          refine wpAnyD_done (by kernel_rfl) ?_ _
          clear hHeld
          have hDZ:=Lib.hid DZ
          have hx2:0≤x2∧x2≤8:=by simp at hx2;omega
          have hx3:0≤x3∧x3≤8:=by simp at hx3;omega
          have HX:=Lib.hid (And.intro hx2 hx3)
          clear DZ D1 D2 D3 hfe hfr hx2 hx3 hk1 hbz0 hbzz
          go_wp2
          go_roundg (gk - 1)
          case rel=>exact ⟨_,l1 ++ [(_,x2,x3)],by rw [show ((gk - 1:Nat):Int)=(gk:Int) - 1 by omega],by have:=HLE.out;simp;omega,facts_snoc HA.out HX.out.1.1 HX.out.1.2 HX.out.2.1 HX.out.2.2,da_more hDZ.out (by simp;omega)⟩
          case measure=>omega
        · clear hHeld
          go_simp
          refine hK.out _ _ ?_ (fun hHeld=>?_)
          · exact fun _=>cell_keep (w':=((y1.alloc (.cells #[.int .i64 1,.int .i64 2,.int .i64 3,.int .i64 5] 3)).alloc (.cells #[.int .i64 0,.int .i64 2,.int .i64 3,.int .i64 1,.int .i64 6] 3))) Bl (box0 D1.boxA)
          clear hK K
          try simp only [Act.put,List.setIfInBounds_toArray,List.set_cons_zero,List.set_cons_succ]
          have L9:RInts ((y1.alloc (.cells #[.int .i64 1,.int .i64 2,.int .i64 3,.int .i64 5] 3)).alloc (.cells #[.int .i64 0,.int .i64 2,.int .i64 3,.int .i64 1,.int .i64 6] 3)) (.slice (some ⟨y1.heap.size+1,0,none⟩) 5 5) [0,2,3,1,6]:=by have h:=lit_ints (y1.alloc (.cells #[.int .i64 1,.int .i64 2,.int .i64 3,.int .i64 5] 3)) [0,2,3,1,6] (by decide);(try simp only [World.size_alloc,World.size_drew] at h);exact h
          refine wpAnyD_ready (rs:=[7]) (by kernel_rfl) (by simp) ?_
          refine (AllReadyD.cons (o:=_) rfl (fun K hK=>?_) AllReadyD.nil)
          clear hHeld
          go_simp
          (go_at_call 143;refine (num_any g (q+1+3 * l1.length+1) _ [1,2,3,5] _ (D1.keep (w':=((y1.alloc (.cells #[.int .i64 1,.int .i64 2,.int .i64 3,.int .i64 5] 3)).alloc (.cells #[.int .i64 0,.int .i64 2,.int .i64 3,.int .i64 1,.int .i64 6] 3))) Bl).rdr (L6.keep (w':=((y1.alloc (.cells #[.int .i64 1,.int .i64 2,.int .i64 3,.int .i64 5] 3)).alloc (.cells #[.int .i64 0,.int .i64 2,.int .i64 3,.int .i64 1,.int .i64 6] 3))) Bl) (by omega) (by decide) (by decide) (fun k hk e=>by simp [Value.ownBlock] at hk;omega)).mono ?_;rintro e y2 ⟨x2,hx2,rfl,hr2,hf2⟩)
          have D2:=(D1.keep (w':=((y1.alloc (.cells #[.int .i64 1,.int .i64 2,.int .i64 3,.int .i64 5] 3)).alloc (.cells #[.int .i64 0,.int .i64 2,.int .i64 3,.int .i64 1,.int .i64 6] 3))) Bl).drawn hr2 hf2 hgl (by omega) (by omega)
          have hg2:=D2.rdr.lt
          replace L9:=RInts.kept (L9.keep (w':=((y1.alloc (.cells #[.int .i64 1,.int .i64 2,.int .i64 3,.int .i64 5] 3)).alloc (.cells #[.int .i64 0,.int .i64 2,.int .i64 3,.int .i64 1,.int .i64 6] 3))) Bl) hf2 (fun k hk e=>by simp [Value.ownBlock] at hk;omega)
          clear hr2 hf2 L6
          go_wp2_with fail
          refine hK.out _ _ ?_ (fun hHeld=>?_)
          · exact fun _=>(box0 D2.boxA)
          clear hK K
          try simp only [Act.put,List.setIfInBounds_toArray,List.set_cons_zero,List.set_cons_succ]
          refine wpAnyD_ready (rs:=[10]) (by kernel_rfl) (by simp) ?_
          refine (AllReadyD.cons (o:=_) rfl (fun K hK=>?_) AllReadyD.nil)
          clear hHeld
          go_simp
          (go_at_call 143;refine (num_any g (q+1+3 * l1.length+1+1) _ [0,2,3,1,6] _ (D2.keep (w':=y2) Bl).rdr (L9.keep (w':=y2) Bl) (by omega) (by decide) (by decide) (fun k hk e=>by simp [Value.ownBlock] at hk;omega)).mono ?_;rintro e y3 ⟨x3,hx3,rfl,hr3,hf3⟩)
          have D3:=(D2.keep (w':=y2) Bl).drawn hr3 hf3 hgl (by omega) (by omega)
          have hg3:=D3.rdr.lt
          clear hr3 hf3 L9
          go_wp2_with fail
          refine hK.out _ _ ?_ (fun hHeld=>?_)
          · exact fun _=>(box0 D3.boxA)
          clear hK K
          try simp only [Act.put,List.setIfInBounds_toArray,List.set_cons_zero,List.set_cons_succ]
          refine wpAnyD_free (i:=11) (oi:=_) (v:=?_) rfl (by kernel_rfl) (by kernel_rfl) (by kernel_rfl) (by kernel_rfl) (fun _ _ _ h=>h) (Or.inl ⟨by rfl,?_⟩) hHeld (fun hHeld=>?_)
          rotate_left
          · (intro w _;first | (go_simp;done) | (go_simp;with_reducible rfl))
          try simp only [Act.put,List.setIfInBounds_toArray,List.set_cons_zero,List.set_cons_succ]
          refine wpAnyD_ready (rs:=[12]) (by kernel_rfl) (by simp) ?_
          refine (AllReadyD.cons (o:=_) rfl (fun K hK=>?_) AllReadyD.nil)
          clear hHeld
          go_simp
          refine hK.out _ _ ?_ (fun hHeld=>?_)
          · exact fun _=>cell_keep (below_alloc _ _) (box0 D3.boxA)
          clear hK K
          try simp only [Act.put,List.setIfInBounds_toArray,List.set_cons_zero,List.set_cons_succ]
          refine wpAnyD_ready (rs:=[13]) (by kernel_rfl) (by simp) ?_
          refine (AllReadyD.cons (o:=_) rfl (fun K hK=>?_) AllReadyD.nil)
          clear hHeld
          refine step_F (by rfl) (.tmp 15) (.tmp 26) _ (by rfl) ti_fact (by rfl) (D3.f.keep (below_alloc _ _)) (by rfl) (lit_fact _ _ _ _ _) (by have:=HLE.out;simp;omega) (by have:=D3.fr.size;simp;omega) ?_
          intro v' y9 hfe hfr
          obtain ⟨a',n',c',rfl⟩:=hfe.forms
          have DZ:=(D3.keep (below_alloc _ _)).app1 hgl (by omega) (by omega) hfe hfr
          have hbz:=box_tf (D3.keep (below_alloc _ _)).boxA hfr (by decide)
          have hbz0:=box0 hbz
          have hbzz:=boxz hbz 0
          clear hbz
          refine hK.out _ _ ?_ (fun hHeld=>?_)
          · exact late_none (by kernel_rfl)
          clear hK K
          try simp only [Act.put,List.setIfInBounds_toArray,List.set_cons_zero,List.set_cons_succ]
          refine wpAnyD_free (i:=14) (oi:=_) (v:=?_) rfl (by kernel_rfl) (by kernel_rfl) (by kernel_rfl) (by kernel_rfl) (fun _ _ _ h=>h) (Or.inl ⟨by rfl,?_⟩) hHeld (fun hHeld=>?_)
          rotate_left
          · (intro w _;first | (go_simp;done) | (go_simp;with_reducible rfl))
          try simp only [Act.put,List.setIfInBounds_toArray,List.set_cons_zero,List.set_cons_succ]
          refine wpAnyD_ready (rs:=[15]) (by kernel_rfl) (by simp) ?_
          refine (AllReadyD.cons (o:=_) rfl (fun K hK=>?_) AllReadyD.nil)
          clear hHeld
          go_simp
          refine hK.out _ _ ?_ (fun hHeld=>?_)
          · exact late_none (by kernel_rfl)
          clear hK K
          try simp only [Act.put,List.setIfInBounds_toArray,List.set_cons_zero,List.set_cons_succ]
          refine wpAnyD_done (by kernel_rfl) ?_ _
          clear hHeld
          have hDZ:=Lib.hid DZ
          have hx2:0≤x2∧x2≤8:=by simp at hx2;omega
          have hx3:0≤x3∧x3≤8:=by simp at hx3;omega
          have HX:=Lib.hid (And.intro hx2 hx3)
          clear DZ D1 D2 D3 hfe hfr hx2 hx3 hk1 hbz0 hbzz
          go_wp2
          go_roundg (gk - 1)
          case rel=>exact ⟨_,l1 ++ [(_,x2,x3)],by rw [show ((gk - 1:Nat):Int)=(gk:Int) - 1 by omega],by have:=HLE.out;simp;omega,facts_snoc HA.out HX.out.1.1 HX.out.1.2 HX.out.2.1 HX.out.2.2,da_more hDZ.out (by simp;omega)⟩
          case measure=>omega
      · clear hHeld
        go_simp
        refine hK.out _ _ ?_ (fun hHeld=>?_)
        · exact fun _=>cell_keep (w':=(y1.alloc (.cells #[.int .i64 0,.int .i64 2,.int .i64 3,.int .i64 1,.int .i64 6] 3))) Bl (box0 D1.boxA)
        clear hK K
        try simp only [Act.put,List.setIfInBounds_toArray,List.set_cons_zero,List.set_cons_succ]
        have L9:RInts (y1.alloc (.cells #[.int .i64 0,.int .i64 2,.int .i64 3,.int .i64 1,.int .i64 6] 3)) (.slice (some ⟨y1.heap.size,0,none⟩) 5 5) [0,2,3,1,6]:=by have h:=lit_ints y1 [0,2,3,1,6] (by decide);(try simp only [World.size_alloc,World.size_drew] at h);exact h
        refine wpAnyD_ready (rs:=[6]) (by kernel_rfl) (by simp) ?_
        refine (AllReadyD.cons (o:=_) rfl (fun K hK=>?_) AllReadyD.nil)
        clear hHeld
        go_simp
        refine hK.out _ _ ?_ (fun hHeld=>?_)
        · exact fun _=>cell_keep (w':=((y1.alloc (.cells #[.int .i64 0,.int .i64 2,.int .i64 3,.int .i64 1,.int .i64 6] 3)).alloc (.cells #[.int .i64 1,.int .i64 2,.int .i64 3,.int .i64 5] 3))) Bl (box0 D1.boxA)
        clear hK K
        try simp only [Act.put,List.setIfInBounds_toArray,List.set_cons_zero,List.set_cons_succ]
        have L6:RInts ((y1.alloc (.cells #[.int .i64 0,.int .i64 2,.int .i64 3,.int .i64 1,.int .i64 6] 3)).alloc (.cells #[.int .i64 1,.int .i64 2,.int .i64 3,.int .i64 5] 3)) (.slice (some ⟨y1.heap.size+1,0,none⟩) 4 4) [1,2,3,5]:=by have h:=lit_ints (y1.alloc (.cells #[.int .i64 0,.int .i64 2,.int .i64 3,.int .i64 1,.int .i64 6] 3)) [1,2,3,5] (by decide);(try simp only [World.size_alloc,World.size_drew] at h);exact h
        refine wpAnyD_ready (rs:=[7]) (by kernel_rfl) (by simp) ?_
        refine (AllReadyD.cons (o:=_) rfl (fun K hK=>?_) AllReadyD.nil)
        clear hHeld
        go_simp
        (go_at_call 143;refine (num_any g (q+1+3 * l1.length+1) _ [1,2,3,5] _ (D1.keep (w':=((y1.alloc (.cells #[.int .i64 0,.int .i64 2,.int .i64 3,.int .i64 1,.int .i64 6] 3)).alloc (.cells #[.int .i64 1,.int .i64 2,.int .i64 3,.int .i64 5] 3))) Bl).rdr (L6.keep (w':=((y1.alloc (.cells #[.int .i64 0,.int .i64 2,.int .i64 3,.int .i64 1,.int .i64 6] 3)).alloc (.cells #[.int .i64 1,.int .i64 2,.int .i64 3,.int .i64 5] 3))) Bl) (by omega) (by decide) (by decide) (fun k hk e=>by simp [Value.ownBlock] at hk;omega)).mono ?_;rintro e y2 ⟨x2,hx2,rfl,hr2,hf2⟩)
        have D2:=(D1.keep (w':=((y1.alloc (.cells #[.int .i64 0,.int .i64 2,.int .i64 3,.int .i64 1,.int .i64 6] 3)).alloc (.cells #[.int .i64 1,.int .i64 2,.int .i64 3,.int .i64 5] 3))) Bl).drawn hr2 hf2 hgl (by omega) (by omega)
        have hg2:=D2.rdr.lt
        replace L9:=RInts.kept (L9.keep (w':=((y1.alloc (.cells #[.int .i64 0,.int .i64 2,.int .i64 3,.int .i64 1,.int .i64 6] 3)).alloc (.cells #[.int .i64 1,.int .i64 2,.int .i64 3,.int .i64 5] 3))) Bl) hf2 (fun k hk e=>by simp [Value.ownBlock] at hk;omega)
        clear hr2 hf2 L6
        go_wp2_with fail
        refine hK.out _ _ ?_ (fun hHeld=>?_)
        · exact fun _=>(box0 D2.boxA)
        clear hK K
        try simp only [Act.put,List.setIfInBounds_toArray,List.set_cons_zero,List.set_cons_succ]
        refine wpAnyD_ready (rs:=[10]) (by kernel_rfl) (by simp) ?_
        refine (AllReadyD.cons (o:=_) rfl (fun K hK=>?_) AllReadyD.nil)
        clear hHeld
        go_simp
        (go_at_call 143;refine (num_any g (q+1+3 * l1.length+1+1) _ [0,2,3,1,6] _ (D2.keep (w':=y2) Bl).rdr (L9.keep (w':=y2) Bl) (by omega) (by decide) (by decide) (fun k hk e=>by simp [Value.ownBlock] at hk;omega)).mono ?_;rintro e y3 ⟨x3,hx3,rfl,hr3,hf3⟩)
        have D3:=(D2.keep (w':=y2) Bl).drawn hr3 hf3 hgl (by omega) (by omega)
        have hg3:=D3.rdr.lt
        clear hr3 hf3 L9
        go_wp2_with fail
        refine hK.out _ _ ?_ (fun hHeld=>?_)
        · exact fun _=>(box0 D3.boxA)
        clear hK K
        try simp only [Act.put,List.setIfInBounds_toArray,List.set_cons_zero,List.set_cons_succ]
        refine wpAnyD_free (i:=11) (oi:=_) (v:=?_) rfl (by kernel_rfl) (by kernel_rfl) (by kernel_rfl) (by kernel_rfl) (fun _ _ _ h=>h) (Or.inl ⟨by rfl,?_⟩) hHeld (fun hHeld=>?_)
        rotate_left
        · (intro w _;first | (go_simp;done) | (go_simp;with_reducible rfl))
        try simp only [Act.put,List.setIfInBounds_toArray,List.set_cons_zero,List.set_cons_succ]
        refine wpAnyD_ready (rs:=[12]) (by kernel_rfl) (by simp) ?_
        refine (AllReadyD.cons (o:=_) rfl (fun K hK=>?_) AllReadyD.nil)
        clear hHeld
        go_simp
        refine hK.out _ _ ?_ (fun hHeld=>?_)
        · exact fun _=>cell_keep (below_alloc _ _) (box0 D3.boxA)
        clear hK K
        try simp only [Act.put,List.setIfInBounds_toArray,List.set_cons_zero,List.set_cons_succ]
        refine wpAnyD_ready (rs:=[13]) (by kernel_rfl) (by simp) ?_
        refine (AllReadyD.cons (o:=_) rfl (fun K hK=>?_) AllReadyD.nil)
        clear hHeld
        refine step_F (by rfl) (.tmp 15) (.tmp 26) _ (by rfl) ti_fact (by rfl) (D3.f.keep (below_alloc _ _)) (by rfl) (lit_fact _ _ _ _ _) (by have:=HLE.out;simp;omega) (by have:=D3.fr.size;simp;omega) ?_
        intro v' y9 hfe hfr
        obtain ⟨a',n',c',rfl⟩:=hfe.forms
        have DZ:=(D3.keep (below_alloc _ _)).app1 hgl (by omega) (by omega) hfe hfr
        have hbz:=box_tf (D3.keep (below_alloc _ _)).boxA hfr (by decide)
        have hbz0:=box0 hbz
        have hbzz:=boxz hbz 0
        clear hbz
        refine hK.out _ _ ?_ (fun hHeld=>?_)
        · exact late_none (by kernel_rfl)
        clear hK K
        try simp only [Act.put,List.setIfInBounds_toArray,List.set_cons_zero,List.set_cons_succ]
        refine wpAnyD_free (i:=14) (oi:=_) (v:=?_) rfl (by kernel_rfl) (by kernel_rfl) (by kernel_rfl) (by kernel_rfl) (fun _ _ _ h=>h) (Or.inl ⟨by rfl,?_⟩) hHeld (fun hHeld=>?_)
        rotate_left
        · (intro w _;first | (go_simp;done) | (go_simp;with_reducible rfl))
        try simp only [Act.put,List.setIfInBounds_toArray,List.set_cons_zero,List.set_cons_succ]
        refine wpAnyD_ready (rs:=[15]) (by kernel_rfl) (by simp) ?_
        refine (AllReadyD.cons (o:=_) rfl (fun K hK=>?_) AllReadyD.nil)
        clear hHeld
        go_simp
        refine hK.out _ _ ?_ (fun hHeld=>?_)
        · exact late_none (by kernel_rfl)
        clear hK K
        try simp only [Act.put,List.setIfInBounds_toArray,List.set_cons_zero,List.set_cons_succ]
        refine wpAnyD_done (by kernel_rfl) ?_ _
        clear hHeld
        have hDZ:=Lib.hid DZ
        have hx2:0≤x2∧x2≤8:=by simp at hx2;omega
        have hx3:0≤x3∧x3≤8:=by simp at hx3;omega
        have HX:=Lib.hid (And.intro hx2 hx3)
        clear DZ D1 D2 D3 hfe hfr hx2 hx3 hk1 hbz0 hbzz
        go_wp2
        go_roundg (gk - 1)
        case rel=>exact ⟨_,l1 ++ [(_,x2,x3)],by rw [show ((gk - 1:Nat):Int)=(gk:Int) - 1 by omega],by have:=HLE.out;simp;omega,facts_snoc HA.out HX.out.1.1 HX.out.1.2 HX.out.2.1 HX.out.2.2,da_more hDZ.out (by simp;omega)⟩
        case measure=>omega
    · clear hHeld
      go_simp
      refine hK.out _ _ ?_ (fun hHeld=>?_)
      · exact fun _=>cell_keep (w':=(wr.drew.alloc (.cells #[.int .i64 1,.int .i64 2,.int .i64 3,.int .i64 5] 3))) Bl (box0 D.boxA)
      clear hK K
      try simp only [Act.put,List.setIfInBounds_toArray,List.set_cons_zero,List.set_cons_succ]
      have L6:RInts (wr.drew.alloc (.cells #[.int .i64 1,.int .i64 2,.int .i64 3,.int .i64 5] 3)) (.slice (some ⟨wr.heap.size,0,none⟩) 4 4) [1,2,3,5]:=by have h:=lit_ints wr.drew [1,2,3,5] (by decide);(try simp only [World.size_alloc,World.size_drew] at h);exact h
      refine wpAnyD_ready (rs:=[3,9]) (by kernel_rfl) (by simp) ?_
      refine (AllReadyD.cons (o:=_) rfl (fun K hK=>?_) (AllReadyD.cons (o:=_) rfl (fun K hK=>?_) AllReadyD.nil))
      · clear hHeld
        go_simp
        (go_at_call 134;refine (pick_any g (q+1+3 * l1.length) 3 _ (D.keep (w':=(wr.drew.alloc (.cells #[.int .i64 1,.int .i64 2,.int .i64 3,.int .i64 5] 3))) Bl).rdr (by omega) (by decide) (by decide)).mono ?_;rintro e y1 ⟨k1,rfl,hk1,hr1,hf1⟩)
        have D1:=(D.keep (w':=(wr.drew.alloc (.cells #[.int .i64 1,.int .i64 2,.int .i64 3,.int .i64 5] 3))) Bl).drawn hr1 hf1 hgl (by omega) (by omega)
        have hg1:=D1.rdr.lt
        replace L6:=RInts.kept (L6.keep (w':=(wr.drew.alloc (.cells #[.int .i64 1,.int .i64 2,.int .i64 3,.int .i64 5] 3))) Bl) hf1 (fun k hk e=>by simp [Value.ownBlock] at hk;omega)
        clear hr1 hf1
        go_wp2_with fail
        refine hK.out _ _ ?_ (fun hHeld=>?_)
        · exact fun _=>(box0 D1.boxA)
        clear hK K
        try simp only [Act.put,List.setIfInBounds_toArray,List.set_cons_zero,List.set_cons_succ]
        refine wpAnyD_free (i:=4) (oi:=_) (v:=?_) rfl (by kernel_rfl) (by kernel_rfl) (by kernel_rfl) (by kernel_rfl) (fun _ _ _ h=>h) (Or.inl ⟨by rfl,?_⟩) hHeld (fun hHeld=>?_)
        rotate_left
        · (intro w _;first | (go_simp;done) | (go_simp;with_reducible rfl))
        try simp only [Act.put,List.setIfInBounds_toArray,List.set_cons_zero,List.set_cons_succ]
        refine wpAnyD_ready (rs:=[7,9]) (by kernel_rfl) (by simp) ?_
        refine (AllReadyD.cons (o:=_) rfl (fun K hK=>?_) (AllReadyD.cons (o:=_) rfl (fun K hK=>?_) AllReadyD.nil))
        · clear hHeld
          go_simp
          (go_at_call 143;refine (num_any g (q+1+3 * l1.length+1) _ [1,2,3,5] _ (D1.keep (w':=y1) Bl).rdr (L6.keep (w':=y1) Bl) (by omega) (by decide) (by decide) (fun k hk e=>by simp [Value.ownBlock] at hk;omega)).mono ?_;rintro e y2 ⟨x2,hx2,rfl,hr2,hf2⟩)
          have D2:=(D1.keep (w':=y1) Bl).drawn hr2 hf2 hgl (by omega) (by omega)
          have hg2:=D2.rdr.lt
          clear hr2 hf2 L6
          go_wp2_with fail
          refine hK.out _ _ ?_ (fun hHeld=>?_)
          · exact fun _=>(box0 D2.boxA)
          clear hK K
          try simp only [Act.put,List.setIfInBounds_toArray,List.set_cons_zero,List.set_cons_succ]
          refine wpAnyD_ready (rs:=[9]) (by kernel_rfl) (by simp) ?_
          refine (AllReadyD.cons (o:=_) rfl (fun K hK=>?_) AllReadyD.nil)
          clear hHeld
          go_simp
          refine hK.out _ _ ?_ (fun hHeld=>?_)
          · exact fun _=>cell_keep (w':=(y2.alloc (.cells #[.int .i64 0,.int .i64 2,.int .i64 3,.int .i64 1,.int .i64 6] 3))) Bl (box0 D2.boxA)
          clear hK K
          try simp only [Act.put,List.setIfInBounds_toArray,List.set_cons_zero,List.set_cons_succ]
          have L9:RInts (y2.alloc (.cells #[.int .i64 0,.int .i64 2,.int .i64 3,.int .i64 1,.int .i64 6] 3)) (.slice (some ⟨y2.heap.size,0,none⟩) 5 5) [0,2,3,1,6]:=by have h:=lit_ints y2 [0,2,3,1,6] (by decide);(try simp only [World.size_alloc,World.size_drew] at h);exact h
          refine wpAnyD_ready (rs:=[10]) (by kernel_rfl) (by simp) ?_
          refine (AllReadyD.cons (o:=_) rfl (fun K hK=>?_) AllReadyD.nil)
          clear hHeld
          go_simp
          (go_at_call 143;refine (num_any g (q+1+3 * l1.length+1+1) _ [0,2,3,1,6] _ (D2.keep (w':=(y2.alloc (.cells #[.int .i64 0,.int .i64 2,.int .i64 3,.int .i64 1,.int .i64 6] 3))) Bl).rdr (L9.keep (w':=(y2.alloc (.cells #[.int .i64 0,.int .i64 2,.int .i64 3,.int .i64 1,.int .i64 6] 3))) Bl) (by omega) (by decide) (by decide) (fun k hk e=>by simp [Value.ownBlock] at hk;omega)).mono ?_;rintro e y3 ⟨x3,hx3,rfl,hr3,hf3⟩)
          have D3:=(D2.keep (w':=(y2.alloc (.cells #[.int .i64 0,.int .i64 2,.int .i64 3,.int .i64 1,.int .i64 6] 3))) Bl).drawn hr3 hf3 hgl (by omega) (by omega)
          have hg3:=D3.rdr.lt
          clear hr3 hf3 L9
          go_wp2_with fail
          refine hK.out _ _ ?_ (fun hHeld=>?_)
          · exact fun _=>(box0 D3.boxA)
          clear hK K
          try simp only [Act.put,List.setIfInBounds_toArray,List.set_cons_zero,List.set_cons_succ]
          refine wpAnyD_free (i:=11) (oi:=_) (v:=?_) rfl (by kernel_rfl) (by kernel_rfl) (by kernel_rfl) (by kernel_rfl) (fun _ _ _ h=>h) (Or.inl ⟨by rfl,?_⟩) hHeld (fun hHeld=>?_)
          rotate_left
          · (intro w _;first | (go_simp;done) | (go_simp;with_reducible rfl))
          try simp only [Act.put,List.setIfInBounds_toArray,List.set_cons_zero,List.set_cons_succ]
          refine wpAnyD_ready (rs:=[12]) (by kernel_rfl) (by simp) ?_
          refine (AllReadyD.cons (o:=_) rfl (fun K hK=>?_) AllReadyD.nil)
          clear hHeld
          go_simp
          refine hK.out _ _ ?_ (fun hHeld=>?_)
          · exact fun _=>cell_keep (below_alloc _ _) (box0 D3.boxA)
          clear hK K
          try simp only [Act.put,List.setIfInBounds_toArray,List.set_cons_zero,List.set_cons_succ]
          refine wpAnyD_ready (rs:=[13]) (by kernel_rfl) (by simp) ?_
          refine (AllReadyD.cons (o:=_) rfl (fun K hK=>?_) AllReadyD.nil)
          clear hHeld
          refine step_F (by rfl) (.tmp 15) (.tmp 26) _ (by rfl) ti_fact (by rfl) (D3.f.keep (below_alloc _ _)) (by rfl) (lit_fact _ _ _ _ _) (by have:=HLE.out;simp;omega) (by have:=D3.fr.size;simp;omega) ?_
          intro v' y9 hfe hfr
          obtain ⟨a',n',c',rfl⟩:=hfe.forms
          have DZ:=(D3.keep (below_alloc _ _)).app1 hgl (by omega) (by omega) hfe hfr
          have hbz:=box_tf (D3.keep (below_alloc _ _)).boxA hfr (by decide)
          have hbz0:=box0 hbz
          have hbzz:=boxz hbz 0
          clear hbz
          refine hK.out _ _ ?_ (fun hHeld=>?_)
          · exact late_none (by kernel_rfl)
          clear hK K
          try simp only [Act.put,List.setIfInBounds_toArray,List.set_cons_zero,List.set_cons_succ]
          refine wpAnyD_free (i:=14) (oi:=_) (v:=?_) rfl (by kernel_rfl) (by kernel_rfl) (by kernel_rfl) (by kernel_rfl) (fun _ _ _ h=>h) (Or.inl ⟨by rfl,?_⟩) hHeld (fun hHeld=>?_)
          rotate_left
          · (intro w _;first | (go_simp;done) | (go_simp;with_reducible rfl))
          try simp only [Act.put,List.setIfInBounds_toArray,List.set_cons_zero,List.set_cons_succ]
          refine wpAnyD_ready (rs:=[15]) (by kernel_rfl) (by simp) ?_
          refine (AllReadyD.cons (o:=_) rfl (fun K hK=>?_) AllReadyD.nil)
          clear hHeld
          go_simp
          refine hK.out _ _ ?_ (fun hHeld=>?_)
          · exact late_none (by kernel_rfl)
          clear hK K
          try simp only [Act.put,List.setIfInBounds_toArray,List.set_cons_zero,List.set_cons_succ]
          refine wpAnyD_done (by kernel_rfl) ?_ _
          clear hHeld
          have hDZ:=Lib.hid DZ
          have hx2:0≤x2∧x2≤8:=by simp at hx2;omega
          have hx3:0≤x3∧x3≤8:=by simp at hx3;omega
          have HX:=Lib.hid (And.intro hx2 hx3)
          clear DZ D1 D2 D3 hfe hfr hx2 hx3 hk1 hbz0 hbzz
          go_wp2
          go_roundg (gk - 1)
          case rel=>exact ⟨_,l1 ++ [(_,x2,x3)],by rw [show ((gk - 1:Nat):Int)=(gk:Int) - 1 by omega],by have:=HLE.out;simp;omega,facts_snoc HA.out HX.out.1.1 HX.out.1.2 HX.out.2.1 HX.out.2.2,da_more hDZ.out (by simp;omega)⟩
          case measure=>omega
        · clear hHeld
          go_simp
          refine hK.out _ _ ?_ (fun hHeld=>?_)
          · exact fun _=>cell_keep (w':=(y1.alloc (.cells #[.int .i64 0,.int .i64 2,.int .i64 3,.int .i64 1,.int .i64 6] 3))) Bl (box0 D1.boxA)
          clear hK K
          try simp only [Act.put,List.setIfInBounds_toArray,List.set_cons_zero,List.set_cons_succ]
          have L9:RInts (y1.alloc (.cells #[.int .i64 0,.int .i64 2,.int .i64 3,.int .i64 1,.int .i64 6] 3)) (.slice (some ⟨y1.heap.size,0,none⟩) 5 5) [0,2,3,1,6]:=by have h:=lit_ints y1 [0,2,3,1,6] (by decide);(try simp only [World.size_alloc,World.size_drew] at h);exact h
          refine wpAnyD_ready (rs:=[7]) (by kernel_rfl) (by simp) ?_
          refine (AllReadyD.cons (o:=_) rfl (fun K hK=>?_) AllReadyD.nil)
          clear hHeld
          go_simp
          (go_at_call 143;refine (num_any g (q+1+3 * l1.length+1) _ [1,2,3,5] _ (D1.keep (w':=(y1.alloc (.cells #[.int .i64 0,.int .i64 2,.int .i64 3,.int .i64 1,.int .i64 6] 3))) Bl).rdr (L6.keep (w':=(y1.alloc (.cells #[.int .i64 0,.int .i64 2,.int .i64 3,.int .i64 1,.int .i64 6] 3))) Bl) (by omega) (by decide) (by decide) (fun k hk e=>by simp [Value.ownBlock] at hk;omega)).mono ?_;rintro e y2 ⟨x2,hx2,rfl,hr2,hf2⟩)
          have D2:=(D1.keep (w':=(y1.alloc (.cells #[.int .i64 0,.int .i64 2,.int .i64 3,.int .i64 1,.int .i64 6] 3))) Bl).drawn hr2 hf2 hgl (by omega) (by omega)
          have hg2:=D2.rdr.lt
          replace L9:=RInts.kept (L9.keep (w':=(y1.alloc (.cells #[.int .i64 0,.int .i64 2,.int .i64 3,.int .i64 1,.int .i64 6] 3))) Bl) hf2 (fun k hk e=>by simp [Value.ownBlock] at hk;omega)
          clear hr2 hf2 L6
          go_wp2_with fail
          refine hK.out _ _ ?_ (fun hHeld=>?_)
          · exact fun _=>(box0 D2.boxA)
          clear hK K
          try simp only [Act.put,List.setIfInBounds_toArray,List.set_cons_zero,List.set_cons_succ]
          refine wpAnyD_ready (rs:=[10]) (by kernel_rfl) (by simp) ?_
          refine (AllReadyD.cons (o:=_) rfl (fun K hK=>?_) AllReadyD.nil)
          clear hHeld
          go_simp
          (go_at_call 143;refine (num_any g (q+1+3 * l1.length+1+1) _ [0,2,3,1,6] _ (D2.keep (w':=y2) Bl).rdr (L9.keep (w':=y2) Bl) (by omega) (by decide) (by decide) (fun k hk e=>by simp [Value.ownBlock] at hk;omega)).mono ?_;rintro e y3 ⟨x3,hx3,rfl,hr3,hf3⟩)
          have D3:=(D2.keep (w':=y2) Bl).drawn hr3 hf3 hgl (by omega) (by omega)
          have hg3:=D3.rdr.lt
          clear hr3 hf3 L9
          go_wp2_with fail
          refine hK.out _ _ ?_ (fun hHeld=>?_)
          · exact fun _=>(box0 D3.boxA)
          clear hK K
          try simp only [Act.put,List.setIfInBounds_toArray,List.set_cons_zero,List.set_cons_succ]
          refine wpAnyD_free (i:=11) (oi:=_) (v:=?_) rfl (by kernel_rfl) (by kernel_rfl) (by kernel_rfl) (by kernel_rfl) (fun _ _ _ h=>h) (Or.inl ⟨by rfl,?_⟩) hHeld (fun hHeld=>?_)
          rotate_left
          · (intro w _;first | (go_simp;done) | (go_simp;with_reducible rfl))
          try simp only [Act.put,List.setIfInBounds_toArray,List.set_cons_zero,List.set_cons_succ]
          refine wpAnyD_ready (rs:=[12]) (by kernel_rfl) (by simp) ?_
          refine (AllReadyD.cons (o:=_) rfl (fun K hK=>?_) AllReadyD.nil)
          clear hHeld
          go_simp
          refine hK.out _ _ ?_ (fun hHeld=>?_)
          · exact fun _=>cell_keep (below_alloc _ _) (box0 D3.boxA)
          clear hK K
          try simp only [Act.put,List.setIfInBounds_toArray,List.set_cons_zero,List.set_cons_succ]
          refine wpAnyD_ready (rs:=[13]) (by kernel_rfl) (by simp) ?_
          refine (AllReadyD.cons (o:=_) rfl (fun K hK=>?_) AllReadyD.nil)
          clear hHeld
          refine step_F (by rfl) (.tmp 15) (.tmp 26) _ (by rfl) ti_fact (by rfl) (D3.f.keep (below_alloc _ _)) (by rfl) (lit_fact _ _ _ _ _) (by have:=HLE.out;simp;omega) (by have:=D3.fr.size;simp;omega) ?_
          intro v' y9 hfe hfr
          obtain ⟨a',n',c',rfl⟩:=hfe.forms
          have DZ:=(D3.keep (below_alloc _ _)).app1 hgl (by omega) (by omega) hfe hfr
          have hbz:=box_tf (D3.keep (below_alloc _ _)).boxA hfr (by decide)
          have hbz0:=box0 hbz
          have hbzz:=boxz hbz 0
          clear hbz
          refine hK.out _ _ ?_ (fun hHeld=>?_)
          · exact late_none (by kernel_rfl)
          clear hK K
          try simp only [Act.put,List.setIfInBounds_toArray,List.set_cons_zero,List.set_cons_succ]
          refine wpAnyD_free (i:=14) (oi:=_) (v:=?_) rfl (by kernel_rfl) (by kernel_rfl) (by kernel_rfl) (by kernel_rfl) (fun _ _ _ h=>h) (Or.inl ⟨by rfl,?_⟩) hHeld (fun hHeld=>?_)
          rotate_left
          · (intro w _;first | (go_simp;done) | (go_simp;with_reducible rfl))
          try simp only [Act.put,List.setIfInBounds_toArray,List.set_cons_zero,List.set_cons_succ]
          refine wpAnyD_ready (rs:=[15]) (by kernel_rfl) (by simp) ?_
          refine (AllReadyD.cons (o:=_) rfl (fun K hK=>?_) AllReadyD.nil)
          clear hHeld
          go_simp
          refine hK.out _ _ ?_ (fun hHeld=>?_)
          · exact late_none (by kernel_rfl)
          clear hK K
          try simp only [Act.put,List.setIfInBounds_toArray,List.set_cons_zero,List.set_cons_succ]
          refine wpAnyD_done (by kernel_rfl) ?_ _
          clear hHeld
          have hDZ:=Lib.hid DZ
          have hx2:0≤x2∧x2≤8:=by simp at hx2;omega
          have hx3:0≤x3∧x3≤8:=by simp at hx3;omega
          have HX:=Lib.hid (And.intro hx2 hx3)
          clear DZ D1 D2 D3 hfe hfr hx2 hx3 hk1 hbz0 hbzz
          go_wp2
          go_roundg (gk - 1)
          case rel=>exact ⟨_,l1 ++ [(_,x2,x3)],by rw [show ((gk - 1:Nat):Int)=(gk:Int) - 1 by omega],by have:=HLE.out;simp;omega,facts_snoc HA.out HX.out.1.1 HX.out.1.2 HX.out.2.1 HX.out.2.2,da_more hDZ.out (by simp;omega)⟩
          case measure=>omega
      · clear hHeld
        go_simp
        refine hK.out _ _ ?_ (fun hHeld=>?_)
        · exact fun _=>cell_keep (w':=((wr.drew.alloc (.cells #[.int .i64 1,.int .i64 2,.int .i64 3,.int .i64 5] 3)).alloc (.cells #[.int .i64 0,.int .i64 2,.int .i64 3,.int .i64 1,.int .i64 6] 3))) Bl (box0 D.boxA)
        clear hK K
        try simp only [Act.put,List.setIfInBounds_toArray,List.set_cons_zero,List.set_cons_succ]
        have L9:RInts ((wr.drew.alloc (.cells #[.int .i64 1,.int .i64 2,.int .i64 3,.int .i64 5] 3)).alloc (.cells #[.int .i64 0,.int .i64 2,.int .i64 3,.int .i64 1,.int .i64 6] 3)) (.slice (some ⟨wr.heap.size+1,0,none⟩) 5 5) [0,2,3,1,6]:=by have h:=lit_ints (wr.drew.alloc (.cells #[.int .i64 1,.int .i64 2,.int .i64 3,.int .i64 5] 3)) [0,2,3,1,6] (by decide);(try simp only [World.size_alloc,World.size_drew] at h);exact h
        refine wpAnyD_ready (rs:=[3]) (by kernel_rfl) (by simp) ?_
        refine (AllReadyD.cons (o:=_) rfl (fun K hK=>?_) AllReadyD.nil)
        clear hHeld
        go_simp
        (go_at_call 134;refine (pick_any g (q+1+3 * l1.length) 3 _ (D.keep (w':=((wr.drew.alloc (.cells #[.int .i64 1,.int .i64 2,.int .i64 3,.int .i64 5] 3)).alloc (.cells #[.int .i64 0,.int .i64 2,.int .i64 3,.int .i64 1,.int .i64 6] 3))) Bl).rdr (by omega) (by decide) (by decide)).mono ?_;rintro e y1 ⟨k1,rfl,hk1,hr1,hf1⟩)
        have D1:=(D.keep (w':=((wr.drew.alloc (.cells #[.int .i64 1,.int .i64 2,.int .i64 3,.int .i64 5] 3)).alloc (.cells #[.int .i64 0,.int .i64 2,.int .i64 3,.int .i64 1,.int .i64 6] 3))) Bl).drawn hr1 hf1 hgl (by omega) (by omega)
        have hg1:=D1.rdr.lt
        replace L6:=RInts.kept (L6.keep (w':=((wr.drew.alloc (.cells #[.int .i64 1,.int .i64 2,.int .i64 3,.int .i64 5] 3)).alloc (.cells #[.int .i64 0,.int .i64 2,.int .i64 3,.int .i64 1,.int .i64 6] 3))) Bl) hf1 (fun k hk e=>by simp [Value.ownBlock] at hk;omega)
        replace L9:=RInts.kept (L9.keep (w':=((wr.drew.alloc (.cells #[.int .i64 1,.int .i64 2,.int .i64 3,.int .i64 5] 3)).alloc (.cells #[.int .i64 0,.int .i64 2,.int .i64 3,.int .i64 1,.int .i64 6] 3))) Bl) hf1 (fun k hk e=>by simp [Value.ownBlock] at hk;omega)
        clear hr1 hf1
        go_wp2_with fail
        refine hK.out _ _ ?_ (fun hHeld=>?_)
        · exact fun _=>(box0 D1.boxA)
        clear hK K
        try simp only [Act.put,List.setIfInBounds_toArray,List.set_cons_zero,List.set_cons_succ]
        refine wpAnyD_free (i:=4) (oi:=_) (v:=?_) rfl (by kernel_rfl) (by kernel_rfl) (by kernel_rfl) (by kernel_rfl) (fun _ _ _ h=>h) (Or.inl ⟨by rfl,?_⟩) hHeld (fun hHeld=>?_)
        rotate_left
        · (intro w _;first | (go_simp;done) | (go_simp;with_reducible rfl))
        try simp only [Act.put,List.setIfInBounds_toArray,List.set_cons_zero,List.set_cons_succ]
        refine wpAnyD_ready (rs:=[7]) (by kernel_rfl) (by simp) ?_
        refine (AllReadyD.cons (o:=_) rfl (fun K hK=>?_) AllReadyD.nil)
        clear hHeld
        go_simp
        (go_at_call 143;refine (num_any g (q+1+3 * l1.length+1) _ [1,2,3,5] _ (D1.keep (w':=y1) Bl).rdr (L6.keep (w':=y1) Bl) (by omega) (by decide) (by decide) (fun k hk e=>by simp [Value.ownBlock] at hk;omega)).mono ?_;rintro e y2 ⟨x2,hx2,rfl,hr2,hf2⟩)
        have D2:=(D1.keep (w':=y1) Bl).drawn hr2 hf2 hgl (by omega) (by omega)
        have hg2:=D2.rdr.lt
        replace L9:=RInts.kept (L9.keep (w':=y1) Bl) hf2 (fun k hk e=>by simp [Value.ownBlock] at hk;omega)
        clear hr2 hf2 L6
        go_wp2_with fail
        refine hK.out _ _ ?_ (fun hHeld=>?_)
        · exact fun _=>(box0 D2.boxA)
        clear hK K
        try simp only [Act.put,List.setIfInBounds_toArray,List.set_cons_zero,List.set_cons_succ]
        refine wpAnyD_ready (rs:=[10]) (by kernel_rfl) (by simp) ?_
        refine (AllReadyD.cons (o:=_) rfl (fun K hK=>?_) AllReadyD.nil)
        clear hHeld
        go_simp
        (go_at_call 143;refine (num_any g (q+1+3 * l1.length+1+1) _ [0,2,3,1,6] _ (D2.keep (w':=y2) Bl).rdr (L9.keep (w':=y2) Bl) (by omega) (by decide) (by decide) (fun k hk e=>by simp [Value.ownBlock] at hk;omega)).mono ?_;rintro e y3 ⟨x3,hx3,rfl,hr3,hf3⟩)
        have D3:=(D2.keep (w':=y2) Bl).drawn hr3 hf3 hgl (by omega) (by omega)
        have hg3:=D3.rdr.lt
        clear hr3 hf3 L9
        go_wp2_with fail
        refine hK.out _ _ ?_ (fun hHeld=>?_)
        · exact fun _=>(box0 D3.boxA)
        clear hK K
        try simp only [Act.put,List.setIfInBounds_toArray,List.set_cons_zero,List.set_cons_succ]
        refine wpAnyD_free (i:=11) (oi:=_) (v:=?_) rfl (by kernel_rfl) (by kernel_rfl) (by kernel_rfl) (by kernel_rfl) (fun _ _ _ h=>h) (Or.inl ⟨by rfl,?_⟩) hHeld (fun hHeld=>?_)
        rotate_left
        · (intro w _;first | (go_simp;done) | (go_simp;with_reducible rfl))
        try simp only [Act.put,List.setIfInBounds_toArray,List.set_cons_zero,List.set_cons_succ]
        refine wpAnyD_ready (rs:=[12]) (by kernel_rfl) (by simp) ?_
        refine (AllReadyD.cons (o:=_) rfl (fun K hK=>?_) AllReadyD.nil)
        clear hHeld
        go_simp
        refine hK.out _ _ ?_ (fun hHeld=>?_)
        · exact fun _=>cell_keep (below_alloc _ _) (box0 D3.boxA)
        clear hK K
        try simp only [Act.put,List.setIfInBounds_toArray,List.set_cons_zero,List.set_cons_succ]
        refine wpAnyD_ready (rs:=[13]) (by kernel_rfl) (by simp) ?_
        refine (AllReadyD.cons (o:=_) rfl (fun K hK=>?_) AllReadyD.nil)
        clear hHeld
        refine step_F (by rfl) (.tmp 15) (.tmp 26) _ (by rfl) ti_fact (by rfl) (D3.f.keep (below_alloc _ _)) (by rfl) (lit_fact _ _ _ _ _) (by have:=HLE.out;simp;omega) (by have:=D3.fr.size;simp;omega) ?_
        intro v' y9 hfe hfr
        obtain ⟨a',n',c',rfl⟩:=hfe.forms
        have DZ:=(D3.keep (below_alloc _ _)).app1 hgl (by omega) (by omega) hfe hfr
        have hbz:=box_tf (D3.keep (below_alloc _ _)).boxA hfr (by decide)
        have hbz0:=box0 hbz
        have hbzz:=boxz hbz 0
        clear hbz
        refine hK.out _ _ ?_ (fun hHeld=>?_)
        · exact late_none (by kernel_rfl)
        clear hK K
        try simp only [Act.put,List.setIfInBounds_toArray,List.set_cons_zero,List.set_cons_succ]
        refine wpAnyD_free (i:=14) (oi:=_) (v:=?_) rfl (by kernel_rfl) (by kernel_rfl) (by kernel_rfl) (by kernel_rfl) (fun _ _ _ h=>h) (Or.inl ⟨by rfl,?_⟩) hHeld (fun hHeld=>?_)
        rotate_left
        · (intro w _;first | (go_simp;done) | (go_simp;with_reducible rfl))
        try simp only [Act.put,List.setIfInBounds_toArray,List.set_cons_zero,List.set_cons_succ]
        refine wpAnyD_ready (rs:=[15]) (by kernel_rfl) (by simp) ?_
        refine (AllReadyD.cons (o:=_) rfl (fun K hK=>?_) AllReadyD.nil)
        clear hHeld
        go_simp
        refine hK.out _ _ ?_ (fun hHeld=>?_)
        · exact late_none (by kernel_rfl)
        clear hK K
        try simp only [Act.put,List.setIfInBounds_toArray,List.set_cons_zero,List.set_cons_succ]
        refine wpAnyD_done (by kernel_rfl) ?_ _
        clear hHeld
        have hDZ:=Lib.hid DZ
        have hx2:0≤x2∧x2≤8:=by simp at hx2;omega
        have hx3:0≤x3∧x3≤8:=by simp at hx3;omega
        have HX:=Lib.hid (And.intro hx2 hx3)
        clear DZ D1 D2 D3 hfe hfr hx2 hx3 hk1 hbz0 hbzz
        go_wp2
        go_roundg (gk - 1)
        case rel=>exact ⟨_,l1 ++ [(_,x2,x3)],by rw [show ((gk - 1:Nat):Int)=(gk:Int) - 1 by omega],by have:=HLE.out;simp;omega,facts_snoc HA.out HX.out.1.1 HX.out.1.2 HX.out.2.1 HX.out.2.2,da_more hDZ.out (by simp;omega)⟩
        case measure=>omega
    · clear hHeld
      go_simp
      refine hK.out _ _ ?_ (fun hHeld=>?_)
      · exact fun _=>cell_keep (w':=(wr.drew.alloc (.cells #[.int .i64 0,.int .i64 2,.int .i64 3,.int .i64 1,.int .i64 6] 3))) Bl (box0 D.boxA)
      clear hK K
      try simp only [Act.put,List.setIfInBounds_toArray,List.set_cons_zero,List.set_cons_succ]
      have L9:RInts (wr.drew.alloc (.cells #[.int .i64 0,.int .i64 2,.int .i64 3,.int .i64 1,.int .i64 6] 3)) (.slice (some ⟨wr.heap.size,0,none⟩) 5 5) [0,2,3,1,6]:=by have h:=lit_ints wr.drew [0,2,3,1,6] (by decide);(try simp only [World.size_alloc,World.size_drew] at h);exact h
      refine wpAnyD_ready (rs:=[3,6]) (by kernel_rfl) (by simp) ?_
      refine (AllReadyD.cons (o:=_) rfl (fun K hK=>?_) (AllReadyD.cons (o:=_) rfl (fun K hK=>?_) AllReadyD.nil))
      · clear hHeld
        go_simp
        (go_at_call 134;refine (pick_any g (q+1+3 * l1.length) 3 _ (D.keep (w':=(wr.drew.alloc (.cells #[.int .i64 0,.int .i64 2,.int .i64 3,.int .i64 1,.int .i64 6] 3))) Bl).rdr (by omega) (by decide) (by decide)).mono ?_;rintro e y1 ⟨k1,rfl,hk1,hr1,hf1⟩)
        have D1:=(D.keep (w':=(wr.drew.alloc (.cells #[.int .i64 0,.int .i64 2,.int .i64 3,.int .i64 1,.int .i64 6] 3))) Bl).drawn hr1 hf1 hgl (by omega) (by omega)
        have hg1:=D1.rdr.lt
        replace L9:=RInts.kept (L9.keep (w':=(wr.drew.alloc (.cells #[.int .i64 0,.int .i64 2,.int .i64 3,.int .i64 1,.int .i64 6] 3))) Bl) hf1 (fun k hk e=>by simp [Value.ownBlock] at hk;omega)
        clear hr1 hf1
        go_wp2_with fail
        refine hK.out _ _ ?_ (fun hHeld=>?_)
        · exact fun _=>(box0 D1.boxA)
        clear hK K
        try simp only [Act.put,List.setIfInBounds_toArray,List.set_cons_zero,List.set_cons_succ]
        refine wpAnyD_free (i:=4) (oi:=_) (v:=?_) rfl (by kernel_rfl) (by kernel_rfl) (by kernel_rfl) (by kernel_rfl) (fun _ _ _ h=>h) (Or.inl ⟨by rfl,?_⟩) hHeld (fun hHeld=>?_)
        rotate_left
        · (intro w _;first | (go_simp;done) | (go_simp;with_reducible rfl))
        try simp only [Act.put,List.setIfInBounds_toArray,List.set_cons_zero,List.set_cons_succ]
        refine wpAnyD_ready (rs:=[6]) (by kernel_rfl) (by simp) ?_
        refine (AllReadyD.cons (o:=_) rfl (fun K hK=>?_) AllReadyD.nil)
        clear hHeld
        go_simp
        refine hK.out _ _ ?_ (fun hHeld=>?_)
        · exact fun _=>cell_keep (w':=(y1.alloc (.cells #[.int .i64 1,.int .i64 2,.int .i64 3,.int .i64 5] 3))) Bl (box0 D1.boxA)
        clear hK K
        try simp only [Act.put,List.setIfInBounds_toArray,List.set_cons_zero,List.set_cons_succ]
        have L6:RInts (y1.alloc (.cells #[.int .i64 1,.int .i64 2,.int .i64 3,.int .i64 5] 3)) (.slice (some ⟨y1.heap.size,0,none⟩) 4 4) [1,2,3,5]:=by have h:=lit_ints y1 [1,2,3,5] (by decide);(try simp only [World.size_alloc,World.size_drew] at h);exact h
        refine wpAnyD_ready (rs:=[7]) (by kernel_rfl) (by simp) ?_
        refine (AllReadyD.cons (o:=_) rfl (fun K hK=>?_) AllReadyD.nil)
        clear hHeld
        go_simp
        (go_at_call 143;refine (num_any g (q+1+3 * l1.length+1) _ [1,2,3,5] _ (D1.keep (w':=(y1.alloc (.cells #[.int .i64 1,.int .i64 2,.int .i64 3,.int .i64 5] 3))) Bl).rdr (L6.keep (w':=(y1.alloc (.cells #[.int .i64 1,.int .i64 2,.int .i64 3,.int .i64 5] 3))) Bl) (by omega) (by decide) (by decide) (fun k hk e=>by simp [Value.ownBlock] at hk;omega)).mono ?_;rintro e y2 ⟨x2,hx2,rfl,hr2,hf2⟩)
        have D2:=(D1.keep (w':=(y1.alloc (.cells #[.int .i64 1,.int .i64 2,.int .i64 3,.int .i64 5] 3))) Bl).drawn hr2 hf2 hgl (by omega) (by omega)
        have hg2:=D2.rdr.lt
        replace L9:=RInts.kept (L9.keep (w':=(y1.alloc (.cells #[.int .i64 1,.int .i64 2,.int .i64 3,.int .i64 5] 3))) Bl) hf2 (fun k hk e=>by simp [Value.ownBlock] at hk;omega)
        clear hr2 hf2 L6
        go_wp2_with fail
        refine hK.out _ _ ?_ (fun hHeld=>?_)
        · exact fun _=>(box0 D2.boxA)
        clear hK K
        try simp only [Act.put,List.setIfInBounds_toArray,List.set_cons_zero,List.set_cons_succ]
        refine wpAnyD_ready (rs:=[10]) (by kernel_rfl) (by simp) ?_
        refine (AllReadyD.cons (o:=_) rfl (fun K hK=>?_) AllReadyD.nil)
        clear hHeld
        go_simp
        (go_at_call 143;refine (num_any g (q+1+3 * l1.length+1+1) _ [0,2,3,1,6] _ (D2.keep (w':=y2) Bl).rdr (L9.keep (w':=y2) Bl) (by omega) (by decide) (by decide) (fun k hk e=>by simp [Value.ownBlock] at hk;omega)).mono ?_;rintro e y3 ⟨x3,hx3,rfl,hr3,hf3⟩)
        have D3:=(D2.keep (w':=y2) Bl).drawn hr3 hf3 hgl (by omega) (by omega)
        have hg3:=D3.rdr.lt
        clear hr3 hf3 L9
        go_wp2_with fail
        refine hK.out _ _ ?_ (fun hHeld=>?_)
        · exact fun _=>(box0 D3.boxA)
        clear hK K
        try simp only [Act.put,List.setIfInBounds_toArray,List.set_cons_zero,List.set_cons_succ]
        refine wpAnyD_free (i:=11) (oi:=_) (v:=?_) rfl (by kernel_rfl) (by kernel_rfl) (by kernel_rfl) (by kernel_rfl) (fun _ _ _ h=>h) (Or.inl ⟨by rfl,?_⟩) hHeld (fun hHeld=>?_)
        rotate_left
        · (intro w _;first | (go_simp;done) | (go_simp;with_reducible rfl))
        try simp only [Act.put,List.setIfInBounds_toArray,List.set_cons_zero,List.set_cons_succ]
        refine wpAnyD_ready (rs:=[12]) (by kernel_rfl) (by simp) ?_
        refine (AllReadyD.cons (o:=_) rfl (fun K hK=>?_) AllReadyD.nil)
        clear hHeld
        go_simp
        refine hK.out _ _ ?_ (fun hHeld=>?_)
        · exact fun _=>cell_keep (below_alloc _ _) (box0 D3.boxA)
        clear hK K
        try simp only [Act.put,List.setIfInBounds_toArray,List.set_cons_zero,List.set_cons_succ]
        refine wpAnyD_ready (rs:=[13]) (by kernel_rfl) (by simp) ?_
        refine (AllReadyD.cons (o:=_) rfl (fun K hK=>?_) AllReadyD.nil)
        clear hHeld
        refine step_F (by rfl) (.tmp 15) (.tmp 26) _ (by rfl) ti_fact (by rfl) (D3.f.keep (below_alloc _ _)) (by rfl) (lit_fact _ _ _ _ _) (by have:=HLE.out;simp;omega) (by have:=D3.fr.size;simp;omega) ?_
        intro v' y9 hfe hfr
        obtain ⟨a',n',c',rfl⟩:=hfe.forms
        have DZ:=(D3.keep (below_alloc _ _)).app1 hgl (by omega) (by omega) hfe hfr
        have hbz:=box_tf (D3.keep (below_alloc _ _)).boxA hfr (by decide)
        have hbz0:=box0 hbz
        have hbzz:=boxz hbz 0
        clear hbz
        refine hK.out _ _ ?_ (fun hHeld=>?_)
        · exact late_none (by kernel_rfl)
        clear hK K
        try simp only [Act.put,List.setIfInBounds_toArray,List.set_cons_zero,List.set_cons_succ]
        refine wpAnyD_free (i:=14) (oi:=_) (v:=?_) rfl (by kernel_rfl) (by kernel_rfl) (by kernel_rfl) (by kernel_rfl) (fun _ _ _ h=>h) (Or.inl ⟨by rfl,?_⟩) hHeld (fun hHeld=>?_)
        rotate_left
        · (intro w _;first | (go_simp;done) | (go_simp;with_reducible rfl))
        try simp only [Act.put,List.setIfInBounds_toArray,List.set_cons_zero,List.set_cons_succ]
        refine wpAnyD_ready (rs:=[15]) (by kernel_rfl) (by simp) ?_
        refine (AllReadyD.cons (o:=_) rfl (fun K hK=>?_) AllReadyD.nil)
        clear hHeld
        go_simp
        refine hK.out _ _ ?_ (fun hHeld=>?_)
        · exact late_none (by kernel_rfl)
        clear hK K
        try simp only [Act.put,List.setIfInBounds_toArray,List.set_cons_zero,List.set_cons_succ]
        refine wpAnyD_done (by kernel_rfl) ?_ _
        clear hHeld
        have hDZ:=Lib.hid DZ
        have hx2:0≤x2∧x2≤8:=by simp at hx2;omega
        have hx3:0≤x3∧x3≤8:=by simp at hx3;omega
        have HX:=Lib.hid (And.intro hx2 hx3)
        clear DZ D1 D2 D3 hfe hfr hx2 hx3 hk1 hbz0 hbzz
        go_wp2
        go_roundg (gk - 1)
        case rel=>exact ⟨_,l1 ++ [(_,x2,x3)],by rw [show ((gk - 1:Nat):Int)=(gk:Int) - 1 by omega],by have:=HLE.out;simp;omega,facts_snoc HA.out HX.out.1.1 HX.out.1.2 HX.out.2.1 HX.out.2.2,da_more hDZ.out (by simp;omega)⟩
        case measure=>omega
      · clear hHeld
        go_simp
        refine hK.out _ _ ?_ (fun hHeld=>?_)
        · exact fun _=>cell_keep (w':=((wr.drew.alloc (.cells #[.int .i64 0,.int .i64 2,.int .i64 3,.int .i64 1,.int .i64 6] 3)).alloc (.cells #[.int .i64 1,.int .i64 2,.int .i64 3,.int .i64 5] 3))) Bl (box0 D.boxA)
        clear hK K
        try simp only [Act.put,List.setIfInBounds_toArray,List.set_cons_zero,List.set_cons_succ]
        have L6:RInts ((wr.drew.alloc (.cells #[.int .i64 0,.int .i64 2,.int .i64 3,.int .i64 1,.int .i64 6] 3)).alloc (.cells #[.int .i64 1,.int .i64 2,.int .i64 3,.int .i64 5] 3)) (.slice (some ⟨wr.heap.size+1,0,none⟩) 4 4) [1,2,3,5]:=by have h:=lit_ints (wr.drew.alloc (.cells #[.int .i64 0,.int .i64 2,.int .i64 3,.int .i64 1,.int .i64 6] 3)) [1,2,3,5] (by decide);(try simp only [World.size_alloc,World.size_drew] at h);exact h
        refine wpAnyD_ready (rs:=[3]) (by kernel_rfl) (by simp) ?_
        refine (AllReadyD.cons (o:=_) rfl (fun K hK=>?_) AllReadyD.nil)
        clear hHeld
        go_simp
        (go_at_call 134;refine (pick_any g (q+1+3 * l1.length) 3 _ (D.keep (w':=((wr.drew.alloc (.cells #[.int .i64 0,.int .i64 2,.int .i64 3,.int .i64 1,.int .i64 6] 3)).alloc (.cells #[.int .i64 1,.int .i64 2,.int .i64 3,.int .i64 5] 3))) Bl).rdr (by omega) (by decide) (by decide)).mono ?_;rintro e y1 ⟨k1,rfl,hk1,hr1,hf1⟩)
        have D1:=(D.keep (w':=((wr.drew.alloc (.cells #[.int .i64 0,.int .i64 2,.int .i64 3,.int .i64 1,.int .i64 6] 3)).alloc (.cells #[.int .i64 1,.int .i64 2,.int .i64 3,.int .i64 5] 3))) Bl).drawn hr1 hf1 hgl (by omega) (by omega)
        have hg1:=D1.rdr.lt
        replace L9:=RInts.kept (L9.keep (w':=((wr.drew.alloc (.cells #[.int .i64 0,.int .i64 2,.int .i64 3,.int .i64 1,.int .i64 6] 3)).alloc (.cells #[.int .i64 1,.int .i64 2,.int .i64 3,.int .i64 5] 3))) Bl) hf1 (fun k hk e=>by simp [Value.ownBlock] at hk;omega)
        replace L6:=RInts.kept (L6.keep (w':=((wr.drew.alloc (.cells #[.int .i64 0,.int .i64 2,.int .i64 3,.int .i64 1,.int .i64 6] 3)).alloc (.cells #[.int .i64 1,.int .i64 2,.int .i64 3,.int .i64 5] 3))) Bl) hf1 (fun k hk e=>by simp [Value.ownBlock] at hk;omega)
        clear hr1 hf1
        go_wp2_with fail
        refine hK.out _ _ ?_ (fun hHeld=>?_)
        · exact fun _=>(box0 D1.boxA)
        clear hK K
        try simp only [Act.put,List.setIfInBounds_toArray,List.set_cons_zero,List.set_cons_succ]
        refine wpAnyD_free (i:=4) (oi:=_) (v:=?_) rfl (by kernel_rfl) (by kernel_rfl) (by kernel_rfl) (by kernel_rfl) (fun _ _ _ h=>h) (Or.inl ⟨by rfl,?_⟩) hHeld (fun hHeld=>?_)
        rotate_left
        · (intro w _;first | (go_simp;done) | (go_simp;with_reducible rfl))
        try simp only [Act.put,List.setIfInBounds_toArray,List.set_cons_zero,List.set_cons_succ]
        refine wpAnyD_ready (rs:=[7]) (by kernel_rfl) (by simp) ?_
        refine (AllReadyD.cons (o:=_) rfl (fun K hK=>?_) AllReadyD.nil)
        clear hHeld
        go_simp
        (go_at_call 143;refine (num_any g (q+1+3 * l1.length+1) _ [1,2,3,5] _ (D1.keep (w':=y1) Bl).rdr (L6.keep (w':=y1) Bl) (by omega) (by decide) (by decide) (fun k hk e=>by simp [Value.ownBlock] at hk;omega)).mono ?_;rintro e y2 ⟨x2,hx2,rfl,hr2,hf2⟩)
        have D2:=(D1.keep (w':=y1) Bl).drawn hr2 hf2 hgl (by omega) (by omega)
        have hg2:=D2.rdr.lt
        replace L9:=RInts.kept (L9.keep (w':=y1) Bl) hf2 (fun k hk e=>by simp [Value.ownBlock] at hk;omega)
        clear hr2 hf2 L6
        go_wp2_with fail
        refine hK.out _ _ ?_ (fun hHeld=>?_)
        · exact fun _=>(box0 D2.boxA)
        clear hK K
        try simp only [Act.put,List.setIfInBounds_toArray,List.set_cons_zero,List.set_cons_succ]
        refine wpAnyD_ready (rs:=[10]) (by kernel_rfl) (by simp) ?_
        refine (AllReadyD.cons (o:=_) rfl (fun K hK=>?_) AllReadyD.nil)
        clear hHeld
        go_simp
        (go_at_call 143;refine (num_any g (q+1+3 * l1.length+1+1) _ [0,2,3,1,6] _ (D2.keep (w':=y2) Bl).rdr (L9.keep (w':=y2) Bl) (by omega) (by decide) (by decide) (fun k hk e=>by simp [Value.ownBlock] at hk;omega)).mono ?_;rintro e y3 ⟨x3,hx3,rfl,hr3,hf3⟩)
        have D3:=(D2.keep (w':=y2) Bl).drawn hr3 hf3 hgl (by omega) (by omega)
        have hg3:=D3.rdr.lt
        clear hr3 hf3 L9
        go_wp2_with fail
        refine hK.out _ _ ?_ (fun hHeld=>?_)
        · exact fun _=>(box0 D3.boxA)
        clear hK K
        try simp only [Act.put,List.setIfInBounds_toArray,List.set_cons_zero,List.set_cons_succ]
        refine wpAnyD_free (i:=11) (oi:=_) (v:=?_) rfl (by kernel_rfl) (by kernel_rfl) (by kernel_rfl) (by kernel_rfl) (fun _ _ _ h=>h) (Or.inl ⟨by rfl,?_⟩) hHeld (fun hHeld=>?_)
        rotate_left
        · (intro w _;first | (go_simp;done) | (go_simp;with_reducible rfl))
        try simp only [Act.put,List.setIfInBounds_toArray,List.set_cons_zero,List.set_cons_succ]
        refine wpAnyD_ready (rs:=[12]) (by kernel_rfl) (by simp) ?_
        refine (AllReadyD.cons (o:=_) rfl (fun K hK=>?_) AllReadyD.nil)
        clear hHeld
        go_simp
        refine hK.out _ _ ?_ (fun hHeld=>?_)
        · exact fun _=>cell_keep (below_alloc _ _) (box0 D3.boxA)
        clear hK K
        try simp only [Act.put,List.setIfInBounds_toArray,List.set_cons_zero,List.set_cons_succ]
        refine wpAnyD_ready (rs:=[13]) (by kernel_rfl) (by simp) ?_
        refine (AllReadyD.cons (o:=_) rfl (fun K hK=>?_) AllReadyD.nil)
        clear hHeld
        refine step_F (by rfl) (.tmp 15) (.tmp 26) _ (by rfl) ti_fact (by rfl) (D3.f.keep (below_alloc _ _)) (by rfl) (lit_fact _ _ _ _ _) (by have:=HLE.out;simp;omega) (by have:=D3.fr.size;simp;omega) ?_
        intro v' y9 hfe hfr
        obtain ⟨a',n',c',rfl⟩:=hfe.forms
        have DZ:=(D3.keep (below_alloc _ _)).app1 hgl (by omega) (by omega) hfe hfr
        have hbz:=box_tf (D3.keep (below_alloc _ _)).boxA hfr (by decide)
        have hbz0:=box0 hbz
        have hbzz:=boxz hbz 0
        clear hbz
        refine hK.out _ _ ?_ (fun hHeld=>?_)
        · exact late_none (by kernel_rfl)
        clear hK K
        try simp only [Act.put,List.setIfInBounds_toArray,List.set_cons_zero,List.set_cons_succ]
        refine wpAnyD_free (i:=14) (oi:=_) (v:=?_) rfl (by kernel_rfl) (by kernel_rfl) (by kernel_rfl) (by kernel_rfl) (fun _ _ _ h=>h) (Or.inl ⟨by rfl,?_⟩) hHeld (fun hHeld=>?_)
        rotate_left
        · (intro w _;first | (go_simp;done) | (go_simp;with_reducible rfl))
        try simp only [Act.put,List.setIfInBounds_toArray,List.set_cons_zero,List.set_cons_succ]
        refine wpAnyD_ready (rs:=[15]) (by kernel_rfl) (by simp) ?_
        refine (AllReadyD.cons (o:=_) rfl (fun K hK=>?_) AllReadyD.nil)
        clear hHeld
        go_simp
        refine hK.out _ _ ?_ (fun hHeld=>?_)
        · exact late_none (by kernel_rfl)
        clear hK K
        try simp only [Act.put,List.setIfInBounds_toArray,List.set_cons_zero,List.set_cons_succ]
        refine wpAnyD_done (by kernel_rfl) ?_ _
        clear hHeld
        have hDZ:=Lib.hid DZ
        have hx2:0≤x2∧x2≤8:=by simp at hx2;omega
        have hx3:0≤x3∧x3≤8:=by simp at hx3;omega
        have HX:=Lib.hid (And.intro hx2 hx3)
        clear DZ D1 D2 D3 hfe hfr hx2 hx3 hk1 hbz0 hbzz
        go_wp2
        go_roundg (gk - 1)
        case rel=>exact ⟨_,l1 ++ [(_,x2,x3)],by rw [show ((gk - 1:Nat):Int)=(gk:Int) - 1 by omega],by have:=HLE.out;simp;omega,facts_snoc HA.out HX.out.1.1 HX.out.1.2 HX.out.2.1 HX.out.2.2,da_more hDZ.out (by simp;omega)⟩
        case measure=>omega
  · obtain rfl:gk=0:=by omega
    obtain ⟨wo,rfl⟩:∃ wo:World,wo=wr:=⟨_,rfl⟩
    have HLL:=Lib.hid hll
    clear hg2
    go_wp2_with fail
    refine (num_any g (q+1+3 * l1.length) _ [2,1,3,2,0,4] _ (D.rdr.keep (below_alloc _ _)) (lit_ints wo [2,1,3,2,0,4] (by decide)) (by omega) (by decide) (by decide) (fun k hk e=>by simp [Value.ownBlock] at hk;omega)).mono ?_
    rintro e w2 ⟨x,hx,rfl,hr2,hf2⟩
    obtain ⟨m2,rfl,hm2⟩:∃ m2:Nat,x=(m2:Int)∧m2≤4:=⟨x.toNat,by simp at hx;omega,by simp at hx;omega⟩
    have D2:=(D.keep (below_alloc _ _)).drawn hr2 hf2 hgl (by omega) (by omega)
    have HM2:=Lib.hid hm2
    clear D hr2 hf2 hx hm2 hc0
    go_wp2
    go_loopg [5] m2 (fun k i wr=>∃ (v2:Value) (l2:List Atom),i=.int .i64 (k:Nat)∧l2.length+k≤4∧l2.all atomB=true∧DA w wr g (q+1+3 * l1.length+1+3 * l2.length) w.heap.size (w.heap.size+1) (.slice a1 l1.length c1) v2 l1 l2)
    case atStart=>exact ⟨_,[],rfl,by have:=HM2.out;simpa using this,rfl,D2⟩
    case round =>
     clear D2
     obtain ⟨v2,l2,rfl,hle2,hall2,D⟩:=hrel
     obtain ⟨a2,c2,rfl⟩:=D.a.form
     have HLE2:=Lib.hid hle2
     have HA2:=Lib.hid hall2
     have hll2:l2.length≤4:=by omega
     have hg2:(gk:Int)≤4:=by omega
     have hc1:=box1 D.boxA
     have hzz:=box_lt D.boxA
     clear hle2 hall2
     by_cases hk0:0 < gk
     · have hki:(0:Int) < (gk:Int):=by omega
       go_wp2
       refine wp_region_late (S:=(fun w'=>w'.cell? ⟨w.heap.size+1,1,none⟩=some (.slice a2 l2.length c2))) (dep:=[5,7]) (by kernel_rfl) (cell_keep (below_drew _) (box1 D.boxA)) (fun hHeld=>?_)
       refine wpAnyD_free (i:=0) (oi:=_) (v:=?_) rfl (by kernel_rfl) (by kernel_rfl) (by kernel_rfl) (by kernel_rfl) (fun _ _ _ h=>h) (Or.inl ⟨by rfl,?_⟩) hHeld (fun hHeld=>?_)
       rotate_left
       · (intro w _;first | (go_simp;done) | (go_simp;with_reducible rfl))
       try simp only [Act.put,List.setIfInBounds_toArray,List.set_cons_zero,List.set_cons_succ]
       refine wpAnyD_free (i:=2) (oi:=_) (v:=?_) rfl (by kernel_rfl) (by kernel_rfl) (by kernel_rfl) (by kernel_rfl) (fun _ _ _ h=>h) (Or.inl ⟨by rfl,?_⟩) hHeld (fun hHeld=>?_)
       rotate_left
       · (intro w _;first | (go_simp;done) | (go_simp;with_reducible rfl))
       try simp only [Act.put,List.setIfInBounds_toArray,List.set_cons_zero,List.set_cons_succ]
       refine wpAnyD_take (i:=1) (oi:=_) (v:=?_) rfl (by kernel_rfl) (by kernel_rfl) (by kernel_rfl) (by kernel_rfl) (by kernel_rfl) (fun _ _ _ h=>h) (Or.inl ⟨by rfl,?_⟩) (hHeld (early_of (by kernel_rfl))) ?_
       rotate_left
       · (intro w hSw;(try dsimp only at hSw);first | (go_simp;done) | (go_simp;with_reducible rfl))
       try simp only [Act.put,List.setIfInBounds_toArray,List.set_cons_zero,List.set_cons_succ]
       replace hHeld:=fun (he:Early _ _)=>hHeld (Early.of_set (i:=1) he (by decide))
       refine wpAnyD_ready (rs:=[3]) (by kernel_rfl) (by simp) ?_
       refine (AllReadyD.cons (o:=_) rfl (fun K hK=>?_) AllReadyD.nil)
       clear hHeld
       go_simp
       (go_at_call 308;refine (l3Point_any g (q+1+3 * l1.length+1+3 * l2.length) _ (D.keep (w':=wr.drew) Bl).rdr (by omega)).mono ?_;rintro e y1 ⟨⟨pk,pa,pb⟩,rfl,hpt,hr1,hf1⟩)
       have D1:=(D.keep (w':=wr.drew) Bl).drawn hr1 hf1 hgl (by omega) (by omega)
       have hg1:=D1.rdr.lt
       clear hr1 hf1
       go_wp2_with fail
       refine hK.out _ _ ?_ (fun hHeld=>?_)
       · exact fun _=>(box1 D1.boxA)
       clear hK K
       try simp only [Act.put,List.setIfInBounds_toArray,List.set_cons_zero,List.set_cons_succ]
       refine wpAnyD_ready (rs:=[4]) (by kernel_rfl) (by simp) ?_
       refine (AllReadyD.cons (o:=_) rfl (fun K hK=>?_) AllReadyD.nil)
       clear hHeld
       go_simp
       refine hK.out _ _ ?_ (fun hHeld=>?_)
       · exact fun _=>cell_keep (below_alloc _ _) (box1 D1.boxA)
       clear hK K
       try simp only [Act.put,List.setIfInBounds_toArray,List.set_cons_zero,List.set_cons_succ]
       refine wpAnyD_ready (rs:=[5]) (by kernel_rfl) (by simp) ?_
       refine (AllReadyD.cons (o:=_) rfl (fun K hK=>?_) AllReadyD.nil)
       clear hHeld
       refine step_F (by rfl) (.tmp 37) (.tmp 40) _ (by rfl) ti_atom (by rfl) (D1.a.keep (below_alloc _ _)) (by rfl) (lit_atom _ _ _ _ _) (by have:=HLE2.out;simp;omega) (by have:=D1.fr.size;simp;omega) ?_
       intro v' y9 hfe hfr
       obtain ⟨a',n',c',rfl⟩:=hfe.forms
       have DZ:=(D1.keep (below_alloc _ _)).app2 hgl (by omega) (by omega) hfe hfr
       have hbz:=box_tf (D1.keep (below_alloc _ _)).boxA hfr (by decide)
       have hbz0:=box1 hbz
       have hbzz:=boxz hbz 1
       clear hbz
       refine hK.out _ _ ?_ (fun hHeld=>?_)
       · exact late_none (by kernel_rfl)
       clear hK K
       try simp only [Act.put,List.setIfInBounds_toArray,List.set_cons_zero,List.set_cons_succ]
       refine wpAnyD_free (i:=6) (oi:=_) (v:=?_) rfl (by kernel_rfl) (by kernel_rfl) (by kernel_rfl) (by kernel_rfl) (fun _ _ _ h=>h) (Or.inl ⟨by rfl,?_⟩) hHeld (fun hHeld=>?_)
       rotate_left
       · (intro w _;first | (go_simp;done) | (go_simp;with_reducible rfl))
       try simp only [Act.put,List.setIfInBounds_toArray,List.set_cons_zero,List.set_cons_succ]
       refine wpAnyD_ready (rs:=[7]) (by kernel_rfl) (by simp) ?_
       refine (AllReadyD.cons (o:=_) rfl (fun K hK=>?_) AllReadyD.nil)
       clear hHeld
       go_simp
       refine hK.out _ _ ?_ (fun hHeld=>?_)
       · exact late_none (by kernel_rfl)
       clear hK K
       try simp only [Act.put,List.setIfInBounds_toArray,List.set_cons_zero,List.set_cons_succ]
       refine wpAnyD_done (by kernel_rfl) ?_ _
       clear hHeld
       have hDZ:=Lib.hid DZ
       have HX:=Lib.hid hpt
       clear DZ D1 hfe hfr hpt hbz0 hbzz
       go_wp2
       go_roundg (gk - 1)
       case rel=>exact ⟨_,l2 ++ [(pk,pa,pb)],by rw [show ((gk - 1:Nat):Int)=(gk:Int) - 1 by omega],by have:=HLE2.out;simp;omega,atoms_snoc HA2.out HX.out,da_more hDZ.out (by simp;omega)⟩
       case measure=>omega
     · obtain rfl:gk=0:=by omega
       have ha0:=box0 D.boxR
       have ha1:=box1 D.boxR
       have haz:=boxz D.boxR
       have hb0:=box0 D.boxA
       have HD:=Lib.hid D
       clear D hll hll2
       go_wp2
       have hD:=HD.out.done hgl (Nat.le_refl _) (.slice a1 l1.length c1) (.slice a2 l2.length c2)
       refine bodyPost_ret (v:=.agg #[.slice a1 l1.length c1,.slice a2 l2.length c2]) (by simp [results,Tryz.results295,go_sem,ha0,ha1]) rfl ?_
       have h12:=HLL.out
       have h22:=HLE2.out
       exact ⟨_,_,(l1,l2),rfl,by simp only [asnB,factsB,HA.out,HA2.out,decide_eq_true (show l1.length≤12 by omega),decide_eq_true (show l2.length≤6 by omega)];rfl,hD.1.1,hD.1.2,hD.2.1.more (by omega),hD.2.2⟩
end Go.Proofs.YtkbbmjcfgcfejaaGreat
