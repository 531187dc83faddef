/- Walks: drawn commands (reference: l8Draw). -/
import Derived.Test.YtkbbmjcfgcfejaaGreatKCmd4
import Derived.Test.YtkbbmjcfgcfejaaGreatKDHolds3
import Derived.Deep.Cut
import Derived.Deep.CutBlock
import Derived.Deep.CutRange
import Derived.Handy
import Derived.Deep.DeepMust
set_option linter.unusedVariables false
set_option linter.unusedSimpArgs false
namespace Go.Proofs.YtkbbmjcfgcfejaaGreat
open Go.RowKit
def Fq:Nat→Nat
 | 0=>0
 | n+1=>127+9 * Fq n
def BoxC {n:Nat} (w:World) (C:Nat) (c:Cm (n+1)):Prop :=
 ∃ (a1 a2 a3 a4:Option Addr) (c1 c2 c3 c4:Nat),w.heap[C]?=some (.cells #[.int .i64 c.kind,.int .i64 c.a,.int .i64 c.b,.bool c.test.1,.int .i64 c.test.2.1,.int .i64 c.test.2.2,.slice a1 c.inv.1.length c1,.slice a2 c.inv.2.length c2,.slice a3 c.body.length c3,.slice a4 c.els.length c4] 63 (0,0)) ∧
   (RL w (fun k=>C < k) (.slice a1 c.inv.1.length c1) c.inv.1∧RL w (fun k=>C < k) (.slice a2 c.inv.2.length c2) c.inv.2)∧(RL w (fun k=>C < k) (.slice a3 c.body.length c3) c.body∧RL w (fun k=>C < k) (.slice a4 c.els.length c4) c.els)
def fewC1 {n:Nat} (c:Cm (n+1)):Prop:=asSz c.inv∧FewC n c.body∧FewC n c.els
theorem rl_nil {α:Type} [Dat α] (w:World) (S:Nat→Prop):RL w S (.slice none 0 0) ([]:List α):=.inl ⟨none,0,rfl,rfl,by unfold maxLen;omega,fun _=>rfl⟩
theorem fewC_nil:∀ n:Nat,FewC n ([]:List (Cm n))
 | 0=>trivial
 | n+1=>⟨by simp,fun c hc=>by cases hc⟩
theorem BoxC.kept {n:Nat} {w w':World} {C g:Nat} {c:Cm (n+1)} (h:BoxC w C c) (hf:Fr (fun j=>j=g) w w') (hg:g < C):BoxC w' C c:=by
 obtain ⟨a1,a2,a3,a4,c1,c2,c3,c4,hb,⟨r1,r2⟩,r3,r4⟩:=h
 have hs:∀ k,k < w.heap.size→C < k→¬ k=g:=fun k _ h e=>by omega
 exact ⟨a1,a2,a3,a4,c1,c2,c3,c4,box_kept hb hf (fun e=>by have e2:C=g:=e;omega),⟨r1.kept hf hs,r2.kept hf hs⟩,r3.kept hf hs,r4.kept hf hs⟩
theorem BoxC.plain {n:Nat} {w:World} {C:Nat} {k a b:Int} {t:Fact} (h:w.heap[C]?=some (.cells #[.int .i64 k,.int .i64 a,.int .i64 b,.bool t.1,.int .i64 t.2.1,.int .i64 t.2.2,.slice none 0 0,.slice none 0 0,.slice none 0 0,.slice none 0 0] 63 (0,0))) :
 BoxC w C (Cm.mk k a b t (([],[]):Asn) ([]:List (Cm n)) []) :=
 ⟨none,none,none,none,0,0,0,0,h,⟨rl_nil _ _,rl_nil _ _⟩,rl_nil _ _,rl_nil _ _⟩
theorem few_plain {n:Nat} (k a b:Int) (t:Fact):fewC1 (Cm.mk k a b t (([],[]):Asn) ([]:List (Cm n)) []) :=
 ⟨⟨Nat.zero_le _,Nat.zero_le _⟩,fewC_nil n,fewC_nil n⟩
theorem ten_row {w:World} {C:Nat} {T:TypeId} {x0 x1 x2 x3 x4 x5 x6 x7 x8 x9 y0 y1 y2 y3 y4 y5 y6 y7 y8 y9:Value} (h:w.heap[C]?=some (.cells #[y0,y1,y2,y3,y4,y5,y6,y7,y8,y9] T (0,0))) :
 ((((((((((w.setCell ⟨C,0,none⟩ x0).setCell ⟨C,1,none⟩ x1).setCell ⟨C,2,none⟩ x2).setCell ⟨C,3,none⟩ x3).setCell ⟨C,4,none⟩ x4).setCell ⟨C,5,none⟩ x5).setCell ⟨C,6,none⟩ x6).setCell ⟨C,7,none⟩ x7).setCell ⟨C,8,none⟩ x8).setCell ⟨C,9,none⟩ x9).heap[C]?=some (.cells #[x0,x1,x2,x3,x4,x5,x6,x7,x8,x9] T (0,0)):=by
 have h0:(w.setCell ⟨C,0,none⟩ x0).heap[C]?=some (.cells #[x0,y1,y2,y3,y4,y5,y6,y7,y8,y9] T (0,0)):=row_set h 0 x0
 have h1:((w.setCell ⟨C,0,none⟩ x0).setCell ⟨C,1,none⟩ x1).heap[C]?=some (.cells #[x0,x1,y2,y3,y4,y5,y6,y7,y8,y9] T (0,0)):=row_set h0 1 x1
 have h2:(((w.setCell ⟨C,0,none⟩ x0).setCell ⟨C,1,none⟩ x1).setCell ⟨C,2,none⟩ x2).heap[C]?=some (.cells #[x0,x1,x2,y3,y4,y5,y6,y7,y8,y9] T (0,0)):=row_set h1 2 x2
 have h3:((((w.setCell ⟨C,0,none⟩ x0).setCell ⟨C,1,none⟩ x1).setCell ⟨C,2,none⟩ x2).setCell ⟨C,3,none⟩ x3).heap[C]?=some (.cells #[x0,x1,x2,x3,y4,y5,y6,y7,y8,y9] T (0,0)):=row_set h2 3 x3
 have h4:(((((w.setCell ⟨C,0,none⟩ x0).setCell ⟨C,1,none⟩ x1).setCell ⟨C,2,none⟩ x2).setCell ⟨C,3,none⟩ x3).setCell ⟨C,4,none⟩ x4).heap[C]?=some (.cells #[x0,x1,x2,x3,x4,y5,y6,y7,y8,y9] T (0,0)):=row_set h3 4 x4
 have h5:((((((w.setCell ⟨C,0,none⟩ x0).setCell ⟨C,1,none⟩ x1).setCell ⟨C,2,none⟩ x2).setCell ⟨C,3,none⟩ x3).setCell ⟨C,4,none⟩ x4).setCell ⟨C,5,none⟩ x5).heap[C]?=some (.cells #[x0,x1,x2,x3,x4,x5,y6,y7,y8,y9] T (0,0)):=row_set h4 5 x5
 have h6:(((((((w.setCell ⟨C,0,none⟩ x0).setCell ⟨C,1,none⟩ x1).setCell ⟨C,2,none⟩ x2).setCell ⟨C,3,none⟩ x3).setCell ⟨C,4,none⟩ x4).setCell ⟨C,5,none⟩ x5).setCell ⟨C,6,none⟩ x6).heap[C]?=some (.cells #[x0,x1,x2,x3,x4,x5,x6,y7,y8,y9] T (0,0)):=row_set h5 6 x6
 have h7:((((((((w.setCell ⟨C,0,none⟩ x0).setCell ⟨C,1,none⟩ x1).setCell ⟨C,2,none⟩ x2).setCell ⟨C,3,none⟩ x3).setCell ⟨C,4,none⟩ x4).setCell ⟨C,5,none⟩ x5).setCell ⟨C,6,none⟩ x6).setCell ⟨C,7,none⟩ x7).heap[C]?=some (.cells #[x0,x1,x2,x3,x4,x5,x6,x7,y8,y9] T (0,0)):=row_set h6 7 x7
 have h8:(((((((((w.setCell ⟨C,0,none⟩ x0).setCell ⟨C,1,none⟩ x1).setCell ⟨C,2,none⟩ x2).setCell ⟨C,3,none⟩ x3).setCell ⟨C,4,none⟩ x4).setCell ⟨C,5,none⟩ x5).setCell ⟨C,6,none⟩ x6).setCell ⟨C,7,none⟩ x7).setCell ⟨C,8,none⟩ x8).heap[C]?=some (.cells #[x0,x1,x2,x3,x4,x5,x6,x7,x8,y9] T (0,0)):=row_set h7 8 x8
 have h9:((((((((((w.setCell ⟨C,0,none⟩ x0).setCell ⟨C,1,none⟩ x1).setCell ⟨C,2,none⟩ x2).setCell ⟨C,3,none⟩ x3).setCell ⟨C,4,none⟩ x4).setCell ⟨C,5,none⟩ x5).setCell ⟨C,6,none⟩ x6).setCell ⟨C,7,none⟩ x7).setCell ⟨C,8,none⟩ x8).setCell ⟨C,9,none⟩ x9).heap[C]?=some (.cells #[x0,x1,x2,x3,x4,x5,x6,x7,x8,x9] T (0,0)):=row_set h8 9 x9
 exact h9
set_option maxRecDepth 100000 in
set_option maxHeartbeats 12800000 in
theorem l8Draw_any:∀ (n:Nat) (D:Int) (g q:Nat) (w:World) (_hD:D=(n:Int)+1) (_hn:n≤100) (_hr:Rdr w g q) (_hq:q+Fq (n+1)≤900000),
 Calls Tryz.prog 278 #[.pointer (some ⟨g,0,none⟩),.int .i64 D] w fun e w'=>∃ (v:Value) (l:List (Cm (n+1))),e=.returned v∧UC w' w.heap.size v l∧(0 < l.length∧l.length≤3)∧FewC (n+1) l∧Rdr w' g (q+Fq (n+1))∧Fr (fun j=>j=g) w w':=by
 intro n
 induction n with
 | zero =>
   intro D g q w hD hn hr hq
   have hgl:=hr.lt
   have hown0:=World.ownsRow_lit (base:=w.heap.size) (size:=10) w #[] 0 (Nat.le_refl _) (by decide) (by simp) (e:=63)
   have HO:=Lib.hid hown0
   have hD1:D=1:=by omega
   have hQ2:Fq (0+1)=127:=rfl
   rw [hQ2] at hq ⊢
   subst hD1
   have HRw:=Lib.hid hr
   clear hD hn hown0 hQ2
   have hlit:=lit_ints (w.alloc (.cells #[] 63)) [2,1,3,2] (by decide)
   simp only [World.size_alloc] at hlit
   have HLIT:=Lib.hid hlit
   clear hlit
   go_enter Tryz.func278,Tryz.ntmps278
   go_wp2_with fail
   refine (num_any g q _ [2,1,3,2] _ ((hr.keep (below_alloc _ _)).keep (below_alloc _ _)) HLIT.out (by omega) (by decide) (by decide) (fun k hk e=>by simp [Value.ownBlock] at hk;omega)).mono ?_
   rintro e w1 ⟨N0,hN,rfl,hr1,hf1⟩
   obtain ⟨N,hNe,hN1,hN3⟩:∃ N:Nat,N0=(N:Int)∧1≤N∧N≤3:=by
    simp only [List.mem_cons,List.not_mem_nil,or_false] at hN
    rcases hN with rfl | rfl | rfl | rfl
    · exact ⟨2,rfl,by omega,by omega⟩
    · exact ⟨1,rfl,by omega,by omega⟩
    · exact ⟨3,rfl,by omega,by omega⟩
    · exact ⟨2,rfl,by omega,by omega⟩
   subst hNe
   have hu0:UC w1 w.heap.size (.slice (some ⟨w.heap.size,0,none⟩) 0 0) ([]:List (Cm (0+1))) :=
    (UC.keep (l:=([]:List (Cm (0+1)))) ⟨[],HO.out,fun k hk=>absurd hk (Nat.not_lt_zero k)⟩ (below_alloc (w.alloc (.cells #[] 63)) (.cells (ints [2,1,3,2]).toArray 3))).kept hf1 (fun k h1 _ e=>by have e2:k=g:=e;omega)
   have hF1:Fr (fun j=>j=g) w w1:=((Below.fr (bt (below_alloc w (.cells #[] 63)) (below_alloc (w.alloc (.cells #[] 63)) (.cells (ints [2,1,3,2]).toArray 3)))).mono (S':=fun j=>j=g) fun _ _ h=>h.elim).trans hf1
   have HST:=Lib.hid (And.intro hu0 hF1)
   clear hN hr hf1 hu0 hF1
   go_wp2
   go_loopg [5,6] N (fun z vo i wr=>∃ (m:Nat) (L:List (Cm (0+1))) (qq:Nat),m=z∧m+L.length=N∧i=.int .i64 m∧UC wr w.heap.size vo L∧(∀ c ∈ L,fewC1 c)∧Rdr wr g qq∧qq≤q+1+L.length * (42+3 * 0)∧Fr (fun j=>j=g) w wr)
   case atStart=>exact ⟨N,[],q+1,rfl,by simp,rfl,HST.out.1,fun c hc=>(by cases hc),hr1,by simp,HST.out.2⟩
   case round =>
    clear hr1
    obtain ⟨m,L,qq,hmz,hmL,rfl,huc,hfw,hr,hqq,hF⟩:=hrel
    obtain ⟨va,vc,rfl⟩:=huc.form
    have HM:=Lib.hid (And.intro hmz hmL)
    have HFW:=Lib.hid hfw
    have hs:=hF.size
    clear hmz hmL hfw
    by_cases hm0:0 < m
    · have i1:(0:Int) < (m:Int):=by omega
      have hqb:L.length * (42+3 * 0)+(42+3 * 0)≤126:=by
       have h1:L.length+1≤3:=by have:=HM.out;omega
       have h2:=Nat.mul_le_mul_right (42+3 * 0) h1
       rw [Nat.succ_mul] at h2;omega
      have hmm:m≤3:=by have:=HM.out;omega
      have HQ:=Lib.hid (And.intro hqq hqb)
      have hqs:qq+(42+3 * 0)≤900000:=by omega
      clear hqq hqb
      go_wp2_with fail
      refine (l8Simple_any g qq _ hr (by omega)).mono ?_
      rintro e w2 ⟨K,A,Bv,rfl,hK5,hr2,hf2⟩
      have hL3:L.length≤3:=by have:=HM.out;omega
      have huc2:=(huc.kept hf2 (fun k h1 _ e=>by have e2:k=g:=e;omega)).keep (below_alloc w2 (.cells #[.int .i64 K,.int .i64 A,.int .i64 Bv,.bool false,.int .i64 0,.int .i64 0,.slice none 0 0,.slice none 0 0,.slice none 0 0,.slice none 0 0] 63))
      have hF2:=(hF.trans hf2).thenB (below_alloc w2 (.cells #[.int .i64 K,.int .i64 A,.int .i64 Bv,.bool false,.int .i64 0,.int .i64 0,.slice none 0 0,.slice none 0 0,.slice none 0 0,.slice none 0 0] 63))
      have hr2b:=hr2.keep (below_alloc w2 (.cells #[.int .i64 K,.int .i64 A,.int .i64 Bv,.bool false,.int .i64 0,.int .i64 0,.slice none 0 0,.slice none 0 0,.slice none 0 0,.slice none 0 0] 63))
      have hw2:w.heap.size≤w2.heap.size:=Nat.le_trans hs hf2.size
      obtain ⟨xs,hrow,hxs⟩:=huc2
      have HX:=Lib.hid hxs
      have HRW:=Lib.hid hrow
      have HFG:=Lib.hid (And.intro hF2 hr2b)
      have i6:decide ((1:Int) < 1)=false:=by decide
      clear huc hF hr hf2 hr2 hr2b hF2 hxs hrow
      have hnews:∀ j u,(cmCells K A Bv zeroF (.slice none 0 0) (.slice none 0 0) (.slice none 0 0) (.slice none 0 0))[j]?=some u→((w2.alloc (.cells #[.int .i64 K,.int .i64 A,.int .i64 Bv,.bool false,.int .i64 0,.int .i64 0,.slice none 0 0,.slice none 0 0,.slice none 0 0,.slice none 0 0] 63)).alloc (.cells #[.int .i64 K,.int .i64 A,.int .i64 Bv,.bool false,.int .i64 0,.int .i64 0,.slice none 0 0,.slice none 0 0,.slice none 0 0,.slice none 0 0] 63)).cell? ⟨w2.heap.size+1,j,none⟩=some u:=fun j u hj=>by
       have h:=news_cm (w2.alloc (.cells #[.int .i64 K,.int .i64 A,.int .i64 Bv,.bool false,.int .i64 0,.int .i64 0,.slice none 0 0,.slice none 0 0,.slice none 0 0,.slice none 0 0] 63)) K A Bv zeroF (.slice none 0 0) (.slice none 0 0) (.slice none 0 0) (.slice none 0 0) 63 j u hj
       rw [World.size_alloc] at h
       exact h
      have HNW:=Lib.hid hnews
      clear hnews
      go_wp2_with (at_builtin;go_must (refine app_C rfl (.tmp 56) (.tmp 58) rfl rfl (own_keep HRW.out (below_alloc _ _)) rfl (by rfl) HNW.out (one_cm _ _ _ zeroF _ _ _ _ _ _ _ _ _ _ _ _) (by omega) (by simp;omega) ?_;intro v' w7 hr7 hf7 hl7;obtain ⟨za,zc,rfl⟩:=own_formG hr7))
      have hbA:=below_alloc (w2.alloc (.cells #[.int .i64 K,.int .i64 A,.int .i64 Bv,.bool false,.int .i64 0,.int .i64 0,.slice none 0 0,.slice none 0 0,.slice none 0 0,.slice none 0 0] 63)) (.cells #[.int .i64 K,.int .i64 A,.int .i64 Bv,.bool false,.int .i64 0,.int .i64 0,.slice none 0 0,.slice none 0 0,.slice none 0 0,.slice none 0 0] 63)
      have hob:=own_keep HRW.out hbA
      have hx:Dat.rd ((w2.alloc (.cells #[.int .i64 K,.int .i64 A,.int .i64 Bv,.bool false,.int .i64 0,.int .i64 0,.slice none 0 0,.slice none 0 0,.slice none 0 0,.slice none 0 0] 63)).alloc (.cells #[.int .i64 K,.int .i64 A,.int .i64 Bv,.bool false,.int .i64 0,.int .i64 0,.slice none 0 0,.slice none 0 0,.slice none 0 0,.slice none 0 0] 63)) (fun k=>w.heap.size≤k∧¬ some k=(Value.slice va L.length vc).ownBlock) (Cm.mk K A Bv zeroF (([],[]):Asn) ([]:List (Cm 0)) []) (cmCells K A Bv zeroF (.slice none 0 0) (.slice none 0 0) (.slice none 0 0) (.slice none 0 0)):=rd_cm_mk (rl_nil _ _) (rl_nil _ _) (rl_nil _ _) (rl_nil _ _)
      have hxk:∀ (k:Nat) (hk:k < L.length),_:=fun (k:Nat) (hk:k < L.length)=>Dat.kept (HX.out k hk) (Below.fr hbA) fun _ _ _ h=>h
      have huc7:=UC.snoc (x:=Cm.mk K A Bv zeroF (([],[]):Asn) ([]:List (Cm 0)) []) hob hxk hr7 hf7 hl7 hx
      have hF7:=(HFG.out.1.thenB hbA).then hf7 (fun i hi e=>absurd (own_lt HRW.out e).1 (by omega))
      have hr7b:=(HFG.out.2.keep hbA).kept hf7 (fun i hi e=>absurd (own_lt HRW.out e).1 (by omega))
      have H7:=Lib.hid (And.intro huc7 (And.intro hF7 hr7b))
      clear hr7 hf7 hl7 huc7 hF7 hr7b hob hx hxk hbA
      go_wp2
      go_roundg (gk - 1)
      case rel=>exact ⟨m - 1,L ++ [Cm.mk K A Bv zeroF (([],[]):Asn) ([]:List (Cm 0)) []],qq+3,by have:=HM.out;omega,by have:=HM.out;rw [List.length_append,List.length_singleton];omega,by go_num,H7.out.1,fun x hx=>by
       rcases List.mem_append.1 hx with hx | hx
       · exact HFW.out x hx
       · rw [List.mem_singleton.1 hx];exact few_plain K A Bv zeroF,H7.out.2.2,by rw [List.length_append,List.length_singleton,Nat.succ_mul];have:=HQ.out.1;omega,H7.out.2.1⟩
      case measure=>have:=HM.out;omega
    · have hL:L.length=N:=by have:=HM.out;omega
      have hqe:qq≤q+127:=by
       have h2:=Nat.mul_le_mul_right (42+3 * 0) (show L.length≤3 by omega)
       omega
      have HE:=Lib.hid (And.intro (hr.more hqe) (And.intro hF hL))
      clear hqe hqq hr hF hL
      go_wp2
      go_ret
      exact ⟨_,L,rfl,huc,⟨by have:=HE.out.2.2;omega,by have:=HE.out.2.2;omega⟩,⟨by have:=HE.out.2.2;omega,HFW.out⟩,HE.out.1,HE.out.2.1⟩
 | succ n ih =>
   intro D g q w hD hn hr hq
   have hgl:=hr.lt
   have IH:=Lib.hid (fun (D:Int) (g q:Nat) (w:World) (hD:D=(n:Int)+1) (hn:n≤100) (hr:Rdr w g q) (hq:q+Fq (n+1)≤900000)=>ih D g q w hD hn hr hq)
   have hown0:=World.ownsRow_lit (base:=w.heap.size) (size:=10) w #[] 0 (Nat.le_refl _) (by decide) (by simp) (e:=63)
   have HO:=Lib.hid hown0
   have hD2:(2:Int)≤D:=by omega
   have hD3:D≤200:=by omega
   obtain ⟨Q,hQ⟩:∃ Q,Fq (n+1)=Q:=⟨_,rfl⟩
   have hQ2:Fq (n+1+1)=127+9 * Q:=by rw [← hQ];rfl
   rw [hQ2] at hq ⊢
   rw [hQ] at IH
   have HD:=Lib.hid (And.intro hD (show n≤100 by omega))
   have HRw:=Lib.hid hr
   clear ih hD hn hown0 hQ hQ2
   have hlit:=lit_ints (w.alloc (.cells #[] 63)) [2,1,3,2] (by decide)
   simp only [World.size_alloc] at hlit
   have HLIT:=Lib.hid hlit
   clear hlit
   go_enter Tryz.func278,Tryz.ntmps278
   go_wp2_with fail
   refine (num_any g q _ [2,1,3,2] _ ((hr.keep (below_alloc _ _)).keep (below_alloc _ _)) HLIT.out (by omega) (by decide) (by decide) (fun k hk e=>by simp [Value.ownBlock] at hk;omega)).mono ?_
   rintro e w1 ⟨N0,hN,rfl,hr1,hf1⟩
   obtain ⟨N,hNe,hN1,hN3⟩:∃ N:Nat,N0=(N:Int)∧1≤N∧N≤3:=by
    simp only [List.mem_cons,List.not_mem_nil,or_false] at hN
    rcases hN with rfl | rfl | rfl | rfl
    · exact ⟨2,rfl,by omega,by omega⟩
    · exact ⟨1,rfl,by omega,by omega⟩
    · exact ⟨3,rfl,by omega,by omega⟩
    · exact ⟨2,rfl,by omega,by omega⟩
   subst hNe
   have hu0:UC w1 w.heap.size (.slice (some ⟨w.heap.size,0,none⟩) 0 0) ([]:List (Cm (n+1+1))) :=
    (UC.keep (l:=([]:List (Cm (n+1+1)))) ⟨[],HO.out,fun k hk=>absurd hk (Nat.not_lt_zero k)⟩ (below_alloc (w.alloc (.cells #[] 63)) (.cells (ints [2,1,3,2]).toArray 3))).kept hf1 (fun k h1 _ e=>by have e2:k=g:=e;omega)
   have hF1:Fr (fun j=>j=g) w w1:=((Below.fr (bt (below_alloc w (.cells #[] 63)) (below_alloc (w.alloc (.cells #[] 63)) (.cells (ints [2,1,3,2]).toArray 3)))).mono (S':=fun j=>j=g) fun _ _ h=>h.elim).trans hf1
   have HST:=Lib.hid (And.intro hu0 hF1)
   clear hN hr hf1 hu0 hF1
   go_wp2
   go_loopg [5,6] N (fun z vo i wr=>∃ (m:Nat) (L:List (Cm (n+1+1))) (qq:Nat),m=z∧m+L.length=N∧i=.int .i64 m∧UC wr w.heap.size vo L∧(∀ c ∈ L,fewC1 c)∧Rdr wr g qq∧qq≤q+1+L.length * (42+3 * Q)∧Fr (fun j=>j=g) w wr)
   case atStart=>exact ⟨N,[],q+1,rfl,by simp,rfl,HST.out.1,fun c hc=>(by cases hc),hr1,by simp,HST.out.2⟩
   case round =>
    clear hr1
    obtain ⟨m,L,qq,hmz,hmL,rfl,huc,hfw,hr,hqq,hF⟩:=hrel
    obtain ⟨va,vc,rfl⟩:=huc.form
    have HM:=Lib.hid (And.intro hmz hmL)
    have HFW:=Lib.hid hfw
    have hs:=hF.size
    clear hmz hmL hfw
    by_cases hm0:0 < m
    · have i1:(0:Int) < (m:Int):=by omega
      have hqb:L.length * (42+3 * Q)+(42+3 * Q)≤126+9 * Q:=by
       have h1:L.length+1≤3:=by have:=HM.out;omega
       have h2:=Nat.mul_le_mul_right (42+3 * Q) h1
       rw [Nat.succ_mul] at h2;omega
      have hmm:m≤3:=by have:=HM.out;omega
      have HQ:=Lib.hid (And.intro hqq hqb)
      have hqs:qq+(42+3 * Q)≤900000:=by omega
      clear hqq hqb
      go_wp2_with fail
      refine (l8Simple_any g qq _ hr (by omega)).mono ?_
      rintro e w2 ⟨K,A,Bv,rfl,hK5,hr2,hf2⟩
      have hBC:=heap_alloc_new w2 (.cells #[.int .i64 K,.int .i64 A,.int .i64 Bv,.bool false,.int .i64 0,.int .i64 0,.slice none 0 0,.slice none 0 0,.slice none 0 0,.slice none 0 0] 63)
      have hbC:=below_alloc w2 (.cells #[.int .i64 K,.int .i64 A,.int .i64 Bv,.bool false,.int .i64 0,.int .i64 0,.slice none 0 0,.slice none 0 0,.slice none 0 0,.slice none 0 0] 63)
      have huc2:=huc.kept hf2 (fun k h1 _ e=>by have e2:k=g:=e;omega)
      have hA2:Fr (fun j=>j=g) w2 (w2.alloc (.cells #[.int .i64 K,.int .i64 A,.int .i64 Bv,.bool false,.int .i64 0,.int .i64 0,.slice none 0 0,.slice none 0 0,.slice none 0 0,.slice none 0 0] 63)):=(Below.fr hbC).mono fun _ _ h=>h.elim
      have hr3:=hr2.keep hbC
      have hF3:=(hF.trans hf2).thenB hbC
      have hCg:g < w2.heap.size:=hr2.lt
      have hwC:w.heap.size≤w2.heap.size:=Nat.le_trans hs hf2.size
      have hzC:(w2.alloc (.cells #[.int .i64 K,.int .i64 A,.int .i64 Bv,.bool false,.int .i64 0,.int .i64 0,.slice none 0 0,.slice none 0 0,.slice none 0 0,.slice none 0 0] 63)).heap.size=w2.heap.size+1:=by simp
      clear huc hr hF hf2 hr2 hbC
      have i6:decide (1 < D)=true:=by simp;omega
      go_wp2_with fail
      refine (pick_any g (qq+3) 4 _ hr3 (by omega) (by decide) (by decide)).mono ?_
      rintro e w3 ⟨k1,rfl,hk1,hr4,hf4⟩
      obtain ⟨C,hCe⟩:∃ C,w2.heap.size=C:=⟨_,rfl⟩
      rw [hCe] at hBC hCg hwC hzC ⊢
      have hB3:BoxC w3 C (Cm.mk K A Bv zeroF (([],[]):Asn) ([]:List (Cm (n+1))) []):=(BoxC.plain (n:=n+1) (t:=zeroF) hBC).kept hf4 hCg
      have hA3:=hA2.trans hf4
      have HCE:=Lib.hid hCe
      have hF4:=hF3.trans hf4
      have hC3:=box_kept hBC hf4 (fun e=>by have e2:C=g:=e;omega)
      have hz3:C+1≤w3.heap.size:=by have:=hf4.size;omega
      obtain ⟨b1,hb1⟩:∃ b,((k1:Int) == 0)=b:=⟨_,rfl⟩
      have HS:=Lib.hid (And.intro (And.intro huc2 hA3) (And.intro hF4 (And.intro hB3 hC3)))
      clear hr3 hf4 hBC huc2 hF3 hCe hzC hB3 hA2 hA3 hF4 hC3
      go_upto_if 24 with fail
      go_cut [] from 12 to 59 (fun wc=>∃ (c:Cm (n+1+1)) (q2:Nat),BoxC wc C c∧fewC1 c∧Rdr wc g q2∧q2≤qq+8+2 * Q∧Fr (fun j=>j=g∨j=C) w3 wc)
      case first =>
       cases b1 with
       | false =>
         go_wp2
         go_meet
         case rel=>exact ⟨_,qq+3+1,HS.out.2.2.1,few_plain _ _ _ _,hr4,by omega,Fr.refl _ _⟩
       | true =>
         have hC3:=HS.out.2.2.2
         go_wp2_with fail
         refine (l8Test_any g (qq+3+1) _ hr4 (by omega)).mono ?_
         rintro e w4 ⟨f,rfl,_,hr5,hf5⟩
         replace hC3:=box_kept hC3 hf5 (fun e=>by have e2:C=g:=e;omega)
         have hz4:C+1≤w4.heap.size:=by have:=hf5.size;omega
         clear hr4
         go_wp2_with fail
         refine (IH.out (D - 1) g (qq+3+1+3) _ (by have:=HD.out.1;omega) HD.out.2 hr5 (by omega)).mono ?_
         rintro e w5 ⟨vb,lb,rfl,hub,hlb,hfb,hr6,hf6⟩
         obtain ⟨ba,bc,rfl⟩:=hub.form
         have hC5:=box_kept hC3 hf6 (fun e=>by have e2:C=g:=e;omega)
         have hz5:C+1≤w5.heap.size:=by have:=hf6.size;omega
         have hCl:=box_lt hC5
         have r0:=cell_of_row _ _ 0 _ _ _ hC5
         have r1:=cell_of_row _ _ 1 _ _ _ hC5
         have r2:=cell_of_row _ _ 2 _ _ _ hC5
         have r3:=cell_of_row _ _ 3 _ _ _ hC5
         have r4:=cell_of_row _ _ 4 _ _ _ hC5
         have r5:=cell_of_row _ _ 5 _ _ _ hC5
         have r6:=cell_of_row _ _ 6 _ _ _ hC5
         have r7:=cell_of_row _ _ 7 _ _ _ hC5
         have r8:=cell_of_row _ _ 8 _ _ _ hC5
         have r9:=cell_of_row _ _ 9 _ _ _ hC5
         have z0:=frozen_of_row _ _ 0 _ _ hC5
         have z1:=frozen_of_row _ _ 1 _ _ hC5
         have z2:=frozen_of_row _ _ 2 _ _ hC5
         have z3:=frozen_of_row _ _ 3 _ _ hC5
         have z4:=frozen_of_row _ _ 4 _ _ hC5
         have z5:=frozen_of_row _ _ 5 _ _ hC5
         have z6:=frozen_of_row _ _ 6 _ _ hC5
         have z7:=frozen_of_row _ _ 7 _ _ hC5
         have z8:=frozen_of_row _ _ 8 _ _ hC5
         have z9:=frozen_of_row _ _ 9 _ _ hC5
         have hFT:=fr_ten w5 C (.int .i64 6) (.int .i64 0) (.int .i64 0) (.bool f.1) (.int .i64 f.2.1) (.int .i64 f.2.2) (.slice none 0 0) (.slice none 0 0) (.slice ba lb.length bc) (.slice none 0 0)
         have hC6:((((((((((w5.setCell ⟨C,0,none⟩ (.int .i64 6)).setCell ⟨C,1,none⟩ (.int .i64 0)).setCell ⟨C,2,none⟩ (.int .i64 0)).setCell ⟨C,3,none⟩ (.bool f.1)).setCell ⟨C,4,none⟩ (.int .i64 f.2.1)).setCell ⟨C,5,none⟩ (.int .i64 f.2.2)).setCell ⟨C,6,none⟩ (.slice none 0 0)).setCell ⟨C,7,none⟩ (.slice none 0 0)).setCell ⟨C,8,none⟩ (.slice ba lb.length bc)).setCell ⟨C,9,none⟩ (.slice none 0 0)).heap[C]?=some (.cells #[.int .i64 6,.int .i64 0,.int .i64 0,.bool f.1,.int .i64 f.2.1,.int .i64 f.2.2,.slice none 0 0,.slice none 0 0,.slice ba lb.length bc,.slice none 0 0] 63 (0,0)):=ten_row hC5
         have hb6:RL ((((((((((w5.setCell ⟨C,0,none⟩ (.int .i64 6)).setCell ⟨C,1,none⟩ (.int .i64 0)).setCell ⟨C,2,none⟩ (.int .i64 0)).setCell ⟨C,3,none⟩ (.bool f.1)).setCell ⟨C,4,none⟩ (.int .i64 f.2.1)).setCell ⟨C,5,none⟩ (.int .i64 f.2.2)).setCell ⟨C,6,none⟩ (.slice none 0 0)).setCell ⟨C,7,none⟩ (.slice none 0 0)).setCell ⟨C,8,none⟩ (.slice ba lb.length bc)).setCell ⟨C,9,none⟩ (.slice none 0 0)) (fun k=>C < k) (.slice ba lb.length bc) lb:=(hub.rl.kept hFT (fun k _ hk e=>by have h1:w4.heap.size≤k:=hk;omega)).more fun k _ hk=>by have h1:w4.heap.size≤k:=hk;omega
         have hr7:=hr6.kept hFT (fun i hi e=>by omega)
         have hG6:Fr (fun j=>j=g∨j=C) w3 ((((((((((w5.setCell ⟨C,0,none⟩ (.int .i64 6)).setCell ⟨C,1,none⟩ (.int .i64 0)).setCell ⟨C,2,none⟩ (.int .i64 0)).setCell ⟨C,3,none⟩ (.bool f.1)).setCell ⟨C,4,none⟩ (.int .i64 f.2.1)).setCell ⟨C,5,none⟩ (.int .i64 f.2.2)).setCell ⟨C,6,none⟩ (.slice none 0 0)).setCell ⟨C,7,none⟩ (.slice none 0 0)).setCell ⟨C,8,none⟩ (.slice ba lb.length bc)).setCell ⟨C,9,none⟩ (.slice none 0 0)):=(((hf5.mono (S':=fun j=>j=g∨j=C) fun _ _ h=>.inl h).trans (hf6.mono fun _ _ h=>.inl h)).trans (hFT.mono fun _ _ h=>.inr h))
         have H6:=Lib.hid (And.intro hC6 (And.intro hb6 (And.intro hG6 hfb)))
         clear hC3 hC5 hub hfb hf5 hf6 hr5 hr6 hC6 hb6 hG6 hFT
         go_wp2_with fail
         refine (pick_any g (qq+3+1+3+Q) 2 _ hr7 (by omega) (by decide) (by decide)).mono ?_
         rintro e w7 ⟨k2,rfl,hk2,hr8,hf8⟩
         have hB7:BoxC w7 C (Cm.mk 6 0 0 f (([],[]):Asn) lb []):=BoxC.kept (w:=((((((((((w5.setCell ⟨C,0,none⟩ (.int .i64 6)).setCell ⟨C,1,none⟩ (.int .i64 0)).setCell ⟨C,2,none⟩ (.int .i64 0)).setCell ⟨C,3,none⟩ (.bool f.1)).setCell ⟨C,4,none⟩ (.int .i64 f.2.1)).setCell ⟨C,5,none⟩ (.int .i64 f.2.2)).setCell ⟨C,6,none⟩ (.slice none 0 0)).setCell ⟨C,7,none⟩ (.slice none 0 0)).setCell ⟨C,8,none⟩ (.slice ba lb.length bc)).setCell ⟨C,9,none⟩ (.slice none 0 0))) ⟨none,none,ba,none,0,0,bc,0,H6.out.1,⟨rl_nil _ _,rl_nil _ _⟩,H6.out.2.1,rl_nil _ _⟩ hf8 hCg
         have hG7:=H6.out.2.2.1.trans (hf8.mono (S':=fun j=>j=g∨j=C) fun _ _ h=>.inl h)
         have hC7:=box_kept H6.out.1 hf8 (fun e=>by have e2:C=g:=e;omega)
         have hz7:C+1≤w7.heap.size:=by have:=hf8.size;simp at this;omega
         obtain ⟨b2,hb2⟩:∃ b,((k2:Int) == 0)=b:=⟨_,rfl⟩
         have H7:=Lib.hid (And.intro hB7 (And.intro hG7 H6.out.2.2.2))
         clear hr7 hf8 hB7 hG7 r0 r1 r2 r3 r4 r5 r6 r7 r8 r9 z0 z1 z2 z3 z4 z5 z6 z7 z8 z9
         cases b2 with
         | false =>
           go_wp2
           go_meet
           case rel=>exact ⟨_,_,H7.out.1,⟨⟨Nat.zero_le _,Nat.zero_le _⟩,H7.out.2.2,fewC_nil _⟩,hr8,by omega,H7.out.2.1⟩
         | true =>
           go_wp2_with fail
           refine (IH.out (D - 1) g (qq+3+1+3+Q+1) _ (by have:=HD.out.1;omega) HD.out.2 hr8 (by omega)).mono ?_
           rintro e w8 ⟨ve,le,rfl,hue,hle,hfe,hr9,hf9⟩
           obtain ⟨ea,ec,rfl⟩:=hue.form
           have hC8:=box_kept hC7 hf9 (fun e=>by have e2:C=g:=e;omega)
           obtain ⟨a1,a2,a3,a4,c1,c2,c3,c4,hbx,⟨q1,q2⟩,q3,q4⟩:=H7.out.1.kept hf9 hCg
           have r9:=cell_of_row _ _ 9 _ _ _ hC8
           have z9:=frozen_of_row _ _ 9 _ _ hC8
           have hCl8:=box_lt hC8
           have hFS:=fr_set w8 ⟨C,9,none⟩ (.slice ea le.length ec)
           have hns:∀ k,k < w8.heap.size→C < k→¬ k=C:=fun k _ h e=>by omega
           have hB9:BoxC (w8.setCell ⟨C,9,none⟩ (.slice ea le.length ec)) C (Cm.mk 6 0 0 f (([],[]):Asn) lb le) :=
            ⟨a1,a2,a3,ea,c1,c2,c3,ec,row_set hbx 9 (.slice ea le.length ec),⟨q1.kept hFS hns,q2.kept hFS hns⟩,q3.kept hFS hns,(hue.rl.kept hFS (fun k _ hk e=>by have h1:w7.heap.size≤k:=hk;have e2:k=C:=e;omega)).more fun k _ hk=>by have h1:w7.heap.size≤k:=hk;omega⟩
           have H9:=Lib.hid (And.intro hB9 (And.intro (hr9.kept hFS (fun i hi e=>by have e2:i=C:=e;omega)) (And.intro ((H7.out.2.1.trans (hf9.mono (S':=fun j=>j=g∨j=C) fun _ _ h=>.inl h)).trans (hFS.mono fun _ _ h=>.inr h)) hfe)))
           clear hr8 hr9 hue hf9 hC7 hC8 hbx q1 q2 q3 q4 hFS hns hB9 hfe
           go_wp2
           go_meet
           case rel=>exact ⟨_,_,H9.out.1,⟨⟨Nat.zero_le _,Nat.zero_le _⟩,H7.out.2.2,H9.out.2.2.2⟩,H9.out.2.1,by omega,H9.out.2.2.1⟩
      case rest =>
       obtain ⟨c,q2,hbc,hfc,hr2,hq2,hG⟩:=hcut
       have hzc:C+1≤wc.heap.size:=by have:=hG.size;omega
       have HS2:=Lib.hid (And.intro (And.intro HS.out.1.1 (HS.out.1.2.then hG (fun i hi e=>by
        rcases e with e | e
        · exact e
        · exact absurd e (by have:=HCE.out;omega)))) (And.intro (HS.out.2.1.then hG (fun i hi e=>by
        rcases e with e | e
        · exact e
        · exact absurd e (by omega))) hfc))
       clear hG
       go_wp2_with fail
       refine (pick_any g q2 8 _ hr2 (by omega) (by decide) (by decide)).mono ?_
       rintro e w6 ⟨k3,rfl,hk3,hr6,hf6⟩
       have hB6:=hbc.kept hf6 hCg
       have hz6:C+1≤w6.heap.size:=by have:=hf6.size;omega
       obtain ⟨b3,hb3⟩:∃ b,((k3:Int) == 0)=b:=⟨_,rfl⟩
       have HS6:=Lib.hid (And.intro (And.intro HS2.out.1.1 (HS2.out.1.2.trans hf6)) (And.intro (HS2.out.2.1.trans hf6) hB6))
       clear hbc hr2 hf6 hB6
       go_upto_if 46 with fail
       go_cut [] from 12 to 59 (fun wd=>∃ (c:Cm (n+1+1)) (q3:Nat),BoxC wd C c∧fewC1 c∧Rdr wd g q3∧q3≤qq+42+3 * Q∧Fr (fun j=>j=g∨j=C) w6 wd)
       case first =>
        cases b3 with
        | false =>
          go_wp2
          go_meet
          case rel=>exact ⟨_,_,HS6.out.2.2,HS2.out.2.2,hr6,by omega,Fr.refl _ _⟩
        | true =>
          go_wp2_with fail
          refine (l8Test_any g (q2+1) _ hr6 (by omega)).mono ?_
          rintro e w7 ⟨f,rfl,_,hr7,hf7⟩
          have hz7:C+1≤w7.heap.size:=by have:=hf7.size;omega
          clear hr6
          go_wp2_with fail
          refine (l3Draw_any g (q2+1+3) _ hr7 (by omega)).mono ?_
          rintro e w8 ⟨v1,v2,a,rfl,ha,hv1,hv2,hr8,hf8⟩
          obtain ⟨s1,u1,rfl⟩:=hv1.form
          obtain ⟨s2,u2,rfl⟩:=hv2.form
          have hz8:C+1≤w8.heap.size:=by have:=hf8.size;omega
          clear hr7
          go_wp2_with fail
          refine (IH.out (D - 1) g (q2+1+3+30) _ (by have:=HD.out.1;omega) HD.out.2 hr8 (by omega)).mono ?_
          rintro e w9 ⟨vb,lb,rfl,hub,hlb,hfb,hr9,hf9⟩
          obtain ⟨ba,bc,rfl⟩:=hub.form
          obtain ⟨a1,a2,a3,a4,c1,c2,c3,c4,hbx,_,_⟩:=((HS6.out.2.2.kept hf7 hCg).kept hf8 hCg).kept hf9 hCg
          have hz9:C+1≤w9.heap.size:=by have:=hf9.size;omega
          have hCl:=box_lt hbx
          have hl2:=asnB_len ha
          have r0:=cell_of_row _ _ 0 _ _ _ hbx
          have r1:=cell_of_row _ _ 1 _ _ _ hbx
          have r2:=cell_of_row _ _ 2 _ _ _ hbx
          have r3:=cell_of_row _ _ 3 _ _ _ hbx
          have r4:=cell_of_row _ _ 4 _ _ _ hbx
          have r5:=cell_of_row _ _ 5 _ _ _ hbx
          have r6:=cell_of_row _ _ 6 _ _ _ hbx
          have r7:=cell_of_row _ _ 7 _ _ _ hbx
          have r8:=cell_of_row _ _ 8 _ _ _ hbx
          have r9:=cell_of_row _ _ 9 _ _ _ hbx
          have z0:=frozen_of_row _ _ 0 _ _ hbx
          have z1:=frozen_of_row _ _ 1 _ _ hbx
          have z2:=frozen_of_row _ _ 2 _ _ hbx
          have z3:=frozen_of_row _ _ 3 _ _ hbx
          have z4:=frozen_of_row _ _ 4 _ _ hbx
          have z5:=frozen_of_row _ _ 5 _ _ hbx
          have z6:=frozen_of_row _ _ 6 _ _ hbx
          have z7:=frozen_of_row _ _ 7 _ _ hbx
          have z8:=frozen_of_row _ _ 8 _ _ hbx
          have z9:=frozen_of_row _ _ 9 _ _ hbx
          have hFT:=fr_ten w9 C (.int .i64 7) (.int .i64 0) (.int .i64 0) (.bool f.1) (.int .i64 f.2.1) (.int .i64 f.2.2) (.slice s1 a.1.length u1) (.slice s2 a.2.length u2) (.slice ba lb.length bc) (.slice none 0 0)
          have hns:∀ k,k < w9.heap.size→C < k→¬ k=C:=fun k _ h e=>by omega
          have hB9:BoxC ((((((((((w9.setCell ⟨C,0,none⟩ (.int .i64 7)).setCell ⟨C,1,none⟩ (.int .i64 0)).setCell ⟨C,2,none⟩ (.int .i64 0)).setCell ⟨C,3,none⟩ (.bool f.1)).setCell ⟨C,4,none⟩ (.int .i64 f.2.1)).setCell ⟨C,5,none⟩ (.int .i64 f.2.2)).setCell ⟨C,6,none⟩ (.slice s1 a.1.length u1)).setCell ⟨C,7,none⟩ (.slice s2 a.2.length u2)).setCell ⟨C,8,none⟩ (.slice ba lb.length bc)).setCell ⟨C,9,none⟩ (.slice none 0 0)) C (Cm.mk 7 0 0 f a lb []) :=
           ⟨s1,s2,ba,none,u1,u2,bc,0,ten_row hbx,⟨(((hv1.rl.more fun k _ hk=>by have h1:w7.heap.size≤k:=hk;show C < k;omega).kept hf9 (fun k _ h e=>by have e2:k=g:=e;have h1:C < k:=h;omega)).kept hFT hns),(((hv2.rl.more fun k _ hk=>by have h1:w7.heap.size≤k:=hk;show C < k;omega).kept hf9 (fun k _ h e=>by have e2:k=g:=e;have h1:C < k:=h;omega)).kept hFT hns)⟩,(hub.rl.more fun k _ hk=>by have h1:w8.heap.size≤k:=hk;show C < k;omega).kept hFT hns,rl_nil _ _⟩
          have H9:=Lib.hid (And.intro hB9 (And.intro (hr9.kept hFT (fun i hi e=>by omega)) (And.intro ((((hf7.mono (S':=fun j=>j=g∨j=C) fun _ _ h=>.inl h).trans (hf8.mono fun _ _ h=>.inl h)).trans (hf9.mono fun _ _ h=>.inl h)).trans (hFT.mono fun _ _ h=>.inr h)) (And.intro hfb hl2))))
          clear hv1 hv2 hub hr8 hr9 hf7 hf8 hf9 hbx hFT hns hB9 hfb hl2
          go_wp2
          go_meet
          case rel=>exact ⟨_,_,H9.out.1,⟨⟨Nat.le_trans H9.out.2.2.2.2.1 (by decide),Nat.le_trans H9.out.2.2.2.2.2 (by decide)⟩,H9.out.2.2.2.1,fewC_nil _⟩,H9.out.2.1,by omega,H9.out.2.2.1⟩
       case rest =>
        obtain ⟨c,q3,hbc,hfc,hr3,hq3,hG⟩:=hcut
        have hA:=HS6.out.1.2.then hG (fun i hi e=>by
         rcases e with e | e
         · exact e
         · exact absurd e (by have:=HCE.out;omega))
        have hFw:=HS6.out.2.1.then hG (fun i hi e=>by
         rcases e with e | e
         · exact e
         · exact absurd e (by omega))
        have huc:=HS6.out.1.1.kept hA (fun k h1 _ e=>by have e2:k=g:=e;omega)
        obtain ⟨ys,hy,_⟩:=HS6.out.1.1
        have HOB:=Lib.hid (fun (j:Nat) (e:some j=(Value.slice va L.length vc).ownBlock)=>(own_lt hy e).2)
        obtain ⟨xs,hrow,hxs⟩:=huc
        obtain ⟨a1,a2,a3,a4,c1,c2,c3,c4,hbx,⟨p1,p2⟩,p3,p4⟩:=hbc
        have hCl:=box_lt hbx
        have hL3:L.length≤3:=by have:=HM.out;omega
        have hbA:=below_alloc wc (.cells #[.int .i64 c.kind,.int .i64 c.a,.int .i64 c.b,.bool c.test.1,.int .i64 c.test.2.1,.int .i64 c.test.2.2,.slice a1 c.inv.1.length c1,.slice a2 c.inv.2.length c2,.slice a3 c.body.length c3,.slice a4 c.els.length c4] 63)
        have hS:∀ j,j < wc.heap.size→C < j→w.heap.size≤j∧¬ some j=(Value.slice va L.length vc).ownBlock:=fun j _ h=>⟨by omega,fun e=>by have h1:=HOB.out j e;have h2:=HCE.out;omega⟩
        have hx:=rd_cm_mk (c:=c) (w:=wc.alloc (.cells #[.int .i64 c.kind,.int .i64 c.a,.int .i64 c.b,.bool c.test.1,.int .i64 c.test.2.1,.int .i64 c.test.2.2,.slice a1 c.inv.1.length c1,.slice a2 c.inv.2.length c2,.slice a3 c.body.length c3,.slice a4 c.els.length c4] 63)) ((p1.more hS).keep hbA) ((p2.more hS).keep hbA) ((p3.more hS).keep hbA) ((p4.more hS).keep hbA)
        have HX:=Lib.hid (And.intro hx (fun (k:Nat) (hk:k < L.length)=>Dat.kept (hxs k hk) (Below.fr hbA) fun _ _ _ h=>h))
        have HRW:=Lib.hid hrow
        have HFG:=Lib.hid (And.intro hFw hr3)
        have r0:=cell_of_row _ _ 0 _ _ _ hbx
        have r1:=cell_of_row _ _ 1 _ _ _ hbx
        have r2:=cell_of_row _ _ 2 _ _ _ hbx
        have r3:=cell_of_row _ _ 3 _ _ _ hbx
        have r4:=cell_of_row _ _ 4 _ _ _ hbx
        have r5:=cell_of_row _ _ 5 _ _ _ hbx
        have r6:=cell_of_row _ _ 6 _ _ _ hbx
        have r7:=cell_of_row _ _ 7 _ _ _ hbx
        have r8:=cell_of_row _ _ 8 _ _ _ hbx
        have r9:=cell_of_row _ _ 9 _ _ _ hbx
        clear hx hxs hbx p1 p2 p3 p4 hA hG hbA hy hS hrow hr3 hFw
        go_wp2_with (at_builtin;go_must (refine app_C rfl (.tmp 56) (.tmp 58) rfl rfl (own_keep HRW.out (below_alloc _ _)) rfl (by rfl) (news_cm wc c.kind c.a c.b c.test (.slice a1 c.inv.1.length c1) (.slice a2 c.inv.2.length c2) (.slice a3 c.body.length c3) (.slice a4 c.els.length c4) 63) (one_cm _ _ _ _ _ _ _ _ _ _ _ _ _ _ _ _) (by omega) (by simp;omega) ?_;intro v' w7 hr7 hf7 hl7;obtain ⟨za,zc,rfl⟩:=own_formG hr7))
        have hob:=own_keep HRW.out (below_alloc wc (.cells #[.int .i64 c.kind,.int .i64 c.a,.int .i64 c.b,.bool c.test.1,.int .i64 c.test.2.1,.int .i64 c.test.2.2,.slice a1 c.inv.1.length c1,.slice a2 c.inv.2.length c2,.slice a3 c.body.length c3,.slice a4 c.els.length c4] 63))
        have huc7:=UC.snoc (x:=c) hob HX.out.2 hr7 hf7 hl7 HX.out.1
        have hF7:=(HFG.out.1.thenB (below_alloc wc (.cells #[.int .i64 c.kind,.int .i64 c.a,.int .i64 c.b,.bool c.test.1,.int .i64 c.test.2.1,.int .i64 c.test.2.2,.slice a1 c.inv.1.length c1,.slice a2 c.inv.2.length c2,.slice a3 c.body.length c3,.slice a4 c.els.length c4] 63))).then hf7 (fun i hi e=>absurd (own_lt HRW.out e).1 (by omega))
        have hr7b:=(HFG.out.2.keep (below_alloc wc (.cells #[.int .i64 c.kind,.int .i64 c.a,.int .i64 c.b,.bool c.test.1,.int .i64 c.test.2.1,.int .i64 c.test.2.2,.slice a1 c.inv.1.length c1,.slice a2 c.inv.2.length c2,.slice a3 c.body.length c3,.slice a4 c.els.length c4] 63))).kept hf7 (fun i hi e=>absurd (own_lt HRW.out e).1 (by omega))
        have H7:=Lib.hid (And.intro huc7 (And.intro hF7 hr7b))
        clear hr7 hf7 hl7 huc7 hF7 hr7b hob
        go_wp2
        go_roundg (gk - 1)
        case rel=>exact ⟨m - 1,L ++ [c],q3,by have:=HM.out;omega,by have:=HM.out;rw [List.length_append,List.length_singleton];omega,by go_num,H7.out.1,fun x hx=>by
         rcases List.mem_append.1 hx with hx | hx
         · exact HFW.out x hx
         · rw [List.mem_singleton.1 hx];exact hfc,H7.out.2.2,by rw [List.length_append,List.length_singleton,Nat.succ_mul];have:=HQ.out.1;omega,H7.out.2.1⟩
        case measure=>have:=HM.out;omega
    · have hL:L.length=N:=by have:=HM.out;omega
      have hqe:qq≤q+(127+9 * Q):=by
       have h2:=Nat.mul_le_mul_right (42+3 * Q) (show L.length≤3 by omega)
       omega
      have HE:=Lib.hid (And.intro (hr.more hqe) (And.intro hF hL))
      clear hqe hqq hr hF hL
      go_wp2
      go_ret
      exact ⟨_,L,rfl,huc,⟨by have:=HE.out.2.2;omega,by have:=HE.out.2.2;omega⟩,⟨by have:=HE.out.2.2;omega,HFW.out⟩,HE.out.1,HE.out.2.1⟩
end Go.Proofs.YtkbbmjcfgcfejaaGreat
