/- Walk: a loop (reference: l11Loop). -/
import Derived.Test.YtkbbmjcfgcfejaaGreatLKepS
set_option linter.unusedVariables false
set_option linter.unusedSimpArgs false
set_option maxRecDepth 100000
set_option maxHeartbeats 12800000
namespace Go.Proofs.YtkbbmjcfgcfejaaGreat
open Go.RowKit
theorem Sq {U M:Nat} (hU:∀ j,9≤j→U.testBit j=false):Hr U M=decide (U &&& M=0):=by
 rw [Bool.eq_iff_iff,decide_eq_true_eq,Hr,List.all_eq_true];constructor
 · intro h
   refine Nat.eq_of_testBit_eq fun j=>?_;rw [Nat.zero_testBit,Nat.testBit_and];rcases Nat.lt_or_ge j 9 with h9 | h9
   · have:=h j (List.mem_range.2 h9)
     cases h1:U.testBit j <;> cases h2:M.testBit j <;> simp_all
   · rw [hU j h9];rfl
 · intro h j hj
   (have h2:(U &&& M).testBit j=false:=by rw [h,Nat.zero_testBit]);rw [Nat.testBit_and] at h2;rw [h2];rfl
theorem O3 {a inv:Aj} {f:List Am} (ha:Ah a=true) (h:Cz a inv=some f):f.all AQ=true:=by
 rw [Cz,Option.map_eq_some_iff] at h;obtain ⟨m,_,rfl⟩:=h;rw [List.all_eq_true];intro x hx;rw [CR] at hx;obtain ⟨i,hi,rfl⟩:=List.mem_map.1 hx;rw [List.mem_filter,List.mem_range] at hi;exact (K7 ha).2.2 _ (Be hi.1)
theorem AB.setN {w0 w6:World} {t:Nat} {x1 x2 y1 y2:Value} {C:Aj} (hT:w6.heap[t]?=some (.cells #[y1,y2] 26 (0,0))) (f:FE w6 w0.heap.size x1 C.1) (a:FE w6 w0.heap.size x2 C.2) (hb:Below w0.heap.size w0 w6) (h0:w0.heap.size≤t):AB w0 ((w6.setCell ⟨t,0,none⟩ x1).setCell ⟨t,1,none⟩ x2) t x1 x2 C :=
 ⟨BX (BL hT _) _,f.set2 hT Dc,a.set2 hT Dc,(hb.setCell (p:=⟨t,0,none⟩) h0 _).setCell (p:=⟨t,1,none⟩) h0 _,h0⟩
structure LlS (w:World) (b:Nat) (v1 v2 g1 g2 x kv:Value) (row:Array Value) (a inv:Aj) {d:Nat} (body:List (Cm d)) (keep:List Int):Prop where
 a1:RL w (fun _=>True) v1 a.1
 a2:RL w (fun _=>True) v2 a.2
 i1:RL w (fun _=>True) g1 inv.1
 i2:RL w (fun _=>True) g2 inv.2
 bd:RL w (fun _=>True) x body
 ks:RInts w kv keep
 ab:w.heap[b]?=some (.cells #[v1,v2] 26 (0,0))
 cb:w.heap[b+1]?=some (.cells row 63 (0,0))
 rs:w.heap[b+2]?=some (.cells #[.slice none 0 0,.slice none 0 0] 26 (0,0))
theorem LlS.keep {w w':World} {b:Nat} {v1 v2 g1 g2 x kv:Value} {row:Array Value} {a inv:Aj} {d:Nat} {body:List (Cm d)} {keep:List Int} (h:LlS w b v1 v2 g1 g2 x kv row a inv body keep) (hb:Below w.heap.size w w'):LlS w' b v1 v2 g1 g2 x kv row a inv body keep :=
 ⟨h.a1.keep hb,h.a2.keep hb,h.i1.keep hb,h.i2.keep hb,h.bd.keep hb,h.ks.keep hb,Ac h.ab hb,Ac h.cb hb,Ac h.rs hb⟩
theorem QE {keep:List Int} {d:Nat} (IH:Uh keep d) {S1 S2 S3 S4 S5:Nat→Prop} (v1 v2 f1 f2 x y kv:Value) (a:Aj) (c:Cm (d+1)) (D:Int) (w:World) (h1:RL w S1 v1 a.1) (h2:RL w S2 v2 a.2) (hf1:RL w S3 f1 c.inv.1) (hf2:RL w S4 f2 c.inv.2) (hx:RL w S5 x c.body) (hy:∃ a n k,y=.slice a n k) (hk:RInts w kv keep) (ha:Ah a=true) (hi:Ah c.inv=true) (hs:AZ d c.body D=true) :
 Calls Tryz.prog 262 #[.agg #[v1,v2],.agg #[.int .i64 c.kind,.int .i64 c.a,.int .i64 c.b,.bool c.test.1,.int .i64 c.test.2.1,.int .i64 c.test.2.2,f1,f2,x,y],kv] w (TY (Ee (fun s=>BE (Ay keep) d c.body [s]) (CQ d 0 c.body) c.inv c.test a) w):=by
 obtain ⟨p1,q1,rfl⟩:=h1.form;obtain ⟨p2,q2,rfl⟩:=h2.form;obtain ⟨a3,c3,rfl⟩:=hf1.form;obtain ⟨a4,c4,rfl⟩:=hf2.form;obtain ⟨a5,c5,rfl⟩:=hx.form;obtain ⟨a6,n6,c6,rfl⟩:=hy;obtain ⟨ka,kc,rfl,_⟩:=hk.cells;have hmk:=Ta;obtain ⟨X,hX⟩:∃ X,Ee (fun s=>BE (Ay keep) d c.body [s]) (CQ d 0 c.body) c.inv c.test a=X:=⟨_,rfl⟩;rw [hX];obtain ⟨F,hF⟩:=Ex (Cz a c.inv);obtain ⟨M,hM⟩:=Ex (CQ d 0 c.body);rw [hM] at hX;obtain ⟨w0,hw0⟩:=Ey (((w.alloc (.cells #[.slice p1 a.1.length q1,.slice p2 a.2.length q2] 26)).alloc (.cells #[.int .i64 c.kind,.int .i64 c.a,.int .i64 c.b,.bool c.test.1,.int .i64 c.test.2.1,.int .i64 c.test.2.2,.slice a3 c.inv.1.length c3,.slice a4 c.inv.2.length c4,.slice a5 c.body.length c5,.slice a6 n6 c6] 63)).alloc (.cells #[.slice none 0 0,.slice none 0 0] 26));have hb0:Below w.heap.size w w0:=by rw [hw0];exact ba (ba (Aa _ _) _) _
 have hA:w0.heap[w.heap.size]?=some (.cells #[.slice p1 a.1.length q1,.slice p2 a.2.length q2] 26 (0,0)):=by rw [hw0];exact Ac (Ac (heap_alloc_new w _) (Aa _ _)) (Aa _ _)
 have hC:w0.heap[w.heap.size+1]?=some (.cells #[.int .i64 c.kind,.int .i64 c.a,.int .i64 c.b,.bool c.test.1,.int .i64 c.test.2.1,.int .i64 c.test.2.2,.slice a3 c.inv.1.length c3,.slice a4 c.inv.2.length c4,.slice a5 c.body.length c5,.slice a6 n6 c6] 63 (0,0)):=by
  rw [hw0];have:=heap_alloc_new (w.alloc (.cells #[.slice p1 a.1.length q1,.slice p2 a.2.length q2] 26)) (.cells #[.int .i64 c.kind,.int .i64 c.a,.int .i64 c.b,.bool c.test.1,.int .i64 c.test.2.1,.int .i64 c.test.2.2,.slice a3 c.inv.1.length c3,.slice a4 c.inv.2.length c4,.slice a5 c.body.length c5,.slice a6 n6 c6] 63);rw [World.size_alloc] at this;exact Ac this (Aa _ _)
 have hR:w0.heap[w.heap.size+2]?=some (.cells #[.slice none 0 0,.slice none 0 0] 26 (0,0)):=by
  rw [hw0];have:=heap_alloc_new ((w.alloc (.cells #[.slice p1 a.1.length q1,.slice p2 a.2.length q2] 26)).alloc (.cells #[.int .i64 c.kind,.int .i64 c.a,.int .i64 c.b,.bool c.test.1,.int .i64 c.test.2.1,.int .i64 c.test.2.2,.slice a3 c.inv.1.length c3,.slice a4 c.inv.2.length c4,.slice a5 c.body.length c5,.slice a6 n6 c6] 63)) (.cells #[.slice none 0 0,.slice none 0 0] 26);rw [World.size_alloc,World.size_alloc] at this;exact this
 have H0:=Ad (An (show LlS w0 w.heap.size (.slice p1 a.1.length q1) (.slice p2 a.2.length q2) (.slice a3 c.inv.1.length c3) (.slice a4 c.inv.2.length c4) (.slice a5 c.body.length c5) (.slice ka keep.length kc) #[.int .i64 c.kind,.int .i64 c.a,.int .i64 c.b,.bool c.test.1,.int .i64 c.test.2.1,.int .i64 c.test.2.2,.slice a3 c.inv.1.length c3,.slice a4 c.inv.2.length c4,.slice a5 c.body.length c5,.slice a6 n6 c6] a c.inv c.body keep from ⟨(h1.keep hb0).any,(h2.keep hb0).any,(hf1.keep hb0).any,(hf2.keep hb0).any,(hx.keep hb0).any,hk.keep hb0,hA,hC,hR⟩) hb0);have HBD:=Ad ((hx.keep hb0).more (S':=fun k=>k < w0.heap.size) fun k hk _=>hk);have HW:=Ad hw0;have HP:=Ad (An (An ha hi) (An hF (An hM (An hX hs))));have HIH:=Ad IH;obtain ⟨k0,k1,k2,k3,k4,k5,k6,k7,k8,k9⟩:=Dk hC;have kl:=Ae hC;clear h1 h2 hf1 hf2 hx hk ha hi hF hM hX hs IH hA hC hR hb0 hw0;go_enter Tryz.func262,Tryz.ntmps262
 go_upto_region 1 with fail
 rw [← HW.o];go_cut [8] (fun s8 wc=>wc.ownsRow w0.heap.size 4 1 s8 9 (Av M)∧Below w0.heap.size w0 wc)
 case first =>
  go_region_held3 (fun w'=>w'.cell? ⟨w.heap.size+1,8,none⟩=some (.slice a5 c.body.length c5))
   (exact (Ck k8))
   (first
     | (go_at_call 161;go_must (first | refine (E8 d w0.heap.size 9 _ c.body 0 w0.heap.size D _ (HBD.o.keep Bl) (Ag (LS w0 w0.heap.size (Nat.le_refl _)) (Ai _)) (fun k hk e=>by have h1:k < w0.heap.size:=hk;omega) HP.o.2.2.2.2).mono ?_ | refine (E8 d w0.heap.size 9 _ c.body 0 w0.heap.size D _ (HBD.o.keep Bl) (LS w0.drew w0.heap.size (Nat.le_refl _)) (fun k hk e=>by have h1:k < w0.heap.size:=hk;omega) HP.o.2.2.2.2).mono ?_);rw [HP.o.2.2.1];rintro e w5 ⟨rfl,ho5,hf5⟩;have hb5:Below w0.heap.size w0 w5:=Below.trans Bl (hf5.below (Below.size (w:=w0) (B:=w0.heap.size) Bl) fun k hk e=>by have e2:k=w0.heap.size:=e;omega))
     | fail)
  all_goals
   have HQ:=Ad (An ho5 hb5);clear ho5 hb5 hf5;go_wp2;go_meet
   case rel=>exact ⟨HQ.o.1,HQ.o.2⟩
 case rest =>
  rename World=>wC
  obtain ⟨hfl,hbc⟩:=hcut;obtain ⟨fva,fvc,rfl,_⟩:=A8 hfl;have H1:=Ad (An (H0.o.1.keep hbc) (An hfl (bt H0.o.2 hbc)));have hzC:=hbc.size;have hz00:=H0.o.2.size;have hR3:=Ae H0.o.1.rs;clear hfl hbc k0 k1 k2 k3 k4 k5 k6 k7 k8 k9 kl hmk;obtain ⟨b0,b1,bl⟩:=B3 H1.o.1.ab;obtain ⟨k0,k1,k2,k3,k4,k5,k6,k7,k8,k9⟩:=Dk H1.o.1.cb;have kl:=Ae H1.o.1.cb;go_wp2_with fail
  refine (Qu _ _ _ _ a c.inv _ H1.o.1.a1 H1.o.1.a2 H1.o.1.i1 H1.o.1.i2 HP.o.1.1 HP.o.1.2).mono ?_;rw [HP.o.2.1];rintro e w2 ⟨z2,rfl,fz,hb2⟩;obtain ⟨ya,yn,yc,rfl⟩:=fz.forms;obtain ⟨W,hW⟩:=Ey (w2.alloc (.cells #[.slice none 0 0,.slice ya yn yc] 26));have hbW:Below w2.heap.size w2 W:=by rw [hW];exact Aa _ _
  have hst:W.heap[w2.heap.size]?=some (.cells #[.slice none 0 0,.slice ya yn yc] 26 (0,0)):=by rw [hW];exact heap_alloc_new _ _
  have hbw:=bt hb2 hbW;have HWF:=Ad hW;have H2:=Ad (An (H1.o.1.keep hbw) (An (Ag H1.o.2.1 hbw) (An (An (fz.rl.any.keep hbW) hst) (bt H1.o.2.2 hbw))));clear fz hb2 hbW hst hW hbw b0 b1 bl k0 k1 k2 k3 k4 k5 k6 k7 k8 k9 kl;go_upto_region 3 with fail
  rw [← HWF.o];obtain ⟨r0,r1,rz,rl⟩:=B4 H2.o.1.rs;cases F with
  | none =>
    have HE:=Ad (show X=(3,([],[])) by rw [← HP.o.2.2.2.1];exact Lc HP.o.2.1);have rr:=Au (.slice none 0 0) (.slice none 0 0) r0 r1;go_wp2;refine bodyPost_ret (v:=.tuple #[.agg #[.slice none 0 0,.slice none 0 0],.int .i64 3]) (by simp [results,Tryz.results262,go_sem,rr.1,rr.2]) rfl ?_;rw [HE.o];exact Di Om H2.o.2.2.2
  | some f =>
    have HFL:=Ad (An (Mv HP.o.1.1 HP.o.2.1) (show X=if Ak ([],f) &&& M=0 then (if F3 (fun s=>BE (Ay keep) d c.body [s]) c.inv c.test=true then (if Ah (EP M c.inv c.test a f)=true then (0,EP M c.inv c.test a f) else (1,([],[]))) else (4,([],[]))) else (3,([],[])) by rw [← HP.o.2.2.2.1];exact Ld HP.o.2.1));have HFR:=Ad (show RL W (fun _=>True) (.slice ya yn yc) f from H2.o.2.2.1.1);have HFA:=Ad (O3 HP.o.1.1 HP.o.2.1);obtain ⟨U,hU⟩:=Ex (Ak ([],f));obtain ⟨ap,hap⟩:=Ex (Hr (Ak ([],f)) M);(have hap2:ap=decide (U &&& M=0):=by rw [← hap,hU,Sq (fun j hj=>by rw [← hU];exact FS _ j hj)]);have HU:=Ad (An hU (An hap hap2));clear hU hap hap2;obtain ⟨f0,f1,fl⟩:=B3 H2.o.2.2.1.2;(go_wp2_with fail);refine (OP (S1:=fun _=>True) _ _ _ (([]:List Ap),f) M _ _ (RL.nil _ _) HFR.o rfl HFA.o H2.o.2.1).mono ?_;rw [HU.o.2.1];rintro e w3 ⟨rfl,hb3⟩;have H3:=Ad (An (H2.o.1.keep hb3) (An (Ag H2.o.2.1 hb3) (An (An (HFR.o.keep hb3) (Ac H2.o.2.2.1.2 hb3)) (bt H2.o.2.2.2 hb3))));clear hb3 f0 f1 fl r0 r1 rz rl;obtain ⟨r0,r1,rz,rl⟩:=B4 H3.o.1.rs;cases ap with
    | false =>
      have HE:=Ad (show X=(3,([],[])) by rw [HFL.o.2,HU.o.1,if_neg (fun h=>by have:=HU.o.2.2;rw [decide_eq_true h] at this;cases this)]);have rr:=Au (.slice none 0 0) (.slice none 0 0) r0 r1;go_wp2;refine bodyPost_ret (v:=.tuple #[.agg #[.slice none 0 0,.slice none 0 0],.int .i64 3]) (by simp [results,Tryz.results262,go_sem,rr.1,rr.2]) rfl ?_;rw [HE.o];exact Di Om H3.o.2.2.2
    | true =>
      have HZ:=Ad (of_decide_eq_true HU.o.2.2.symm);obtain ⟨kb,hkb⟩:∃ kb,F3 (fun s=>BE (Ay keep) d c.body [s]) c.inv c.test=kb:=⟨_,rfl⟩;have HKB:=Ad hkb;clear hkb;obtain ⟨k0,k1,k2,k3,k4,k5,k6,k7,k8,k9⟩:=Dk H3.o.1.cb;have kl:=Ae H3.o.1.cb;(go_wp2_with fail);refine (QD HIH.o _ _ _ _ _ c D _ H3.o.1.i1 H3.o.1.i2 H3.o.1.bd ⟨_,_,_,rfl⟩ H3.o.1.ks HP.o.1.2 HP.o.2.2.2.2).mono ?_;rw [HKB.o];rintro e w4 ⟨rfl,hb4⟩;have H4:=Ad (An (H3.o.1.keep hb4) (An (Ag H3.o.2.1 hb4) (An (An (H3.o.2.2.1.1.keep hb4) (Ac H3.o.2.2.1.2 hb4)) (bt H3.o.2.2.2 hb4))));clear hb4 r0 r1 rz rl k0 k1 k2 k3 k4 k5 k6 k7 k8 k9 kl;obtain ⟨r0,r1,rz,rl⟩:=B4 H4.o.1.rs;cases kb with
      | false =>
        have HE:=Ad (show X=(4,([],[])) by rw [HFL.o.2,HU.o.1,if_pos HZ.o,HKB.o,if_neg (by decide)]);have rr:=Au (.slice none 0 0) (.slice none 0 0) r0 r1;go_wp2;refine bodyPost_ret (v:=.tuple #[.agg #[.slice none 0 0,.slice none 0 0],.int .i64 4]) (by simp [results,Tryz.results262,go_sem,rr.1,rr.2]) rfl ?_;rw [HE.o];exact Di Om H4.o.2.2.2
      | true =>
        have HX:=Ad (show X=if Ah (EP M c.inv c.test a f)=true then (0,EP M c.inv c.test a f) else (1,([],[])) by rw [HFL.o.2,HU.o.1,if_pos HZ.o,HKB.o,if_pos rfl]);clear r0 r1 rz rl;have hla:=K7 HP.o.1.1;have hli:=K7 HP.o.1.2;have hfl:=List.length_filter_le (Fp M) a.1;have HLN:=Ad (An (show (a.1.filter (Fp M)).length≤12 by omega) (An (show c.inv.1.length≤12∧c.inv.2.length≤6 from ⟨hli.1.1,hli.2.1⟩) (An hla.1 HFL.o.1)));obtain ⟨k0,k1,k2,k3,k4,k5,k6,k7,k8,k9⟩:=Dk H4.o.1.cb;have kl:=Ae H4.o.1.cb;obtain ⟨wN,hwN⟩:=Ey (w4.alloc (.cells #[.bool (!c.test.1),.int .i64 c.test.2.1,.int .i64 c.test.2.2] 61));(have hbN:Below w4.heap.size w4 wN:=by rw [hwN];exact Aa _ _);(have hnb:wN.heap[w4.heap.size]?=some (.cells #[.bool (!c.test.1),.int .i64 c.test.2.1,.int .i64 c.test.2.2] 61 (0,0)):=by rw [hwN];exact heap_alloc_new _ _);have HWN:=Ad hwN;have H5:=Ad (An (H4.o.1.keep hbN) (An (Ag H4.o.2.1 hbN) (An (An (H4.o.2.2.1.1.keep hbN) (Ac H4.o.2.2.1.2 hbN)) (An hnb (bt H4.o.2.2.2 hbN)))));have hlow:w.heap.size+2 < wN.heap.size:=Ae H5.o.1.rs;clear hla hli hfl hwN hbN hnb;(go_upto_region 8 with fail);rw [← HWN.o];clear k0 k1 k2 k3 k4 k5 k6 k7 k8 k9 kl;obtain ⟨k0,k1,k2,k3,k4,k5,k6,k7,k8,k9⟩:=Dk H5.o.1.cb;have kl:=Ae H5.o.1.cb;obtain ⟨b0,b1,bl⟩:=B3 H5.o.1.ab;obtain ⟨f0,f1,fl⟩:=B3 H5.o.2.2.1.2;have hal:=K7 HP.o.1.1;have HAL:=Ad hal;have HRA:=Ad H5.o.1.a1;clear hal;go_cut [12] (fun s12 wc=>∃ (t:Nat) (x1 x2:Value),s12=.pointer (some ⟨t,0,none⟩)∧AB wN wc t x1 x2 (a.1.filter (Fp M) ++ c.inv.1,c.inv.2 ++ f))
        case first =>
         go_region_held3 (fun w'=>w'.cell? ⟨w.heap.size,0,none⟩=some (.slice p1 a.1.length q1)∧(w'.cell? ⟨w.heap.size+1,6,none⟩=some (.slice a3 c.inv.1.length c3)∧w'.cell? ⟨w.heap.size+1,7,none⟩=some (.slice a4 c.inv.2.length c4))∧(w'.cell? ⟨w2.heap.size,0,none⟩=some (.slice none 0 0)∧w'.cell? ⟨w2.heap.size,1,none⟩=some (.slice ya yn yc)))
          (exact ⟨(Ck b0),⟨(Ck k6),(Ck k7)⟩,(Ck f0),(Ck f1)⟩)
          (first
            | (go_at_call 281;go_must (refine (Ng _ _ a.1 M _ _ (HRA.o.keep Bl) HAL.o.1.2 (by have:=HAL.o.1.1;omega) (Ag H5.o.2.1 Bl)).mono ?_;rintro e w5 ⟨u,rfl,o5',hb5'⟩;have o5:=o5'.mono (B':=wN.heap.size) (Below.size (w:=wN) (B:=wN.heap.size) Bl);obtain ⟨d5,m5,e5,rfl⟩:=o5.forms;have r5:RL w5 (fun _=>True) (.slice d5 m5 e5) (a.1.filter (Fp M)):=o5.rl.any;have hb5:Below wN.heap.size wN w5:=bt Bl hb5';have hz5:=hb5.size;(first | (have hT:=A5 hb5') | (have hT:=A7 hb5') | skip);(try simp only [World.size_alloc,World.size_drew] at hT);clear hb5' o5'))
            | (go_at_call 76;(have _h:=hb6);go_must (refine (DU (S2:=fun _=>True) _ _ _ _ ((a.1.filter (Fp M),([]:List Am)):Aj) ((c.inv.1,c.inv.2 ++ f):Aj) _ (r5.keep Bl) (RL.nil _ _) (r6.keep Bl) (r7.keep Bl) (by have:=HLN.o.1;simp only;omega) Sp (by have:=HLN.o.2.1.1;simp only;omega) (by have:=HLN.o.2.1.2;have:=HLN.o.2.2.2;simp;omega)).mono ?_;rintro e w7 ⟨x1,x2,rfl,o8',o9',hb7'⟩;have o8:=o8'.mono (B':=wN.heap.size) (Below.size (w:=wN) (B:=wN.heap.size) Bl);have o9:=o9'.mono (B':=wN.heap.size) (Below.size (w:=wN) (B:=wN.heap.size) Bl);obtain ⟨d8,m8,e8,rfl⟩:=o8.forms;obtain ⟨d9,m9,e9,rfl⟩:=o9.forms;have hb7:Below wN.heap.size wN w7:=bt Bl hb7';have hb67:Below w6.heap.size w6 w7:=bt Bl hb7';have hz7:=hb67.size;(first | (replace hT:=Ac hT hb67;have _g:=hT) | (have hT:=A5 hb7') | skip);(try simp only [World.size_alloc,World.size_drew] at hT);(first | (have V9:=B4 hT;obtain ⟨ht0,ht1,htz,htl⟩:=V9) | skip);clear hb7' o8' o9'))
            | (go_at_call 76;go_must (refine (DU (S3:=fun _=>True) _ _ _ _ c.inv ((([]:List Ap),f):Aj) _ (H5.o.1.i1.keep Bl) (H5.o.1.i2.keep Bl) (RL.nil _ _) (H5.o.2.2.1.1.keep Bl) (by have:=HLN.o.2.1.1;omega) (by have:=HLN.o.2.1.2;omega) Sp (by have:=HLN.o.2.2.2;simp only;omega)).mono ?_;rintro e w6 ⟨x1,x2,rfl,o6,o7,hb6'⟩;rw [List.append_nil] at o6;obtain ⟨d6,m6,e6,rfl⟩:=o6.forms;obtain ⟨d7,m7,e7,rfl⟩:=o7.forms;have r6:RL w6 (fun _=>True) (.slice d6 m6 e6) c.inv.1:=o6.rl.any;have r7:RL w6 (fun _=>True) (.slice d7 m7 e7) (c.inv.2 ++ f):=o7.rl.any;have hb6:Below wN.heap.size wN w6:=bt Bl hb6';have hb56:Below w5.heap.size w5 w6:=bt Bl hb6';have hz6:=hb56.size;(first | (replace hT:=Ac hT hb56;have _g:=hT) | (have hT:=A5 hb6') | skip);(try simp only [World.size_alloc,World.size_drew] at hT);clear hb6' o6 o7))
            | fail)
         all_goals
          rw [List.nil_append] at o9;have HQ:=Ad (An (An o8 o9) hb7);clear o5 r5 r6 r7 o8 o9 hb5 hb6 hb7 hb56 hb67;go_wp2;go_meet
          case rel =>
           first
             | exact ⟨_,_,_,rfl,AB.new HQ.o.2 HQ.o.1.1 HQ.o.1.2⟩
             | exact ⟨_,_,_,rfl,AB.setN hT HQ.o.1.1 HQ.o.1.2 HQ.o.2 Om⟩
             | fail
        case rest =>
         rename World=>wd
         obtain ⟨tB,x1,x2,rfl,hAB⟩:=hcut;obtain ⟨d1,m1,e1,rfl⟩:=hAB.f.forms;obtain ⟨d2,m2,e2,rfl⟩:=hAB.a.forms;have H6:=Ad (An hAB (An (H5.o.1.keep hAB.bl) (An (Ac H5.o.2.2.2.1 hAB.bl) (bt H5.o.2.2.2.2 hAB.bl))));have hzd:=hAB.bl.size;clear hAB k0 k1 k2 k3 k4 k5 k6 k7 k8 k9 kl b0 b1 bl f0 f1 fl;obtain ⟨⟨t0,t1⟩,⟨z0,z1⟩,tl⟩:=H6.o.1.cells;have n0:=Lp H6.o.2.2.1;have n1:=JZ H6.o.2.2.1;have n2:=J0 H6.o.2.2.1;have nl:=Ae H6.o.2.2.1;go_upto_region 10 with (at_builtin;go_must (refine Ez (l:=a.1.filter (Fp M) ++ c.inv.1) (m:=[((!c.test.1,c.test.2.1,c.test.2.2):Ap)]) (B:=wN.heap.size) rfl (.tmp 60) (.tmp 62) _ rfl A0 rfl (H6.o.1.f.keep (Aa _ _)) rfl (Bm _ _ _ _ _) (by have:=HLN.o.1;have:=HLN.o.2.1.1;simp only [List.length_append,List.length_singleton];omega) (by simp;omega) ?_;intro v8 w8 o8 hf8;obtain ⟨a8,n8,c8,rfl⟩:=o8.forms;obtain ⟨⟨s0,s1⟩,⟨y0,y1⟩,sl⟩:=(H6.o.1.keep (Aa wd (.cells #[.bool (!c.test.1),.int .i64 c.test.2.1,.int .i64 c.test.2.2] 61))).cellsF hf8;have H7:=Ad ((H6.o.1.keep (Aa wd (.cells #[.bool (!c.test.1),.int .i64 c.test.2.1,.int .i64 c.test.2.2] 61))).putF o8 hf8);clear o8 hf8))
         obtain ⟨wG,hwG⟩:=Ey (w8.setCell ⟨tB,0,none⟩ (.slice a8 n8 c8));have HWG:=Ad hwG;obtain ⟨Z,hZ⟩:=Ex (EP M c.inv c.test a f);(have hZ2:((a.1.filter (Fp M) ++ c.inv.1) ++ [((!c.test.1,c.test.2.1,c.test.2.2):Ap)],c.inv.2 ++ f)=Z:=by rw [← hZ];rfl);(have hG:AB wN wG tB (.slice a8 n8 c8) (.slice d2 m2 e2) Z:=by rw [← hZ2,hwG];exact H7.o);have HZZ:=Ad hZ;have H8:=Ad (An hG (An (H5.o.1.keep hG.bl) (bt H5.o.2.2.2.2 hG.bl)));have hzG:=hG.bl.size;clear s0 s1 sl y0 y1 t0 t1 z0 z1 tl n0 n1 n2 nl hwG hG hZ hZ2 hzd;obtain ⟨⟨t0,t1⟩,⟨z0,z1⟩,tl⟩:=H8.o.1.cells;rw [← HWG.o];(go_wp2_with fail);refine (Ar _ _ Z _ H8.o.1.f.rl H8.o.1.a.rl).mono ?_;rintro e w9 ⟨rfl,hb9⟩;have H9:=Ad (An (H8.o.1.keep hb9) (An (H8.o.2.1.keep hb9) (bt H8.o.2.2 hb9)));clear hb9 t0 t1 z0 z1 tl;obtain ⟨⟨t0,t1⟩,⟨z0,z1⟩,tl⟩:=H9.o.1.cells;obtain ⟨r0,r1,rz,rl⟩:=B4 H9.o.2.1.rs;have htB:=H9.o.1.lt;cases hv:Ah Z with
         | false =>
           have HE:=Ad (show X=(1,([],[])) by rw [HX.o,HZZ.o,hv,if_neg (by decide)]);have rr:=Au (.slice none 0 0) (.slice none 0 0) r0 r1;clear hv;go_wp2;refine bodyPost_ret (v:=.tuple #[.agg #[.slice none 0 0,.slice none 0 0],.int .i64 1]) (by simp [results,Tryz.results262,go_sem,rr.1,rr.2]) rfl ?_;rw [HE.o];exact Di Om H9.o.2.2
         | true =>
           have HE:=Ad (show X=(0,Z) by rw [HX.o,HZZ.o,hv,if_pos rfl]);have rr:=Au (.slice a8 n8 c8) (.slice d2 m2 e2) r0 r1;have HQ:=Ad (Ro (t:=w.heap.size+2) (B:=w.heap.size) H9.o.1.f.rl H9.o.1.a.rl hlow Om);clear hv;go_wp2;refine bodyPost_ret (v:=.tuple #[.agg #[.slice a8 n8 c8,.slice d2 m2 e2],.int .i64 0]) (by simp [results,Tryz.results262,go_sem,rr.1,rr.2]) rfl ?_;rw [HE.o];exact ⟨_,_,rfl,HQ.o,(H9.o.2.2.setCell (p:=⟨w.heap.size+2,0,none⟩) (by show w.heap.size≤w.heap.size+2;omega) _).setCell (p:=⟨w.heap.size+2,1,none⟩) (by show w.heap.size≤w.heap.size+2;omega) _⟩
end Go.Proofs.YtkbbmjcfgcfejaaGreat
