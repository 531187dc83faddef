/- Walks: the frame of an assertion in another one (spec.l7Frame); a program variable forgotten (spec.l10New, l10Forget); spec.ContractValid. -/
import Derived.Test.YtkbbmjcfgcfejaaGreatKFgt
import Derived.Test.YtkbbmjcfgcfejaaGreatKDTidy
import Derived.Test.YtkbbmjcfgcfejaaGreatKEnt1
import Derived.Handy
import Derived.BigQuiet
import Derived.Deep.DeepMust
import Derived.Deep.Cut
import Derived.Test.YtkbbmjcfgcfejaaGreatKFrm
import Derived.Test.YtkbbmjcfgcfejaaGreatKCaseC
import Derived.Test.YtkbbmjcfgcfejaaGreatKAppF
set_option linter.unusedVariables false
set_option linter.unusedSimpArgs false
namespace Go.Proofs.YtkbbmjcfgcfejaaGreat
open Go.RowKit
set_option maxRecDepth 100000 in
set_option maxHeartbeats 6400000 in
theorem frameS_any {S1 S2 S3 S4:Nat→Prop} (v1 v2 u1 u2:Value) (a b:Asn) (w:World) (h1:RL w S1 v1 a.1) (h2:RL w S2 v2 a.2) (k1:RL w S3 u1 b.1) (k2:RL w S4 u2 b.2) (ha:asnB a=true) (hb:asnB b=true) :
 Calls Tryz.prog 73 #[.agg #[v1,v2],.agg #[u1,u2]] w fun e w'=>∃ x2,e=.returned (.tuple #[.agg #[.slice none 0 0,x2],.bool (frameO a b).isSome])∧FE w' w.heap.size x2 ((frameO a b).getD [])∧Below w.heap.size w w':=by
 obtain ⟨p1,c1,rfl⟩:=h1.form
 obtain ⟨p2,c2,rfl⟩:=h2.form
 obtain ⟨p3,c3,rfl⟩:=k1.form
 obtain ⟨p4,c4,rfl⟩:=k2.form
 obtain ⟨w0,hw0⟩:∃ w0,w0=(((w.alloc (.cells #[.slice p1 a.1.length c1,.slice p2 a.2.length c2] 26)).alloc (.cells #[.slice p3 b.1.length c3,.slice p4 b.2.length c4] 26)).alloc (.cells #[.slice none 0 0,.slice none 0 0] 26)):=⟨_,rfl⟩
 have hA:w0.heap[w.heap.size]?=some (.cells #[.slice p1 a.1.length c1,.slice p2 a.2.length c2] 26 (0,0)):=by
  rw [hw0];exact box_keep (box_keep (heap_alloc_new w _) (below_alloc _ _)) (below_alloc _ _)
 have hB:w0.heap[w.heap.size+1]?=some (.cells #[.slice p3 b.1.length c3,.slice p4 b.2.length c4] 26 (0,0)):=by
  rw [hw0]
  have:=box_keep (heap_alloc_new (w.alloc (.cells #[.slice p1 a.1.length c1,.slice p2 a.2.length c2] 26)) (.cells #[.slice p3 b.1.length c3,.slice p4 b.2.length c4] 26)) (below_alloc _ (.cells #[.slice none 0 0,.slice none 0 0] 26))
  simpa using this
 have hR:w0.heap[w.heap.size+1+1]?=some (.cells #[.slice none 0 0,.slice none 0 0] 26 (0,0)):=by
  rw [hw0]
  have:=heap_alloc_new ((w.alloc (.cells #[.slice p1 a.1.length c1,.slice p2 a.2.length c2] 26)).alloc (.cells #[.slice p3 b.1.length c3,.slice p4 b.2.length c4] 26)) (.cells #[.slice none 0 0,.slice none 0 0] 26)
  simpa using this
 have hW:Below w.heap.size w w0:=by rw [hw0];exact ba (ba (below_alloc _ _) _) _
 obtain ⟨n,hn⟩:∃ n,a.2.length=n:=⟨_,rfl⟩
 have hn6:n≤6:=by rw [← hn];exact (asnLe ha).1.2
 have hfm:frameM a b=(List.range (2 ^ n)).find? (frB a b):=by rw [frameM_eq,hn]
 have hN64:=pow_le64 hn6
 have hn0:(0:Int)≤(n:Int):=by omega
 have hn64:(n:Int) < 64:=by omega
 obtain ⟨N,hN⟩:∃ N,2 ^ n=N:=⟨_,rfl⟩
 have hpw:((2:Int) ^ n)=(N:Int):=by rw [← hN];simp
 have hsz:=asn_sz hb
 rw [hN] at hN64 hfm
 rw [hn] at hA hw0
 rw [hn]
 have HP:=Lib.hid (And.intro ha (And.intro hb (And.intro hfm (And.intro hn hsz))))
 have HW0:=Lib.hid hw0
 have H0:=Lib.hid (And.intro (And.intro hA (And.intro hB hR)) (And.intro hW (And.intro (And.intro (h1.keep hW) (h2.keep hW)) (And.intro (k1.keep hW) (k2.keep hW)))))
 clear hA hB hR hW hw0 h1 h2 k1 k2 hn hfm ha hb hN hsz
 go_enter Tryz.func73,Tryz.ntmps73
 go_wp2
 rw [← HW0.out]
 go_loopg [6] N (fun q i wr=>∃ k:Nat,k+q=N∧i=.int .i64 (k:Int)∧(List.range k).find? (frB a b)=none∧(wr.heap[w.heap.size]?=some (.cells #[.slice p1 a.1.length c1,.slice p2 n c2] 26 (0,0))∧wr.heap[w.heap.size+1]?=some (.cells #[.slice p3 b.1.length c3,.slice p4 b.2.length c4] 26 (0,0))∧wr.heap[w.heap.size+1+1]?=some (.cells #[.slice none 0 0,.slice none 0 0] 26 (0,0)))∧Below w.heap.size w wr∧Below w0.heap.size w0 wr)
 case atStart=>exact ⟨0,by omega,rfl,rfl,H0.out.1,H0.out.2.1,Below.refl _ _⟩
 case round =>
  obtain ⟨k,hk,rfl,hf,hBX,hbw,hb0⟩:=hrel
  have HK:=Lib.hid (And.intro hk (And.intro hf (And.intro hBX hbw)))
  have HB0:=Lib.hid hb0
  have HH:=Lib.hid (And.intro (And.intro (H0.out.2.2.1.1.keep hb0) (H0.out.2.2.1.2.keep hb0)) (And.intro (H0.out.2.2.2.1.keep hb0) (H0.out.2.2.2.2.keep hb0)))
  clear hk hf hBX hbw hb0
  have a0:=box0 HK.out.2.2.1.1
  have a1:=box1 HK.out.2.2.1.1
  have al:=box_lt HK.out.2.2.1.1
  by_cases hk8:k < N
  · have hki:(k:Int) < (N:Int):=by omega
    obtain ⟨K,hK⟩:∃ K,pickA a.2 k=K:=⟨_,rfl⟩
    obtain ⟨v,hv⟩:∃ v,asnB (b.1,b.2 ++ K)=v:=⟨_,rfl⟩
    have hfr:frB a b k=(v && entB a (b.1,b.2 ++ K)):=by rw [frB,hK,hv]
    have hKl:K.length≤8:=by rw [← hK];have h1:=pickN_len a.2 k a.2.length;rw [pickN_all] at h1;have:=HP.out.2.2.2.1;omega
    have HF:=Lib.hid (And.intro hfr (And.intro hK hv))
    have HPK:=Lib.hid (show k < 64∧(a.2.length:Int)≤8 from ⟨by omega,by have:=HP.out.2.2.2.1;omega⟩)
    clear hfr hK hv
    go_wp2_with fail
    have hpk:=pickS_any _ _ a k wr HH.out.1.1 HH.out.1.2 HPK.out.1 HPK.out.2
    rw [HP.out.2.2.2.1,HF.out.2.1] at hpk
    refine hpk.mono ?_
    rintro e w1 ⟨x2,rfl,o1,hb1⟩
    obtain ⟨d,xc,rfl⟩:=o1.form
    have hbF:=below_alloc w1 (.cells #[.slice none 0 0,.slice d K.length xc] 26)
    have hFX:=heap_alloc_new w1 (.cells #[.slice none 0 0,.slice d K.length xc] 26)
    have hb1':=bt hb1 hbF
    have HB1:=Lib.hid (And.intro hFX (And.intro (o1.keep hbF) (And.intro hb1' (And.intro (And.intro (HH.out.2.1.keep hb1') (HH.out.2.2.keep hb1')) (And.intro (HH.out.1.1.keep hb1') (HH.out.1.2.keep hb1'))))))
    have b0:=box0 (box_keep HK.out.2.2.1.2.1 hb1')
    have b1:=box1 (box_keep HK.out.2.2.1.2.1 hb1')
    have bl:=box_lt (box_keep HK.out.2.2.1.2.1 hb1')
    have f0:=box0 hFX
    have f1:=box1 hFX
    have fl:=box_lt hFX
    clear hpk o1 hbF hFX hb1 hb1' a0 a1 al
    generalize hW1:w1.alloc (.cells #[.slice none 0 0,.slice d K.length xc] 26)=W1 at HB1 b0 b1 bl f0 f1 fl
    go_upto_region 5 with fail
    clear hW1
    generalize w1.heap.size=bF at HB1 f0 f1 fl ⊢
    go_wp2_with fail
    refine (l3Star_any (S3:=fun _=>True) _ _ _ _ b (([]:List Fact),K) _ HB1.out.2.2.2.1.1 HB1.out.2.2.2.1.2 (RL.nil _ _) HB1.out.2.1.rl HP.out.2.2.2.2.1 HP.out.2.2.2.2.2 (by simp) (by simp only;omega)).mono ?_
    rintro e w2 ⟨y1,y2,rfl,q1,q2,hb2⟩
    rw [List.append_nil] at q1
    obtain ⟨e1,g1,rfl⟩:=q1.form
    obtain ⟨e2,g2,rfl⟩:=q2.form
    obtain ⟨nK,hnK⟩:∃ nK,(b.2 ++ K).length=nK:=⟨_,rfl⟩
    rw [hnK] at q2 ⊢
    have hbC:=below_alloc w2 (.cells #[.slice e1 b.1.length g1,.slice e2 nK g2] 26)
    have hCX:=heap_alloc_new w2 (.cells #[.slice e1 b.1.length g1,.slice e2 nK g2] 26)
    have hb2':=bt hb2 hbC
    have hb12:=bt HB1.out.2.2.1 hb2'
    have HB2:=Lib.hid (And.intro (And.intro hCX (box_keep HB1.out.1 hb2')) (And.intro (And.intro (q1.keep hbC) (q2.keep hbC)) (And.intro hb12 (And.intro (HB1.out.2.1.keep hb2') (And.intro (HB1.out.2.2.2.2.1.keep hb2') (HB1.out.2.2.2.2.2.keep hb2'))))))
    have a0:=box0 (box_keep HK.out.2.2.1.1 hb12)
    have a1:=box1 (box_keep HK.out.2.2.1.1 hb12)
    have al:=box_lt (box_keep HK.out.2.2.1.1 hb12)
    have f0:=box0 HB2.out.1.2
    have f1:=box1 HB2.out.1.2
    have fl:=box_lt HB2.out.1.2
    have g0:=box0 hCX
    have g1':=box1 hCX
    have gl:=box_lt hCX
    clear q1 q2 hbC hCX hb2 hb2' hb12 b0 b1 bl hnK
    cases v with
    | false =>
      go_wp2_with fail
      refine (cb (asnValidS_any _ _ (b.1,b.2 ++ K) _ HB2.out.2.1.1 HB2.out.2.1.2) HF.out.2.2).mono ?_
      rintro e w3 ⟨rfl,hb3⟩
      have hb:=bt HB2.out.2.2.1 hb3
      have HE:=Lib.hid (And.intro (And.intro (box_keep HK.out.2.2.1.1 hb) (And.intro (box_keep HK.out.2.2.1.2.1 hb) (box_keep HK.out.2.2.1.2.2 hb))) (And.intro (And.intro (bt HK.out.2.2.2 hb) (bt HB0.out hb)) (find_more HK.out.2.1 (by rw [HF.out.1];rfl))))
      clear hb hb3
      go_wp2
      go_roundg (gk - 1)
      case rel=>exact ⟨k+1,by have:=HK.out.1;omega,by go_num,HE.out.2.2,HE.out.1,HE.out.2.1.1,HE.out.2.1.2⟩
      case measure=>have:=HK.out.1;omega
    | true =>
      go_wp2_with fail
      refine (cb (asnValidS_any _ _ (b.1,b.2 ++ K) _ HB2.out.2.1.1 HB2.out.2.1.2) HF.out.2.2).mono ?_
      rintro e w3 ⟨rfl,hb3⟩
      have HB3:=Lib.hid (And.intro (And.intro (box_keep HB2.out.1.1 hb3) (box_keep HB2.out.1.2 hb3)) (And.intro (And.intro (HB2.out.2.1.1.keep hb3) (HB2.out.2.1.2.keep hb3)) (And.intro (bt HB2.out.2.2.1 hb3) (And.intro (HB2.out.2.2.2.1.keep hb3) (And.intro (HB2.out.2.2.2.2.1.keep hb3) (HB2.out.2.2.2.2.2.keep hb3))))))
      have hbx:=bt HB2.out.2.2.1 hb3
      clear hb3 a0 a1 al f0 f1 fl g0 g1' gl
      have a0:=box0 (box_keep HK.out.2.2.1.1 hbx)
      have a1:=box1 (box_keep HK.out.2.2.1.1 hbx)
      have al:=box_lt (box_keep HK.out.2.2.1.1 hbx)
      have g0:=box0 HB3.out.1.1
      have g1':=box1 HB3.out.1.1
      have gl:=box_lt HB3.out.1.1
      clear hbx
      obtain ⟨E,hE⟩:∃ E,entB a (b.1,b.2 ++ K)=E:=⟨_,rfl⟩
      have HE0:=Lib.hid hE
      have hen:=entailsS_any _ _ _ _ a (b.1,b.2 ++ K) _ HB3.out.2.2.2.2.1 HB3.out.2.2.2.2.2 HB3.out.2.1.1 HB3.out.2.1.2
      rw [HP.out.2.2.2.1] at hen
      have HEN:=Lib.hid hen
      clear hE hen
      go_wp2_with fail
      have hen:=HEN.out
      rw [HE0.out] at hen
      refine Calls.mono hen ?_
      clear hen
      rintro e w4 ⟨rfl,hb4⟩
      have hb:=bt HB3.out.2.2.1 hb4
      have HX:=Lib.hid (And.intro (And.intro (box_keep HK.out.2.2.1.1 hb) (And.intro (box_keep HK.out.2.2.1.2.1 hb) (box_keep HK.out.2.2.1.2.2 hb))) (And.intro (And.intro (bt HK.out.2.2.2 hb) (bt HB0.out hb)) (And.intro (box_keep HB3.out.1.2 hb4) (HB3.out.2.2.2.1.keep hb4))))
      clear hb hb4 a0 a1 al g0 g1' gl
      cases E with
      | false =>
        have hnx:=find_more HK.out.2.1 (show frB a b k=false by rw [HF.out.1,HE0.out];rfl)
        have HNX:=Lib.hid hnx
        clear hnx
        go_wp2
        go_roundg (gk - 1)
        case rel=>exact ⟨k+1,by have:=HK.out.1;omega,by go_num,HNX.out,HX.out.1,HX.out.2.1.1,HX.out.2.1.2⟩
        case measure=>have:=HK.out.1;omega
      | true =>
        have hh:frameO a b=some K:=by
         have hx:frameM a b=some k:=by rw [HP.out.2.2.1];exact find_hit hk8 HK.out.2.1 (show frB a b k=true by rw [HF.out.1,HE0.out];rfl)
         rw [frameO,hx,Option.map_some,HF.out.2.1]
        have HHH:=Lib.hid hh
        clear hh
        have f0:=box0 HX.out.2.2.1
        have f1:=box1 HX.out.2.2.1
        have fl:=box_lt HX.out.2.2.1
        have r0:=box0 HX.out.1.2.2
        have r1:=box1 HX.out.1.2.2
        have rz:=boxz HX.out.1.2.2
        have rl:=box_lt HX.out.1.2.2
        have rr:=box_two (.slice none 0 0) (.slice d K.length xc) r0 r1
        have HQ:=Lib.hid (And.intro ((HX.out.2.2.2.mono (HK.out.2.2.2.size)).set2 (x:=.slice none 0 0) (y:=.slice d K.length xc) HX.out.1.2.2 (by decide)) ((HX.out.2.1.1.setCell (p:=⟨w.heap.size+1+1,0,none⟩) (by simp;omega) (.slice none 0 0)).setCell (p:=⟨w.heap.size+1+1,1,none⟩) (by simp;omega) (.slice d K.length xc)))
        go_wp2
        refine bodyPost_ret (v:=.tuple #[.agg #[.slice none 0 0,.slice d K.length xc],.bool true]) (by simp [results,Tryz.results73,go_sem,rr.1,rr.2]) rfl ?_
        rw [HHH.out]
        exact ⟨_,rfl,HQ.out⟩
  · obtain rfl:k=N:=by have:=HK.out.1;omega
    have hh:frameO a b=none:=by rw [frameO,HP.out.2.2.1,HK.out.2.1];rfl
    have HHH:=Lib.hid hh
    clear hh
    have r0:=box0 HK.out.2.2.1.2.2
    have r1:=box1 HK.out.2.2.1.2.2
    have rz:=boxz HK.out.2.2.1.2.2
    have rl:=box_lt HK.out.2.2.1.2.2
    have rr:=box_two (.slice none 0 0) (.slice none 0 0) r0 r1
    have HQ:=Lib.hid ((HK.out.2.2.2.setCell (p:=⟨w.heap.size+1+1,0,none⟩) (by simp;omega) (.slice none 0 0)).setCell (p:=⟨w.heap.size+1+1,1,none⟩) (by simp;omega) (.slice none 0 0))
    go_wp2
    refine bodyPost_ret (v:=.tuple #[.agg #[.slice none 0 0,.slice none 0 0],.bool false]) (by simp [results,Tryz.results73,go_sem,rr.1,rr.2]) rfl ?_
    rw [HHH.out]
    exact ⟨_,rfl,FE.nil _ _ _,HQ.out⟩
theorem nat_t {k:Nat} (h:k≤8):isTermB (k:Int)=true:=by simp [isTermB];omega
set_option maxRecDepth 100000 in
set_option maxHeartbeats 3200000 in
theorem l10New_any {S1 S2:Nat→Prop} (v1 v2 bv:Value) (a:Asn) (m B:Nat) (w:World) (h1:RL w S1 v1 a.1) (h2:RL w S2 v2 a.2) (ho:w.ownsRow B 4 1 bv 9 (flagsOf m)) (ha:asnB a=true) :
 Calls Tryz.prog 157 #[.agg #[v1,v2],bv] w fun e w'=>e=.returned (.tuple #[nvV (newV (termsM a ||| m)),.bool (newV (termsM a ||| m)).isSome])∧Below w.heap.size w w':=by
 obtain ⟨p1,c1,rfl⟩:=h1.form
 obtain ⟨p2,c2,rfl⟩:=h2.form
 obtain ⟨g,cap,rfl⟩:=flags_form ho
 have hb0:=below_alloc w (.cells #[.slice p1 a.1.length c1,.slice p2 a.2.length c2] 26)
 have hall:a.1.all factB=true∧a.2.all atomB=true:=⟨List.all_eq_true.2 (asn_parts ha).1,List.all_eq_true.2 (asn_parts ha).2⟩
 obtain ⟨T,hT⟩:∃ T,termsM a=T:=⟨_,rfl⟩
 have H0:=Lib.hid (And.intro (And.intro (h1.keep hb0) (h2.keep hb0)) (And.intro hb0 (And.intro (own_keep ho hb0) (And.intro hall hT))))
 rw [hT]
 clear h1 h2 ho ha hb0 hall hT
 go_enter Tryz.func157,Tryz.ntmps157
 go_wp2_with fail
 refine (l3Terms_any _ _ a _ H0.out.1.1 H0.out.1.2 H0.out.2.2.2.1.1 H0.out.2.2.2.1.2).mono ?_
 rw [H0.out.2.2.2.2]
 rintro e w1 ⟨v,rfl,hv,hb1⟩
 obtain ⟨f,fc,rfl⟩:=flags_form hv
 have HW:=Lib.hid (And.intro (bt H0.out.2.1 hb1) (And.intro hv (own_keep H0.out.2.2.1 hb1)))
 clear hv hb1
 go_wp2
 go_loopg [7] 4 (fun q i wr=>∃ k:Nat,k+q=9∧5≤k∧i=.int .i64 (k:Int)∧(∀ j,j+5 < k→(T ||| m).testBit (j+5)=true)∧wr=w1)
 case atStart=>exact ⟨5,by omega,by omega,rfl,fun j h=>absurd h (by omega),rfl⟩
 case round =>
  obtain ⟨k,hk,hk5,rfl,hst,rfl⟩:=hrel
  have HK:=Lib.hid (And.intro hk (And.intro hk5 hst))
  clear hk hst
  by_cases h8:k≤8
  · have hk8:(k:Int)≤8:=by omega
    have hk9:(k:Int) < 9:=by omega
    have x1:wr.cell? ⟨f,k,none⟩=some (.bool (T.testBit k)):=by
     have:=HW.out.2.1.cellAt k (by omega)
     rw [flags_at T k (by omega)] at this
     simpa using this
    have x2:wr.cell? ⟨g,k,none⟩=some (.bool (m.testBit k)):=by
     have:=HW.out.2.2.cellAt k (by omega)
     rw [flags_at m k (by omega)] at this
     simpa using this
    obtain ⟨b1,hb1⟩:∃ b,T.testBit k=b:=⟨_,rfl⟩
    obtain ⟨b2,hb2⟩:∃ b,m.testBit k=b:=⟨_,rfl⟩
    rw [hb1] at x1
    rw [hb2] at x2
    have hor:(T ||| m).testBit k=(b1 || b2):=by rw [Nat.testBit_or,hb1,hb2]
    have HOR:=Lib.hid hor
    clear hb1 hb2 hor
    cases b1 with
    | true =>
      go_wp2
      go_roundg (gk - 1)
      case rel=>exact ⟨k+1,by have:=HK.out.1;omega,by omega,by go_num,fun j hj=>by
       by_cases e:j+5=k
       · rw [e,HOR.out];rfl
       · exact HK.out.2.2 j (by omega),rfl⟩
      case measure=>have:=HK.out.1;omega
    | false =>
      cases b2 with
      | true =>
        go_wp2
        go_roundg (gk - 1)
        case rel=>exact ⟨k+1,by have:=HK.out.1;omega,by omega,by go_num,fun j hj=>by
         by_cases e:j+5=k
         · rw [e,HOR.out];rfl
         · exact HK.out.2.2 j (by omega),rfl⟩
        case measure=>have:=HK.out.1;omega
      | false =>
        obtain ⟨j,rfl⟩:∃ j,k=j+5:=⟨k - 5,by omega⟩
        have hv:=newV_hit (m:=T ||| m) (k:=j) (by omega) (fun i hi=>HK.out.2.2 i (by omega)) HOR.out
        have HV:=Lib.hid hv
        clear hv
        go_wp2
        go_returns
        refine ⟨?_,HW.out.1⟩
        rw [HV.out,show nvV (some (5+(j:Int)))=.int .i64 (5+(j:Int)) from rfl]
        rw [Int.add_comm 5 (j:Int)]
        first | rfl | (simp;done)
  · have hk8:¬ (k:Int)≤8:=by omega
    have hv:=newV_none (m:=T ||| m) fun j hj=>HK.out.2.2 j (by omega)
    have HV:=Lib.hid hv
    clear hv
    go_wp2
    go_returns
    exact ⟨by rw [HV.out];rfl,HW.out.1⟩
end Go.Proofs.YtkbbmjcfgcfejaaGreat
set_option linter.unusedVariables false
set_option linter.unusedSimpArgs false
namespace Go.Proofs.YtkbbmjcfgcfejaaGreat
open Go.RowKit
def fsR (a:Asn) (x:Int) (m:Nat):Asn × Int:=(forgetN a x m).getD (subB a x 0,0)
set_option maxRecDepth 100000 in
set_option maxHeartbeats 3200000 in
theorem forgetS_any {S1 S2:Nat→Prop} (v1 v2 bv:Value) (a:Asn) (x:Nat) (m B:Nat) (w:World) (h1:RL w S1 v1 a.1) (h2:RL w S2 v2 a.2) (ho:w.ownsRow B 4 1 bv 9 (flagsOf m)) (ha:asnB a=true) (hx:x≤8) :
 Calls Tryz.prog 77 #[.agg #[v1,v2],.int .i64 (x:Int),bv] w fun e w'=>∃ x1 x2,e=.returned (.tuple #[.agg #[x1,x2],.int .i64 (fsR a x m).2,.bool (forgetN a x m).isSome])∧(RL w' (fun k=>S1 k∨w.heap.size≤k) x1 (fsR a x m).1.1∧RL w' (fun k=>S2 k∨w.heap.size≤k) x2 (fsR a x m).1.2)∧Below w.heap.size w w':=by
 obtain ⟨p1,c1,rfl⟩:=h1.form
 obtain ⟨p2,c2,rfl⟩:=h2.form
 obtain ⟨g,cap,rfl⟩:=flags_form ho
 obtain ⟨w0,hw0⟩:∃ w0,w0=(w.alloc (.cells #[.slice p1 a.1.length c1,.slice p2 a.2.length c2] 26)).alloc (.cells #[.slice none 0 0,.slice none 0 0] 26):=⟨_,rfl⟩
 have hA:w0.heap[w.heap.size]?=some (.cells #[.slice p1 a.1.length c1,.slice p2 a.2.length c2] 26 (0,0)):=by
  rw [hw0];exact box_keep (heap_alloc_new w _) (below_alloc _ _)
 have hR:w0.heap[w.heap.size+1]?=some (.cells #[.slice none 0 0,.slice none 0 0] 26 (0,0)):=by
  rw [hw0]
  have:=heap_alloc_new (w.alloc (.cells #[.slice p1 a.1.length c1,.slice p2 a.2.length c2] 26)) (.cells #[.slice none 0 0,.slice none 0 0] 26)
  simpa using this
 have hW:Below w.heap.size w w0:=by rw [hw0];exact ba (below_alloc _ _) _
 have hall:a.1.all factB=true∧a.2.all atomB=true:=⟨List.all_eq_true.2 (asn_parts ha).1,List.all_eq_true.2 (asn_parts ha).2⟩
 have hle:=asnLe ha
 have HW0:=Lib.hid hw0
 have H0:=Lib.hid (And.intro (And.intro hA hR) (And.intro hW (And.intro (And.intro ((h1.more (S':=fun k=>k < w.heap.size∧S1 k) fun k hk h=>⟨hk,h⟩).keep hW) ((h2.more (S':=fun k=>k < w.heap.size∧S2 k) fun k hk h=>⟨hk,h⟩).keep hW)) (own_keep ho hW))))
 obtain ⟨T,hT⟩:∃ T,termsM a=T:=⟨_,rfl⟩
 have hf:forgetN a x m=if T.testBit x=true then (newV (T ||| m)).map fun n=>(subB a x n,n) else some (a,(x:Int)):=by
  rw [forgetN,hT,hasT,nat_t hx,Bool.true_and,Int.toNat_natCast]
 obtain ⟨b,hb⟩:∃ b,T.testBit x=b:=⟨_,rfl⟩
 rw [hb] at hf
 have HP:=Lib.hid (And.intro hall (And.intro hT (And.intro hb (And.intro ha hle))))
 have HF:=Lib.hid hf
 have hx9:(x:Int) < 9:=by omega
 clear hA hR hW hw0 h1 h2 ho ha hall hle hT hf hb
 go_enter Tryz.func77,Tryz.ntmps77
 go_wp2_with fail
 rw [← HW0.out]
 refine (l3Terms_any _ _ a _ H0.out.2.2.1.1 H0.out.2.2.1.2 HP.out.1.1 HP.out.1.2).mono ?_
 rw [HP.out.2.1]
 rintro e w1 ⟨v,rfl,hv,hb1⟩
 obtain ⟨f,fc,rfl⟩:=flags_form hv
 have x1:w1.cell? ⟨f,x,none⟩=some (.bool b):=by
  have:=hv.cellAt x (by omega)
  rw [flags_at T x (by omega),HP.out.2.2.1] at this
  simpa using this
 have H1:=Lib.hid (And.intro (And.intro (box_keep H0.out.1.1 hb1) (box_keep H0.out.1.2 hb1)) (And.intro (bt H0.out.2.1 hb1) (And.intro (And.intro (H0.out.2.2.1.1.keep hb1) (H0.out.2.2.1.2.keep hb1)) (own_keep H0.out.2.2.2 hb1))))
 have a0:=box0 H1.out.1.1
 have a1:=box1 H1.out.1.1
 have al:=box_lt H1.out.1.1
 clear hv hb1 H0
 cases b with
 | false =>
   have hr:forgetN a x m=some (a,(x:Int)):=by rw [HF.out,if_neg (by decide)]
   have r0:=box0 H1.out.1.2
   have r1:=box1 H1.out.1.2
   have rz:=boxz H1.out.1.2
   have rl:=box_lt H1.out.1.2
   have rr:=box_two (.slice p1 a.1.length c1) (.slice p2 a.2.length c2) r0 r1
   have far:∀ (S:Nat→Prop) (k:Nat),k < w1.heap.size→(fun k=>k < w.heap.size∧S k) k→¬ (fun j=>j=w.heap.size+1) k:=fun S k _ hs e=>by
    have h2:k < w.heap.size:=hs.1
    have e2:k=w.heap.size+1:=e
    omega
   have hset:=fr_twoR w1 (w.heap.size+1) (.slice p1 a.1.length c1) (.slice p2 a.2.length c2)
   have HQ:=Lib.hid (And.intro hr (And.intro (And.intro ((H1.out.2.2.1.1.kept hset (far S1)).more (S':=fun k=>S1 k∨w.heap.size≤k) fun k _ h=>.inl h.2) ((H1.out.2.2.1.2.kept hset (far S2)).more (S':=fun k=>S2 k∨w.heap.size≤k) fun k _ h=>.inl h.2)) ((H1.out.2.1.setCell (p:=⟨w.heap.size+1,0,none⟩) (by simp) (.slice p1 a.1.length c1)).setCell (p:=⟨w.heap.size+1,1,none⟩) (by simp) (.slice p2 a.2.length c2))))
   clear hr far hset
   go_wp2
   refine bodyPost_ret (v:=.tuple #[.agg #[.slice p1 a.1.length c1,.slice p2 a.2.length c2],.int .i64 (x:Int),.bool true]) (by simp [results,Tryz.results77,go_sem,rr.1,rr.2]) rfl ?_
   rw [fsR,HQ.out.1]
   exact ⟨_,_,rfl,HQ.out.2⟩
 | true =>
   have hr:=HF.out
   rw [if_pos rfl] at hr
   obtain ⟨N,hN⟩:∃ N,newV (T ||| m)=N:=⟨_,rfl⟩
   rw [hN] at hr
   have hnw:=l10New_any _ _ _ a m B w1 H1.out.2.2.1.1 H1.out.2.2.1.2 H1.out.2.2.2 HP.out.2.2.2.1
   rw [HP.out.2.1,hN] at hnw
   have HN:=Lib.hid hnw
   have hfs:fsR a x m=(subB a x (N.getD 0),N.getD 0)∧(forgetN a x m).isSome=N.isSome:=by
    rw [fsR,hr]
    cases N <;> exact ⟨rfl,rfl⟩
   have HR:=Lib.hid hfs
   clear hr hnw hN hfs
   go_wp2_with fail
   refine HN.out.mono ?_
   rintro e w2 ⟨rfl,hb2⟩
   have H2:=Lib.hid (And.intro (And.intro (box_keep H1.out.1.1 hb2) (box_keep H1.out.1.2 hb2)) (And.intro (bt H1.out.2.1 hb2) (And.intro (H1.out.2.2.1.1.keep hb2) (H1.out.2.2.1.2.keep hb2))))
   clear hb2 a0 a1 al HN x1
   obtain ⟨n,hn⟩:∃ n,N.getD 0=n:=⟨_,rfl⟩
   rw [show nvV N=.int .i64 n from by rw [nvV,hn]]
   have HNN:=Lib.hid hn
   clear hn
   have a0:=box0 H2.out.1.1
   have a1:=box1 H2.out.1.1
   have al:=box_lt H2.out.1.1
   obtain ⟨oo,hoo⟩:∃ oo,N.isSome=oo:=⟨_,rfl⟩
   rw [hoo]
   have HO:=Lib.hid hoo
   clear hoo
   go_wp2_with fail
   refine (l3Subst_any _ _ a (x:Int) n _ H2.out.2.2.1 H2.out.2.2.2 (by have:=HP.out.2.2.2.2;omega) (by have:=HP.out.2.2.2.2;omega)).mono ?_
   rintro e w3 ⟨y1,y2,rfl,⟨q1,q2⟩,hb3⟩
   obtain ⟨d1,m1,e1,rfl⟩:=q1.forms
   obtain ⟨d2,m2,e2,rfl⟩:=q2.forms
   have hR:=box_keep H2.out.1.2 hb3
   have r0:=box0 hR
   have r1:=box1 hR
   have rz:=boxz hR
   have rl:=box_lt hR
   have rr:=box_two (.slice d1 m1 e1) (.slice d2 m2 e2) r0 r1
   have HQ:=Lib.hid (And.intro (And.intro ((q1.set2 (x:=.slice d1 m1 e1) (y:=.slice d2 m2 e2) hR (by decide)).rl.more (S':=fun k=>S1 k∨w.heap.size≤k) fun k _ h=>.inr (Nat.le_trans H2.out.2.1.size h)) ((q2.set2 (x:=.slice d1 m1 e1) (y:=.slice d2 m2 e2) hR (by decide)).rl.more (S':=fun k=>S2 k∨w.heap.size≤k) fun k _ h=>.inr (Nat.le_trans H2.out.2.1.size h))) (((bt H2.out.2.1 hb3).setCell (p:=⟨w.heap.size+1,0,none⟩) (by simp) (.slice d1 m1 e1)).setCell (p:=⟨w.heap.size+1,1,none⟩) (by simp) (.slice d2 m2 e2)))
   clear q1 q2 hb3 hR a0 a1 al
   go_wp2
   refine bodyPost_ret (v:=.tuple #[.agg #[.slice d1 m1 e1,.slice d2 m2 e2],.int .i64 n,.bool oo]) (by simp [results,Tryz.results77,go_sem,rr.1,rr.2]) rfl ?_
   rw [HR.out.1,HR.out.2,HNN.out,HO.out]
   exact ⟨_,_,rfl,HQ.out⟩
theorem l8Prog_val {n:Int} {b:Bool} (w:World) (h:progB n=b):Calls Tryz.prog 154 #[.int .i64 n] w fun e w'=>e=.returned (.bool b)∧w=w':=h ▸ l8Prog_any n w
set_option maxRecDepth 100000 in
set_option maxHeartbeats 3200000 in
theorem conValidS_any {S:Nat→Prop} (p1 p2 q1 q2 ch:Value) (k:Con) (w:World) (h:RCon w S p1 p2 q1 q2 ch k) :
 Calls Tryz.prog 72 #[.agg #[p1,p2,q1,q2,ch]] w fun e w'=>e=.returned (.bool (conB k))∧Below w.heap.size w w':=by
 obtain ⟨⟨a1,a2⟩,⟨b1,b2⟩,l⟩:=k
 have hk0:conB ((a1,a2),(b1,b2),l)=(asnB (a1,a2) && (asnB (b1,b2) && chgsB l)):=rfl
 obtain ⟨x1,y1,rfl⟩:=h.pre1.form
 obtain ⟨x2,y2,rfl⟩:=h.pre2.form
 obtain ⟨x3,y3,rfl⟩:=h.post1.form
 obtain ⟨x4,y4,rfl⟩:=h.post2.form
 obtain ⟨x5,y5,rfl⟩:=h.chg.form
 have hb0:=below_alloc w (.cells #[.slice x1 a1.length y1,.slice x2 a2.length y2,.slice x3 b1.length y3,.slice x4 b2.length y4,.slice x5 l.length y5] 29)
 have hK:=boxK_new w (.slice x1 a1.length y1) (.slice x2 a2.length y2) (.slice x3 b1.length y3) (.slice x4 b2.length y4) (.slice x5 l.length y5)
 have hlm:=h.chg.len
 unfold maxLen at hlm
 obtain ⟨W,hWd⟩:∃ W,W=w.alloc (.cells #[.slice x1 a1.length y1,.slice x2 a2.length y2,.slice x3 b1.length y3,.slice x4 b2.length y4,.slice x5 l.length y5] 29):=⟨_,rfl⟩
 rw [← hWd] at hb0 hK
 have HW:=Lib.hid hWd
 have H0:=Lib.hid (And.intro hK (And.intro (h.keep hb0) hb0))
 have HC:=Lib.hid (h.keep hb0).chg.ints.cells
 clear hK hb0 h hWd
 obtain ⟨A,hA⟩:∃ A,asnB (a1,a2)=A:=⟨_,rfl⟩
 obtain ⟨B,hB⟩:∃ B,asnB (b1,b2)=B:=⟨_,rfl⟩
 rw [hA,hB] at hk0
 have HAB:=Lib.hid (And.intro hA (And.intro hB hk0))
 clear hA hB hk0
 go_enter Tryz.func72,Tryz.ntmps72
 go_wp2
 rw [← HW.out]
 go_loopg [3] l.length (fun q i wr=>∃ j:Nat,j+q=l.length∧i=.int .i64 j∧(∀ i,i < j→stepP l i=true)∧Below W.heap.size W wr)
 case atStart=>exact ⟨0,by omega,rfl,fun i hi=>absurd hi (by omega),Below.refl _ _⟩
 case round =>
  obtain ⟨j,hj,rfl,hst,hbw⟩:=hrel
  have HJ:=Lib.hid (And.intro hj hst)
  have H1:=Lib.hid (And.intro (H0.out.1.keep hbw) (And.intro (H0.out.2.1.keep hbw) (And.intro (bt H0.out.2.2 hbw) hbw)))
  clear hj hst
  obtain ⟨k0,k1,k2,k3,k4⟩:=H1.out.1.cells
  have kl:=H1.out.1.lt
  by_cases hj8:j < l.length
  · have hji:(j:Int) < (l.length:Int):=by omega
    obtain ⟨xa,xc,hxe,hcell⟩:=HC.out
    simp only [Value.slice.injEq] at hxe
    obtain ⟨rfl,_,rfl⟩:=hxe
    obtain ⟨b,o,rfl,hzb0,hck⟩:=hcell j hj8
    replace hck:=cell_keep hbw hck
    have hzb:=World.block_lt_of_cell? wr _ hck
    simp only at hzb
    obtain ⟨x,hx⟩:∃ x,gi l j=x:=⟨_,rfl⟩
    rw [hx] at hck
    obtain ⟨P,hP⟩:∃ P,progB x=P:=⟨_,rfl⟩
    have HP:=Lib.hid (And.intro hP hx)
    cases P with
    | false =>
      have hbad:=chgs_bad (l:=l) hj8 (show stepP l j=false by rw [stepP,HP.out.2,HP.out.1];rfl)
      have HBD:=Lib.hid hbad
      clear hcell hx hP hbad
      go_upto_region 4 with fail
      refine wp_region_ext (by kernel_rfl) (by kernel_rfl) ?_
      repeat (go_big_quiet_step (first | (go_at_call 154;exact ext_same (l8Prog_val _ HP.out.1))))
      refine wpQuiet_nil ?_
      intro w6 hb6
      go_wp2
      go_returns
      exact ⟨by rw [HAB.out.2.2,HBD.out];simp,bt H1.out.2.2.1 hb6⟩
    | true =>
      have hx1:1≤x:=by have h1:=HP.out.1;simp [progB] at h1;omega
      have HX1:=Lib.hid hx1
      clear hx1
      by_cases h0:0 < j
      · obtain ⟨i,rfl⟩:∃ i,j=i+1:=⟨j - 1,by omega⟩
        have hz0:(0:Int) < ((i+1:Nat):Int):=by omega
        have hck2:=cell_keep hbw (by have:=hcell i (by omega);obtain ⟨b',o',he,_,h⟩:=this;simp only [Option.some.injEq,Addr.mk.injEq] at he;obtain ⟨rfl,rfl,_⟩:=he;exact h)
        obtain ⟨z,hz⟩:∃ z,gi l i=z:=⟨_,rfl⟩
        rw [hz] at hck2
        have hsp:stepP l (i+1)=decide (z < x):=by rw [stepP,HP.out.2,HP.out.1,Bool.true_and,prv_succ,hz]
        have HS:=Lib.hid (And.intro hsp hz)
        clear hcell hx hP hsp hz
        by_cases hzx:x≤z
        · have hbad:=chgs_bad (l:=l) hj8 (show stepP l (i+1)=false by rw [HS.out.1,decide_eq_false (by omega)])
          have HBD:=Lib.hid hbad
          clear hbad
          go_upto_region 4 with fail
          refine wp_region_ext (by kernel_rfl) (by kernel_rfl) ?_
          repeat (go_big_quiet_step (first | (go_at_call 154;exact ext_same (l8Prog_val _ HP.out.1))))
          refine wpQuiet_nil ?_
          intro w6 hb6
          go_wp2
          go_returns
          exact ⟨by rw [HAB.out.2.2,HBD.out];simp,bt H1.out.2.2.1 hb6⟩
        · have HG:=Lib.hid (show stepP l (i+1)=true by rw [HS.out.1,decide_eq_true (by omega)])
          go_upto_region 4 with fail
          refine wp_region_ext (by kernel_rfl) (by kernel_rfl) ?_
          repeat (go_big_quiet_step (first | (go_at_call 154;exact ext_same (l8Prog_val _ HP.out.1))))
          refine wpQuiet_nil ?_
          intro w6 hb6
          go_wp2
          go_roundg (gk - 1)
          case rel=>exact ⟨i+1+1,by have:=HJ.out;omega,by go_num,fun n hi=>(Nat.lt_succ_iff_lt_or_eq.1 hi).elim (HJ.out.2 n) (fun e=>e ▸ HG.out),bt H1.out.2.2.2 hb6⟩
          case measure=>have:=HJ.out;omega
      · have hz0:¬ (0:Int) < (j:Int):=by omega
        clear hcell hx hP
        have hgood:stepP l j=true:=by
         have hj0:j=0:=by omega
         rw [stepP,HP.out.2,HP.out.1,Bool.true_and,prvI,if_pos hj0,decide_eq_true (by have:=HX1.out;omega)]
        have HG:=Lib.hid hgood
        clear hgood
        go_upto_region 4 with fail
        refine wp_region_ext (by kernel_rfl) (by kernel_rfl) ?_
        repeat (go_big_quiet_step (first | (go_at_call 154;exact ext_same (l8Prog_val _ HP.out.1))))
        refine wpQuiet_nil ?_
        intro w6 hb6
        go_wp2
        go_roundg (gk - 1)
        case rel=>exact ⟨j+1,by have:=HJ.out;omega,by go_num,fun i hi=>(Nat.lt_succ_iff_lt_or_eq.1 hi).elim (HJ.out.2 i) (fun e=>e ▸ HG.out),bt H1.out.2.2.2 hb6⟩
        case measure=>have:=HJ.out;omega
  · obtain rfl:j=l.length:=by have:=HJ.out;omega
    have hall:=chgs_all HJ.out.2
    have HAL:=Lib.hid hall
    clear hall
    go_wp2_with fail
    refine (cb (asnValidS_any _ _ (a1,a2) _ H1.out.2.1.pre1 H1.out.2.1.pre2) HAB.out.1).mono ?_
    rintro e w1 ⟨rfl,hb1⟩
    have H2:=Lib.hid (And.intro (H1.out.1.keep hb1) (And.intro (H1.out.2.1.keep hb1) (bt H1.out.2.2.1 hb1)))
    clear hb1 k0 k1 k2 k3 k4 kl
    cases A with
    | false =>
      go_wp2
      go_returns
      exact ⟨by rw [HAB.out.2.2];simp,H2.out.2.2⟩
    | true =>
      obtain ⟨k0,k1,k2,k3,k4⟩:=H2.out.1.cells
      have kl:=H2.out.1.lt
      go_wp2_with fail
      refine (cb (asnValidS_any _ _ (b1,b2) _ H2.out.2.1.post1 H2.out.2.1.post2) HAB.out.2.1).mono ?_
      rintro e w2 ⟨rfl,hb2⟩
      go_wp2
      go_returns
      exact ⟨by rw [HAB.out.2.2,HAL.out];simp,bt H2.out.2.2 hb2⟩
end Go.Proofs.YtkbbmjcfgcfejaaGreat
set_option linter.unusedVariables false
namespace Go.Proofs.YtkbbmjcfgcfejaaGreat
open Go.RowKit
def busyN (K T:Nat):Nat→Nat
 | 0=>K
 | n+1=>if T.testBit n=true then busyN K T n ||| 2 ^ n else busyN K T n
theorem busyN_bit (K T j:Nat):∀ n,(busyN K T n).testBit j=(K.testBit j || (decide (j < n) && T.testBit j))
 | 0=>by simp [busyN]
 | n+1=>by
   rw [busyN]
   split
   · rename_i h
     rw [testBit_or_pow,busyN_bit K T j n]
     by_cases e:n=j
     · subst e;simp [h]
     · rw [decide_eq_false e,Bool.or_false]
       congr 2
       rw [decide_eq_decide];omega
   · rename_i h
     rw [busyN_bit K T j n]
     by_cases e:n=j
     · subst e;simp [h]
     · congr 2
       rw [decide_eq_decide];omega
theorem flags_same {m k:Nat} (h:k < 9):(flagsOf m).set k (.bool (m.testBit k))=flagsOf m:=by
 refine List.ext_getElem? fun i=>?_
 by_cases e:k=i
 · subst e
   rw [List.getElem?_set_self (by simp [flagsOf];omega),flags_at m k h]
 · rw [List.getElem?_set_ne e]
theorem busy_set {K T n:Nat} (h:n < 9):(flagsOf (busyN K T n)).set n (.bool ((busyN K T n).testBit n || T.testBit n))=flagsOf (busyN K T (n+1)):=by
 rw [busyN]
 split
 · rename_i ht
   rw [ht,Bool.or_true,flags_set _ n h]
 · rename_i ht
   rw [Bool.not_eq_true] at ht
   rw [ht,Bool.or_false,flags_same h]
theorem newV_congr {m m':Nat} (h:∀ j,j < 9→m.testBit j=m'.testBit j):newV m=newV m':=by
 have e:(fun (i:Nat)=>!m.testBit (i+5))=fun i=>!m.testBit (i+5):=rfl
 rw [newV,newV]
 congr 1
 have:∀ (l:List Nat),(∀ i ∈ l,i < 4)→l.find? (fun (i:Nat)=>!m.testBit (i+5))=l.find? fun (i:Nat)=>!m'.testBit (i+5):=by
  intro l hl
  induction l with
  | nil=>rfl
  | cons x r ih =>
    rw [List.find?_cons,List.find?_cons,h (x+5) (by have:=hl x List.mem_cons_self;omega),ih fun i hi=>hl i (List.mem_cons_of_mem _ hi)]
 exact this _ fun i hi=>List.mem_range.1 hi
theorem forgetN_congr {m m':Nat} (h:∀ j,j < 9→m.testBit j=m'.testBit j) (a:Asn) (x:Int):forgetN a x m=forgetN a x m':=by
 rw [forgetN,forgetN,newV_congr (m:=termsM a ||| m) (m':=termsM a ||| m') fun j hj=>by rw [Nat.testBit_or,Nat.testBit_or,h j hj]]
theorem forgetL_congr {m m':Nat} (h:∀ j,j < 9→m.testBit j=m'.testBit j):∀ (l:List Int) (a:Asn),forgetL m l a=forgetL m' l a
 | [],a=>rfl
 | x :: l,a=>by
   rw [forgetL,forgetL,forgetO_eq,forgetO_eq,forgetN_congr h]
   congr 1
   exact funext fun b=>forgetL_congr h l b
def callT (a:Asn) (k:Con):Nat:=termsM (a.1 ++ (k.1.1 ++ k.2.1.1),a.2 ++ (k.1.2 ++ k.2.1.2))
theorem call_busy (a:Asn) (k:Con) (keep:List Int) (j:Nat) (hj:j < 9):(busyN (keepM keep) (callT a k) 9).testBit j=(takenM a k keep).testBit j:=by
 rw [busyN_bit,decide_eq_true hj,Bool.true_and,takenM,callT]
 rw [both_bit a (k.1.1 ++ k.2.1.1,k.1.2 ++ k.2.1.2),both_bit k.1 k.2.1,Nat.testBit_or,Nat.testBit_or,Nat.testBit_or]
 cases (keepM keep).testBit j <;> cases (termsM a).testBit j <;> cases (termsM k.1).testBit j <;> cases (termsM k.2.1).testBit j <;> rfl
theorem FE.rln {α:Type} [Flat α] [Tid α] {w:World} {B t:Nat} {v:Value} {l:List α} {cs:Array Value} {T:TypeId} (h:FE w B v l) (hT:w.heap[t]?=some (.cells cs T (0,0))) (hne:T ≠ Tid.tid α):RL w (fun k=>B≤k∧¬ k=t) v l:=by
 obtain ⟨xs,h1,h2⟩:=h
 rcases h1 with h0 | h
 · refine (RowE.rl (B:=B+t+1) (e:=T) (.inl h0) h2).more fun k _ hk=>?_
   rcases hk with hk | hk
   · exact hk.elim
   · exact ⟨by omega,by omega⟩
 · have hlt:=fun k hk=>own_lt h (k:=k) hk
   have htf:=row_tf h
   rcases own_rsl h with ⟨a,cap,rfl,h0,h1,h3⟩ | ⟨b,o,cap,rfl,h1,h3,h4⟩
   · exact .inl ⟨a,cap,rfl,List.eq_nil_of_length_eq_zero h0,h1,h3⟩
   · refine .inr ⟨b,o,cap,rfl,h1,h3,fun hp=>⟨⟨(hlt b rfl).1,fun e=>tf_ne hT hne (e ▸ htf b rfl)⟩,(hlt b rfl).2⟩,fun i hi=>⟨_,Dat.more (h2 i hi) fun k _ hk=>hk.elim,fun j u hj=>?_⟩⟩
     have hx2:=nth_at hj
     have hlen:i * Dat.sz α+j < xs.length:=(List.getElem?_eq_some_iff.1 hx2).1
     rw [h4 (i * Dat.sz α+j) (by rw [← h.1];exact hlen)]
     simp [hx2]
end Go.Proofs.YtkbbmjcfgcfejaaGreat
