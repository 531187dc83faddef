/- Walk: spec.CallPost. -/
import Derived.Test.YtkbbmjcfgcfejaaGreatKCallI
import Derived.Test.YtkbbmjcfgcfejaaGreatKBsy
import Derived.Test.YtkbbmjcfgcfejaaGreatKMut1
import Derived.Handy
import Derived.BigQuiet
import Derived.Deep.DeepMust
import Derived.Deep.Cut
import Derived.Deep.DeepCutAuto
set_option linter.unusedVariables false
set_option linter.unusedSimpArgs false
namespace Go.Proofs.YtkbbmjcfgcfejaaGreat
open Go.RowKit
set_option maxRecDepth 100000 in
set_option maxHeartbeats 6400000 in
theorem callS_any {S1 S2 S:Nat→Prop} (v1 v2 p1 p2 q1 q2 ch kv:Value) (a:Asn) (k:Con) (keep:List Int) (w:World) (h1:RL w S1 v1 a.1) (h2:RL w S2 v2 a.2) (hk:RCon w S p1 p2 q1 q2 ch k) (hkv:RInts w kv keep) :
 Calls Tryz.prog 14 #[.agg #[v1,v2],.agg #[p1,p2,q1,q2,ch],kv] w fun e w'=>∃ x1 x2,e=.returned (.tuple #[.agg #[x1,x2],.bool (callO a k keep).isSome])∧(RL w' (fun _=>True) x1 ((callO a k keep).getD ([],[])).1∧RL w' (fun _=>True) x2 ((callO a k keep).getD ([],[])).2)∧Below w.heap.size w w':=by
 obtain ⟨xa1,xc1,rfl⟩:=h1.form
 obtain ⟨xa2,xc2,rfl⟩:=h2.form
 obtain ⟨ya1,yc1,rfl⟩:=hk.pre1.form
 obtain ⟨ya2,yc2,rfl⟩:=hk.pre2.form
 obtain ⟨za1,zc1,rfl⟩:=hk.post1.form
 obtain ⟨za2,zc2,rfl⟩:=hk.post2.form
 obtain ⟨ca,cc,rfl⟩:=hk.chg.form
 obtain ⟨ka,kc,rfl⟩:=hkv.form
 obtain ⟨w0,hw0⟩:∃ w0,w0=(((w.alloc (.cells #[.slice xa1 a.1.length xc1,.slice xa2 a.2.length xc2] 26)).alloc (.cells #[.slice ya1 k.1.1.length yc1,.slice ya2 k.1.2.length yc2,.slice za1 k.2.1.1.length zc1,.slice za2 k.2.1.2.length zc2,.slice ca k.2.2.length cc] 29)).alloc (.cells #[.slice none 0 0,.slice none 0 0] 26)):=⟨_,rfl⟩
 have hA:w0.heap[w.heap.size]?=some (.cells #[.slice xa1 a.1.length xc1,.slice xa2 a.2.length xc2] 26 (0,0)):=by
  rw [hw0];exact box_keep (box_keep (heap_alloc_new w _) (below_alloc _ _)) (below_alloc _ _)
 have hK:BoxK w0 (w.heap.size+1) (.slice ya1 k.1.1.length yc1) (.slice ya2 k.1.2.length yc2) (.slice za1 k.2.1.1.length zc1) (.slice za2 k.2.1.2.length zc2) (.slice ca k.2.2.length cc):=by
  rw [hw0]
  have:=(boxK_new (w.alloc (.cells #[.slice xa1 a.1.length xc1,.slice xa2 a.2.length xc2] 26)) (.slice ya1 k.1.1.length yc1) (.slice ya2 k.1.2.length yc2) (.slice za1 k.2.1.1.length zc1) (.slice za2 k.2.1.2.length zc2) (.slice ca k.2.2.length cc)).keep (below_alloc _ (.cells #[.slice none 0 0,.slice none 0 0] 26))
  simpa using this
 have hR:w0.heap[w.heap.size+1+1]?=some (.cells #[.slice none 0 0,.slice none 0 0] 26 (0,0)):=by
  rw [hw0]
  have:=heap_alloc_new ((w.alloc (.cells #[.slice xa1 a.1.length xc1,.slice xa2 a.2.length xc2] 26)).alloc (.cells #[.slice ya1 k.1.1.length yc1,.slice ya2 k.1.2.length yc2,.slice za1 k.2.1.1.length zc1,.slice za2 k.2.1.2.length zc2,.slice ca k.2.2.length cc] 29)) (.cells #[.slice none 0 0,.slice none 0 0] 26)
  simpa using this
 have hW:Below w.heap.size w w0:=by rw [hw0];exact ba (ba (below_alloc _ _) _) _
 have far:∀ {k:Nat} {S:Nat→Prop},k < w.heap.size→S k→(fun k=>k < w.heap.size) k:=fun h _=>h
 have HW0:=Lib.hid hw0
 -- what is read,below the boxes
 have HD0:=Lib.hid (And.intro (And.intro ((h1.more (S':=fun k=>k < w.heap.size) fun k hk _=>hk).keep hW) ((h2.more (S':=fun k=>k < w.heap.size) fun k hk _=>hk).keep hW)) (And.intro (hk.low.keep hW) (hkv.keep hW)))
 have HB0:=Lib.hid (And.intro (And.intro hA (And.intro hK hR)) hW)
 clear hA hK hR hW hw0 h1 h2 hk hkv far
 obtain ⟨A,hA⟩:∃ A,asnB a=A:=⟨_,rfl⟩
 obtain ⟨B,hB⟩:∃ B,conB k=B:=⟨_,rfl⟩
 obtain ⟨R,hR⟩:∃ R,callO a k keep=R:=⟨_,rfl⟩
 have hr:=hR
 rw [callO,hA,hB] at hr
 rw [hR]
 have HR:=Lib.hid (And.intro hr (And.intro hA hB))
 clear hr hA hB hR
 go_enter Tryz.func14,Tryz.ntmps14
 go_wp2_with fail
 rw [← HW0.out]
 refine (cb (asnValidS_any _ _ a _ HD0.out.1.1 HD0.out.1.2) HR.out.2.1).mono ?_
 rintro e w1 ⟨rfl,hb1⟩
 have HB1:=Lib.hid (And.intro (And.intro (box_keep HB0.out.1.1 hb1) (And.intro (HB0.out.1.2.1.keep hb1) (box_keep HB0.out.1.2.2 hb1))) (bt HB0.out.2 hb1))
 have HD1:=Lib.hid (And.intro (And.intro (HD0.out.1.1.keep hb1) (HD0.out.1.2.keep hb1)) (And.intro (HD0.out.2.1.keep hb1) (HD0.out.2.2.keep hb1)))
 clear HB0 HD0 hb1
 have NIL:∀ w1:World,R=none→Below w.heap.size w w1→∃ x1 x2,(Ending.returned (.tuple #[.agg #[.slice none 0 0,.slice none 0 0],.bool false]))=.returned (.tuple #[.agg #[x1,x2],.bool R.isSome])∧(RL ((w1.setCell ⟨w.heap.size+1+1,0,none⟩ (.slice none 0 0)).setCell ⟨w.heap.size+1+1,1,none⟩ (.slice none 0 0)) (fun _=>True) x1 (R.getD ([],[])).1∧RL ((w1.setCell ⟨w.heap.size+1+1,0,none⟩ (.slice none 0 0)).setCell ⟨w.heap.size+1+1,1,none⟩ (.slice none 0 0)) (fun _=>True) x2 (R.getD ([],[])).2)∧Below w.heap.size w ((w1.setCell ⟨w.heap.size+1+1,0,none⟩ (.slice none 0 0)).setCell ⟨w.heap.size+1+1,1,none⟩ (.slice none 0 0)):=by
  intro w1 hn hb
  rw [hn]
  exact ⟨_,_,rfl,⟨RL.nil _ _,RL.nil _ _⟩,(hb.setCell (p:=⟨w.heap.size+1+1,0,none⟩) (by simp;omega) _).setCell (p:=⟨w.heap.size+1+1,1,none⟩) (by simp;omega) _⟩
 have HNIL:=Lib.hid NIL
 clear NIL
 cases A with
 | false =>
   have r0:=box0 HB1.out.1.2.2
   have r1:=box1 HB1.out.1.2.2
   have rz:=boxz HB1.out.1.2.2
   have rl:=box_lt HB1.out.1.2.2
   have rr:=box_two (.slice none 0 0) (.slice none 0 0) r0 r1
   go_wp2
   refine bodyPost_ret (v:=.tuple #[.agg #[.slice none 0 0,.slice none 0 0],.bool false]) (by simp [results,Tryz.results14,go_sem,rr.1,rr.2]) rfl ?_
   exact HNIL.out _ (by rw [← HR.out.1];rfl) HB1.out.2
 | true =>
 obtain ⟨b0,b1,b2,b3,b4⟩:=HB1.out.1.2.1.cells
 have bl:=HB1.out.1.2.1.lt
 go_wp2_with fail
 refine (cb (conValidS_any _ _ _ _ _ k _ HD1.out.2.1) HR.out.2.2).mono ?_
 rintro e w2 ⟨rfl,hb2⟩
 have HB2:=Lib.hid (And.intro (And.intro (box_keep HB1.out.1.1 hb2) (And.intro (HB1.out.1.2.1.keep hb2) (box_keep HB1.out.1.2.2 hb2))) (bt HB1.out.2 hb2))
 have HD2:=Lib.hid (And.intro (And.intro (HD1.out.1.1.keep hb2) (HD1.out.1.2.keep hb2)) (And.intro (HD1.out.2.1.keep hb2) (HD1.out.2.2.keep hb2)))
 clear HB1 HD1 hb2 b0 b1 b2 b3 b4 bl
 cases B with
 | false =>
   have r0:=box0 HB2.out.1.2.2
   have r1:=box1 HB2.out.1.2.2
   have rz:=boxz HB2.out.1.2.2
   have rl:=box_lt HB2.out.1.2.2
   have rr:=box_two (.slice none 0 0) (.slice none 0 0) r0 r1
   go_wp2
   refine bodyPost_ret (v:=.tuple #[.agg #[.slice none 0 0,.slice none 0 0],.bool false]) (by simp [results,Tryz.results14,go_sem,rr.1,rr.2]) rfl ?_
   exact HNIL.out _ (by rw [← HR.out.1];rfl) HB2.out.2
 | true =>
 have hpv:asnB k.1=true∧(asnB k.2.1=true∧chgsB k.2.2=true):=by have h:=HR.out.2.2;rw [conB,Bool.and_eq_true,Bool.and_eq_true] at h;exact h
 obtain ⟨F,hF⟩:∃ F,frameO a k.1=F:=⟨_,rfl⟩
 have hr:=HR.out.1
 rw [Bool.true_and,if_pos rfl,hF] at hr
 have HF:=Lib.hid (And.intro hr (And.intro hF (And.intro hF hpv)))
 clear hr hF hpv
 obtain ⟨b0,b1,b2,b3,b4⟩:=HB2.out.1.2.1.cells
 have bl:=HB2.out.1.2.1.lt
 have a0:=box0 HB2.out.1.1
 have a1:=box1 HB2.out.1.1
 have al:=box_lt HB2.out.1.1
 go_wp2_with fail
 refine (frameS_any _ _ _ _ a k.1 _ HD2.out.1.1 HD2.out.1.2 HD2.out.2.1.pre1 HD2.out.2.1.pre2 HR.out.2.1 HF.out.2.2.2.1).mono ?_
 rw [HF.out.2.1]
 rintro e w3 ⟨x2,rfl,o3,hb3⟩
 obtain ⟨fa,fn,fc,rfl⟩:=o3.forms
 have HB3:=Lib.hid (And.intro (And.intro (box_keep HB2.out.1.1 hb3) (And.intro (HB2.out.1.2.1.keep hb3) (box_keep HB2.out.1.2.2 hb3))) (bt HB2.out.2 hb3))
 have HD3:=Lib.hid (And.intro (And.intro (HD2.out.1.1.keep hb3) (HD2.out.1.2.keep hb3)) (And.intro (HD2.out.2.1.keep hb3) (HD2.out.2.2.keep hb3)))
 have HO3:=Lib.hid o3.rl
 clear HB2 HD2 hb3 b0 b1 b2 b3 b4 bl a0 a1 al o3
 cases F with
 | none =>
   have HR3:=Lib.hid (box_keep HB3.out.1.2.2 (below_alloc w3 (.cells #[.slice none 0 0,.slice fa fn fc] 26)))
   have r0':=box0 HR3.out
   have r1':=box1 HR3.out
   have rz':=boxz HR3.out
   have rl':=box_lt HR3.out
   have rr:=box_two (.slice none 0 0) (.slice none 0 0) r0' r1'
   go_wp2
   refine bodyPost_ret (v:=.tuple #[.agg #[.slice none 0 0,.slice none 0 0],.bool false]) (by simp [results,Tryz.results14,go_sem,rr.1,rr.2]) rfl ?_
   exact HNIL.out _ (by rw [← HF.out.1];rfl) (ba HB3.out.2 _)
 | some f =>
   have hbF:=below_alloc w3 (.cells #[.slice none 0 0,.slice fa fn fc] 26)
   obtain ⟨W,hWd⟩:∃ W,W=w3.alloc (.cells #[.slice none 0 0,.slice fa fn fc] 26):=⟨_,rfl⟩
   have hFX:=heap_alloc_new w3 (.cells #[.slice none 0 0,.slice fa fn fc] 26)
   rw [← hWd] at hbF hFX
   have HW:=Lib.hid hWd
   have HB4:=Lib.hid (And.intro (And.intro (box_keep HB3.out.1.1 hbF) (And.intro (HB3.out.1.2.1.keep hbF) (box_keep HB3.out.1.2.2 hbF))) (And.intro (bt HB3.out.2 hbF) hFX))
   have HD4:=Lib.hid (And.intro (And.intro (HD3.out.1.1.keep hbF) (HD3.out.1.2.keep hbF)) (And.intro (HD3.out.2.1.keep hbF) (And.intro (HD3.out.2.2.keep hbF) ((show RL w3 (fun k=>w2.heap.size≤k) (.slice fa fn fc) f from HO3.out).keep hbF))))
   clear hbF hFX hWd HB3 HD3 HO3
   have hr:=HF.out.1
   rw [Option.bind_some,forgetL_congr (m':=busyN (keepM keep) (callT a k) 9) (fun j hj=>(call_busy a k keep j hj).symm)] at hr
   obtain ⟨K,hK⟩:∃ K,keepM keep=K:=⟨_,rfl⟩
   obtain ⟨T,hT⟩:∃ T,callT a k=T:=⟨_,rfl⟩
   rw [hK,hT] at hr
   have HM:=Lib.hid (And.intro hr (And.intro hK hT))
   clear hr hK hT
   go_upto_region 6 with fail
   rw [← HW.out]
   go_wp2_with fail
   refine (l10Busy_any _ keep _ HD4.out.2.2.1).mono ?_
   rw [HM.out.2.1]
   rintro e w4 ⟨v,rfl,hv,hb4⟩
   obtain ⟨bg,bcap,rfl⟩:=flags_form hv
   have HB5:=Lib.hid (And.intro (And.intro (box_keep HB4.out.1.1 hb4) (And.intro (HB4.out.1.2.1.keep hb4) (box_keep HB4.out.1.2.2 hb4))) (And.intro (bt HB4.out.2.1 hb4) (box_keep HB4.out.2.2 hb4)))
   have HD5:=Lib.hid (And.intro (And.intro (HD4.out.1.1.keep hb4) (HD4.out.1.2.keep hb4)) (And.intro (HD4.out.2.1.keep hb4) ((rl_low HD4.out.2.2.2).keep hb4)))
   have HV5:=Lib.hid (And.intro hv (And.intro hb4.size (And.intro (box_lt HB4.out.1.2.2) (box_lt HB4.out.2.2))))
   clear hb4 hv HB4 HD4
   have hpa:=asn_parts HR.out.2.1
   have hpk:=asn_parts HF.out.2.2.2.1
   have hpp:=asn_parts HF.out.2.2.2.2.1
   have hall1:(a.1 ++ (k.1.1 ++ k.2.1.1)).all factB=true:=List.all_eq_true.2 fun x hx=>by
    rcases List.mem_append.1 hx with h | h
    · exact hpa.1 x h
    · rcases List.mem_append.1 h with h | h
      · exact hpk.1 x h
      · exact hpp.1 x h
   have hall2:(a.2 ++ (k.1.2 ++ k.2.1.2)).all atomB=true:=List.all_eq_true.2 fun x hx=>by
    rcases List.mem_append.1 hx with h | h
    · exact hpa.2 x h
    · rcases List.mem_append.1 h with h | h
      · exact hpk.2 x h
      · exact hpp.2 x h
   have hsa:=asn_sz HR.out.2.1
   have hsk:=asn_sz HF.out.2.2.2.1
   have hsp:=asn_sz HF.out.2.2.2.2.1
   have hla:=asnLe HR.out.2.1
   have hlk:=asnLe HF.out.2.2.2.1
   have hlp:=asnLe HF.out.2.2.2.2.1
   have hs2:(k.1.1 ++ k.2.1.1).length≤1048576∧(k.1.2 ++ k.2.1.2).length≤1048576:=by simp only [List.length_append];omega
   have HAL:=Lib.hid (And.intro (And.intro hall1 hall2) (And.intro hsa (And.intro hsk (And.intro hsp hs2))))
   clear hpa hpk hpp hall1 hall2 hsa hsk hsp hla hlk hlp hs2
   go_upto_region 7 with fail
   have b:=HB5.out.1.2.1.cells
   obtain ⟨b0,b1,b2,b3,b4⟩:=b
   have bl:=HB5.out.1.2.1.lt
   have a0:=box0 HB5.out.1.1
   have a1:=box1 HB5.out.1.1
   have al:=box_lt HB5.out.1.1
   go_cut [11] from 11 (fun s11 wd=>∃ g c,s11=.slice (some ⟨g,0,none⟩) 9 c∧wd.ownsRow w4.heap.size 4 1 s11 9 (flagsOf T)∧Below w4.heap.size w4 wd)
   case first =>
    go_region_held3 (fun w'=>(w'.cell? ⟨w.heap.size,0,none⟩=some (.slice xa1 a.1.length xc1)∧w'.cell? ⟨w.heap.size,1,none⟩=some (.slice xa2 a.2.length xc2))∧((w'.cell? ⟨w.heap.size+1,0,none⟩=some (.slice ya1 k.1.1.length yc1)∧w'.cell? ⟨w.heap.size+1,1,none⟩=some (.slice ya2 k.1.2.length yc2))∧(w'.cell? ⟨w.heap.size+1,2,none⟩=some (.slice za1 k.2.1.1.length zc1)∧w'.cell? ⟨w.heap.size+1,3,none⟩=some (.slice za2 k.2.1.2.length zc2))))
     (exact ⟨⟨(by repeat (first | with_reducible exact a0 | (with_reducible refine (fr_set _ _ _).cell (by first | (simp;done) | (simp;omega) | omega) ?_) | exact cell_keep Bl a0)),(by repeat (first | with_reducible exact a1 | (with_reducible refine (fr_set _ _ _).cell (by first | (simp;done) | (simp;omega) | omega) ?_) | exact cell_keep Bl a1))⟩,⟨⟨(by repeat (first | with_reducible exact b0 | (with_reducible refine (fr_set _ _ _).cell (by first | (simp;done) | (simp;omega) | omega) ?_) | exact cell_keep Bl b0)),(by repeat (first | with_reducible exact b1 | (with_reducible refine (fr_set _ _ _).cell (by first | (simp;done) | (simp;omega) | omega) ?_) | exact cell_keep Bl b1))⟩,⟨(by repeat (first | with_reducible exact b2 | (with_reducible refine (fr_set _ _ _).cell (by first | (simp;done) | (simp;omega) | omega) ?_) | exact cell_keep Bl b2)),(by repeat (first | with_reducible exact b3 | (with_reducible refine (fr_set _ _ _).cell (by first | (simp;done) | (simp;omega) | omega) ?_) | exact cell_keep Bl b3))⟩⟩⟩)
     (first
       | (go_at_call 75;go_must (refine (l3Terms_any _ _ (a.1 ++ (k.1.1 ++ k.2.1.1),a.2 ++ (k.1.2 ++ k.2.1.2)) _ (qc.keep Bl) (qd.keep Bl) HAL.out.1.1 HAL.out.1.2).mono ?_;rintro e w7 ⟨v7,rfl,hv7,hb7'⟩;obtain ⟨g7,c7,rfl⟩:=flags_form hv7;have hb7:Below w4.heap.size w4 w7:=bt Bl hb7'))
       | (have _h:=hb5;go_at_call 76;go_must (refine (l3Star_any _ _ _ _ a (k.1.1 ++ k.2.1.1,k.1.2 ++ k.2.1.2) _ (HD5.out.1.1.keep Bl) (HD5.out.1.2.keep Bl) (qa.keep Bl) (qb.keep Bl) HAL.out.2.1.1 HAL.out.2.1.2 HAL.out.2.2.2.2.1 HAL.out.2.2.2.2.2).mono ?_;rintro e w6 ⟨x3,x4,rfl,qc,qd,hb6'⟩;obtain ⟨d3,m3,k3,rfl⟩:=qc.forms;obtain ⟨d4,m4,k4,rfl⟩:=qd.forms;have hb6:Below w4.heap.size w4 w6:=bt Bl hb6'))
       | (go_at_call 76;go_must (refine (l3Star_any _ _ _ _ k.1 k.2.1 _ (HD5.out.2.1.pre1.keep Bl) (HD5.out.2.1.pre2.keep Bl) (HD5.out.2.1.post1.keep Bl) (HD5.out.2.1.post2.keep Bl) HAL.out.2.2.1.1 HAL.out.2.2.1.2 HAL.out.2.2.2.1.1 HAL.out.2.2.2.1.2).mono ?_;rintro e w5 ⟨x1,x2,rfl,qa,qb,hb5'⟩;obtain ⟨d1,m1,k1,rfl⟩:=qa.forms;obtain ⟨d2,m2,k2,rfl⟩:=qb.forms;have hb5:Below w4.heap.size w4 w5:=bt Bl hb5';clear hb5')))
    all_goals
     have hT:=HM.out.2.2
     rw [callT] at hT
     have HQ:=Lib.hid (And.intro (hT ▸ hv7) hb7)
     have hz6:=hb6.size
     clear hT hv7
     go_wp2
     go_meet
     case rel=>exact ⟨_,_,rfl,own_mono HQ.out.1 (by first | exact hz6 | omega | fail),HQ.out.2⟩
   case rest =>
    obtain ⟨tg,tc,rfl,ht,hbd⟩:=hcut
    obtain ⟨wd,rfl⟩:∃ wd:World,wd=wc:=⟨_,rfl⟩
    have htl:=own_lt ht (k:=tg) rfl
    have hbl:=own_lt HV5.out.1 (k:=bg) rfl
    have HB6:=Lib.hid (And.intro (And.intro (box_keep HB5.out.1.1 hbd) (And.intro (HB5.out.1.2.1.keep hbd) (box_keep HB5.out.1.2.2 hbd))) (And.intro (bt HB5.out.2.1 hbd) (box_keep HB5.out.2.2 hbd)))
    have HD6:=Lib.hid (And.intro (And.intro (HD5.out.1.1.keep hbd) (HD5.out.1.2.keep hbd)) (And.intro (HD5.out.2.1.keep hbd) (HD5.out.2.2.keep hbd)))
    have HV6:=Lib.hid (And.intro (own_keep HV5.out.1 hbd) (And.intro ht (And.intro htl hbl)))
    have HG:=Lib.hid (And.intro (show bg < tg by omega) (show w.heap.size+1+1 < bg∧w3.heap.size < bg by have h2:=HV5.out.2.2.1;have h3:=hbl.1;have h4:=HV5.out.2.2.2;omega))
    have hne:¬ tg=bg:=by omega
    clear hbd ht htl hbl b0 b1 b2 b3 b4 bl a0 a1 al HB5 HD5 HV5
    go_wp2
    go_loopg [12] 9 (fun q i wr=>∃ j:Nat,j+q=9∧i=.int .i64 (j:Int)∧wr.ownsRow W.heap.size 4 1 (.slice (some ⟨bg,0,none⟩) 9 bcap) 9 (flagsOf (busyN K T j))∧wr.ownsRow w4.heap.size 4 1 (.slice (some ⟨tg,0,none⟩) 9 tc) 9 (flagsOf T)∧Fr (fun k=>k=bg) wd wr)
    case atStart=>exact ⟨0,by omega,rfl,HV6.out.1,HV6.out.2.1,Fr.refl _ _⟩
    case round =>
     obtain ⟨j,hj,rfl,hob,hot,hfr⟩:=hrel
     have HJ:=Lib.hid (And.intro hj hfr)
     clear hj hfr
     by_cases h8:j≤8
     · have hj8:(j:Int)≤8:=by omega
       have hj9:(j:Int) < 9:=by omega
       have x1:wr.cell? ⟨bg,j,none⟩=some (.bool ((busyN K T j).testBit j)):=by
        have:=hob.cellAt j (by omega)
        rw [flags_at _ j (by omega)] at this
        simpa using this
       have x2:wr.cell? ⟨tg,j,none⟩=some (.bool (T.testBit j)):=by
        have:=hot.cellAt j (by omega)
        rw [flags_at _ j (by omega)] at this
        simpa using this
       have z1:=hob.frozenAt j
       have hbz:=(own_lt hob (k:=bg) rfl).2
       obtain ⟨s1,g1⟩:=hob.stored j (.bool ((busyN K T j).testBit j || T.testBit j))
       rw [busy_set (by omega)] at s1
       have f1:=grown_fr g1
       have HS:=Lib.hid (And.intro s1 (And.intro (own_kept hot f1 fun k hk e=>by have e1:k=tg:=Option.some.inj hk;have e2:k=bg:=Option.some.inj e;omega) (HJ.out.2.trans (f1.mono fun k _ e=>Option.some.inj e))))
       obtain ⟨c1,hc1⟩:∃ c,(busyN K T j).testBit j=c:=⟨_,rfl⟩
       obtain ⟨c2,hc2⟩:∃ c,T.testBit j=c:=⟨_,rfl⟩
       rw [hc1] at x1 HS
       rw [hc2] at x2 HS
       clear s1 g1 f1 hob hot hc1 hc2
       cases c1 with
       | true =>
         rw [Bool.true_or] at HS
         go_wp2
         go_roundg (gk - 1)
         case rel=>exact ⟨j+1,by have:=HJ.out.1;omega,by go_num,HS.out⟩
         case measure=>have:=HJ.out.1;omega
       | false =>
         rw [Bool.false_or] at HS
         go_wp2
         go_roundg (gk - 1)
         case rel=>exact ⟨j+1,by have:=HJ.out.1;omega,by go_num,HS.out⟩
         case measure=>have:=HJ.out.1;omega
     · obtain rfl:j=9:=by have:=HJ.out.1;omega
       obtain ⟨Q,hQ⟩:∃ Q,busyN K T 9=Q:=⟨_,rfl⟩
       rw [hQ] at hob
       have hr:=HM.out.1
       rw [hQ] at hr
       have far:∀ k,k < wd.heap.size→(fun k=>k < W.heap.size) k→¬ (fun j=>j=bg) k:=fun k _ h e=>by
        have h1:k < W.heap.size:=h
        have e2:k=bg:=e
        have h3:=(own_lt hob (k:=bg) rfl).1
        omega
       have farw:∀ k,k < wd.heap.size→(fun k=>k < w.heap.size) k→¬ (fun j=>j=bg) k:=fun k _ h e=>by
        have h1:k < w.heap.size:=h
        have e2:k=bg:=e
        have h3:=HG.out.2.1
        omega
       have hcon:RCon wr (fun k=>k < w.heap.size) (.slice ya1 k.1.1.length yc1) (.slice ya2 k.1.2.length yc2) (.slice za1 k.2.1.1.length zc1) (.slice za2 k.2.1.2.length zc2) (.slice ca k.2.2.length cc) k :=
        ⟨HD6.out.2.1.pre1.kept HJ.out.2 farw,HD6.out.2.1.pre2.kept HJ.out.2 farw,HD6.out.2.1.post1.kept HJ.out.2 farw,HD6.out.2.1.post2.kept HJ.out.2 farw,HD6.out.2.1.chg.kept HJ.out.2 farw⟩
       have hbw:Below w.heap.size w wr:=HB6.out.2.1.trans (HJ.out.2.below (by have:=HB6.out.2.1.size;omega) fun k hk e=>by have e2:k=bg:=e;have:=HG.out.2.1;omega)
       have hKb:BoxK wr (w.heap.size+1) (.slice ya1 k.1.1.length yc1) (.slice ya2 k.1.2.length yc2) (.slice za1 k.2.1.1.length zc1) (.slice za2 k.2.1.2.length zc2) (.slice ca k.2.2.length cc):=box_kept HB6.out.1.2.1 HJ.out.2 (by have:=HG.out.2.1;omega)
       obtain ⟨wn,rfl⟩:∃ wn:World,wn=wr:=⟨_,rfl⟩
       have HB7:=Lib.hid (And.intro (And.intro (box_kept HB6.out.1.1 HJ.out.2 (by have:=HG.out.2.1;omega)) (And.intro hKb (box_kept HB6.out.1.2.2 HJ.out.2 (by have:=HG.out.2.1;omega)))) (And.intro hbw (box_kept HB6.out.2.2 HJ.out.2 (by have:=HG.out.2.2;omega))))
       have HD7:=Lib.hid (And.intro (And.intro (HD6.out.1.1.kept HJ.out.2 farw) (HD6.out.1.2.kept HJ.out.2 farw)) (And.intro hcon (HD6.out.2.2.kept HJ.out.2 far)))
       have HM7:=Lib.hid (And.intro hr (And.intro hob hQ))
       have HWN:=Lib.hid (show W.heap.size≤wn.heap.size by have h1:=(own_lt hob (k:=bg) rfl);omega)
       clear hr hob hot hQ far farw hcon hbw hKb HB6 HD6 HV6
       go_upto_region 12 with fail
       have a0:=box0 HB7.out.1.1
       have al:=box_lt HB7.out.1.1
       have f1:=box1 HB7.out.2.2
       have fl:=box_lt HB7.out.2.2
       have hlf:=(asnLe HR.out.2.1).1.1
       have HLF:=Lib.hid (And.intro hlf (asnLe HR.out.2.1).1.2)
       clear hlf
       generalize w3.heap.size=bF at HB7 HG f1 fl ⊢
       go_cut [13] from 13 (fun s13 wd=>BoxU wn wd (a.1,f) s13)
       case first =>
        go_region_held3 (fun w'=>w'.cell? ⟨w.heap.size,0,none⟩=some (.slice xa1 a.1.length xc1)∧w'.cell? ⟨bF,1,none⟩=some (.slice fa fn fc))
         (exact ⟨(by repeat (first | with_reducible exact a0 | (with_reducible refine (fr_set _ _ _).cell (by first | (simp;done) | (simp;omega) | omega) ?_) | exact cell_keep Bl a0)),(by repeat (first | with_reducible exact f1 | (with_reducible refine (fr_set _ _ _).cell (by first | (simp;done) | (simp;omega) | omega) ?_) | exact cell_keep Bl f1))⟩)
         (first
           | (refine step_F (l:=([]:List Fact)) (m:=a.1) (B:=wn.heap.size) (by rfl) (.tmp 65) (.tmp 67) _ (by rfl) ti_fact (by rfl) (FE.nil _ _ _) (by rfl) (HD7.out.1.1.keep Bl) (by have:=HLF.out.1;simp;omega) (Below.size (w:=wn) (B:=wn.heap.size) Bl) ?_;intro v5 w5 o5 hb5';rw [List.nil_append] at o5;obtain ⟨d5,m5,k5,rfl⟩:=o5.forms;have hb5:Below wn.heap.size wn w5:=Below.trans Bl (tf_below hb5' (Below.size (w:=wn) (B:=wn.heap.size) Bl));(first | (have hT5:w5.heap[wn.heap.size]?=some (.cells #[.slice none 0 0,.slice none 0 0] 26 (0,0)):=box_tf (box_keep (heap_alloc_new wn.drew (.cells #[.slice none 0 0,.slice none 0 0] 26)) (below_alloc _ _)) hb5' (by decide)) | (have hT5:w5.heap[wn.heap.size]?=some (.cells #[.slice none 0 0,.slice none 0 0] 26 (0,0)):=box_tf (box_keep (heap_alloc_new wn (.cells #[.slice none 0 0,.slice none 0 0] 26)) (below_alloc _ _)) hb5' (by decide)) | (have hT5:=box_tf (heap_alloc_new (wn.drew.alloc _) (.cells #[.slice none 0 0,.slice none 0 0] 26)) hb5' (by decide);simp only [World.size_alloc,World.size_drew] at hT5) | (have hT5:=box_tf (heap_alloc_new (wn.alloc _) (.cells #[.slice none 0 0,.slice none 0 0] 26)) hb5' (by decide);simp only [World.size_alloc,World.size_drew] at hT5) | skip);(first | (have ht0:=box0 hT5;have ht1:=box1 hT5;have htz:=boxz hT5;have htl:=box_lt hT5) | skip)))
        all_goals
         have HQ:=Lib.hid (And.intro o5 (And.intro (HD7.out.2.2.keep hb5) hb5))
         clear o5
         go_wp2
         go_meet
         case rel =>
          first
            | exact boxU_alloc HQ.out.1.rl HQ.out.2.1 HQ.out.2.2
            | exact boxU_set ((HQ.out.1.rln hT5 (by decide)).more fun k _ h=>h.2) (HQ.out.2.1.more fun k _ h e=>by have h1:k < W.heap.size:=h;have:=HWN.out;omega) hT5 HQ.out.2.2 (by omega)
            | fail
       case rest =>
        obtain ⟨t,y1,y2,rfl,hT,⟨r1,r2⟩,hbd,htz⟩:=hcut
        obtain ⟨da1,dc1,rfl⟩:=r1.form
        obtain ⟨da2,dc2,rfl⟩:=r2.form
        have hRl:=box_lt HB7.out.1.2.2
        have HTZ:=Lib.hid (And.intro (show w.heap.size+1+1 < t by omega) (show bg < t by have:=own_lt HM7.out.2.1 (k:=bg) rfl;omega))
        have HB8:=Lib.hid (And.intro (And.intro hT (And.intro (HB7.out.1.2.1.keep hbd) (box_keep HB7.out.1.2.2 hbd))) (And.intro (And.intro r1 r2) (And.intro (bt HB7.out.2.1 hbd) (And.intro (HD7.out.2.1.keep hbd) (own_keep HM7.out.2.1 hbd)))))
        have hv0:=frame_valid HR.out.2.1 HF.out.2.1
        have hch:=HD7.out.2.1.chg.len
        unfold maxLen at hch
        obtain ⟨n,hn⟩:∃ n,k.2.2.length=n:=⟨_,rfl⟩
        have HN:=Lib.hid hn
        rw [hn] at hch HB8 ⊢
        have HV0:=Lib.hid hv0
        have HM8:=Lib.hid HM7.out.1
        clear r1 r2 hT hbd htz hRl hv0 hn a0 al f1 fl HB7 HD7 HM7
        go_wp2
        go_loopg [14] n (fun q i wr=>∃ (j:Nat) (y1 y2:Value) (r:Asn),j+q=n∧i=.int .i64 j∧(forgetL Q (k.2.2.take j) (a.1,f)=some r∧asnB r=true)∧(wr.heap[t]?=some (.cells #[y1,y2] 26 (0,0))∧BoxK wr (w.heap.size+1) (.slice ya1 k.1.1.length yc1) (.slice ya2 k.1.2.length yc2) (.slice za1 k.2.1.1.length zc1) (.slice za2 k.2.1.2.length zc2) (.slice ca n cc)∧wr.heap[w.heap.size+1+1]?=some (.cells #[.slice none 0 0,.slice none 0 0] 26 (0,0)))∧(RL wr (fun k=>¬ k=t) y1 r.1∧RL wr (fun k=>¬ k=t) y2 r.2)∧Below w.heap.size w wr∧RCon wr (fun k=>k < w.heap.size) (.slice ya1 k.1.1.length yc1) (.slice ya2 k.1.2.length yc2) (.slice za1 k.2.1.1.length zc1) (.slice za2 k.2.1.2.length zc2) (.slice ca n cc) k∧wr.ownsRow W.heap.size 4 1 (.slice (some ⟨bg,0,none⟩) 9 bcap) 9 (flagsOf Q))
        case atStart=>exact ⟨0,_,_,(a.1,f),by omega,rfl,⟨rfl,HV0.out⟩,HB8.out.1,HB8.out.2.1,HB8.out.2.2.1,HB8.out.2.2.2.1,HB8.out.2.2.2.2⟩
        case round =>
         clear HB8
         obtain ⟨j,y1,y2,r,hj,rfl,hfr,hBX,hrr,hbw,hcon,hown⟩:=hrel
         obtain ⟨ea1,ec1,rfl⟩:=hrr.1.form
         obtain ⟨ea2,ec2,rfl⟩:=hrr.2.form
         have HJ:=Lib.hid (And.intro hj (And.intro hfr hbw))
         have HX:=Lib.hid (And.intro hBX (And.intro hrr (And.intro hcon hown)))
         have t0:=box0 hBX.1
         have t1:=box1 hBX.1
         have tl:=box_lt hBX.1
         obtain ⟨b0,b1,b2,b3,b4⟩:=hBX.2.1.cells
         have bl:=hBX.2.1.lt
         clear hj hfr hBX hrr hbw hown
         by_cases hj8:j < n
         · have hji:(j:Int) < (n:Int):=by omega
           have hnn:=HN.out
           obtain ⟨xa,xc,hxe,hcell⟩:=hcon.chg.ints.cells
           simp only [Value.slice.injEq] at hxe
           obtain ⟨rfl,hlen,rfl⟩:=hxe
           clear hlen
           obtain ⟨b,o,rfl,hzb,hck⟩:=hcell j (by omega)
           have hst:=forgetL_step (m:=Q) (l:=k.2.2) (a:=(a.1,f)) (k:=j) (by omega)
           have hchg:=HF.out.2.2.2.2.2
           rw [chgsB,List.all_eq_true] at hchg
           have hpj:=hchg j (List.mem_range.2 (by omega))
           rw [stepP,Bool.and_eq_true] at hpj
           have hpr:=hpj.1
           simp only [progB,Bool.and_eq_true,decide_eq_true_eq] at hpr
           obtain ⟨X,hX⟩:=Int.eq_ofNat_of_zero_le (show 0≤gi k.2.2 j by omega)
           rw [hX] at hck hst
           have hX8:X≤8:=by omega
           rw [HJ.out.2.1.1,Option.bind_some,forgetO_eq] at hst
           obtain ⟨G,hG⟩:∃ G,forgetN r X Q=G:=⟨_,rfl⟩
           rw [hG] at hst
           have hrv:=HJ.out.2.1.2
           have HG2:=Lib.hid (And.intro hst (And.intro hG (And.intro hrv hX8)))
           have hq1:=HX.out.2.1.1.more (S':=fun k=>¬ k=t∧k < wr.heap.size) fun k hk h=>⟨h,hk⟩
           have hq2:=HX.out.2.1.2.more (S':=fun k=>¬ k=t∧k < wr.heap.size) fun k hk h=>⟨h,hk⟩
           have HQ12:=Lib.hid (And.intro hq1 hq2)
           have hgo:G.isSome=true∨G.isSome=false:=by cases G <;> simp
           obtain ⟨go,hgo⟩:∃ go,G.isSome=go:=⟨_,rfl⟩
           have HGO:=Lib.hid hgo
           obtain ⟨C,hC⟩:∃ C,fsR r X Q=C:=⟨_,rfl⟩
           have HC:=Lib.hid hC
           have hres:∀ (S1 S2:Nat→Prop) (v1 v2:Value) (w0:World),RL w0 S1 v1 r.1→RL w0 S2 v2 r.2→w0.ownsRow W.heap.size 4 1 (.slice (some ⟨bg,0,none⟩) 9 bcap) 9 (flagsOf Q)→Calls Tryz.prog 77 #[.agg #[v1,v2],.int .i64 (X:Int),.slice (some ⟨bg,0,none⟩) 9 bcap] w0 fun e w'=>∃ x1 x2,e=.returned (.tuple #[.agg #[x1,x2],.int .i64 C.2,.bool go])∧(RL w' (fun k=>S1 k∨w0.heap.size≤k) x1 C.1.1∧RL w' (fun k=>S2 k∨w0.heap.size≤k) x2 C.1.2)∧Below w0.heap.size w0 w':=by
            intro S1 S2 v1 v2 w0 h1 h2 ho
            have:=forgetS_any v1 v2 _ r X Q W.heap.size w0 h1 h2 ho hrv hX8
            rw [hG,hgo,hC] at this
            exact this
           have HRS:=Lib.hid hres
           clear hnn hcon hcell hst hchg hpj hpr hX hG hrv hq1 hq2 hgo hC hres
           go_upto_region 16 with fail
           go_cut [15,17] (fun s15 s17 wd=>s17=.bool go∧∃ (u:Nat) (x1 x2:Value),s15=.pointer (some ⟨u,0,none⟩)∧wd.heap[u]?=some (.cells #[x1,x2] 26 (0,0))∧(RL wd (fun k=>¬ k=t) x1 C.1.1∧RL wd (fun k=>¬ k=t) x2 C.1.2)∧Below wr.heap.size wr wd)
           case first =>
            go_region_held3 (fun w'=>(w'.cell? ⟨t,0,none⟩=some (.slice ea1 r.1.length ec1)∧w'.cell? ⟨t,1,none⟩=some (.slice ea2 r.2.length ec2))∧(w'.cell? ⟨w.heap.size+1,4,none⟩=some (.slice (some ⟨b,o,none⟩) n cc)∧w'.cell? ⟨b,o+j,none⟩=some (.int .i64 (X:Int))))
             (exact ⟨⟨(by repeat (first | with_reducible exact t0 | (with_reducible refine (fr_set _ _ _).cell (by first | (simp;done) | (simp;omega) | omega) ?_) | exact cell_keep Bl t0)),(by repeat (first | with_reducible exact t1 | (with_reducible refine (fr_set _ _ _).cell (by first | (simp;done) | (simp;omega) | omega) ?_) | exact cell_keep Bl t1))⟩,⟨(by repeat (first | with_reducible exact b4 | (with_reducible refine (fr_set _ _ _).cell (by first | (simp;done) | (simp;omega) | omega) ?_) | exact cell_keep Bl b4)),(by repeat (first | with_reducible exact hck | (with_reducible refine (fr_set _ _ _).cell (by first | (simp;done) | (simp;omega) | omega) ?_) | exact cell_keep Bl hck))⟩⟩)
             (first
               | (go_at_call 77;go_must (refine (HRS.out _ _ _ _ _ (HQ12.out.1.keep Bl) (HQ12.out.2.keep Bl) (own_keep HX.out.2.2.2 Bl)).mono ?_;rintro e w5 ⟨x1,x2,rfl,⟨q1,q2⟩,hb5'⟩;obtain ⟨d1,m1,k1,rfl⟩:=q1.forms;obtain ⟨d2,m2,k2,rfl⟩:=q2.forms;have hb5:Below wr.heap.size wr w5:=bt Bl hb5';have hz5:=hb5.size;(first | (have hT5:w5.heap[wr.heap.size]?=some (.cells #[.slice none 0 0,.slice none 0 0] 26 (0,0)):=box_keep (heap_alloc_new wr (.cells #[.slice none 0 0,.slice none 0 0] 26)) hb5';have ht0:=box0 hT5;have ht1:=box1 hT5;have htz:=boxz hT5;have htl:=box_lt hT5) | (have hT5:w5.heap[wr.heap.size]?=some (.cells #[.slice none 0 0,.slice none 0 0] 26 (0,0)):=box_keep (heap_alloc_new wr.drew (.cells #[.slice none 0 0,.slice none 0 0] 26)) hb5';have ht0:=box0 hT5;have ht1:=box1 hT5;have htz:=boxz hT5;have htl:=box_lt hT5) | skip))))
            all_goals
             simp only [World.size_alloc,World.size_drew] at q1 q2
             have p1:=q1.more (S':=fun k=>¬ k=t) fun k hk h e=>by
              rcases h with h | h
              · exact h.1 e
              · omega
             have p2:=q2.more (S':=fun k=>¬ k=t) fun k hk h e=>by
              rcases h with h | h
              · exact h.1 e
              · omega
             have HQ:=Lib.hid (And.intro (And.intro q1 q2) (And.intro (And.intro p1 p2) hb5))
             clear q1 q2 p1 p2
             go_wp2
             go_meet
             case rel =>
              refine ⟨rfl,?_⟩
              first
                | exact ⟨_,_,_,rfl,heap_alloc_new _ _,⟨HQ.out.2.1.1.keep (below_alloc _ _),HQ.out.2.1.2.keep (below_alloc _ _)⟩,ba HQ.out.2.2 _⟩
                | exact ⟨_,_,_,rfl,box_put2 hT5 _ _,⟨(rl_putS (t:=wr.heap.size) (HQ.out.1.1.more (S':=fun k=>¬ k=t∧¬ k=wr.heap.size) fun k hk h=>by
                   rcases h with h | h
                   · exact ⟨h.1,by have:=h.2;omega⟩
                   · exact ⟨by omega,by omega⟩) (fun _ h=>h.2) _ _).more fun k _ h=>h.1,(rl_putS (t:=wr.heap.size) (HQ.out.1.2.more (S':=fun k=>¬ k=t∧¬ k=wr.heap.size) fun k hk h=>by
                   rcases h with h | h
                   · exact ⟨h.1,by have:=h.2;omega⟩
                   · exact ⟨by omega,by omega⟩) (fun _ h=>h.2) _ _).more fun k _ h=>h.1⟩,below_put2 HQ.out.2.2 (Nat.le_refl _) _ _⟩
                | fail
           case rest =>
            obtain ⟨rfl,u,x1,x2,rfl,hU,⟨q1,q2⟩,hbd⟩:=hcut
            obtain ⟨ga1,gn1,gc1,rfl⟩:=q1.forms
            obtain ⟨ga2,gn2,gc2,rfl⟩:=q2.forms
            have HY:=Lib.hid (And.intro (And.intro q1 q2) (And.intro hU hbd))
            have hR6:=box_keep HX.out.1.2.2 hbd
            have hT6:=box_keep HX.out.1.1 hbd
            clear q1 q2 hU hbd t0 t1 tl hck b0 b1 b2 b3 b4 bl HQ12 HRS
            cases go with
            | false =>
              have hbad:R=none:=by
               have h1:=HM8.out
               have h2:=HG2.out.1
               cases G with
               | some G=>have:=HGO.out;simp at this
               | none =>
                 rw [forgetL_cut (k:=j+1) (by rw [h2];rfl)] at h1
                 exact h1.symm
              have HBAD:=Lib.hid hbad
              have r0:=box0 hR6
              have r1:=box1 hR6
              have rz:=boxz hR6
              have rl:=box_lt hR6
              have rr:=box_two (.slice none 0 0) (.slice none 0 0) r0 r1
              clear hbad hT6
              go_wp2
              refine bodyPost_ret (v:=.tuple #[.agg #[.slice none 0 0,.slice none 0 0],.bool false]) (by simp [results,Tryz.results14,go_sem,rr.1,rr.2]) rfl ?_
              exact HNIL.out _ HBAD.out (bt HJ.out.2.2 HY.out.2.2)
            | true =>
              have hGs:∃ G1,G=some G1∧C=G1:=by
               cases G with
               | none=>have:=HGO.out;simp at this
               | some G1=>exact ⟨G1,rfl,by rw [← HC.out,fsR,HG2.out.2.1];rfl⟩
              have HGS:=Lib.hid hGs
              have g0:=box0 HY.out.2.1
              have g1:=box1 HY.out.2.1
              have gl:=box_lt HY.out.2.1
              have t0:=box0 hT6
              have t1:=box1 hT6
              have tz:=boxz hT6
              have tl:=box_lt hT6
              have hRb:=box_lt HX.out.1.2.2
              have htt:=HTZ.out
              have htl:=box_lt HX.out.1.1
              have H6:=Lib.hid (And.intro (And.intro (box_put2 hT6 (.slice ga1 gn1 gc1) (.slice ga2 gn2 gc2)) (And.intro ((HX.out.1.2.1.keep HY.out.2.2).put (t:=t) (by omega) (.slice ga1 gn1 gc1) (.slice ga2 gn2 gc2)) (box_off2 (t:=t) hR6 (by omega) (.slice ga1 gn1 gc1) (.slice ga2 gn2 gc2)))) (And.intro (And.intro (rl_put2n HY.out.1.1 (.slice ga1 gn1 gc1) (.slice ga2 gn2 gc2)) (rl_put2n HY.out.1.2 (.slice ga1 gn1 gc1) (.slice ga2 gn2 gc2))) (And.intro (below_put2 (bt HJ.out.2.2 HY.out.2.2) (t:=t) (by omega) (.slice ga1 gn1 gc1) (.slice ga2 gn2 gc2)) (And.intro ((HX.out.2.2.1.keep HY.out.2.2).put (t:=t) (by omega) (.slice ga1 gn1 gc1) (.slice ga2 gn2 gc2)) (own_kept (own_keep HX.out.2.2.2 HY.out.2.2) (fr_twoR _ t (.slice ga1 gn1 gc1) (.slice ga2 gn2 gc2)) fun k hk e=>by have e1:k=bg:=Option.some.inj hk;have e2:k=t:=e;omega)))))
              clear hR6 hT6 hRb htt htl hGs
              go_wp2
              go_roundg (gk - 1)
              case rel =>
               obtain ⟨G1,e1,e2⟩:=HGS.out
               exact ⟨j+1,_,_,C.1,by have:=HJ.out.1;omega,by go_num,⟨by rw [HG2.out.1,e1,e2];rfl,by rw [e2];exact forgetN_valid HG2.out.2.2.1 (HG2.out.2.1.trans e1)⟩,H6.out⟩
              case measure=>have:=HJ.out.1;omega
         · obtain rfl:j=n:=by have:=HJ.out.1;omega
           obtain ⟨C,hC⟩:∃ C:Asn,(r.1 ++ k.2.1.1,k.2.1.2 ++ r.2)=C:=⟨_,rfl⟩
           have hfin:(if asnB C=true then some C else none)=R:=by
            have h1:=HM8.out
            have h2:=HJ.out.2.1.1
            rw [← HN.out,List.take_length] at h2
            rw [h2,Option.bind_some,hC] at h1
            exact h1
           have hlr:=asnLe HJ.out.2.1.2
           have hlk:=asnLe HF.out.2.2.2.2.1
           have HE:=Lib.hid (And.intro hfin (And.intro hC (And.intro (show r.1.length≤1048576∧r.2.length≤1048576 by omega) (show r.1.length+k.2.1.1.length≤1099511627776∧k.2.1.2.length+r.2.length≤1099511627776 by omega))))
           clear hfin hC hlr hlk hcon
           go_wp2_with fail
           refine (l3StarF_any (S3:=fun _=>True) (S4:=fun _=>True) _ _ _ _ r (([]:List Fact),([]:List Atom)) _ HX.out.2.1.1 HX.out.2.1.2 (RL.nil _ _) (RL.nil _ _) HE.out.2.2.1.1 HE.out.2.2.1.2 (by simp) (by simp)).mono ?_
           rintro e w5 ⟨x1,x2,rfl,o1,o2,hb5⟩
           simp only [List.append_nil] at o1 o2
           obtain ⟨ga1,gn1,gc1,rfl⟩:=o1.forms
           obtain ⟨ga2,gn2,gc2,rfl⟩:=o2.forms
           have hbO:=below_alloc w5 (.cells #[.slice ga1 gn1 gc1,.slice ga2 gn2 gc2] 26)
           have hOX:=heap_alloc_new w5 (.cells #[.slice ga1 gn1 gc1,.slice ga2 gn2 gc2] 26)
           have hb5':=bt hb5 hbO
           have D1:DB wr (w5.alloc (.cells #[.slice ga1 gn1 gc1,.slice ga2 gn2 gc2] 26)) (w.heap.size+1+1) w5.heap.size (.slice ga1 gn1 gc1) (.slice ga2 gn2 gc2) r.1 r.2:=⟨o1.keep hbO,o2.keep hbO,box_keep HX.out.1.2.2 hb5',hOX,hb5'⟩
           have HD:=Lib.hid D1
           have htO:t < w5.heap.size:=Nat.lt_of_lt_of_le tl hb5.size
           have hRw:=box_lt HX.out.1.2.2
           have hwO:=hb5.size
           clear o1 o2 hbO hOX hb5 hb5' D1 t0 t1 b0 b1 b2 b3 b4 bl
           go_upto_region 21 with fail
           generalize w5.alloc (.cells #[.slice ga1 gn1 gc1,.slice ga2 gn2 gc2] 26)=W5 at HD ⊢
           generalize w5.heap.size=bO at HD htO hwO ⊢
           obtain ⟨b0,b1,b2,b3,b4⟩:=(HX.out.1.2.1.keep HD.out.fr).cells
           have bl:=(HX.out.1.2.1.keep HD.out.fr).lt
           have d0:=box0 HD.out.boxA
           have dz:=boxz HD.out.boxA 0
           have dl:=box_lt HD.out.boxA
           go_wp2_with (at_builtin;go_must (refine app_F (l:=r.1) (m:=k.2.1.1) (B:=wr.heap.size) (by rfl) (.tmp 99) (.tmp 102) _ (by rfl) ti_fact (by rfl) HD.out.f (by rfl) (HX.out.2.2.1.post1.keep HD.out.fr) HE.out.2.2.2.1 HD.out.fr.size ?_;intro v' w7 o7 hf7;obtain ⟨a7,n7,c7,rfl⟩:=o7.forms;have hA7:=HD.out.boxTf hf7 (Below.refl _ _) (by decide);have hb0:=box0 hA7;have hbz:=boxz hA7 0;have hbl7:=box_lt hA7;clear hA7))
           have HD2:=Lib.hid (HD.out.app1T hf7 o7 (Below.refl _ _) (by omega) (by omega))
           clear o7 hf7 b0 b1 b2 b3 b4 bl d0 dz dl HD
           go_upto_region 22 with fail
           generalize w7.setCell ⟨bO,0,none⟩ (.slice a7 n7 c7)=w8 at HD2 ⊢
           clear hb0 hbz hbl7
           obtain ⟨b0,b1,b2,b3,b4⟩:=(HX.out.1.2.1.keep HD2.out.fr).cells
           have bl:=(HX.out.1.2.1.keep HD2.out.fr).lt
           have t1:=box1 (box_keep HX.out.1.1 HD2.out.fr)
           have tl2:=box_lt (box_keep HX.out.1.1 HD2.out.fr)
           have hOl:=box_lt HD2.out.boxA
           go_region_held3 (fun w'=>w'.cell? ⟨w.heap.size+1,3,none⟩=some (.slice za2 k.2.1.2.length zc2)∧w'.cell? ⟨t,1,none⟩=some (.slice ea2 r.2.length ec2))
            (exact ⟨(by repeat (first | with_reducible exact b3 | (with_reducible refine (fr_set _ _ _).cell (by first | (simp;done) | (simp;omega) | omega) ?_) | exact cell_keep Bl b3)),(by repeat (first | with_reducible exact t1 | (with_reducible refine (fr_set _ _ _).cell (by first | (simp;done) | (simp;omega) | omega) ?_) | exact cell_keep Bl t1))⟩)
            (first
              | (have _h:=o5;refine step_F (l:=k.2.1.2) (m:=r.2) (B:=w8.heap.size) (by rfl) (.tmp 109) (.tmp 111) _ (by rfl) ti_atom (by rfl) (o5.keep Bl) (by rfl) ((HX.out.2.1.2.keep HD2.out.fr).keep Bl) HE.out.2.2.2.2 (Below.size (w:=w8) (B:=w8.heap.size) Bl) ?_;intro v6 w6 o6 hb6';obtain ⟨a6,n6,c6,rfl⟩:=o6.forms;have hb6:Below w8.heap.size w8 w6:=Below.trans Bl (tf_below hb6' (Below.size (w:=w8) (B:=w8.heap.size) Bl));have hO6:=box_keep HD2.out.boxA hb6;have hb1:=box1 hO6;have hbz:=boxz hO6 1;have hbl6:=box_lt hO6;clear hO6)
              | (refine step_F (l:=([]:List Atom)) (m:=k.2.1.2) (B:=w8.heap.size) (by rfl) (.tmp 105) (.tmp 108) _ (by rfl) ti_atom (by rfl) (FE.nil _ _ _) (by rfl) ((HX.out.2.2.1.post2.keep HD2.out.fr).keep Bl) (by have:=HE.out.2.2.2.2;simp;omega) (Below.size (w:=w8) (B:=w8.heap.size) Bl) ?_;intro v5 w5 o5 hb5';rw [List.nil_append] at o5;obtain ⟨d5,m5,k5,rfl⟩:=o5.forms;have hb5:Below w8.heap.size w8 w5:=Below.trans Bl (tf_below hb5' (Below.size (w:=w8) (B:=w8.heap.size) Bl))))
           all_goals
            have D3:=(HD2.out.keep hb6).app2 (w':=w6) (v':=.slice a6 n6 c6) (m2:=k.2.1.2 ++ r.2) (by omega) (by omega) (o6.mono (Nat.le_trans HD2.out.fr.size (Nat.le_refl _))) (Fr.refl _ _)
            have HD3:=Lib.hid D3
            clear D3 o6 hb6 hb6' hb1 hbz hbl6 b0 b1 b2 b3 b4 bl t1 tl2 hOl
            generalize w6.setCell ⟨bO,1,none⟩ (.slice a6 n6 c6)=w9 at HD3 ⊢
            have c0:=box0 HD3.out.boxA
            have c1:=box1 HD3.out.boxA
            have cl:=box_lt HD3.out.boxA
            have hLC:(r.1 ++ k.2.1.1,k.2.1.2 ++ r.2)=C:=HE.out.2.1
            obtain ⟨C1,C2⟩:=C
            simp only [Prod.mk.injEq] at hLC
            have hrd:=And.intro HD3.out.f HD3.out.a
            rw [hLC.1,hLC.2] at hrd
            have HRD:=Lib.hid hrd
            clear hLC hrd
            obtain ⟨V,hV⟩:∃ V,asnB (C1,C2)=V:=⟨_,rfl⟩
            have HV:=Lib.hid hV
            clear hV
            go_wp2_with fail
            refine (cb (asnValidS_any _ _ (C1,C2) _ HRD.out.1.rl HRD.out.2.rl) HV.out).mono ?_
            rintro e w10 ⟨rfl,hb10⟩
            have hR10:=box_keep HD3.out.boxR hb10
            have HZ:=Lib.hid (And.intro (box_keep HD3.out.boxA hb10) (And.intro (And.intro (HRD.out.1.rl.keep hb10) (HRD.out.2.rl.keep hb10)) (bt (HJ.out.2.2.trans (HD3.out.fr.mono HJ.out.2.2.size)) hb10)))
            clear hb10 c0 c1 cl
            have r0:=box0 hR10
            have r1:=box1 hR10
            have rz:=boxz hR10
            have rl:=box_lt hR10
            cases V with
            | false =>
              have hbad:R=none:=by rw [← HE.out.1,HV.out,if_neg (by decide)]
              have HBAD:=Lib.hid hbad
              have rr:=box_two (.slice none 0 0) (.slice none 0 0) r0 r1
              clear hbad hR10
              go_wp2
              refine bodyPost_ret (v:=.tuple #[.agg #[.slice none 0 0,.slice none 0 0],.bool false]) (by simp [results,Tryz.results14,go_sem,rr.1,rr.2]) rfl ?_
              exact HNIL.out _ HBAD.out HZ.out.2.2
            | true =>
              have hgood:R=some (C1,C2):=by rw [← HE.out.1,HV.out,if_pos rfl]
              have HGD:=Lib.hid hgood
              have c0:=box0 HZ.out.1
              have c1:=box1 HZ.out.1
              have cl:=box_lt HZ.out.1
              have rr:=box_two (.slice a7 n7 c7) (.slice a6 n6 c6) r0 r1
              have HRZ:=Lib.hid hRw
              have HFIN:=Lib.hid (And.intro (And.intro (rl_putS HZ.out.2.1.1 (t:=w.heap.size+1+1) (fun k hk e=>by have h1:wr.heap.size≤k:=hk;have h2:=HRZ.out;omega) (.slice a7 n7 c7) (.slice a6 n6 c6)).any (rl_putS HZ.out.2.1.2 (t:=w.heap.size+1+1) (fun k hk e=>by have h1:wr.heap.size≤k:=hk;have h2:=HRZ.out;omega) (.slice a7 n7 c7) (.slice a6 n6 c6)).any) (below_put2 (t:=w.heap.size+1+1) HZ.out.2.2 (by omega) (.slice a7 n7 c7) (.slice a6 n6 c6)))
              clear hgood hR10
              go_wp2
              refine bodyPost_ret (v:=.tuple #[.agg #[.slice a7 n7 c7,.slice a6 n6 c6],.bool true]) (by simp [results,Tryz.results14,go_sem,rr.1,rr.2]) rfl ?_
              rw [HGD.out]
              exact ⟨_,_,rfl,HFIN.out⟩
end Go.Proofs.YtkbbmjcfgcfejaaGreat
