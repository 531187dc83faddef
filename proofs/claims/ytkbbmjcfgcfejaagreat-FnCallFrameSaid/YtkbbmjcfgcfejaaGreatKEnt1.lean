/- Walks: consistency, entailment: the reference. -/
import Derived.Test.YtkbbmjcfgcfejaaGreatKSkA
import Derived.Deep.RegionHeld3
namespace Go.Proofs.YtkbbmjcfgcfejaaGreat
open Go.RowKit
theorem open_cls {M:Nat} (h0:M.testBit 0=true):ClsP M [0] (openL 8) 1 where
 hp:=rfl
 hq:=rfl
 ag i hi:=by
  obtain rfl:i=0:=by omega
  rfl
 neg i h1 h9:=by
  obtain ⟨k,rfl⟩:∃ k,i=k+1:=⟨i - 1,by omega⟩
  show gi (0 :: reps (-1) 8) (k+1)=-1
  simp only [gi,reps,List.getD_eq_getElem?_getD,List.getElem?_cons_succ,List.getElem?_replicate]
  rw [if_pos (by omega)];rfl
 st i hi:=by
  obtain rfl:i=0:=by omega
  rw [stepC,if_pos h0];rfl
theorem open_cases {M:Nat} {a:Asn} (h0:M.testBit 0=true):casesL M a=restL M a 8 [0]:=by
 rw [casesL,rest_succ,chC,if_pos (by exact h0)]
 simp [List.range_succ]
theorem cov_both (a b:Asn):∀ j,(termsM a).testBit j=true→(bothM a b).testBit j=true:=fun j h=>by
 rw [bothM,Nat.testBit_or,one_bit,h];rfl
theorem one_zero (m:Nat):(termM m 0).testBit 0=true:=by rw [one_bit];simp
theorem both_zero (a b:Asn):(bothM a b).testBit 0=true:=by rw [bothM,Nat.testBit_or,one_zero];rfl
theorem one_pos {m j:Nat} (h:1≤j):(termM m 0).testBit j=m.testBit j:=by
 rw [one_bit,decide_eq_false (by omega),Bool.or_false]
theorem both_pos {a b:Asn} {j:Nat} (h:1≤j):(bothM a b).testBit j=(termsM (a.1 ++ b.1,a.2 ++ b.2)).testBit j:=by
 rw [bothM,Nat.testBit_or,one_pos h,both_bit]
theorem seek_all {a b:Asn} (ha:asnB a=true) (hb:asnB b=true):∀ n,SeekP (bothM a b) a b n
 | 0=>seek_zero ha hb (cov_both a b) rfl
 | n+1=>seek_succ ha (seek_all ha hb n)
theorem l6Seek_any {S1 S2 S3 S4:Nat→Prop} (v1 v2 u1 u2 tv_ cv:Value) (B B2:Nat) (a b:Asn) (r:Option (List Int)) (w:World) (h1:RL w S1 v1 a.1) (h2:RL w S2 v2 a.2) (k1:RL w S3 u1 b.1) (k2:RL w S4 u2 b.2) (ht:w.ownsRow B 4 1 tv_ 9 (flagsOf (termsM (a.1 ++ b.1,a.2 ++ b.2)))) (hc:w.ownsRow B2 3 1 cv 9 (ints (openL 8))) (ha:asnB a=true) (hb:asnB b=true) (hr:failO a b=r) :
 Calls Tryz.prog 221 #[.agg #[v1,v2],.agg #[u1,u2],tv_,cv,.int .i64 1] w fun e w'=>∃ v',e=.returned (.tuple #[v',.bool r.isSome])∧(∀ cl,r=some cl→w'.ownsRow w.heap.size 3 1 v' cl.length (ints cl))∧Below w.heap.size w w':=by
 obtain ⟨tb,tcap,rfl⟩:=flags_form ht
 refine seek_all ha hb 8 v1 v2 u1 u2 cv _ tb tcap 1 1 [0] (openL 8) r w h1 h2 k1 k2 (bw_own ht) (own_ints hc).1 (fun j hj=>both_pos hj) rfl (by omega) (by omega) (open_cls (both_zero a b)) ?_
 rw [← hr,failO,open_cases (both_zero a b)]
set_option maxRecDepth 100000 in
set_option maxHeartbeats 3200000 in
theorem l6Fails_any {S1 S2 S3 S4:Nat→Prop} (v1 v2 u1 u2:Value) (a b:Asn) (r:Option (List Int)) (w:World) (h1:RL w S1 v1 a.1) (h2:RL w S2 v2 a.2) (k1:RL w S3 u1 b.1) (k2:RL w S4 u2 b.2) (ha:asnB a=true) (hb:asnB b=true) (hr:failO a b=r) :
 Calls Tryz.prog 170 #[.agg #[v1,v2],.agg #[u1,u2]] w fun e w'=>∃ v',e=.returned (.tuple #[v',.bool r.isSome])∧(∀ cl,r=some cl→w'.ownsRow w.heap.size 3 1 v' cl.length (ints cl))∧Below w.heap.size w w':=by
 obtain ⟨xa1,xc1,rfl⟩:=h1.form
 obtain ⟨xa2,xc2,rfl⟩:=h2.form
 obtain ⟨ya1,yc1,rfl⟩:=k1.form
 obtain ⟨ya2,yc2,rfl⟩:=k2.form
 have HV:=Lib.hid (And.intro ha hb)
 have HF:=Lib.hid hr
 clear ha hb hr
 go_enter Tryz.func170,Tryz.ntmps170
 go_wp2
 have c0:((w.alloc (.cells #[.slice xa1 a.1.length xc1,.slice xa2 a.2.length xc2] 26)).alloc (.cells #[.slice ya1 b.1.length yc1,.slice ya2 b.2.length yc2] 26)).cell? ⟨w.heap.size,0,none⟩=some (.slice xa1 a.1.length xc1):=by simp [go_sem]
 have c1:((w.alloc (.cells #[.slice xa1 a.1.length xc1,.slice xa2 a.2.length xc2] 26)).alloc (.cells #[.slice ya1 b.1.length yc1,.slice ya2 b.2.length yc2] 26)).cell? ⟨w.heap.size,1,none⟩=some (.slice xa2 a.2.length xc2):=by simp [go_sem]
 have d0:((w.alloc (.cells #[.slice xa1 a.1.length xc1,.slice xa2 a.2.length xc2] 26)).alloc (.cells #[.slice ya1 b.1.length yc1,.slice ya2 b.2.length yc2] 26)).cell? ⟨w.heap.size+1,0,none⟩=some (.slice ya1 b.1.length yc1):=by simp [go_sem]
 have d1:((w.alloc (.cells #[.slice xa1 a.1.length xc1,.slice xa2 a.2.length xc2] 26)).alloc (.cells #[.slice ya1 b.1.length yc1,.slice ya2 b.2.length yc2] 26)).cell? ⟨w.heap.size+1,1,none⟩=some (.slice ya2 b.2.length yc2):=by simp [go_sem]
 have hW:Below w.heap.size w ((w.alloc (.cells #[.slice xa1 a.1.length xc1,.slice xa2 a.2.length xc2] 26)).alloc (.cells #[.slice ya1 b.1.length yc1,.slice ya2 b.2.length yc2] 26)):=Bl
 generalize ((w.alloc (.cells #[.slice xa1 a.1.length xc1,.slice xa2 a.2.length xc2] 26)).alloc (.cells #[.slice ya1 b.1.length yc1,.slice ya2 b.2.length yc2] 26))=w1 at *
 go_region_held3 (fun w'=>(w'.cell? ⟨w.heap.size,0,none⟩=some (.slice xa1 a.1.length xc1)∧w'.cell? ⟨w.heap.size,1,none⟩=some (.slice xa2 a.2.length xc2))∧(w'.cell? ⟨w.heap.size+1,0,none⟩=some (.slice ya1 b.1.length yc1)∧w'.cell? ⟨w.heap.size+1,1,none⟩=some (.slice ya2 b.2.length yc2)))
  (exact ⟨⟨cell_keep Bl c0,cell_keep Bl c1⟩,⟨cell_keep Bl d0,cell_keep Bl d1⟩⟩)
  (first
    | (go_at_call 221;(with_reducible refine (l6Seek_any _ _ _ _ _ _ _ _ a b r _ (h1.keep (bt hW Bl)) (h2.keep (bt hW Bl)) (k1.keep (bt hW Bl)) (k2.keep (bt hW Bl)) (own_keep hT Bl) (own_keep hO Bl) HV.out.1 HV.out.2 HF.out).mono ?_);rintro e w4 ⟨v4,rfl,hres,hb4'⟩;have hsz4:=And.intro hbT.size hbO.size;have hb4:Below w1.heap.size w1 w4:=bt Bl hb4')
    | (go_at_call 222;(with_reducible refine (l6Both_any _ _ _ _ a b _ (h1.keep (bt hW Bl)) (h2.keep (bt hW Bl)) (k1.keep (bt hW Bl)) (k2.keep (bt hW Bl)) HV.out.1 HV.out.2).mono ?_);rintro e w2 ⟨vT,rfl,hT,hbT'⟩;have hbT:Below w1.heap.size w1 w2:=bt Bl hbT';(try replace hO:=own_keep hO (bt Bl hbT')))
    | (go_at_call 223;(with_reducible refine (l5Open_any _).mono ?_);rintro e w3 ⟨vO,rfl,hO,hbO'⟩;have hbO:Below w1.heap.size w1 w3:=bt Bl hbO';(try replace hT:=own_keep hT (bt Bl hbO'))))
 all_goals
  have HRES:=Lib.hid (And.intro hres (And.intro hsz4 hb4))
  clear hres hsz4 hb4 hb4'
  go_wp2
  go_returns
  exact ⟨_,rfl,fun cl e=>own_mono (own_keep (HRES.out.1 cl e) Bl) (by first | exact Nat.le_trans hW.size HRES.out.2.1.1 | exact Nat.le_trans hW.size HRES.out.2.1.2),bt hW (bt HRES.out.2.2 Bl)⟩
set_option maxRecDepth 100000 in
set_option maxHeartbeats 3200000 in
theorem entailsS_any {S1 S2 S3 S4:Nat→Prop} (v1 v2 u1 u2:Value) (a b:Asn) (w:World) (h1:RL w S1 v1 a.1) (h2:RL w S2 v2 a.2) (k1:RL w S3 u1 b.1) (k2:RL w S4 u2 b.2) :
 Calls Tryz.prog 97 #[.agg #[v1,v2],.agg #[u1,u2]] w fun e w'=>e=.returned (.bool (entB a b))∧Below w.heap.size w w':=by
 obtain ⟨xa1,xc1,rfl⟩:=h1.form
 obtain ⟨xa2,xc2,rfl⟩:=h2.form
 obtain ⟨ya1,yc1,rfl⟩:=k1.form
 obtain ⟨ya2,yc2,rfl⟩:=k2.form
 cases ha:asnB a with
 | false =>
   have HV:=Lib.hid ha
   have HR:=Lib.hid (show entB a b=false by rw [entB,ha];rfl)
   clear ha
   go_enter Tryz.func97,Tryz.ntmps97
   go_wp2_with fail
   refine (cb (asnValidS_any _ _ a _ (h1.keep Bl) (h2.keep Bl)) HV.out).mono ?_
   rintro e w1 ⟨rfl,hb⟩
   go_wp2
   go_returns
   exact ⟨by rw [HR.out];rfl,bt Bl hb⟩
 | true =>
   cases hbv:asnB b with
   | false =>
     have HV:=Lib.hid (And.intro ha hbv)
     have HR:=Lib.hid (show entB a b=false by rw [entB,ha,hbv];rfl)
     clear ha hbv
     go_enter Tryz.func97,Tryz.ntmps97
     go_wp2_with fail
     refine (cb (asnValidS_any _ _ a _ (h1.keep Bl) (h2.keep Bl)) HV.out.1).mono ?_
     rintro e w1 ⟨rfl,hb⟩
     have c2:=cell_keep hb (p:=⟨w.heap.size+1,0,none⟩) (v:=.slice ya1 b.1.length yc1) (by simp [go_sem])
     have c3:=cell_keep hb (p:=⟨w.heap.size+1,1,none⟩) (v:=.slice ya2 b.2.length yc2) (by simp [go_sem])
     have hW:=bt (a:=w) Bl hb
     clear hb
     go_wp2_with fail
     refine (cb (asnValidS_any _ _ b _ (k1.keep hW) (k2.keep hW)) HV.out.2).mono ?_
     rintro e w2 ⟨rfl,hb⟩
     go_wp2
     go_returns
     exact ⟨by rw [HR.out];rfl,bt hW hb⟩
   | true =>
     obtain ⟨r,hr⟩:∃ r,failO a b=r:=⟨_,rfl⟩
     have HV:=Lib.hid (And.intro ha hbv)
     have HR:=Lib.hid (show entB a b=r.isNone by rw [entB,ha,hbv,hr];rfl)
     have HF:=Lib.hid hr
     clear ha hr hbv
     go_enter Tryz.func97,Tryz.ntmps97
     go_wp2_with fail
     refine (cb (asnValidS_any _ _ a _ (h1.keep Bl) (h2.keep Bl)) HV.out.1).mono ?_
     rintro e w1 ⟨rfl,hb⟩
     have c0:=cell_keep hb (p:=⟨w.heap.size,0,none⟩) (v:=.slice xa1 a.1.length xc1) (by simp [go_sem])
     have c1:=cell_keep hb (p:=⟨w.heap.size,1,none⟩) (v:=.slice xa2 a.2.length xc2) (by simp [go_sem])
     have c2:=cell_keep hb (p:=⟨w.heap.size+1,0,none⟩) (v:=.slice ya1 b.1.length yc1) (by simp [go_sem])
     have c3:=cell_keep hb (p:=⟨w.heap.size+1,1,none⟩) (v:=.slice ya2 b.2.length yc2) (by simp [go_sem])
     have hW:=bt (a:=w) Bl hb
     clear hb
     go_wp2_with fail
     refine (cb (asnValidS_any _ _ b _ (k1.keep hW) (k2.keep hW)) HV.out.2).mono ?_
     rintro e w2 ⟨rfl,hb⟩
     replace c0:=cell_keep hb c0;replace c1:=cell_keep hb c1;replace c2:=cell_keep hb c2;replace c3:=cell_keep hb c3;replace hW:=bt hW hb;clear hb
     go_wp2_with fail
     refine (l6Fails_any _ _ _ _ a b r _ (h1.keep hW) (h2.keep hW) (k1.keep hW) (k2.keep hW) HV.out.1 HV.out.2 HF.out).mono ?_
     rintro e w3 ⟨v3,rfl,hres,hb⟩
     clear hres
     cases r with
     | none =>
       go_wp2
       go_returns
       exact ⟨by rw [HR.out];rfl,bt (bt hW hb) Bl⟩
     | some c =>
       go_wp2
       go_returns
       exact ⟨by rw [HR.out];rfl,bt (bt hW hb) Bl⟩
end Go.Proofs.YtkbbmjcfgcfejaaGreat
