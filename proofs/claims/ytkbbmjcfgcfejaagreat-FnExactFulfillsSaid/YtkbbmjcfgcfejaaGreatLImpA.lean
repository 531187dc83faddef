/- Walks: consistency, entailment: the reference. -/
import Derived.Test.YtkbbmjcfgcfejaaGreatLSkA
set_option linter.unusedVariables false
set_option linter.unusedSimpArgs false
set_option maxRecDepth 100000
set_option maxHeartbeats 12800000
namespace Go.Proofs.YtkbbmjcfgcfejaaGreat
open Go.RowKit
theorem KW {M:Nat} (h0:M.testBit 0=true):ClsP M [0] (Dz 8) 1 where
 hp:=rfl
 hq:=rfl
 ag i hi:=by
  obtain rfl:i=0:=by omega
  rfl
 neg i h1 h9:=by
  obtain ⟨k,rfl⟩:∃ k,i=k+1:=⟨i - 1,by omega⟩;show gi (0 :: Rt (-1) 8) (k+1)=-1
  simp only [gi,Rt,List.getD_eq_getElem?_getD,List.getElem?_cons_succ,List.getElem?_replicate];rw [if_pos (by omega)];rfl
 st i hi:=by
  obtain rfl:i=0:=by omega
  rw [Fi,if_pos h0];rfl
theorem Hk {M:Nat} {a:Aj} (h0:M.testBit 0=true):BU M a=Bq M a 8 [0]:=by
 rw [BU,I5,UM,if_pos (by exact h0)];simp [List.range_succ]
theorem UT (a:Aj):∀ j,(Ak a).testBit j=true→(As (Ak a) 0).testBit j=true:=fun j h=>by rw [Dn,h];rfl
theorem Tx (a b:Aj):∀ j,(Ak a).testBit j=true→(FZ a b).testBit j=true:=fun j h=>by
 rw [FZ,Nat.testBit_or,Dn,h];rfl
theorem Oa (m:Nat):(As m 0).testBit 0=true:=by rw [Dn];simp
theorem L4 (a b:Aj):(FZ a b).testBit 0=true:=by rw [FZ,Nat.testBit_or,Oa];rfl
theorem MT {m j:Nat} (h:1≤j):(As m 0).testBit j=m.testBit j:=by
 rw [Dn,decide_eq_false Om,Bool.or_false]
theorem Ty {a b:Aj} {j:Nat} (h:1≤j):(FZ a b).testBit j=(Ak (a.1 ++ b.1,a.2 ++ b.2)).testBit j:=by
 rw [FZ,Nat.testBit_or,MT h,Tc]
theorem L5 {M:Nat} {a:Aj} (ha:Ah a=true) (hcov:∀ j,(Ak a).testBit j=true→M.testBit j=true):∀ n,Gx M a n
 | 0=>PY ha hcov
 | n+1=>PZ ha (L5 ha hcov n)
theorem Ob {S1 S2:Nat→Prop} (v1 v2 tv_ cv:Value) (M Mf B B2:Nat) (a:Aj) (r:Option (List Int)) (w:World) (h1:RL w S1 v1 a.1) (h2:RL w S2 v2 a.2) (ht:w.ownsRow B 4 1 tv_ 9 (Av Mf)) (hc:w.ownsRow B2 3 1 cv 9 (ints (Dz 8))) (ha:Ah a=true)
 (hcov:∀ j,(Ak a).testBit j=true→M.testBit j=true) (h0:M.testBit 0=true) (hbit:∀ j,1≤j→M.testBit j=Mf.testBit j) (hr:C8 M a=r) :
 Calls Tryz.prog 224 #[.agg #[v1,v2],tv_,cv,.int .i64 1] w fun e w'=>∃ v',e=.returned (.tuple #[v',.bool r.isSome])∧(∀ cl,r=some cl→w'.ownsRow w.heap.size 3 1 v' cl.length (ints cl))∧Below w.heap.size w w':=by
 obtain ⟨tb,tcap,rfl⟩:=B8 ht;refine L5 ha hcov 8 v1 v2 cv Mf tb tcap 1 1 [0] (Dz 8) r w h1 h2 (Jd ht) (CV hc).1 hbit rfl Om Om (KW h0) ?_;rw [← hr,C8,Hk h0];cases Bq M a 8 [0] <;> rfl
theorem C2 {S1 S2:Nat→Prop} (v1 v2:Value) (a:Aj) (w:World) (h1:RL w S1 v1 a.1) (h2:RL w S2 v2 a.2) :
 Calls Tryz.prog 171 #[.agg #[v1,v2]] w fun e w'=>e=.returned (.bool (Cl a))∧Below w.heap.size w w':=by
 obtain ⟨xa1,xc1,rfl⟩:=h1.form;obtain ⟨xa2,xc2,rfl⟩:=h2.form;cases ha:Ah a with
 | false =>
   have HV:=Ad ha;have HR:=Ad (show Cl a=false by rw [Cl,ha];rfl);clear ha;go_enter Tryz.func171,Tryz.ntmps171
   (go_wp2_with fail);refine (cb (Ar _ _ a _ (h1.keep Bl) (h2.keep Bl)) HV.o).mono ?_;rintro e w1 ⟨rfl,hb⟩;go_wp2;go_returns;exact ⟨by rw [HR.o];rfl,bt Bl hb⟩
 | true =>
   obtain ⟨r,hr⟩:=Ex (C8 (As (Ak a) 0) a);have HV:=Ad ha;have HR:=Ad (show Cl a=r.isSome by
    rw [Cl,ha,← hr,C8,Bool.true_and];cases BU (As (Ak a) 0) a <;> rfl)
   have HF:=Ad hr;have HFA:=Ad (CK ha);clear ha hr;go_enter Tryz.func171,Tryz.ntmps171
   (go_wp2_with fail);refine (cb (Ar _ _ a _ (h1.keep Bl) (h2.keep Bl)) HV.o).mono ?_;rintro e w1 ⟨rfl,hb⟩;have c0:=Ab hb (p:=⟨w.heap.size,0,none⟩) (v:=.slice xa1 a.1.length xc1) (by simp [go_sem]);have c1:=Ab hb (p:=⟨w.heap.size,1,none⟩) (v:=.slice xa2 a.2.length xc2) (by simp [go_sem]);have hW:=bt (a:=w) Bl hb;clear hb;go_wp2;go_region_held3 (fun w'=>w'.cell? ⟨w.heap.size,0,none⟩=some (.slice xa1 a.1.length xc1)∧w'.cell? ⟨w.heap.size,1,none⟩=some (.slice xa2 a.2.length xc2))
    (exact ⟨Ab Bl c0,Ab Bl c1⟩)
    (first
      | (go_at_call 224;(with_reducible refine (Ob _ _ _ _ (As (Ak a) 0) (Ak a) _ _ a r _ (h1.keep (bt hW Bl)) (h2.keep (bt hW Bl)) (Ag hT Bl) (Ag hO Bl) HV.o (UT a) (Oa _) (fun j hj=>MT hj) HF.o).mono ?_);rintro e w4 ⟨v4,rfl,_,hb4'⟩;have hb4:Below w1.heap.size w1 w4:=bt Bl hb4')
      | (go_at_call 75;(with_reducible refine (BQ _ _ a _ (h1.keep (bt hW Bl)) (h2.keep (bt hW Bl)) HFA.o.1.1 HFA.o.1.2).mono ?_);rintro e w2 ⟨vT,rfl,hT,hbT'⟩;have hbT:Below w1.heap.size w1 w2:=bt Bl hbT';(try replace hO:=Ag hO (bt Bl hbT')))
      | (go_at_call 223;(with_reducible refine (Hj _).mono ?_);rintro e w3 ⟨vO,rfl,hO,hbO'⟩;have hbO:Below w1.heap.size w1 w3:=bt Bl hbO';(try replace hT:=Ag hT (bt Bl hbO'))))
   all_goals
    go_wp2;go_returns;exact ⟨by rw [HR.o];rfl,bt hW (bt hb4 Bl)⟩
theorem Oc {a b:Aj} (ha:Ah a=true) (hb:Ah b=true):∀ n,Q5 (FZ a b) a b n
 | 0=>RQ ha hb (Tx a b) rfl
 | n+1=>RR ha (Oc ha hb n)
theorem P0 {S1 S2 S3 S4:Nat→Prop} (v1 v2 u1 u2 tv_ cv:Value) (B B2:Nat) (a b:Aj) (r:Option (List Int)) (w:World) (h1:RL w S1 v1 a.1) (h2:RL w S2 v2 a.2) (k1:RL w S3 u1 b.1) (k2:RL w S4 u2 b.2) (ht:w.ownsRow B 4 1 tv_ 9 (Av (Ak (a.1 ++ b.1,a.2 ++ b.2)))) (hc:w.ownsRow B2 3 1 cv 9 (ints (Dz 8))) (ha:Ah a=true) (hb:Ah b=true) (hr:Il a b=r) :
 Calls Tryz.prog 221 #[.agg #[v1,v2],.agg #[u1,u2],tv_,cv,.int .i64 1] w fun e w'=>∃ v',e=.returned (.tuple #[v',.bool r.isSome])∧(∀ cl,r=some cl→w'.ownsRow w.heap.size 3 1 v' cl.length (ints cl))∧Below w.heap.size w w':=by
 obtain ⟨tb,tcap,rfl⟩:=B8 ht;refine Oc ha hb 8 v1 v2 u1 u2 cv _ tb tcap 1 1 [0] (Dz 8) r w h1 h2 k1 k2 (Jd ht) (CV hc).1 (fun j hj=>Ty hj) rfl Om Om (KW (L4 a b)) ?_;rw [← hr,Il,Hk (L4 a b)]
theorem Od {S1 S2 S3 S4:Nat→Prop} (v1 v2 u1 u2:Value) (a b:Aj) (r:Option (List Int)) (w:World) (h1:RL w S1 v1 a.1) (h2:RL w S2 v2 a.2) (k1:RL w S3 u1 b.1) (k2:RL w S4 u2 b.2) (ha:Ah a=true) (hb:Ah b=true) (hr:Il a b=r) :
 Calls Tryz.prog 170 #[.agg #[v1,v2],.agg #[u1,u2]] w fun e w'=>∃ v',e=.returned (.tuple #[v',.bool r.isSome])∧(∀ cl,r=some cl→w'.ownsRow w.heap.size 3 1 v' cl.length (ints cl))∧Below w.heap.size w w':=by
 obtain ⟨xa1,xc1,rfl⟩:=h1.form;obtain ⟨xa2,xc2,rfl⟩:=h2.form;obtain ⟨ya1,yc1,rfl⟩:=k1.form;obtain ⟨ya2,yc2,rfl⟩:=k2.form;have HV:=Ad (An ha hb);have HF:=Ad hr;clear ha hb hr;go_enter Tryz.func170,Tryz.ntmps170
 go_wp2;have c0:((w.alloc (.cells #[.slice xa1 a.1.length xc1,.slice xa2 a.2.length xc2] 26)).alloc (.cells #[.slice ya1 b.1.length yc1,.slice ya2 b.2.length yc2] 26)).cell? ⟨w.heap.size,0,none⟩=some (.slice xa1 a.1.length xc1):=by simp [go_sem]
 have c1:((w.alloc (.cells #[.slice xa1 a.1.length xc1,.slice xa2 a.2.length xc2] 26)).alloc (.cells #[.slice ya1 b.1.length yc1,.slice ya2 b.2.length yc2] 26)).cell? ⟨w.heap.size,1,none⟩=some (.slice xa2 a.2.length xc2):=by simp [go_sem]
 have d0:((w.alloc (.cells #[.slice xa1 a.1.length xc1,.slice xa2 a.2.length xc2] 26)).alloc (.cells #[.slice ya1 b.1.length yc1,.slice ya2 b.2.length yc2] 26)).cell? ⟨w.heap.size+1,0,none⟩=some (.slice ya1 b.1.length yc1):=by simp [go_sem]
 have d1:((w.alloc (.cells #[.slice xa1 a.1.length xc1,.slice xa2 a.2.length xc2] 26)).alloc (.cells #[.slice ya1 b.1.length yc1,.slice ya2 b.2.length yc2] 26)).cell? ⟨w.heap.size+1,1,none⟩=some (.slice ya2 b.2.length yc2):=by simp [go_sem]
 have hW:Below w.heap.size w ((w.alloc (.cells #[.slice xa1 a.1.length xc1,.slice xa2 a.2.length xc2] 26)).alloc (.cells #[.slice ya1 b.1.length yc1,.slice ya2 b.2.length yc2] 26)):=Bl;generalize ((w.alloc (.cells #[.slice xa1 a.1.length xc1,.slice xa2 a.2.length xc2] 26)).alloc (.cells #[.slice ya1 b.1.length yc1,.slice ya2 b.2.length yc2] 26))=w1 at *;go_region_held3 (fun w'=>(w'.cell? ⟨w.heap.size,0,none⟩=some (.slice xa1 a.1.length xc1)∧w'.cell? ⟨w.heap.size,1,none⟩=some (.slice xa2 a.2.length xc2))∧(w'.cell? ⟨w.heap.size+1,0,none⟩=some (.slice ya1 b.1.length yc1)∧w'.cell? ⟨w.heap.size+1,1,none⟩=some (.slice ya2 b.2.length yc2)))
  (exact ⟨⟨Ab Bl c0,Ab Bl c1⟩,⟨Ab Bl d0,Ab Bl d1⟩⟩)
  (first
    | (go_at_call 221;(with_reducible refine (P0 _ _ _ _ _ _ _ _ a b r _ (h1.keep (bt hW Bl)) (h2.keep (bt hW Bl)) (k1.keep (bt hW Bl)) (k2.keep (bt hW Bl)) (Ag hT Bl) (Ag hO Bl) HV.o.1 HV.o.2 HF.o).mono ?_);rintro e w4 ⟨v4,rfl,hres,hb4'⟩;have hsz4:=An hbT.size hbO.size;have hb4:Below w1.heap.size w1 w4:=bt Bl hb4')
    | (go_at_call 222;(with_reducible refine (PB _ _ _ _ a b _ (h1.keep (bt hW Bl)) (h2.keep (bt hW Bl)) (k1.keep (bt hW Bl)) (k2.keep (bt hW Bl)) HV.o.1 HV.o.2).mono ?_);rintro e w2 ⟨vT,rfl,hT,hbT'⟩;have hbT:Below w1.heap.size w1 w2:=bt Bl hbT';(try replace hO:=Ag hO (bt Bl hbT')))
    | (go_at_call 223;(with_reducible refine (Hj _).mono ?_);rintro e w3 ⟨vO,rfl,hO,hbO'⟩;have hbO:Below w1.heap.size w1 w3:=bt Bl hbO';(try replace hT:=Ag hT (bt Bl hbO'))))
 all_goals
  have HRES:=Ad (An hres (An hsz4 hb4));clear hres hsz4 hb4 hb4';go_wp2;go_returns;exact ⟨_,rfl,fun cl e=>BK (Ag (HRES.o.1 cl e) Bl) (by first | exact Nat.le_trans hW.size HRES.o.2.1.1 | exact Nat.le_trans hW.size HRES.o.2.1.2),bt hW (bt HRES.o.2.2 Bl)⟩
theorem FM {S1 S2 S3 S4:Nat→Prop} (v1 v2 u1 u2:Value) (a b:Aj) (w:World) (h1:RL w S1 v1 a.1) (h2:RL w S2 v2 a.2) (k1:RL w S3 u1 b.1) (k2:RL w S4 u2 b.2) :
 Calls Tryz.prog 97 #[.agg #[v1,v2],.agg #[u1,u2]] w fun e w'=>e=.returned (.bool (Cp a b))∧Below w.heap.size w w':=by
 obtain ⟨xa1,xc1,rfl⟩:=h1.form;obtain ⟨xa2,xc2,rfl⟩:=h2.form;obtain ⟨ya1,yc1,rfl⟩:=k1.form;obtain ⟨ya2,yc2,rfl⟩:=k2.form;cases ha:Ah a with
 | false =>
   have HV:=Ad ha;have HR:=Ad (show Cp a b=false by rw [Cp,ha];rfl);clear ha;go_enter Tryz.func97,Tryz.ntmps97
   (go_wp2_with fail);refine (cb (Ar _ _ a _ (h1.keep Bl) (h2.keep Bl)) HV.o).mono ?_;rintro e w1 ⟨rfl,hb⟩;go_wp2;go_returns;exact ⟨by rw [HR.o];rfl,bt Bl hb⟩
 | true =>
   cases hbv:Ah b with
   | false =>
     have HV:=Ad (An ha hbv);have HR:=Ad (show Cp a b=false by rw [Cp,ha,hbv];rfl);clear ha hbv;go_enter Tryz.func97,Tryz.ntmps97
     (go_wp2_with fail);refine (cb (Ar _ _ a _ (h1.keep Bl) (h2.keep Bl)) HV.o.1).mono ?_;rintro e w1 ⟨rfl,hb⟩;have c2:=Ab hb (p:=⟨w.heap.size+1,0,none⟩) (v:=.slice ya1 b.1.length yc1) (by simp [go_sem]);have c3:=Ab hb (p:=⟨w.heap.size+1,1,none⟩) (v:=.slice ya2 b.2.length yc2) (by simp [go_sem]);have hW:=bt (a:=w) Bl hb;clear hb;(go_wp2_with fail);refine (cb (Ar _ _ b _ (k1.keep hW) (k2.keep hW)) HV.o.2).mono ?_;rintro e w2 ⟨rfl,hb⟩;go_wp2;go_returns;exact ⟨by rw [HR.o];rfl,bt hW hb⟩
   | true =>
     obtain ⟨r,hr⟩:=Ex (Il a b);have HV:=Ad (An ha hbv);have HR:=Ad (show Cp a b=r.isNone by rw [Cp,ha,hbv,hr];rfl);have HF:=Ad hr;clear ha hr hbv;go_enter Tryz.func97,Tryz.ntmps97
     (go_wp2_with fail);refine (cb (Ar _ _ a _ (h1.keep Bl) (h2.keep Bl)) HV.o.1).mono ?_;rintro e w1 ⟨rfl,hb⟩;have c0:=Ab hb (p:=⟨w.heap.size,0,none⟩) (v:=.slice xa1 a.1.length xc1) (by simp [go_sem]);have c1:=Ab hb (p:=⟨w.heap.size,1,none⟩) (v:=.slice xa2 a.2.length xc2) (by simp [go_sem]);have c2:=Ab hb (p:=⟨w.heap.size+1,0,none⟩) (v:=.slice ya1 b.1.length yc1) (by simp [go_sem]);have c3:=Ab hb (p:=⟨w.heap.size+1,1,none⟩) (v:=.slice ya2 b.2.length yc2) (by simp [go_sem]);have hW:=bt (a:=w) Bl hb;clear hb;(go_wp2_with fail);refine (cb (Ar _ _ b _ (k1.keep hW) (k2.keep hW)) HV.o.2).mono ?_;rintro e w2 ⟨rfl,hb⟩;replace c0:=Ab hb c0;replace c1:=Ab hb c1;replace c2:=Ab hb c2;replace c3:=Ab hb c3;replace hW:=bt hW hb;clear hb;(go_wp2_with fail);refine (Od _ _ _ _ a b r _ (h1.keep hW) (h2.keep hW) (k1.keep hW) (k2.keep hW) HV.o.1 HV.o.2 HF.o).mono ?_;rintro e w3 ⟨v3,rfl,hres,hb⟩;clear hres;cases r with
     | none =>
       go_wp2;go_returns;exact ⟨by rw [HR.o];rfl,bt (bt hW hb) Bl⟩
     | some c =>
       go_wp2;go_returns;exact ⟨by rw [HR.o];rfl,bt (bt hW hb) Bl⟩
def nF (f:Ap):Ap:=(!f.1,f.2)
def B7 (a:Aj) (f:Ap):Aj:=(a.1 ++ [f],a.2)
theorem Vv (W:World) (n:Nat) (hn:n=W.heap.size) (f:Ap) (T:TypeId):RL (W.alloc (.cells #[.bool f.1,.int .i64 f.2.1,.int .i64 f.2.2] T)) (fun k=>k=n) (.slice (some ⟨n,0,none⟩) 1 1) [f]:=by
 subst hn;refine .inr ⟨W.heap.size,0,1,rfl,Nat.le_refl _,by unfold maxLen;omega,fun _=>⟨rfl,by simp⟩,fun i hi=>⟨[.bool f.1,.int .i64 f.2.1,.int .i64 f.2.2],?_,fun j u hj=>?_⟩⟩
 · obtain rfl:i=0:=by simpa using hi
   exact ⟨[.bool f.1],[.int .i64 f.2.1,.int .i64 f.2.2],rfl,rfl,[.int .i64 f.2.1],[.int .i64 f.2.2],rfl,rfl,rfl⟩
 · obtain rfl:i=0:=by simpa using hi
   match j,hj with
   | 0,hj=>simp at hj;subst hj;simp
   | 1,hj=>simp at hj;subst hj;simp
   | 2,hj=>simp at hj;subst hj;simp
theorem JE (f:Ap) (w:World) :
 Calls Tryz.prog 284 #[.agg #[.bool f.1,.int .i64 f.2.1,.int .i64 f.2.2]] w fun e w'=>e=.returned (.agg #[.bool (nF f).1,.int .i64 (nF f).2.1,.int .i64 (nF f).2.2])∧Below w.heap.size w w':=by
 go_enter Tryz.func284,Tryz.ntmps284
 go_wp2;refine bodyPost_ret (v:=.agg #[.bool !f.1,.int .i64 f.2.1,.int .i64 f.2.2]) (by simp [results,Tryz.results284,go_sem]) rfl ⟨rfl,?_⟩;exact Bl
theorem Ek {S1 S2:Nat→Prop} (v1 v2:Value) (a:Aj) (f:Ap) (w:World) (h1:RL w S1 v1 a.1) (h2:RL w S2 v2 a.2) (hs:Hg a) :
 Calls Tryz.prog 182 #[.agg #[v1,v2],.agg #[.bool f.1,.int .i64 f.2.1,.int .i64 f.2.2]] w fun e w'=>∃ u1 u2,e=.returned (.agg #[u1,u2])∧OA w' w.heap.size u1 u2 (B7 a f)∧Below w.heap.size w w':=by
 obtain ⟨a1,a2⟩:=a;obtain ⟨hn,hm⟩:=hs;simp only at h1 h2 hn hm;obtain ⟨b1,c1,rfl⟩:=h1.form;obtain ⟨b2,c2,rfl⟩:=h2.form;go_enter Tryz.func182,Tryz.ntmps182
 go_wp2;have hc0:(((w.alloc (.cells #[.slice b1 a1.length c1,.slice b2 a2.length c2] 26)).alloc (.cells #[.bool f.1,.int .i64 f.2.1,.int .i64 f.2.2] 61)).alloc (.cells #[.slice none 0 0,.slice none 0 0] 26)).cell? ⟨w.heap.size,0,none⟩=some (.slice b1 a1.length c1):=by simp [go_sem]
 have hc1:(((w.alloc (.cells #[.slice b1 a1.length c1,.slice b2 a2.length c2] 26)).alloc (.cells #[.bool f.1,.int .i64 f.2.1,.int .i64 f.2.2] 61)).alloc (.cells #[.slice none 0 0,.slice none 0 0] 26)).cell? ⟨w.heap.size,1,none⟩=some (.slice b2 a2.length c2):=by simp [go_sem]
 have hf0:(((w.alloc (.cells #[.slice b1 a1.length c1,.slice b2 a2.length c2] 26)).alloc (.cells #[.bool f.1,.int .i64 f.2.1,.int .i64 f.2.2] 61)).alloc (.cells #[.slice none 0 0,.slice none 0 0] 26)).cell? ⟨w.heap.size+1,0,none⟩=some (.bool f.1):=by simp [go_sem]
 have hf1:(((w.alloc (.cells #[.slice b1 a1.length c1,.slice b2 a2.length c2] 26)).alloc (.cells #[.bool f.1,.int .i64 f.2.1,.int .i64 f.2.2] 61)).alloc (.cells #[.slice none 0 0,.slice none 0 0] 26)).cell? ⟨w.heap.size+1,1,none⟩=some (.int .i64 f.2.1):=by simp [go_sem]
 have hf2:(((w.alloc (.cells #[.slice b1 a1.length c1,.slice b2 a2.length c2] 26)).alloc (.cells #[.bool f.1,.int .i64 f.2.1,.int .i64 f.2.2] 61)).alloc (.cells #[.slice none 0 0,.slice none 0 0] 26)).cell? ⟨w.heap.size+1,2,none⟩=some (.int .i64 f.2.2):=by simp [go_sem]
 have hA:=heap_alloc_new ((w.alloc (.cells #[.slice b1 a1.length c1,.slice b2 a2.length c2] 26)).alloc (.cells #[.bool f.1,.int .i64 f.2.1,.int .i64 f.2.2] 61)) (.cells #[.slice none 0 0,.slice none 0 0] 26);have hW:Below w.heap.size w (((w.alloc (.cells #[.slice b1 a1.length c1,.slice b2 a2.length c2] 26)).alloc (.cells #[.bool f.1,.int .i64 f.2.1,.int .i64 f.2.2] 61)).alloc (.cells #[.slice none 0 0,.slice none 0 0] 26)):=ba (ba (Aa _ _) _) _;have hz:(((w.alloc (.cells #[.slice b1 a1.length c1,.slice b2 a2.length c2] 26)).alloc (.cells #[.bool f.1,.int .i64 f.2.1,.int .i64 f.2.2] 61)).alloc (.cells #[.slice none 0 0,.slice none 0 0] 26)).heap.size=w.heap.size+3:=by simp
 rw [World.size_alloc,World.size_alloc] at hA;generalize ((w.alloc (.cells #[.slice b1 a1.length c1,.slice b2 a2.length c2] 26)).alloc (.cells #[.bool f.1,.int .i64 f.2.1,.int .i64 f.2.2] 61)).alloc (.cells #[.slice none 0 0,.slice none 0 0] 26)=w0 at *;have HA:=Ad hA;have HZ:=Ad hz;clear hA hz;go_region_held3 (fun w'=>(w'.cell? ⟨w.heap.size,0,none⟩=some (.slice b1 a1.length c1)∧w'.cell? ⟨w.heap.size,1,none⟩=some (.slice b2 a2.length c2))∧(w'.cell? ⟨w.heap.size+1,0,none⟩=some (.bool f.1)∧w'.cell? ⟨w.heap.size+1,1,none⟩=some (.int .i64 f.2.1)∧w'.cell? ⟨w.heap.size+1,2,none⟩=some (.int .i64 f.2.2)))
  (exact ⟨⟨(Ck hc0),(Ck hc1)⟩,(Ck hf0),(Ck hf1),(Ck hf2)⟩)
  (first
    | (go_at_call 68;(first | have rf:=Vv w0 w0.heap.size rfl f 61 | skip);(first | have rg:=Vv w0.drew w0.heap.size Sp f 61 | skip);go_must (first | refine (Bj _ _ a1 [f] _ (h1.keep (bt hW Bl)) rf (by simp;omega)).mono ?_ | refine (Bj _ _ a1 [f] _ (h1.keep (bt hW Bl)) rg (by simp;omega)).mono ?_ | refine (Bj _ _ a1 [f] _ (h1.keep (bt hW Bl)) (rf.keep (Ai _)) (by simp;omega)).mono ?_);rintro e w5 ⟨x1,rfl,⟨f1,o1,n1⟩,hb5'⟩;obtain ⟨d1,m1,k1,rfl⟩:=o1.read.forms;have hb5:Below w0.heap.size w0 w5:=bt Bl hb5';have hz5:=hb5.size)
    | (go_at_call 70;go_must (refine (Bx _ _ a2 [] _ (h2.keep (bt hW Bl)) (RL.nil _ (fun _=>True)) (by simp;omega)).mono ?_;rintro e w6 ⟨y1,rfl,⟨f2,o2,n2⟩,hb6'⟩;rw [List.append_nil] at o2;obtain ⟨d2,k2,rfl⟩:=o2.read.form;have hb6:Below w0.heap.size w0 w6:=bt Bl hb6';have hA6:=Ac HA.o hb6;have ha0:=Bd hA6;have ha1:=AY hA6;have haz:∀ i,w6.frozen? ⟨w.heap.size+2,i,none⟩=false:=BI hA6;have hlA:=Ae hA6;clear hA6)))
 all_goals
  have hz0:=HZ.o;have hz5:=hb5.size;have hz5':=hb5'.size;have HO:=Ad ((OA.join o1 n1 o2 n2 Bl (by first | exact Nat.le_refl _ | exact hb6'.size) (B:=w.heap.size+3) (by first | (simp;omega) | omega) (by first | (simp;omega) | omega)).res (R:=w.heap.size+2) Om Om (bt hW hb6) (.slice d1 m1 k1) (.slice d2 a2.length k2));have r:=Au (.slice d1 m1 k1) (.slice d2 a2.length k2) ha0 ha1;clear o1 n1 o2 n2 hb5 hb5' hb6 hb6';go_wp2;refine bodyPost_ret (v:=.agg #[.slice d1 m1 k1,.slice d2 a2.length k2]) (by simp [results,Tryz.results182,go_sem,r.1,r.2]) rfl ?_;exact ⟨_,_,rfl,HO.o.1,HO.o.2⟩
section
variable {α:Type} [Own α] [Tid α] {w w':World} {B:Nat} {v:Value} {l:List α} {F F':List Nat}
end
def Eb (a:Aj) (f:Ap):Nat:=As (Ak a) 0 ||| As (As 0 f.2.1) f.2.2
def D4 (a:Aj) (f:Ap):Bool:=Ah a && (AH f && (BU (Eb a f) a).all fun cl=>B5 cl f)
theorem UU {a:Aj} {f:Ap} (hf:AH f=true):AN (Eb a f) f.2.1=true∧AN (Eb a f) f.2.2=true:=by
 obtain ⟨f1,f2,f3,f4⟩:=Ci hf;have h1:=At.2 (An f1 f2);have h2:=At.2 (An f3 f4);refine ⟨DX.2 ⟨f1,f2,?_⟩,DX.2 ⟨f3,f4,?_⟩⟩
 · have e:f.2.1=((f.2.1.toNat:Nat):Int):=by omega
   simp only [Eb,Nat.testBit_or,AR,h1,decide_eq_true e];simp
 · have e:f.2.2=((f.2.2.toNat:Nat):Int):=by omega
   simp only [Eb,Nat.testBit_or,AR,h2,decide_eq_true e];simp
theorem UV {a:Aj} (f:Ap) (ha:Ah a=true):PH (Eb a f) a∧(Eb a f).testBit 0=true:=by
 refine ⟨RH ha fun j hj=>?_,?_⟩
 · rw [Eb,Nat.testBit_or,Dn,hj];rfl
 · rw [Eb,Nat.testBit_or,Dn];simp
theorem Q6 {a:Aj} {f:Ap} (ha:Ah a=true) (hf:AH f=true):D4 a f=true ↔ ∀ g,g 0=0→PossV g a→Fl g f=true:=by
 obtain ⟨hc,hb⟩:=UV f ha;rw [← RI ha hc hb (fun g=>Fl g f=true) fun g1 g2 _ _ hp h=>by rw [← NQ hp (UU hf)];exact h];rw [D4,ha,hf,Bool.true_and,Bool.true_and,List.all_eq_true];exact Iff.rfl
theorem Wx {f:Ap} (hf:AH f=true):AH (nF f)=true:=hf
end Go.Proofs.YtkbbmjcfgcfejaaGreat
namespace Go.Proofs.YtkbbmjcfgcfejaaGreat
open Go Go.RowKit
attribute [local go_sem] Oper.semAt_some
theorem Q7 {P:Program} {fn:Func} {p:Tmp} (h:fn.results=#[.cell p 4]) {tmps:Array Value} {W:World} {D g:Nat} {b:Bool} (hP:P=Tryz.prog)
 (hp:tmps.getD p undef=.pointer (some ⟨g,0,none⟩)) (h2:W.cell? ⟨g,0,none⟩=some (.bool b)) (d1:¬ g=D) :
 (results fn tmps).run P (W.putObj D (.deferred none))=.ok (.bool b) (W.putObj D (.deferred none)):=by
 subst hP;have hp':tmps[p]?.getD undef=.pointer (some ⟨g,0,none⟩):=by simpa using hp
 simp [results,h,hp',asAddr,L3 ((CS W D _).cell d1 h2)]
theorem V3 (a:Aj) (f:Ap):Eb a f < 65536:=Nat.or_lt_two_pow (n:=16) (AJ (Bw a)) (AJ (AJ Dc))
theorem P1 (t:Int) (w:World):Calls Tryz.prog 147 #[.int .u16 0,.int .i64 t] w fun e w'=>e=.returned (.int .u16 (As 0 t:Nat))∧w=w':=I0 0 t w Dc
theorem MU {S1 S2:Nat→Prop} (v1 v2:Value) (a:Aj) (f:Ap) (w:World) (h1:RL w S1 v1 a.1) (h2:RL w S2 v2 a.2) :
 Calls Tryz.prog 314 #[.agg #[v1,v2],.agg #[.bool f.1,.int .i64 f.2.1,.int .i64 f.2.2]] w fun e w'=>e=.returned (.bool (D4 a f))∧Below w.heap.size w w':=by
 obtain ⟨xa1,xc1,rfl⟩:=h1.form;obtain ⟨xa2,xc2,rfl⟩:=h2.form;obtain ⟨w0,hw0⟩:=Ey ((((w.alloc (.cells #[.slice xa1 a.1.length xc1,.slice xa2 a.2.length xc2] 26)).alloc (.cells #[.bool f.1,.int .i64 f.2.1,.int .i64 f.2.2] 61)).alloc (.cells #[.bool false] 4)));have hc0:w0.cell? ⟨w.heap.size,0,none⟩=some (.slice xa1 a.1.length xc1):=by rw [hw0];simp [go_sem]
 have hc1:w0.cell? ⟨w.heap.size,1,none⟩=some (.slice xa2 a.2.length xc2):=by rw [hw0];simp [go_sem]
 have hf0:w0.cell? ⟨w.heap.size+1,0,none⟩=some (.bool f.1):=by rw [hw0];simp [go_sem]
 have hf1:w0.cell? ⟨w.heap.size+1,1,none⟩=some (.int .i64 f.2.1):=by rw [hw0];simp [go_sem]
 have hf2:w0.cell? ⟨w.heap.size+1,2,none⟩=some (.int .i64 f.2.2):=by rw [hw0];simp [go_sem]
 have hg:w0.heap[w.heap.size+1+1]?=some (.cells #[.bool false] 4 (0,0)):=by
  rw [hw0];have:=heap_alloc_new ((w.alloc (.cells #[.slice xa1 a.1.length xc1,.slice xa2 a.2.length xc2] 26)).alloc (.cells #[.bool f.1,.int .i64 f.2.1,.int .i64 f.2.2] 61)) (.cells #[.bool false] 4);simpa only [World.size_alloc] using this
 have hz:w0.heap.size=w.heap.size+1+1+1:=by rw [hw0];simp
 have hW:Below w.heap.size w w0:=by rw [hw0];exact ba (ba (Aa _ _) _) _
 have q1:=h1.keep hW;have q2:=h2.keep hW;have HZ:=Ad (An hz hw0);clear hz hw0;have HEND:∀ {W:World},Below w.heap.size w W→Below w.heap.size w (W.setCell ⟨w.heap.size+1+1,0,none⟩ (.bool false)):=fun hb=>hb.setCell (by simp;omega) _;cases ha:Ah a
 · have HF:=Ad (An (show D4 a f=false by rw [D4,ha];rfl) ha)
   clear ha;go_enter Tryz.func314,Tryz.ntmps314
   (go_wp2_with fail);rw [← HZ.o.2];refine (cb (Aq _ _ a _ q1 q2) HF.o.2).mono ?_;rintro e w1 ⟨rfl,hb⟩;have hg1:=Ac hg hb;have c0:w1.cell? ⟨w.heap.size+1+1,0,none⟩=some (.bool false):=cr 0 hg1;have cz:=frozen_of_row _ _ 0 _ _ hg1;have cl:=Ae hg1;clear hg1;go_wp2;refine bodyPost_ret (v:=.bool false) (by simp [results,Tryz.results314,go_sem,c0]) rfl ?_;exact ⟨by rw [HF.o.1],HEND (bt hW hb)⟩
 have HVA:=Ad ha;cases hv:AH f
 · have HF:=Ad (An (show D4 a f=false by rw [D4,ha,hv];rfl) hv)
   clear ha hv;go_enter Tryz.func314,Tryz.ntmps314
   (go_wp2_with fail);rw [← HZ.o.2];refine (cb (Aq _ _ a _ q1 q2) HVA.o).mono ?_;rintro e w1 ⟨rfl,hb⟩;replace hf0:=Ab hb hf0;replace hf1:=Ab hb hf1;replace hf2:=Ab hb hf2;(go_wp2_with fail);refine (cb (Cg f _) HF.o.2).mono ?_;rintro e w2 ⟨rfl,hb2⟩;have hg1:=Ac (Ac hg hb) hb2;have c0:w2.cell? ⟨w.heap.size+1+1,0,none⟩=some (.bool false):=cr 0 hg1;have cz:=frozen_of_row _ _ 0 _ _ hg1;have cl:=Ae hg1;clear hg1;go_wp2;refine bodyPost_ret (v:=.bool false) (by simp [results,Tryz.results314,go_sem,c0]) rfl ?_;exact ⟨by rw [HF.o.1],HEND (bt hW (bt hb hb2))⟩
 have HVF:=Ad hv;obtain ⟨r,hr⟩:=Ex (D4 a f);rw [hr];have HR:=Ad (show ((BU (Eb a f) a).all fun cl=>B5 cl f)=r by rw [← hr,D4,ha,hv];rfl);obtain ⟨t1,t2,t3,t4⟩:=Ci hv;clear ha hv hr;refine EL Tryz.func314 rfl ?_;simp only [Tryz.ntmps314,List.size_toArray,List.length_cons,List.length_nil,Nat.reduceAdd,Nat.reduceSub,Array.replicate_succ,Array.replicate_zero,List.push_toArray,List.append_toArray,List.nil_append,List.cons_append];go_wp2_with fail
 rw [← HZ.o.2];refine (cb (Aq _ _ a _ q1 q2) HVA.o).mono ?_;rintro e w1 ⟨rfl,hb⟩;replace hf0:=Ab hb hf0;replace hf1:=Ab hb hf1;replace hf2:=Ab hb hf2;replace hc0:=Ab hb hc0;replace hc1:=Ab hb hc1;replace hg:=Ac hg hb;replace hW:=bt hW hb;go_wp2_with fail
 refine (cb (Cg f _) HVF.o).mono ?_;rintro e w2 ⟨rfl,hb2⟩;replace hf0:=Ab hb2 hf0;replace hf1:=Ab hb2 hf1;replace hf2:=Ab hb2 hf2;replace hc0:=Ab hb2 hc0;replace hc1:=Ab hb2 hc1;replace hg:=Ac hg hb2;replace hW:=bt hW hb2;have hz2:w.heap.size+1+1+1≤w2.heap.size:=by have:=HZ.o.1;have:=hb.size;have:=hb2.size;omega
 clear hb hb2 q1 q2;go_upto_region 4 with fail
 go_region_held3 (fun w'=>(w'.cell? ⟨w.heap.size,0,none⟩=some (.slice xa1 a.1.length xc1)∧w'.cell? ⟨w.heap.size,1,none⟩=some (.slice xa2 a.2.length xc2))∧(w'.cell? ⟨w.heap.size+1,0,none⟩=some (.bool f.1)∧w'.cell? ⟨w.heap.size+1,1,none⟩=some (.int .i64 f.2.1)∧w'.cell? ⟨w.heap.size+1,2,none⟩=some (.int .i64 f.2.2)))
  (exact ⟨⟨Ab Bl hc0,Ab Bl hc1⟩,Ab Bl hf0,Ab Bl hf1,Ab Bl hf2⟩)
  (first
    | (go_at_call 147;(with_reducible refine (P1 f.2.1 _).mono ?_);rintro e w' ⟨rfl,rfl⟩)
    | (go_at_call 147;(with_reducible refine (I0 (As 0 f.2.1) f.2.2 _ (AJ Dc)).mono ?_);rintro e w' ⟨rfl,rfl⟩)
    | (go_at_call 117;go_must (refine (Dr _ _ a (As (As 0 f.2.1) f.2.2) _ (h1.keep (bt hW Bl)) (h2.keep (bt hW Bl)) (AJ (AJ Dc))).mono ?_;rintro e w3 ⟨b1,b2,rfl,hb1,hb2x,c0,c1,c2,hb⟩;have hb3:Below w2.heap.size w2 w3:=bt Bl hb)))
 have hz3:w2.heap.size≤w3.heap.size:=hb3.size;have hb1':w.heap.size+1+1+1≤b1:=by simp at hb1;omega
 have hb2':w.heap.size+1+1+1≤b2:=by simp at hb2x;omega
 have HC:=Ad (An c0 (An c1 c2));have HY:=Ad (An (Ab hb3 hf0) (An (Ab hb3 hf1) (Ab hb3 hf2)));have HW:=Ad (An (bt hW hb3) (Ac hg hb3));clear c0 c1 c2 hb hb1 hb2x hb1' hb2' hc0 hc1 hf0 hf1 hf2 hg hW hb3;go_wp2;have hR':∀ k:Nat,k < w.heap.size→k < w3.heap.size∧k ≠ w.heap.size+1+1:=fun k hk=>⟨by omega,by omega⟩;have HR':=Ad hR';refine Jf (xs:=BU (Eb a f) a) (R:=fun k=>k < w3.heap.size∧k ≠ w.heap.size+1+1) (w0:=w3) rfl (enters_of Tryz.func187 Kr rfl)
  (Jh b1 b2 _ _ a _ w3 HC.o.1 HC.o.2.1 HC.o.2.2 ((h1.lt.keep HW.o.1).more fun k _ hk=>HR'.o k hk) ((h2.lt.keep HW.o.1).more fun k _ hk=>HR'.o k hk)
    (fun k hk=>hk.1) HVA.o (V3 a f) (fun j hj=>by rw [Eb,Nat.testBit_or,Dn,hj];rfl)) (Below.refl _ _) (fun k hk=>hk.1) (fun _=>rfl)
  (fun X pre W=>(∀ x ∈ pre,B5 x f=true)∧(∀ k,X k→w3.heap.size≤k)∧(W.cell? ⟨w.heap.size+1,0,none⟩=some (.bool f.1)∧W.cell? ⟨w.heap.size+1,1,none⟩=some (.int .i64 f.2.1)∧W.cell? ⟨w.heap.size+1,2,none⟩=some (.int .i64 f.2.2)) ∧
    W.heap[w.heap.size+1+1]?=some (.cells #[.bool false] 4 (0,0))∧Below w.heap.size w W)
  (fun c pre W=>∃ q x,c=.ret∧pre=q ++ [x]∧B5 x f=false∧W.cell? ⟨w.heap.size+1+1,0,none⟩=some (.bool false)∧Below w.heap.size w W)
  ?hI ?hIx ⟨fun _ h=>by (cases h),fun _ h=>h.elim,HY.o,HW.o.2,HW.o.1⟩ ?hround ?hdone ?hstop
 case hI =>
  rintro X X' pre A B ⟨hp,hX,⟨e0,e1,e2⟩,h1,hb⟩ hf hz' hX';have hn:∀ k,k < w3.heap.size→¬ (X k∨k=w3.heap.size∨k=w3.heap.size+1):=fun k hk e=>by
   rcases e with h | h | h
   · have:=hX _ h;omega
   · omega
   · omega
  refine ⟨hp,fun k hk=>?_,⟨hf.cell (hn _ (by simp;omega)) e0,hf.cell (hn _ (by simp;omega)) e1,hf.cell (hn _ (by simp;omega)) e2⟩,AA h1 hf (hn _ Om),hb.trans (hf.below hb.size fun k hk=>hn k Om)⟩;rcases hX' k hk with h | h
  · exact hX k h
  · omega
 case hIx =>
  rintro c pre A B ⟨q,x,rfl,rfl,hx,h2,hb⟩ hf;refine ⟨q,x,rfl,rfl,hx,hf.cell ?_ h2,hb.trans (hf.below hb.size fun k hk e=>?_)⟩
  · rintro (h | h) <;> (simp only at h;omega)
  · rcases e with h | h <;> omega
 case hround =>
  rintro m X pre x W hzW hX hpre ⟨hp,hX2,⟨y0,y1,y2⟩,hg1,hb⟩;obtain ⟨x0,x1,x2,x3,x4,x5,x6,x7,x8,rfl⟩:=Tv (Ji (J5 hpre));have HG:=Ad (An hg1 (An hb (An hX (An hp hX2))));have HY2:=Ad (An y0 (An y1 y2));clear hpre hX hX2 hg1 hb y0 y1 y2 hp;gi_wp2
  refine ⟨(Is _ _).mono fun _ _ h=>h.elim,fun w4 hf4=>?_⟩;have hfw:Fr (fun k=>k=w3.heap.size+1) W w4:=((Is W (.cells #[.int .i64 x0,.int .i64 x1,.int .i64 x2,.int .i64 x3,.int .i64 x4,.int .i64 x5,.int .i64 x6,.int .i64 x7,.int .i64 x8] 161)).mono fun _ _ h=>h.elim).trans hf4;have hx:=AA (heap_alloc_new W (.cells #[.int .i64 x0,.int .i64 x1,.int .i64 x2,.int .i64 x3,.int .i64 x4,.int .i64 x5,.int .i64 x6,.int .i64 x7,.int .i64 x8] 161)) hf4 Om;have hq:=AA HG.o.1 hfw Om;have y0:=hfw.cell (by show ¬ w.heap.size+1=_;omega) HY2.o.1;have y1:=hfw.cell (by show ¬ w.heap.size+1=_;omega) HY2.o.2.1;have y2:=hfw.cell (by show ¬ w.heap.size+1=_;omega) HY2.o.2.2;have hb4:=HG.o.2.1.trans (hfw.below HG.o.2.1.size fun k hk e=>by omega);have HH:=Ad (An hq (An hb4 (An y0 (An y1 y2))));have q0:w4.cell? ⟨w.heap.size+1+1,0,none⟩=some (.bool false):=cr 0 hq;have qz:=frozen_of_row _ _ 0 _ _ hq;have hwz:=World.block_lt_of_cell? w4 _ y0;simp only at hwz;obtain ⟨b,hbb⟩:=Ex (B5 [x0,x1,x2,x3,x4,x5,x6,x7,x8] f);have HM:=Ad (cb (CF W.heap.size [x0,x1,x2,x3,x4,x5,x6,x7,x8] f w4 (L1 hx rfl) HVF.o) hbb);have HB:=Ad hbb;have hx9:=Ae hx;clear hx hq hfw hf4 hb4 hbb;cases b with
  | true =>
    gi_wp2_with (refine ⟨trivial,fun h=>(by cases h),?_⟩;gi_at_call 268;refine (CallsIn.inRound _ (callsIn_wide.2 HM.o)).mono ?_;rintro e w5 ⟨rfl,hb5⟩)
    have hff:=Below.fr hb5;refine ⟨hff.mono fun _ _ h=>h.elim,?_,HG.o.2.2.2.2,⟨Ab hb5 HH.o.2.2.1,Ab hb5 HH.o.2.2.2.1,Ab hb5 HH.o.2.2.2.2⟩,Ac HH.o.1 hb5,bt HH.o.2.1 hb5⟩;intro y hy;rcases List.mem_append.1 hy with h | h
    · exact HG.o.2.2.2.1 y h
    · rw [List.mem_singleton.1 h];exact HB.o
  | false =>
    gi_wp2_with (refine ⟨trivial,fun h=>(by cases h),?_⟩;gi_at_call 268;refine (CallsIn.inRound _ (callsIn_wide.2 HM.o)).mono ?_;rintro e w5 ⟨rfl,hb5⟩;have hq5:=Ac HH.o.1 hb5;have q0:w5.cell? ⟨w.heap.size+1+1,0,none⟩=some (.bool false):=cr 0 hq5;have qz:=frozen_of_row _ _ 0 _ _ hq5;have H5:=Ad (An hq5 hb5);clear hq5 hb5)
    have hb5:=bt HH.o.2.1 H5.o.2;refine ⟨?_,pre,[x0,x1,x2,x3,x4,x5,x6,x7,x8],rfl,rfl,HB.o,?_,?_⟩
    · exact ((Below.fr H5.o.2).mono fun _ _ h=>h.elim).trans ((Aw _ _ _).mono fun k _ e=>by simp at e;omega)
    · exact World.cell?_setCell_same' _ _ _ (by have hcc:=cr 0 H5.o.1;exact Option.isSome_iff_exists.2 ⟨_,hcc⟩)
    · exact hb5.setCell (p:=⟨w.heap.size+1+1,0,none⟩) (by simp;omega) _
 case hdone =>
  rintro W ⟨hp,_,_,hg1,hb⟩ hK;have HN:=Ad (show r=true by rw [← HR.o,List.all_eq_true];exact hp);have HH:=Ad (An hg1 (An hb hK));have q0:W.cell? ⟨w.heap.size+1+1,0,none⟩=some (.bool false):=cr 0 hg1;have qz:=frozen_of_row _ _ 0 _ _ hg1;clear hg1 hb hK hp;go_wp2;have hff:=Aw W ⟨w.heap.size+1+1,0,none⟩ (.bool true);refine Eq rfl (EJ hff HH.o.2.2 (by simp;omega)) (Q7 rfl rfl rfl (World.cell?_setCell_same' _ _ _ (by have hcc:=cr 0 HH.o.1;exact Option.isSome_iff_exists.2 ⟨_,hcc⟩)) Om) ?_;exact ⟨by rw [HN.o],(HH.o.2.1.trans (hff.below HH.o.2.1.size fun k hk e=>by simp at e;omega)).trans ((CS _ _ _).below (by have:=hff.size;have:=HH.o.2.1.size;omega) fun k hk e=>by omega)⟩
 case hstop =>
  rintro c pre W hpre ⟨q,x,rfl,rfl,hx,hc1,hb⟩ hK;refine wp_ret ?_;have HN:=Ad (show r=false by
   rw [← HR.o,List.all_eq_false];exact ⟨x,J5 hpre,by rw [hx];decide⟩)
  refine Eq rfl hK (Q7 rfl rfl rfl hc1 Om) ?_;exact ⟨by rw [HN.o],hb.trans ((CS W _ _).below hb.size fun k hk e=>by omega)⟩
end Go.Proofs.YtkbbmjcfgcfejaaGreat
