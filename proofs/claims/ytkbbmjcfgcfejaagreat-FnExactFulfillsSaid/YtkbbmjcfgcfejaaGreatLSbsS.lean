/- Walk: symbolic execution of a command without blocks (reference: SymBasic). -/
import Derived.Test.YtkbbmjcfgcfejaaGreatLOpnT
import Derived.Test.YtkbbmjcfgcfejaaGreatLAftS
set_option linter.unusedVariables false
set_option linter.unusedSimpArgs false
set_option maxRecDepth 100000
set_option maxHeartbeats 12800000
namespace Go.Proofs.YtkbbmjcfgcfejaaGreat
open Go.RowKit
theorem JQ {k ca cb:Int} {m:Nat} {a:Aj} (ha:Ah a=true) (hk:k=1∨k=4):BV k ca cb m a=((Fa k ca cb (D6 m ca cb) a).bind Es).map fun b=>[b]:=by
 rcases hk with rfl | rfl
 · rw [BV,if_pos rfl,Fa]
   by_cases h:ca=cb
   · rw [if_pos h,if_pos ⟨rfl,h⟩,Option.bind_some,Es,if_pos ha];rfl
   · rw [if_neg h,if_neg (fun e=>h e.2),CC]
     cases AU a ca (D6 m ca cb) with
     | none=>rfl
     | some r=>rfl
 · rw [BV,if_neg Dc,if_pos rfl,Fa,if_neg (fun e=>absurd e.1 Dc),M7]
   cases AU a ca (D6 m ca cb) with
   | none=>rfl
   | some r=>rfl
theorem Mx {k ca cb:Int} {m:Nat} {e:Aj} (he:Ah e=true∧0 < e.2.length) (hk:k=2∨k=3∨k=5) (hc:k=3→Al cb=true):DN k ca cb m e=(FX k ca cb m e).bind Es:=by
 rcases hk with rfl | rfl | rfl
 · rw [DN,if_pos rfl,FX,if_neg Dc,if_neg Dc,CC]
   cases AU e ca m with
   | none=>rfl
   | some r=>rfl
 · have h:DN 3 ca cb m e=some (e.1,((gd e.2 0).1,(gd e.2 0).2.1,cb) :: e.2.drop 1):=by rw [DN,if_neg Dc,if_pos rfl]
   have h2:=K8 he hc h;rw [h,FX,if_pos rfl,Option.bind_some,Es,if_pos h2]
 · have h:DN 5 ca cb m e=some (e.1,e.2.drop 1):=by rw [DN,if_neg Dc,if_neg (by decide)]
   have h2:=K8 he hc h;rw [h,FX,if_neg Dc,if_pos rfl,Option.bind_some,Es,if_pos h2]
theorem Uc (keep:List Int) (ca cb:Int):Ay (keep ++ [ca,cb])=D6 (Ay keep) ca cb:=by
 rw [Ay,List.foldl_append];rfl
theorem Kd {w:World} {n:Nat} {a b:Int} (h0:w.cell? ⟨n,0,none⟩=some (.int .i64 a)) (h1:w.cell? ⟨n,1,none⟩=some (.int .i64 b)):RL w (fun k=>k=n) (.slice (some ⟨n,0,none⟩) 2 2) [a,b]:=by
 refine .inr ⟨n,0,2,rfl,Nat.le_refl _,by unfold maxLen;omega,fun _=>⟨rfl,World.block_lt_of_cell? w _ h0⟩,fun i hi=>?_⟩;match i,hi with
 | 0,_=>exact ⟨[.int .i64 a],rfl,fun j u hj=>by
    match j,hj with
    | 0,hj=>simp at hj;subst hj;exact h0⟩
 | 1,_=>exact ⟨[.int .i64 b],rfl,fun j u hj=>by
    match j,hj with
    | 0,hj=>simp at hj;subst hj;exact h1⟩
theorem Ud {W w5:World} {a b:Int} {T:TypeId} (hb:Below (W.alloc (.cells #[.int .i64 a,.int .i64 b] T)).heap.size (W.alloc (.cells #[.int .i64 a,.int .i64 b] T)) w5):RL w5 (fun k=>k=W.heap.size) (.slice (some ⟨W.heap.size,0,none⟩) 2 2) [a,b] :=
 Kd (Bd (Ac (heap_alloc_new W _) hb)) (AY (Ac (heap_alloc_new W _) hb))
theorem Wi {W w5:World} {a b:Int} {T:TypeId} {o:Obj} (hb:Below ((W.alloc (.cells #[.int .i64 a,.int .i64 b] T)).alloc o).heap.size ((W.alloc (.cells #[.int .i64 a,.int .i64 b] T)).alloc o) w5):RL w5 (fun k=>k=W.heap.size) (.slice (some ⟨W.heap.size,0,none⟩) 2 2) [a,b] :=
 Kd (Bd (Ac (Ac (heap_alloc_new W _) (Aa _ _)) hb)) (AY (Ac (Ac (heap_alloc_new W _) (Aa _ _)) hb))
theorem Vh {W w5:World} {a b:Int} {T:TypeId} (hb:Below (W.alloc (.cells #[.int .i64 a,.int .i64 b] T)).drew.heap.size (W.alloc (.cells #[.int .i64 a,.int .i64 b] T)).drew w5):RL w5 (fun k=>k=W.heap.size) (.slice (some ⟨W.heap.size,0,none⟩) 2 2) [a,b] :=
 Kd (Bd (Ac (Ac (heap_alloc_new W _) (Ai _)) hb)) (AY (Ac (Ac (heap_alloc_new W _) (Ai _)) hb))
theorem Vi {W w5:World} {a b:Int} {T:TypeId} {o:Obj} (hb:Below ((W.alloc (.cells #[.int .i64 a,.int .i64 b] T)).alloc o).drew.heap.size ((W.alloc (.cells #[.int .i64 a,.int .i64 b] T)).alloc o).drew w5):RL w5 (fun k=>k=W.heap.size) (.slice (some ⟨W.heap.size,0,none⟩) 2 2) [a,b] :=
 Kd (Bd (Ac (Ac (Ac (heap_alloc_new W _) (Aa _ _)) (Ai _)) hb)) (AY (Ac (Ac (Ac (heap_alloc_new W _) (Aa _ _)) (Ai _)) hb))
theorem Ro {w6:World} {B L t:Nat} {x1 x2:Value} {C:Aj} (h1:RL w6 (fun k=>L≤k) x1 C.1) (h2:RL w6 (fun k=>L≤k) x2 C.2) (ht:t < L) (hB:B≤L):RL ((w6.setCell ⟨t,0,none⟩ x1).setCell ⟨t,1,none⟩ x2) (fun k=>B≤k) x1 C.1∧RL ((w6.setCell ⟨t,0,none⟩ x1).setCell ⟨t,1,none⟩ x2) (fun k=>B≤k) x2 C.2:=by
 have far:∀ {w:World} k,k < w.heap.size→(fun k=>L≤k) k→¬ (fun j=>j=t) k:=fun k _ h e=>by have h2:L≤k:=h;have e2:k=t:=e;omega
 exact ⟨((h1.kept (Aw w6 ⟨t,0,none⟩ x1) far).kept (Aw _ ⟨t,1,none⟩ x2) far).more fun k _ h=>Nat.le_trans hB h,((h2.kept (Aw w6 ⟨t,0,none⟩ x1) far).kept (Aw _ ⟨t,1,none⟩ x2) far).more fun k _ h=>Nat.le_trans hB h⟩
theorem Rp {wr w6:World} {L t:Nat} {x1 x2 y1 y2:Value} {C:Aj} {P:Option Aj} (hT:w6.heap[t]?=some (.cells #[y1,y2] 26 (0,0))) (h1:RL w6 (fun k=>L≤k) x1 C.1) (h2:RL w6 (fun k=>L≤k) x2 C.2) (ht:t < L) (h0:wr.heap.size≤t) (hb:Below wr.heap.size wr w6) (hC:∀ b,P=some b→C=b) :
 ∃ (t':Nat) (x1' x2':Value) (C':Aj),Value.pointer (some ⟨t,0,none⟩)=.pointer (some ⟨t',0,none⟩)∧Value.bool P.isSome=.bool P.isSome∧(∀ b,P=some b→C'=b)∧((w6.setCell ⟨t,0,none⟩ x1).setCell ⟨t,1,none⟩ x2).heap[t']?=some (.cells #[x1',x2'] 26 (0,0))∧(RL ((w6.setCell ⟨t,0,none⟩ x1).setCell ⟨t,1,none⟩ x2) (fun k=>wr.heap.size≤k) x1' C'.1∧RL ((w6.setCell ⟨t,0,none⟩ x1).setCell ⟨t,1,none⟩ x2) (fun k=>wr.heap.size≤k) x2' C'.2)∧Below wr.heap.size wr ((w6.setCell ⟨t,0,none⟩ x1).setCell ⟨t,1,none⟩ x2) :=
 ⟨t,x1,x2,C,rfl,rfl,hC,BX (BL hT _) _,Ro h1 h2 ht Om,(hb.setCell (p:=⟨t,0,none⟩) h0 _).setCell (p:=⟨t,1,none⟩) h0 _⟩
def WR (O:Option (List Aj)) (w:World) (e:Ending) (w':World):Prop:=∃ v,e=.returned (.tuple #[v,.bool O.isSome])∧GX w' w.heap.size (fun k=>w.heap.size≤k) v (O.getD [])∧Below w.heap.size w w'
theorem Sn {k a b:Int} (h:ID k a b=true):(k=1∨k=2∨k=3∨k=4∨k=5)∧(0≤a∧a≤8)∧((k=2∨k=3)→Al b=true):=by
 simp only [ID,Bool.and_eq_true,Bool.or_eq_true,decide_eq_true_eq,IY,At] at h;refine ⟨by omega,by omega,fun hk=>At.2 Om⟩
theorem LE {d:Nat} {S1 S2 S3 S4 S5 S6:Nat→Prop} (v1 v2 f1 f2 x y kv:Value) (a:Aj) (c:Cm (d+1)) (keep:List Int) (w:World) (h1:RL w S1 v1 a.1) (h2:RL w S2 v2 a.2) (hf1:RL w S3 f1 c.inv.1) (hf2:RL w S4 f2 c.inv.2) (hx:RL w S5 x c.body) (hy:RL w S6 y c.els) (hk:RInts w kv keep) (hkn:keep.length≤1048576) (ha:Ah a=true) (hb:Bs c=true) :
 Calls Tryz.prog 282 #[.agg #[v1,v2],.agg #[.int .i64 c.kind,.int .i64 c.a,.int .i64 c.b,.bool c.test.1,.int .i64 c.test.2.1,.int .i64 c.test.2.2,f1,f2,x,y],kv] w (WR (BV c.kind c.a c.b (Ay keep) a) w):=by
 have hfl:=Sn (ER hb);obtain ⟨X,hX⟩:=Int.eq_ofNat_of_zero_le hfl.2.1.1;obtain ⟨p1,c1,rfl⟩:=h1.form;obtain ⟨p2,c2,rfl⟩:=h2.form;obtain ⟨a3,c3,rfl⟩:=hf1.form;obtain ⟨a4,c4,rfl⟩:=hf2.form;obtain ⟨a5,c5,rfl⟩:=hx.form;obtain ⟨a6,c6,rfl⟩:=hy.form;obtain ⟨ka,kc,rfl,_⟩:=hk.cells;obtain ⟨O,hO⟩:=Ex (BV c.kind c.a c.b (Ay keep) a);rw [hO];obtain ⟨M,hM⟩:=Ex (D6 (Ay keep) c.a c.b);obtain ⟨w0,hw0⟩:=Ey (((w.alloc (.cells #[.slice p1 a.1.length c1,.slice p2 a.2.length c2] 26)).alloc (.cells #[.int .i64 c.kind,.int .i64 c.a,.int .i64 c.b,.bool c.test.1,.int .i64 c.test.2.1,.int .i64 c.test.2.2,.slice a3 c.inv.1.length c3,.slice a4 c.inv.2.length c4,.slice a5 c.body.length c5,.slice a6 c.els.length c6] 63)).alloc (.cells #[] 26));have hb0:Below w.heap.size w w0:=by rw [hw0];exact ba (ba (Aa _ _) _) _
 have hA:w0.heap[w.heap.size]?=some (.cells #[.slice p1 a.1.length c1,.slice p2 a.2.length c2] 26 (0,0)):=by rw [hw0];exact Ac (Ac (heap_alloc_new w _) (Aa _ _)) (Aa _ _)
 have hC:w0.heap[w.heap.size+1]?=some (.cells #[.int .i64 c.kind,.int .i64 c.a,.int .i64 c.b,.bool c.test.1,.int .i64 c.test.2.1,.int .i64 c.test.2.2,.slice a3 c.inv.1.length c3,.slice a4 c.inv.2.length c4,.slice a5 c.body.length c5,.slice a6 c.els.length c6] 63 (0,0)):=by
  rw [hw0];have:=heap_alloc_new (w.alloc (.cells #[.slice p1 a.1.length c1,.slice p2 a.2.length c2] 26)) (.cells #[.int .i64 c.kind,.int .i64 c.a,.int .i64 c.b,.bool c.test.1,.int .i64 c.test.2.1,.int .i64 c.test.2.2,.slice a3 c.inv.1.length c3,.slice a4 c.inv.2.length c4,.slice a5 c.body.length c5,.slice a6 c.els.length c6] 63);rw [World.size_alloc] at this;exact Ac this (Aa _ _)
 have hz0:w0.heap.size=w.heap.size+3:=by rw [hw0];simp
 have H0:=Ad (An (An (h1.keep hb0).any (h2.keep hb0).any) (An (An hA hC) (An (hk.keep hb0) hb0)));have HC0:=Ad (An (An (hf1.keep hb0) (hf2.keep hb0)) (An (hx.keep hb0) (hy.keep hb0)));have HW:=Ad hw0;have HP:=Ad (An (An ha hb) (An hfl (An hX (An hO hM))));have HKL:=Ad hkn;obtain ⟨b0,b1,bl⟩:=B3 hA;obtain ⟨k0,k1,k2,k3,k4,k5,k6,k7,k8,k9⟩:=Dk hC;have kl:=Ae hC;clear h1 h2 hf1 hf2 hx hy hk ha hb hfl hX hO hM hA hC hb0 hw0 hkn;go_enter Tryz.func282,Tryz.ntmps282
 go_upto_region 2 with fail
 rw [← HW.o];go_wp2_with fail
 refine (Ar _ _ a _ H0.o.1.1 H0.o.1.2).mono ?_;rw [HP.o.1.1];rintro e w2 ⟨rfl,hb2⟩;have H2:=Ad (An (An (H0.o.1.1.keep hb2) (H0.o.1.2.keep hb2)) (An (An (Ac H0.o.2.1.1 hb2) (Ac H0.o.2.1.2 hb2)) (An (H0.o.2.2.1.keep hb2) (bt H0.o.2.2.2 hb2))));have HC2:=Ad (An (An (HC0.o.1.1.keep hb2) (HC0.o.1.2.keep hb2)) (An (HC0.o.2.1.keep hb2) (HC0.o.2.2.keep hb2)));clear b0 b1 bl k0 k1 k2 k3 k4 k5 k6 k7 k8 k9 kl;obtain ⟨k0,k1,k2,k3,k4,k5,k6,k7,k8,k9⟩:=Dk H2.o.2.1.2;have kl:=Ae H2.o.2.1.2;have hz2:=hb2.size;clear hb2;go_wp2_with fail
 refine (Jt c _ _ _ _ _ HC2.o.1.1 HC2.o.1.2 HC2.o.2.1 HC2.o.2.2).mono ?_;rw [HP.o.1.2];rintro e w3 ⟨rfl,hb3⟩;have H3:=Ad (An (An (H2.o.1.1.keep hb3) (H2.o.1.2.keep hb3)) (An (An (Ac H2.o.2.1.1 hb3) (Ac H2.o.2.1.2 hb3)) (An (H2.o.2.2.1.keep hb3) (bt H2.o.2.2.2 hb3))));have hz3:=hb3.size;clear hb3 k0 k1 k2 k3 k4 k5 k6 k7 k8 k9 kl;obtain ⟨k0,k1,k2,k3,k4,k5,k6,k7,k8,k9⟩:=Dk H3.o.2.1.2;have kl:=Ae H3.o.2.1.2;have HRK:=Ad H3.o.2.2.1.rl;go_upto_region 4 with fail
 go_cut [9] (fun s9 wc=>wc.ownsRow w3.heap.size 4 1 s9 9 (Av M)∧Below w3.heap.size w3 wc)
 case first =>
  go_region_held3 (fun w'=>w'.cell? ⟨w.heap.size+1,1,none⟩=some (.int .i64 c.a)∧w'.cell? ⟨w.heap.size+1,2,none⟩=some (.int .i64 c.b))
   (exact ⟨(Ck k1),(Ck k2)⟩)
   (first
     | (refine CA (l:=([]:List Int)) (m:=keep) (.tmp 28) (.tmp 29) _ (by rfl) Ph (by rfl) (FE.nil _ _ _) (by rfl) (HRK.o.keep Bl) (by have:=HKL.o;simp;omega) (Nat.le_refl _) ?_;intro v5 w5 o5' hf5';rw [List.nil_append] at o5';have o5:=o5'.mono (B':=w3.heap.size) (Below.size (w:=w3) (B:=w3.heap.size) Bl);obtain ⟨d1,m1,e1,rfl⟩:=o5.forms;have hb5:Below w3.heap.size w3 w5:=Below.trans Bl ((AG hf5' (Nat.le_refl _)).mono (Below.size (w:=w3) (B:=w3.heap.size) Bl));have hz5:=hb5.size;(first | (have hl:=Ud (AG hf5' (Nat.le_refl _))) | (have hl:=Wi (AG hf5' (Nat.le_refl _))) | (have hl:=Vh (AG hf5' (Nat.le_refl _))) | (have hl:=Vi (AG hf5' (Nat.le_refl _))) | skip);(try simp only [World.size_alloc,World.size_drew] at hl);clear hf5' o5')
     | (refine CA (l:=keep) (m:=[c.a,c.b]) (B:=w3.heap.size) (.tmp 30) (.tmp 35) _ (by rfl) Ph (by rfl) (o5.keep Bl) (by rfl) (by first | exact hl | exact Ud (Below.refl _ _)) (by have:=HKL.o;simp;omega) (Below.size (w:=w3) (B:=w3.heap.size) Bl) ?_;intro v6 w6 o6 hf6';obtain ⟨d2,m2,e2,rfl⟩:=o6.forms;have hb6:Below w3.heap.size w3 w6:=Below.trans Bl (AG hf6' (Below.size (w:=w3) (B:=w3.heap.size) Bl));have hz6:=hb6.size;clear hf6')
     | (go_at_call 74;go_must (refine (E1 _ (keep ++ [c.a,c.b]) _ o6.rl.ints).mono ?_;rw [Uc,HP.o.2.2.2.2];rintro e w7 ⟨u,rfl,ho,hb7'⟩;have hb7:Below w3.heap.size w3 w7:=bt hb6 hb7';obtain ⟨d3,e3,rfl,_⟩:=A8 ho;have ho2:=BK ho hz6;clear hb7'))
     | fail)
  all_goals
   have HQ:=Ad (An ho2 hb7);clear o5 o6 ho ho2 hb5 hb6 hb7;go_wp2;go_meet
   case rel=>exact ⟨HQ.o.1,HQ.o.2⟩
 case rest =>
  rename World=>wB
  obtain ⟨hbs,hbd⟩:=hcut;obtain ⟨bva,bvc,rfl,_⟩:=A8 hbs;have H4:=Ad (An (An (H3.o.1.1.keep hbd) (H3.o.1.2.keep hbd)) (An (An (Ac H3.o.2.1.1 hbd) (Ac H3.o.2.1.2 hbd)) (An hbs (bt H3.o.2.2.2 hbd))));have hx8:X≤8:=by have h:=HP.o.2.1.2.1.2;rw [HP.o.2.2.1] at h;omega
  have HX8:=Ad hx8;clear k0 k1 k2 k3 k4 k5 k6 k7 k8 k9 kl hbs hbd hx8;obtain ⟨k0,k1,k2,k3,k4,k5,k6,k7,k8,k9⟩:=Dk H4.o.2.1.2;have kl:=Ae H4.o.2.1.2;obtain ⟨b0,b1,bl⟩:=B3 H4.o.2.1.1;by_cases h1:c.kind=1
  · have y1:(c.kind == 1)=true:=beq_iff_eq.2 h1
    have HK14:=Ad (show c.kind=1∨c.kind=4 from .inl h1);clear h1;obtain ⟨P,hP⟩:=Ex (Fa c.kind c.a c.b M a);(have hOP:O=(P.bind Es).map fun b=>[b]:=by rw [← HP.o.2.2.2.1,JQ HP.o.1.1 HK14.o,HP.o.2.2.2.2,hP]);have hcall:=IT (S1:=fun _=>True) (S2:=fun _=>True) (.slice p1 a.1.length c1) (.slice p2 a.2.length c2) (.slice bva 9 bvc) c.kind c.b c.test.2.1 c.test.2.2 X c.test.1 a3 a4 a5 a6 c.inv.1.length c.inv.2.length c.body.length c.els.length c3 c4 c5 c6 a M w3.heap.size wB H4.o.1.1 H4.o.1.2 H4.o.2.2.1 HP.o.1.1 HX8.o;rw [← HP.o.2.2.1,hP] at hcall;have HCALL:=Ad hcall;have HOP:=Ad hOP;clear hcall hOP hP;(go_wp2_with fail);refine HCALL.o.mono ?_;rintro e w5 ⟨x1,x2,C,rfl,hC,⟨q1,q2⟩,hb5⟩;obtain ⟨d1,m1,e1,rfl⟩:=q1.forms;obtain ⟨d2,m2,e2,rfl⟩:=q2.forms;obtain ⟨wx,hwx⟩:=Ey (w5.alloc (.cells #[.slice d1 m1 e1,.slice d2 m2 e2] 26));(have hbx:Below w5.heap.size w5 wx:=by rw [hwx];exact Aa _ _);(have hT:wx.heap[w5.heap.size]?=some (.cells #[.slice d1 m1 e1,.slice d2 m2 e2] 26 (0,0)):=by rw [hwx];exact heap_alloc_new _ _);have hz4:=H4.o.2.2.2.size;have H5:=Ad (An (An ((q1.keep hbx).more (S':=fun k=>w.heap.size≤k) fun k _ h=>Nat.le_trans hz4 h) ((q2.keep hbx).more (S':=fun k=>w.heap.size≤k) fun k _ h=>Nat.le_trans hz4 h)) (An hT (bt (bt H4.o.2.2.2 hb5) hbx)));have HCC:=Ad hC;have HWX:=Ad hwx;clear q1 q2 hb5 hbx hwx hT hC k0 k1 k2 k3 k4 k5 k6 k7 k8 k9 kl b0 b1 bl;obtain ⟨t0,t1,tl⟩:=B3 H5.o.2.1;(go_upto_region 7 with fail);rw [← HWX.o];cases P with
    | none =>
      have HE:=Ad (show O=none by rw [HOP.o];rfl);go_wp2;go_ret2;rw [HE.o];exact ⟨_,rfl,GX.nil _ _ _ _,H5.o.2.2⟩
    | some b =>
      have hCb:=HCC.o b rfl;subst hCb;have HE:=Ad (show O=(Es C).map fun b=>[b] by rw [HOP.o];rfl);(go_wp2_with fail);refine (Ar _ _ C _ H5.o.1.1 H5.o.1.2).mono ?_;rintro e w6 ⟨rfl,hb6⟩;have H6:=Ad (An (An (H5.o.1.1.keep hb6) (H5.o.1.2.keep hb6)) (An (Ac H5.o.2.1 hb6) (bt H5.o.2.2 hb6)));have hz6:=(bt H5.o.2.2 hb6).size;clear hb6 t0 t1 tl;obtain ⟨t0,t1,tl⟩:=B3 H6.o.2.1;cases hv:Ah C with
      | false =>
        have HF:=Ad (show O=none by rw [HE.o,Es,hv,if_neg (by decide)];rfl);clear hv;go_wp2;go_ret2;rw [HF.o];exact ⟨_,rfl,GX.nil _ _ _ _,H6.o.2.2⟩
      | true =>
        have HF:=Ad (show O=some [C] by rw [HE.o,Es,hv,if_pos rfl];rfl);have HLT:=Ad (Cr (w:=w6) (S:=fun k=>w.heap.size≤k) (a:=C) H6.o.1.1 H6.o.1.2 hz6);clear hv;go_wp2_with (at_builtin;go_must (refine D8 (l:=([]:List Aj)) (m:=[C]) rfl (.tmp 61) (.tmp 63) _ rfl (B:=w.heap.size) (R:=fun k=>w.heap.size≤k) Cy rfl (GX.nil _ _ _ _) rfl HLT.o (fun k _ h=>⟨h,fun hne=>absurd ⟨_,rfl⟩ hne⟩) Sp (by simp;omega) ?_;intro v8 w8 g8 f8;obtain ⟨a8,n8,c8,rfl⟩:=g8.forms))
        have hb8:=(GX.nil (α:=Aj) (w6.alloc (.cells #[.slice d1 m1 e1,.slice d2 m2 e2] 26)) w.heap.size (fun k=>w.heap.size≤k) (some ⟨w.heap.size+2,0,none⟩)).below (ba H6.o.2.2 _) (Nat.le_refl _) (by simp;omega) f8;have H8:=Ad (An g8 hb8);clear g8 hb8 f8;go_wp2;go_ret2;rw [HF.o];exact ⟨_,rfl,H8.o.1,H8.o.2⟩
  · have y1:(c.kind == 1)=false:=beq_eq_false_iff_ne.2 h1
    by_cases h4:c.kind=4
    · have y4:(c.kind == 4)=true:=beq_iff_eq.2 h4
      have HK14:=Ad (show c.kind=1∨c.kind=4 from .inr h4);clear h1 h4;obtain ⟨P,hP⟩:=Ex (Fa c.kind c.a c.b M a);(have hOP:O=(P.bind Es).map fun b=>[b]:=by rw [← HP.o.2.2.2.1,JQ HP.o.1.1 HK14.o,HP.o.2.2.2.2,hP]);have hcall:=IT (S1:=fun _=>True) (S2:=fun _=>True) (.slice p1 a.1.length c1) (.slice p2 a.2.length c2) (.slice bva 9 bvc) c.kind c.b c.test.2.1 c.test.2.2 X c.test.1 a3 a4 a5 a6 c.inv.1.length c.inv.2.length c.body.length c.els.length c3 c4 c5 c6 a M w3.heap.size wB H4.o.1.1 H4.o.1.2 H4.o.2.2.1 HP.o.1.1 HX8.o;rw [← HP.o.2.2.1,hP] at hcall;have HCALL:=Ad hcall;have HOP:=Ad hOP;clear hcall hOP hP;(go_wp2_with fail);refine HCALL.o.mono ?_;rintro e w5 ⟨x1,x2,C,rfl,hC,⟨q1,q2⟩,hb5⟩;obtain ⟨d1,m1,e1,rfl⟩:=q1.forms;obtain ⟨d2,m2,e2,rfl⟩:=q2.forms;obtain ⟨wx,hwx⟩:=Ey (w5.alloc (.cells #[.slice d1 m1 e1,.slice d2 m2 e2] 26));(have hbx:Below w5.heap.size w5 wx:=by rw [hwx];exact Aa _ _);(have hT:wx.heap[w5.heap.size]?=some (.cells #[.slice d1 m1 e1,.slice d2 m2 e2] 26 (0,0)):=by rw [hwx];exact heap_alloc_new _ _);have hz4:=H4.o.2.2.2.size;have H5:=Ad (An (An ((q1.keep hbx).more (S':=fun k=>w.heap.size≤k) fun k _ h=>Nat.le_trans hz4 h) ((q2.keep hbx).more (S':=fun k=>w.heap.size≤k) fun k _ h=>Nat.le_trans hz4 h)) (An hT (bt (bt H4.o.2.2.2 hb5) hbx)));have HCC:=Ad hC;have HWX:=Ad hwx;clear q1 q2 hb5 hbx hwx hT hC k0 k1 k2 k3 k4 k5 k6 k7 k8 k9 kl b0 b1 bl;obtain ⟨t0,t1,tl⟩:=B3 H5.o.2.1;(go_upto_region 7 with fail);rw [← HWX.o];cases P with
      | none =>
        have HE:=Ad (show O=none by rw [HOP.o];rfl);go_wp2;go_ret2;rw [HE.o];exact ⟨_,rfl,GX.nil _ _ _ _,H5.o.2.2⟩
      | some b =>
        have hCb:=HCC.o b rfl;subst hCb;have HE:=Ad (show O=(Es C).map fun b=>[b] by rw [HOP.o];rfl);(go_wp2_with fail);refine (Ar _ _ C _ H5.o.1.1 H5.o.1.2).mono ?_;rintro e w6 ⟨rfl,hb6⟩;have H6:=Ad (An (An (H5.o.1.1.keep hb6) (H5.o.1.2.keep hb6)) (An (Ac H5.o.2.1 hb6) (bt H5.o.2.2 hb6)));have hz6:=(bt H5.o.2.2 hb6).size;clear hb6 t0 t1 tl;obtain ⟨t0,t1,tl⟩:=B3 H6.o.2.1;cases hv:Ah C with
        | false =>
          have HF:=Ad (show O=none by rw [HE.o,Es,hv,if_neg (by decide)];rfl);clear hv;go_wp2;go_ret2;rw [HF.o];exact ⟨_,rfl,GX.nil _ _ _ _,H6.o.2.2⟩
        | true =>
          have HF:=Ad (show O=some [C] by rw [HE.o,Es,hv,if_pos rfl];rfl);have HLT:=Ad (Cr (w:=w6) (S:=fun k=>w.heap.size≤k) (a:=C) H6.o.1.1 H6.o.1.2 hz6);clear hv;go_wp2_with (at_builtin;go_must (refine D8 (l:=([]:List Aj)) (m:=[C]) rfl (.tmp 61) (.tmp 63) _ rfl (B:=w.heap.size) (R:=fun k=>w.heap.size≤k) Cy rfl (GX.nil _ _ _ _) rfl HLT.o (fun k _ h=>⟨h,fun hne=>absurd ⟨_,rfl⟩ hne⟩) Sp (by simp;omega) ?_;intro v8 w8 g8 f8;obtain ⟨a8,n8,c8,rfl⟩:=g8.forms))
          have hb8:=(GX.nil (α:=Aj) (w6.alloc (.cells #[.slice d1 m1 e1,.slice d2 m2 e2] 26)) w.heap.size (fun k=>w.heap.size≤k) (some ⟨w.heap.size+2,0,none⟩)).below (ba H6.o.2.2 _) (Nat.le_refl _) (by simp;omega) f8;have H8:=Ad (An g8 hb8);clear g8 hb8 f8;go_wp2;go_ret2;rw [HF.o];exact ⟨_,rfl,H8.o.1,H8.o.2⟩
    · have y4:(c.kind == 4)=false:=beq_eq_false_iff_ne.2 h4
      by_cases h2:c.kind=2
      · have y2:(c.kind == 2)=true:=beq_iff_eq.2 h2
        obtain ⟨TT,hTT⟩:∃ T,(if c.kind=2 then c.b else c.a)=T:=⟨_,rfl⟩;have hkk:c.kind=2∨c.kind=3∨c.kind=5:=.inl h2;(have hcb:c.b=TT:=by rw [← hTT,if_pos h2]);rw [hcb] at k2;clear h1 h2 h4 hcb;have HKK:=Ad hkk;(have hOO2:O=(AS M TT 7 a).bind (CT (DN c.kind c.a c.b M)):=by rw [← HP.o.2.2.2.1,BV,if_neg Om,if_neg Om,HP.o.2.2.2.2,hTT]);obtain ⟨OO,hOO⟩:=Ex (AS M TT 7 a);rw [hOO] at hOO2;have hgood:∀ L,OO=some L→∀ b ∈ L,Ah b=true∧0 < b.2.length:=fun L h=>IG (hOO.trans h);have hcall:=OY (m:=M) (t:=TT) 7 Dc _ _ _ _ _ a _ _ H4.o.1.1 H4.o.1.2 H4.o.2.2.1 (Co HP.o.1.1);rw [hOO,show ((7:Nat):Int)=7 from rfl] at hcall;have HCALL:=Ad hcall;have HOO:=Ad (An hOO2 hgood);clear hcall hOO hOO2 hgood hkk hTT;(go_upto_region 13 with fail);(go_wp2_with fail);refine HCALL.o.mono ?_;rintro e w5 ⟨v,L,rfl,hL,hn,gL,hb5⟩;obtain ⟨va,vc,rfl⟩:=gL.form;have hz4:=H4.o.2.2.2.size;have H5:=Ad (An (An gL.rl.any hL) (An (An (Ac H4.o.2.1.1 hb5) (Ac H4.o.2.1.2 hb5)) (An (Ag H4.o.2.2.1 hb5) (bt H4.o.2.2.2 hb5))));have hn7:L.length≤128:=hn;have HN:=Ad hn7;clear gL hL hn hn7 hb5 k0 k1 k2 k3 k4 k5 k6 k7 k8 k9 kl b0 b1 bl;(go_upto_region 15 with fail);go_loopg [15,14,8] L.length (fun q i ok out wr=>∃ (j:Nat) (R:List Aj) (b:Bool),j+q=L.length∧i=.int .i64 j∧ok=.bool b∧((b=true→OO=some L∧CT (DN c.kind c.a c.b M) (L.take j)=some R)∧(b=false→O=none))∧R.length=j∧GX wr w5.heap.size (fun k=>w5.heap.size≤k) out R∧Below w5.heap.size w5 wr)
        case atStart =>
         refine ⟨0,[],OO.isSome,by omega,rfl,rfl,⟨fun h=>?_,fun h=>?_⟩,rfl,GX.nil _ _ _ _,Below.refl _ _⟩
         · cases OO with
           | none=>cases h
           | some l=>exact ⟨by rw [H5.o.1.2 l rfl],rfl⟩
         · cases OO with
           | none=>rw [HOO.o.1];rfl
           | some l=>cases h
        case round =>
         obtain ⟨j,R,b,hj,rfl,rfl,⟨hT,hF⟩,hRl,hG,hW⟩:=hrel;obtain ⟨ra,rc,rfl⟩:=hG.form;have HK:=Ad (An (An hj (An hT hF)) (An hRl hW));have HG:=Ad hG;have hzs:=hW.size;clear hj hT hF hRl hG;cases b with
         | false =>
           have HE:=Ad (show O=none from HK.o.1.2.2 rfl);clear hW;by_cases hj8:j < L.length
           · have i1:(j:Int) < (L.length:Int):=by omega
             go_wp2;go_ret2;rw [HE.o];exact ⟨_,rfl,GX.nil _ _ _ _,ba (bt H5.o.2.2.2 HK.o.2.2) _⟩
           · have i1:¬ (j:Int) < (L.length:Int):=by omega
             go_wp2;go_ret2;rw [HE.o];exact ⟨_,rfl,GX.nil _ _ _ _,ba (bt H5.o.2.2.2 HK.o.2.2) _⟩
         | true =>
           have HT2:=Ad (HK.o.1.2.1 rfl);by_cases hj8:j < L.length
           · have i1:(j:Int) < (L.length:Int):=by omega
             obtain ⟨qa,qc,hqe,_,_,hqf⟩:=(H5.o.1.1.keep hW).asnAt;simp only [Value.slice.injEq,true_and] at hqe;obtain ⟨rfl,rfl⟩:=hqe;obtain ⟨bb,oo,u1,u2,rfl,_,hzb,hp1,hp2,r1,r2⟩:=hqf j hj8;obtain ⟨y1,z1,rfl⟩:=r1.form;obtain ⟨y2,z2,rfl⟩:=r2.form;have hgd:=HOO.o.2 L HT2.o.1 _ (Be hj8);obtain ⟨P,hP⟩:=Ex (FX c.kind c.a c.b M (gd L j));(have hacc:DN c.kind c.a c.b M (gd L j)=P.bind Es:=by rw [← hP];exact Mx hgd HKK.o (fun h=>HP.o.2.1.2.2 (.inr h)));have hcall:∀ w':World,RL w' (fun _=>True) (.slice y1 (gd L j).1.length z1) (gd L j).1→RL w' (fun _=>True) (.slice y2 (gd L j).2.length z2) (gd L j).2→w'.ownsRow w3.heap.size 4 1 (.slice bva 9 bvc) 9 (Av M)→Calls Tryz.prog 300 #[.agg #[.slice y1 (gd L j).1.length z1,.slice y2 (gd L j).2.length z2],.agg #[.int .i64 c.kind,.int .i64 c.a,.int .i64 c.b,.bool c.test.1,.int .i64 c.test.2.1,.int .i64 c.test.2.2,.slice a3 c.inv.1.length c3,.slice a4 c.inv.2.length c4,.slice a5 c.body.length c5,.slice a6 c.els.length c6],.slice bva 9 bvc] w' (Ub P w'):=fun w' r1 r2 ho=>by
              have h:=IU (.slice y1 (gd L j).1.length z1) (.slice y2 (gd L j).2.length z2) (.slice bva 9 bvc) c.kind c.b c.test.2.1 c.test.2.2 X c.test.1 a3 a4 a5 a6 c.inv.1.length c.inv.2.length c.body.length c.els.length c3 c4 c5 c6 (gd L j) M w3.heap.size w' r1 r2 ho hgd.1 HX8.o hgd.2;rw [← HP.o.2.2.1,hP] at h;exact h
             have HC17:=Ad hcall;have HQ:=Ad (An (An hacc hj8) (An r1 r2));have HBS:=Ad (Ag H5.o.2.2.1 hW);have hCb:=Ac H5.o.2.1.2 hW;obtain ⟨k0,k1,k2,k3,k4,k5,k6,k7,k8,k9⟩:=Dk hCb;have kl:=Ae hCb;have HWR:=Ad (bt H5.o.2.2.2 hW);clear hgd hP hacc hcall r1 r2 hqf hCb hW;(go_upto_region 17 with fail);go_cut [16,17] (fun s16 s17 wc=>∃ (t:Nat) (x1 x2:Value) (C:Aj),s16=.pointer (some ⟨t,0,none⟩)∧s17=.bool P.isSome∧(∀ b,P=some b→C=b)∧wc.heap[t]?=some (.cells #[x1,x2] 26 (0,0))∧(RL wc (fun k=>wr.heap.size≤k) x1 C.1∧RL wc (fun k=>wr.heap.size≤k) x2 C.2)∧Below wr.heap.size wr wc)
             case first =>
              go_region_held3 (fun w'=>(w'.cell? ⟨bb,oo+j * 2,none⟩=some (.slice y1 (gd L j).1.length z1)∧w'.cell? ⟨bb,oo+j * 2+1,none⟩=some (.slice y2 (gd L j).2.length z2))∧((w'.cell? ⟨w.heap.size+1,0,none⟩=some (.int .i64 c.kind)∧w'.cell? ⟨w.heap.size+1,1,none⟩=some (.int .i64 c.a)∧w'.cell? ⟨w.heap.size+1,2,none⟩=some (.int .i64 c.b)∧w'.cell? ⟨w.heap.size+1,3,none⟩=some (.bool c.test.1)∧w'.cell? ⟨w.heap.size+1,4,none⟩=some (.int .i64 c.test.2.1))∧(w'.cell? ⟨w.heap.size+1,5,none⟩=some (.int .i64 c.test.2.2)∧w'.cell? ⟨w.heap.size+1,6,none⟩=some (.slice a3 c.inv.1.length c3)∧w'.cell? ⟨w.heap.size+1,7,none⟩=some (.slice a4 c.inv.2.length c4)∧w'.cell? ⟨w.heap.size+1,8,none⟩=some (.slice a5 c.body.length c5)∧w'.cell? ⟨w.heap.size+1,9,none⟩=some (.slice a6 c.els.length c6))))
               (exact ⟨⟨(Ck hp1),(Ck hp2)⟩,⟨(Ck k0),(Ck k1),(Ck k2),(Ck k3),(Ck k4)⟩,⟨(Ck k5),(Ck k6),(Ck k7),(Ck k8),(Ck k9)⟩⟩)
               (first
                 | (go_at_call 300;go_must (refine (HC17.o _ (HQ.o.2.1.keep Bl) (HQ.o.2.2.keep Bl) (Ag HBS.o Bl)).mono ?_;rintro e w6 ⟨x1,x2,C,rfl,hC,⟨q1,q2⟩,hb6'⟩;obtain ⟨d1,m1,e1,rfl⟩:=q1.forms;obtain ⟨d2,m2,e2,rfl⟩:=q2.forms;have hb6:Below wr.heap.size wr w6:=bt Bl hb6';have hz6:=hb6.size;(first | (have hT:=A5 hb6') | (have hT:=A7 hb6') | skip);(try simp only [World.size_alloc,World.size_drew] at hT q1 q2);(try simp only [World.size_drew] at q1 q2);(first | (have V9:=B4 hT;obtain ⟨ht0,ht1,htz,htl⟩:=V9) | skip);clear hb6'))
                 | fail)
              all_goals
               have HQ6:=Ad (An (An q1 q2) (An hb6 hC));clear q1 q2 hb6 hC;go_wp2;go_meet
               case rel =>
                first
                  | exact ⟨_,_,_,C,rfl,rfl,HQ6.o.2.2,heap_alloc_new _ _,⟨(HQ6.o.1.1.keep (Aa _ _)),(HQ6.o.1.2.keep (Aa _ _))⟩,ba HQ6.o.2.1 _⟩
                  | exact Rp hT HQ6.o.1.1 HQ6.o.1.2 Om Om HQ6.o.2.1 HQ6.o.2.2
                  | fail
             case rest =>
              rename World=>wd
              obtain ⟨tB,x1,x2,C,rfl,rfl,hC,hbx,⟨q1,q2⟩,hbd⟩:=hcut;obtain ⟨d1,m1,e1,rfl⟩:=q1.forms;obtain ⟨d2,m2,e2,rfl⟩:=q2.forms;have H7:=Ad (An (An q1 q2) (An hbx (An hbd hC)));clear q1 q2 hbx hbd hC hp1 hp2 k0 k1 k2 k3 k4 k5 k6 k7 k8 k9 kl;obtain ⟨t0,t1,tl⟩:=B3 H7.o.2.1;(go_upto_region 18 with fail);go_cut [14] (fun s14 wc=>s14=.bool (P.isSome && Ah C)∧Below wd.heap.size wd wc)
              case first =>
               cases P with
               | none =>
                 go_wp2;go_meet
                 case rel=>exact ⟨rfl,Below.refl _ _⟩
               | some b =>
                 (go_wp2_with fail);refine (Ar _ _ C _ H7.o.1.1 H7.o.1.2).mono ?_;rintro e w8 ⟨rfl,hb8⟩;have HB8:=Ad hb8;clear hb8;go_wp2;go_meet
                 case rel=>exact ⟨by simp,HB8.o⟩
              case rest =>
               rename World=>we
               obtain ⟨rfl,hbe⟩:=hcut;obtain ⟨nb,hnb⟩:=Ex ((P.isSome && Ah C));rw [hnb];have hyes:nb=true→P.bind Es=some C:=fun h=>by
                rw [h,Bool.and_eq_true] at hnb;cases hP:P with
                | none=>rw [hP] at hnb;cases hnb.1
                | some b =>
                  have:=H7.o.2.2.2 b hP;rw [Option.bind_some,← this,Es,if_pos hnb.2]
               have hno:nb=false→P.bind Es=none:=fun h=>by
                rw [h,Bool.and_eq_false_iff] at hnb;cases hP:P with
                | none=>rfl
                | some b =>
                  have:=H7.o.2.2.2 b hP;rcases hnb with hnb | hnb
                  · rw [hP] at hnb;cases hnb
                  · rw [Option.bind_some,← this,Es,if_neg (by rw [hnb];decide)]
               have HNB:=Ad (An (show nb=true→OO=some L∧CT (DN c.kind c.a c.b M) (L.take (j+1))=some (R ++ [C]) from fun h=>⟨HT2.o.1,by rw [GQ HQ.o.1.2,HT2.o.2,HQ.o.1.1,hyes h];rfl⟩) (show nb=false→O=none from fun h=>by rw [HOO.o.1,HT2.o.1,Option.bind_some];exact K5 HQ.o.1.2 HT2.o.2 (by rw [HQ.o.1.1,hno h])));have hT8:=Ac H7.o.2.1 hbe;have hbw:=bt H7.o.2.2.1 hbe;have H8:=Ad (An (An (H7.o.1.1.keep hbe) (H7.o.1.2.keep hbe)) (An (HG.o.keep hbw) (bt HK.o.2.2 hbw)));have hzd:=hbw.size;have HIN:=Ad HG.o.inside;clear hnb hyes hno t0 t1 tl;obtain ⟨t0,t1,tl⟩:=B3 hT8;have HLT:=Ad (Cr (w:=we) (S:=fun k=>wr.heap.size≤k) (a:=C) H8.o.1.1 H8.o.1.2 hzd);clear hT8 hbw hbe;go_wp2_with (at_builtin;go_must (refine D8 (l:=R) (m:=[C]) rfl (.tmp 103) (.tmp 105) _ rfl (B:=w5.heap.size) (R:=fun k=>w5.heap.size≤k) Cy rfl (H8.o.2.1.keep (Aa _ _)) rfl HLT.o (fun k _ h=>⟨by have h6:wr.heap.size≤k:=h;show w5.heap.size≤k;omega,fun hne e=>by rcases HIN.o with h4 | h4;exact hne h4;have h5:=(h4 k e).2;have h6:wr.heap.size≤k:=h;omega⟩) (by have h1:=HK.o.2.1;have h2:=HN.o;have h3:=HQ.o.1.2;simp;omega) (by simp;omega) ?_;intro v9 w9 g9 f9;obtain ⟨a9,n9,c9,rfl⟩:=g9.forms))
               have hb9:=(H8.o.2.1.keep (Aa we (.cells #[.slice d1 m1 e1,.slice d2 m2 e2] 26))).below (ba H8.o.2.2 _) (Nat.le_refl _) (by simp;omega) f9;have H9:=Ad (An g9 hb9);clear g9 hb9 f9;go_wp2;go_roundg (gk - 1)
               case rel=>exact ⟨j+1,R ++ [C],nb,Jo HK.o.1.1 HQ.o.1.2,(by first | exact Wz HQ.o.1.2 HN.o | go_num),rfl,HNB.o,by rw [List.length_append,HK.o.2.1];rfl,H9.o.1,H9.o.2⟩
               case measure=>exact Jp HK.o.1.1 HQ.o.1.2
           · have hjn:j=L.length:=by have:=HK.o.1.1;omega
             (have i1:¬ (j:Int) < (L.length:Int):=by omega);have HE:=Ad (show O=some R by rw [HOO.o.1,HT2.o.1,Option.bind_some,← HT2.o.2,hjn,List.take_length]);have hzw:=H5.o.2.2.2.size;clear hjn hW;go_wp2;go_ret2;rw [HE.o];exact ⟨_,rfl,HG.o.mono hzw fun k _ h=>Nat.le_trans hzw h,bt H5.o.2.2.2 HK.o.2.2⟩
      · have y2:(c.kind == 2)=false:=beq_eq_false_iff_ne.2 h2
        obtain ⟨TT,hTT⟩:∃ T,(if c.kind=2 then c.b else c.a)=T:=⟨_,rfl⟩;(have hkk:c.kind=2∨c.kind=3∨c.kind=5:=by have:=HP.o.2.1.1;omega);(have hcb:c.a=TT:=by rw [← hTT,if_neg h2]);rw [hcb] at k1;clear h1 h2 h4 hcb;have HKK:=Ad hkk;(have hOO2:O=(AS M TT 7 a).bind (CT (DN c.kind c.a c.b M)):=by rw [← HP.o.2.2.2.1,BV,if_neg Om,if_neg Om,HP.o.2.2.2.2,hTT]);obtain ⟨OO,hOO⟩:=Ex (AS M TT 7 a);rw [hOO] at hOO2;have hgood:∀ L,OO=some L→∀ b ∈ L,Ah b=true∧0 < b.2.length:=fun L h=>IG (hOO.trans h);have hcall:=OY (m:=M) (t:=TT) 7 Dc _ _ _ _ _ a _ _ H4.o.1.1 H4.o.1.2 H4.o.2.2.1 (Co HP.o.1.1);rw [hOO,show ((7:Nat):Int)=7 from rfl] at hcall;have HCALL:=Ad hcall;have HOO:=Ad (An hOO2 hgood);clear hcall hOO hOO2 hgood hkk hTT;(go_upto_region 13 with fail);(go_wp2_with fail);refine HCALL.o.mono ?_;rintro e w5 ⟨v,L,rfl,hL,hn,gL,hb5⟩;obtain ⟨va,vc,rfl⟩:=gL.form;have hz4:=H4.o.2.2.2.size;have H5:=Ad (An (An gL.rl.any hL) (An (An (Ac H4.o.2.1.1 hb5) (Ac H4.o.2.1.2 hb5)) (An (Ag H4.o.2.2.1 hb5) (bt H4.o.2.2.2 hb5))));have hn7:L.length≤128:=hn;have HN:=Ad hn7;clear gL hL hn hn7 hb5 k0 k1 k2 k3 k4 k5 k6 k7 k8 k9 kl b0 b1 bl;(go_upto_region 15 with fail);go_loopg [15,14,8] L.length (fun q i ok out wr=>∃ (j:Nat) (R:List Aj) (b:Bool),j+q=L.length∧i=.int .i64 j∧ok=.bool b∧((b=true→OO=some L∧CT (DN c.kind c.a c.b M) (L.take j)=some R)∧(b=false→O=none))∧R.length=j∧GX wr w5.heap.size (fun k=>w5.heap.size≤k) out R∧Below w5.heap.size w5 wr)
        case atStart =>
         refine ⟨0,[],OO.isSome,by omega,rfl,rfl,⟨fun h=>?_,fun h=>?_⟩,rfl,GX.nil _ _ _ _,Below.refl _ _⟩
         · cases OO with
           | none=>cases h
           | some l=>exact ⟨by rw [H5.o.1.2 l rfl],rfl⟩
         · cases OO with
           | none=>rw [HOO.o.1];rfl
           | some l=>cases h
        case round =>
         obtain ⟨j,R,b,hj,rfl,rfl,⟨hT,hF⟩,hRl,hG,hW⟩:=hrel;obtain ⟨ra,rc,rfl⟩:=hG.form;have HK:=Ad (An (An hj (An hT hF)) (An hRl hW));have HG:=Ad hG;have hzs:=hW.size;clear hj hT hF hRl hG;cases b with
         | false =>
           have HE:=Ad (show O=none from HK.o.1.2.2 rfl);clear hW;by_cases hj8:j < L.length
           · have i1:(j:Int) < (L.length:Int):=by omega
             go_wp2;go_ret2;rw [HE.o];exact ⟨_,rfl,GX.nil _ _ _ _,ba (bt H5.o.2.2.2 HK.o.2.2) _⟩
           · have i1:¬ (j:Int) < (L.length:Int):=by omega
             go_wp2;go_ret2;rw [HE.o];exact ⟨_,rfl,GX.nil _ _ _ _,ba (bt H5.o.2.2.2 HK.o.2.2) _⟩
         | true =>
           have HT2:=Ad (HK.o.1.2.1 rfl);by_cases hj8:j < L.length
           · have i1:(j:Int) < (L.length:Int):=by omega
             obtain ⟨qa,qc,hqe,_,_,hqf⟩:=(H5.o.1.1.keep hW).asnAt;simp only [Value.slice.injEq,true_and] at hqe;obtain ⟨rfl,rfl⟩:=hqe;obtain ⟨bb,oo,u1,u2,rfl,_,hzb,hp1,hp2,r1,r2⟩:=hqf j hj8;obtain ⟨y1,z1,rfl⟩:=r1.form;obtain ⟨y2,z2,rfl⟩:=r2.form;have hgd:=HOO.o.2 L HT2.o.1 _ (Be hj8);obtain ⟨P,hP⟩:=Ex (FX c.kind c.a c.b M (gd L j));(have hacc:DN c.kind c.a c.b M (gd L j)=P.bind Es:=by rw [← hP];exact Mx hgd HKK.o (fun h=>HP.o.2.1.2.2 (.inr h)));have hcall:∀ w':World,RL w' (fun _=>True) (.slice y1 (gd L j).1.length z1) (gd L j).1→RL w' (fun _=>True) (.slice y2 (gd L j).2.length z2) (gd L j).2→w'.ownsRow w3.heap.size 4 1 (.slice bva 9 bvc) 9 (Av M)→Calls Tryz.prog 300 #[.agg #[.slice y1 (gd L j).1.length z1,.slice y2 (gd L j).2.length z2],.agg #[.int .i64 c.kind,.int .i64 c.a,.int .i64 c.b,.bool c.test.1,.int .i64 c.test.2.1,.int .i64 c.test.2.2,.slice a3 c.inv.1.length c3,.slice a4 c.inv.2.length c4,.slice a5 c.body.length c5,.slice a6 c.els.length c6],.slice bva 9 bvc] w' (Ub P w'):=fun w' r1 r2 ho=>by
              have h:=IU (.slice y1 (gd L j).1.length z1) (.slice y2 (gd L j).2.length z2) (.slice bva 9 bvc) c.kind c.b c.test.2.1 c.test.2.2 X c.test.1 a3 a4 a5 a6 c.inv.1.length c.inv.2.length c.body.length c.els.length c3 c4 c5 c6 (gd L j) M w3.heap.size w' r1 r2 ho hgd.1 HX8.o hgd.2;rw [← HP.o.2.2.1,hP] at h;exact h
             have HC17:=Ad hcall;have HQ:=Ad (An (An hacc hj8) (An r1 r2));have HBS:=Ad (Ag H5.o.2.2.1 hW);have hCb:=Ac H5.o.2.1.2 hW;obtain ⟨k0,k1,k2,k3,k4,k5,k6,k7,k8,k9⟩:=Dk hCb;have kl:=Ae hCb;have HWR:=Ad (bt H5.o.2.2.2 hW);clear hgd hP hacc hcall r1 r2 hqf hCb hW;(go_upto_region 17 with fail);go_cut [16,17] (fun s16 s17 wc=>∃ (t:Nat) (x1 x2:Value) (C:Aj),s16=.pointer (some ⟨t,0,none⟩)∧s17=.bool P.isSome∧(∀ b,P=some b→C=b)∧wc.heap[t]?=some (.cells #[x1,x2] 26 (0,0))∧(RL wc (fun k=>wr.heap.size≤k) x1 C.1∧RL wc (fun k=>wr.heap.size≤k) x2 C.2)∧Below wr.heap.size wr wc)
             case first =>
              go_region_held3 (fun w'=>(w'.cell? ⟨bb,oo+j * 2,none⟩=some (.slice y1 (gd L j).1.length z1)∧w'.cell? ⟨bb,oo+j * 2+1,none⟩=some (.slice y2 (gd L j).2.length z2))∧((w'.cell? ⟨w.heap.size+1,0,none⟩=some (.int .i64 c.kind)∧w'.cell? ⟨w.heap.size+1,1,none⟩=some (.int .i64 c.a)∧w'.cell? ⟨w.heap.size+1,2,none⟩=some (.int .i64 c.b)∧w'.cell? ⟨w.heap.size+1,3,none⟩=some (.bool c.test.1)∧w'.cell? ⟨w.heap.size+1,4,none⟩=some (.int .i64 c.test.2.1))∧(w'.cell? ⟨w.heap.size+1,5,none⟩=some (.int .i64 c.test.2.2)∧w'.cell? ⟨w.heap.size+1,6,none⟩=some (.slice a3 c.inv.1.length c3)∧w'.cell? ⟨w.heap.size+1,7,none⟩=some (.slice a4 c.inv.2.length c4)∧w'.cell? ⟨w.heap.size+1,8,none⟩=some (.slice a5 c.body.length c5)∧w'.cell? ⟨w.heap.size+1,9,none⟩=some (.slice a6 c.els.length c6))))
               (exact ⟨⟨(Ck hp1),(Ck hp2)⟩,⟨(Ck k0),(Ck k1),(Ck k2),(Ck k3),(Ck k4)⟩,⟨(Ck k5),(Ck k6),(Ck k7),(Ck k8),(Ck k9)⟩⟩)
               (first
                 | (go_at_call 300;go_must (refine (HC17.o _ (HQ.o.2.1.keep Bl) (HQ.o.2.2.keep Bl) (Ag HBS.o Bl)).mono ?_;rintro e w6 ⟨x1,x2,C,rfl,hC,⟨q1,q2⟩,hb6'⟩;obtain ⟨d1,m1,e1,rfl⟩:=q1.forms;obtain ⟨d2,m2,e2,rfl⟩:=q2.forms;have hb6:Below wr.heap.size wr w6:=bt Bl hb6';have hz6:=hb6.size;(first | (have hT:=A5 hb6') | (have hT:=A7 hb6') | skip);(try simp only [World.size_alloc,World.size_drew] at hT q1 q2);(try simp only [World.size_drew] at q1 q2);(first | (have V9:=B4 hT;obtain ⟨ht0,ht1,htz,htl⟩:=V9) | skip);clear hb6'))
                 | fail)
              all_goals
               have HQ6:=Ad (An (An q1 q2) (An hb6 hC));clear q1 q2 hb6 hC;go_wp2;go_meet
               case rel =>
                first
                  | exact ⟨_,_,_,C,rfl,rfl,HQ6.o.2.2,heap_alloc_new _ _,⟨(HQ6.o.1.1.keep (Aa _ _)),(HQ6.o.1.2.keep (Aa _ _))⟩,ba HQ6.o.2.1 _⟩
                  | exact Rp hT HQ6.o.1.1 HQ6.o.1.2 Om Om HQ6.o.2.1 HQ6.o.2.2
                  | fail
             case rest =>
              rename World=>wd
              obtain ⟨tB,x1,x2,C,rfl,rfl,hC,hbx,⟨q1,q2⟩,hbd⟩:=hcut;obtain ⟨d1,m1,e1,rfl⟩:=q1.forms;obtain ⟨d2,m2,e2,rfl⟩:=q2.forms;have H7:=Ad (An (An q1 q2) (An hbx (An hbd hC)));clear q1 q2 hbx hbd hC hp1 hp2 k0 k1 k2 k3 k4 k5 k6 k7 k8 k9 kl;obtain ⟨t0,t1,tl⟩:=B3 H7.o.2.1;(go_upto_region 18 with fail);go_cut [14] (fun s14 wc=>s14=.bool (P.isSome && Ah C)∧Below wd.heap.size wd wc)
              case first =>
               cases P with
               | none =>
                 go_wp2;go_meet
                 case rel=>exact ⟨rfl,Below.refl _ _⟩
               | some b =>
                 (go_wp2_with fail);refine (Ar _ _ C _ H7.o.1.1 H7.o.1.2).mono ?_;rintro e w8 ⟨rfl,hb8⟩;have HB8:=Ad hb8;clear hb8;go_wp2;go_meet
                 case rel=>exact ⟨by simp,HB8.o⟩
              case rest =>
               rename World=>we
               obtain ⟨rfl,hbe⟩:=hcut;obtain ⟨nb,hnb⟩:=Ex ((P.isSome && Ah C));rw [hnb];have hyes:nb=true→P.bind Es=some C:=fun h=>by
                rw [h,Bool.and_eq_true] at hnb;cases hP:P with
                | none=>rw [hP] at hnb;cases hnb.1
                | some b =>
                  have:=H7.o.2.2.2 b hP;rw [Option.bind_some,← this,Es,if_pos hnb.2]
               have hno:nb=false→P.bind Es=none:=fun h=>by
                rw [h,Bool.and_eq_false_iff] at hnb;cases hP:P with
                | none=>rfl
                | some b =>
                  have:=H7.o.2.2.2 b hP;rcases hnb with hnb | hnb
                  · rw [hP] at hnb;cases hnb
                  · rw [Option.bind_some,← this,Es,if_neg (by rw [hnb];decide)]
               have HNB:=Ad (An (show nb=true→OO=some L∧CT (DN c.kind c.a c.b M) (L.take (j+1))=some (R ++ [C]) from fun h=>⟨HT2.o.1,by rw [GQ HQ.o.1.2,HT2.o.2,HQ.o.1.1,hyes h];rfl⟩) (show nb=false→O=none from fun h=>by rw [HOO.o.1,HT2.o.1,Option.bind_some];exact K5 HQ.o.1.2 HT2.o.2 (by rw [HQ.o.1.1,hno h])));have hT8:=Ac H7.o.2.1 hbe;have hbw:=bt H7.o.2.2.1 hbe;have H8:=Ad (An (An (H7.o.1.1.keep hbe) (H7.o.1.2.keep hbe)) (An (HG.o.keep hbw) (bt HK.o.2.2 hbw)));have hzd:=hbw.size;have HIN:=Ad HG.o.inside;clear hnb hyes hno t0 t1 tl;obtain ⟨t0,t1,tl⟩:=B3 hT8;have HLT:=Ad (Cr (w:=we) (S:=fun k=>wr.heap.size≤k) (a:=C) H8.o.1.1 H8.o.1.2 hzd);clear hT8 hbw hbe;go_wp2_with (at_builtin;go_must (refine D8 (l:=R) (m:=[C]) rfl (.tmp 103) (.tmp 105) _ rfl (B:=w5.heap.size) (R:=fun k=>w5.heap.size≤k) Cy rfl (H8.o.2.1.keep (Aa _ _)) rfl HLT.o (fun k _ h=>⟨by have h6:wr.heap.size≤k:=h;show w5.heap.size≤k;omega,fun hne e=>by rcases HIN.o with h4 | h4;exact hne h4;have h5:=(h4 k e).2;have h6:wr.heap.size≤k:=h;omega⟩) (by have h1:=HK.o.2.1;have h2:=HN.o;have h3:=HQ.o.1.2;simp;omega) (by simp;omega) ?_;intro v9 w9 g9 f9;obtain ⟨a9,n9,c9,rfl⟩:=g9.forms))
               have hb9:=(H8.o.2.1.keep (Aa we (.cells #[.slice d1 m1 e1,.slice d2 m2 e2] 26))).below (ba H8.o.2.2 _) (Nat.le_refl _) (by simp;omega) f9;have H9:=Ad (An g9 hb9);clear g9 hb9 f9;go_wp2;go_roundg (gk - 1)
               case rel=>exact ⟨j+1,R ++ [C],nb,Jo HK.o.1.1 HQ.o.1.2,(by first | exact Wz HQ.o.1.2 HN.o | go_num),rfl,HNB.o,by rw [List.length_append,HK.o.2.1];rfl,H9.o.1,H9.o.2⟩
               case measure=>exact Jp HK.o.1.1 HQ.o.1.2
           · have hjn:j=L.length:=by have:=HK.o.1.1;omega
             (have i1:¬ (j:Int) < (L.length:Int):=by omega);have HE:=Ad (show O=some R by rw [HOO.o.1,HT2.o.1,Option.bind_some,← HT2.o.2,hjn,List.take_length]);have hzw:=H5.o.2.2.2.size;clear hjn hW;go_wp2;go_ret2;rw [HE.o];exact ⟨_,rfl,HG.o.mono hzw fun k _ h=>Nat.le_trans hzw h,bt H5.o.2.2.2 HK.o.2.2⟩
end Go.Proofs.YtkbbmjcfgcfejaaGreat
