/- Walk: a segment unfolded (reference: l10Unfold). (Printed by gen_opns.py.) -/
import Derived.Test.YtkbbmjcfgcfejaaGreatLFrmS
import Derived.Test.YtkbbmjcfgcfejaaGreatLExL
set_option linter.unusedVariables false
set_option linter.unusedSimpArgs false
set_option maxRecDepth 100000
set_option maxHeartbeats 12800000
namespace Go.Proofs.YtkbbmjcfgcfejaaGreat
open Go.RowKit
theorem T9 (m:List Am):(List.range' 0 m.length).map (gd m)=m:=by
 refine List.ext_getElem Sp fun j h1 h2=>?_;rw [List.getElem_map,List.getElem_range',gd,List.getD_eq_getElem?_getD,Nat.one_mul,Nat.zero_add,List.getElem?_eq_getElem h2];rfl
theorem IS {l:List Am} {i:Nat} (hi:i < l.length):Gr l i i=Br l i:=by
 obtain ⟨k,hk⟩:∃ k,l.length=i+(1+k):=⟨l.length - (i+1),by omega⟩;have hl:l=(List.range' 0 i).map (gd l) ++ (gd l i :: (List.range' (i+1) k).map (gd l)):=by
  have h:=T9 l;rw [hk,← List.range'_append_1,List.map_append,← List.range'_append_1,List.map_append,Nat.zero_add] at h;exact h.symm
 have h1:l.take i=(List.range' 0 i).map (gd l):=by
  conv=>lhs;rw [hl]
  exact List.take_left' Sp
 have h2:l.drop (i+1)=(List.range' (i+1) k).map (gd l):=by
  conv=>lhs;rw [hl]
  rw [← List.drop_drop,List.drop_left' (by simp)];rfl
 rw [Gr,Br,h1,h2,Vs,← List.map_append];congr 1
 rw [List.range_eq_range',hk,← List.range'_append_1,← List.range'_append_1,Nat.zero_add,List.filter_append,List.filter_append];have f1:(List.range' 0 i).filter (fun j=>(j != i) && (j != i))=List.range' 0 i:=List.filter_eq_self.2 fun j hj=>by
  rw [List.mem_range'] at hj;obtain ⟨k,hk,rfl⟩:=hj;simp;omega
 have f3:∀ n,(List.range' (i+1) n).filter (fun j=>(j != i) && (j != i))=List.range' (i+1) n:=fun n=>List.filter_eq_self.2 fun j hj=>by
  rw [List.mem_range'] at hj;obtain ⟨k,hk,rfl⟩:=hj;simp;omega
 rw [f1,f3,show (List.range' i 1).filter (fun j=>(j != i) && (j != i))=[] by simp [List.range']];simp
structure AB (w0 w:World) (t:Nat) (x1 x2:Value) (C:Aj):Prop where
 box:w.heap[t]?=some (.cells #[x1,x2] 26 (0,0))
 f:FE w w0.heap.size x1 C.1
 a:FE w w0.heap.size x2 C.2
 bl:Below w0.heap.size w0 w
 lt:w0.heap.size≤t
section
variable {w0 w w' w8:World} {t:Nat} {x1 x2 v8:Value} {C:Aj}
theorem AB.new (hb:Below w0.heap.size w0 w) (f:FE w w0.heap.size x1 C.1) (a:FE w w0.heap.size x2 C.2):AB w0 (w.alloc (.cells #[x1,x2] 26)) w.heap.size x1 x2 C :=
 ⟨heap_alloc_new _ _,f.keep (Aa _ _),a.keep (Aa _ _),ba hb _,hb.size⟩
theorem AB.keep (h:AB w0 w t x1 x2 C) (hb:Below w.heap.size w w'):AB w0 w' t x1 x2 C:=⟨Ac h.box hb,h.f.keep hb,h.a.keep hb,bt h.bl hb,h.lt⟩
theorem AB.cells (h:AB w0 w t x1 x2 C):(w.cell? ⟨t,0,none⟩=some x1∧w.cell? ⟨t,1,none⟩=some x2)∧(w.frozen? ⟨t,0,none⟩=false∧w.frozen? ⟨t,1,none⟩=false)∧t < w.heap.size:=⟨⟨Bd h.box,AY h.box⟩,⟨BI h.box 0,BI h.box 1⟩,Ae h.box⟩
theorem AB.putF {l:List Ap} (h:AB w0 w t x1 x2 C) (o8:FE w8 w0.heap.size v8 l) (hf:Fr (TF w w0.heap.size 61) w w8):AB w0 (w8.setCell ⟨t,0,none⟩ v8) t v8 x2 (l,C.2):=by
 have hB:=AM h.box hf Dc;have hS:∀ {e:TypeId},26 ≠ e→¬ TF w8 w0.heap.size e t:=fun hne=>Ge hB hne;exact ⟨BL hB _,o8.setB (hS (e:=61) Dc),(h.a.tf hf Dc).setB (hS (e:=118) Dc),(h.bl.trans (AG hf h.bl.size)).setCell (p:=⟨t,0,none⟩) h.lt _,h.lt⟩
theorem AB.putA {l:List Am} (h:AB w0 w t x1 x2 C) (o8:FE w8 w0.heap.size v8 l) (hf:Fr (TF w w0.heap.size 118) w w8):AB w0 (w8.setCell ⟨t,1,none⟩ v8) t x1 v8 (C.1,l):=by
 have hB:=AM h.box hf Dc;have hS:∀ {e:TypeId},26 ≠ e→¬ TF w8 w0.heap.size e t:=fun hne=>Ge hB hne;exact ⟨BX hB _,(h.f.tf hf Dc).setB (hS (e:=61) Dc),o8.setB (hS (e:=118) Dc),(h.bl.trans (AG hf h.bl.size)).setCell (p:=⟨t,1,none⟩) h.lt _,h.lt⟩
theorem AB.cellsF (h:AB w0 w t x1 x2 C) (hf:Fr (TF w w0.heap.size 61) w w8):(w8.cell? ⟨t,0,none⟩=some x1∧w8.cell? ⟨t,1,none⟩=some x2)∧(w8.frozen? ⟨t,0,none⟩=false∧w8.frozen? ⟨t,1,none⟩=false)∧t < w8.heap.size:=by
 have hB:=AM h.box hf Dc;exact ⟨⟨Bd hB,AY hB⟩,⟨BI hB 0,BI hB 1⟩,Ae hB⟩
theorem AB.cellsA (h:AB w0 w t x1 x2 C) (hf:Fr (TF w w0.heap.size 118) w w8):(w8.cell? ⟨t,0,none⟩=some x1∧w8.cell? ⟨t,1,none⟩=some x2)∧(w8.frozen? ⟨t,0,none⟩=false∧w8.frozen? ⟨t,1,none⟩=false)∧t < w8.heap.size:=by
 have hB:=AM h.box hf Dc;exact ⟨⟨Bd hB,AY hB⟩,⟨BI hB 0,BI hB 1⟩,Ae hB⟩
end
def Wg (O:Option (List Aj)) (n:Nat) (w:World) (e:Ending) (w':World):Prop:=∃ (v:Value) (L:List Aj),e=.returned (.tuple #[v,.bool O.isSome])∧(∀ l,O=some l→L=l)∧L.length≤n∧GX w' w.heap.size (fun k=>w.heap.size≤k) v L∧Below w.heap.size w w'
theorem Fu {w w':World} {n:Nat} {a:Option Addr} (hb:Below w.heap.size w w'):Wg none n w (.returned (.tuple #[.slice a 0 0,.bool false])) w':=⟨_,[],rfl,fun l h=>(by cases h),Nat.zero_le _,GX.nil _ _ _ _,hb⟩
def VC (m:Nat) (t:Int) (d:Nat):Prop:=∀ (S1 S2:Nat→Prop) (v1 v2 bv:Value) (a:Aj) (B:Nat) (w:World) (_h1:RL w S1 v1 a.1) (_h2:RL w S2 v2 a.2) (_hb:w.ownsRow B 4 1 bv 9 (Av m)) (_hs:Hg a),
    Calls Tryz.prog 299 #[.agg #[v1,v2],.int .i64 t,bv,.int .i64 (d:Int)] w (Wg (AS m t d a) (2 ^ d) w)
structure UfS (w:World) (b c:Nat) (v1 v2 bv:Value) (a:Aj) (m B:Nat) (X:Am):Prop where
 a1:RL w (fun _=>True) v1 a.1
 a2:RL w (fun _=>True) v2 a.2
 bx:w.heap[b]?=some (.cells #[v1,v2] 26 (0,0))
 xb:w.heap[c]?=some (.cells #[.int .i64 X.1,.int .i64 X.2.1,.int .i64 X.2.2] 118 (0,0))
 bs:w.ownsRow B 4 1 bv 9 (Av m)
theorem UfS.keep {w w':World} {b c:Nat} {v1 v2 bv:Value} {a:Aj} {m B:Nat} {X:Am} (h:UfS w b c v1 v2 bv a m B X) (hb:Below w.heap.size w w'):UfS w' b c v1 v2 bv a m B X :=
 ⟨h.a1.keep hb,h.a2.keep hb,Ac h.bx hb,Ac h.xb hb,Ag h.bs hb⟩
theorem OX {m:Nat} {t:Int} {d:Nat} (hd:d≤8) (IH:VC m t d) {S1 S2:Nat→Prop} (v1 v2 bv:Value) (a:Aj) (i B:Nat) (w:World) (h1:RL w S1 v1 a.1) (h2:RL w S2 v2 a.2) (hbv:w.ownsRow B 4 1 bv 9 (Av m)) (ha:Ah a=true) (hi:i < a.2.length) :
 Calls Tryz.prog 313 #[.agg #[v1,v2],.int .i64 t,bv,.int .i64 ((d+1:Nat):Int),.int .i64 (i:Int)] w (Wg ((D2 (Ak a ||| m)).bind fun n=>(AS m t d (CN a i)).bind fun x=>(AS m t d (Bp a i n)).map fun y=>x ++ y) (2 ^ (d+1)) w):=by
 have hsz:=En ha;obtain ⟨p1,c1,rfl⟩:=h1.form;obtain ⟨p2,c2,he,hc1,hc2,hf⟩:=h2.atomAt;subst he;obtain ⟨bva,bvc,rfl,_⟩:=A8 hbv;obtain ⟨bb,oo,rfl,_,hz1,_,_,_⟩:=hf i hi;obtain ⟨X,hX⟩:=Ex (gd a.2 i);obtain ⟨N,hN⟩:=Ex (D2 (Ak a ||| m));obtain ⟨O,hO⟩:∃ O,(N.bind fun n=>(AS m t d (CN a i)).bind fun x=>(AS m t d (Bp a i n)).map fun y=>x ++ y)=O:=⟨_,rfl⟩;rw [hN,hO];have hp0:((d:Int)+1 - 1)=d:=by omega
 have hp1:((d+1:Nat):Int)=(d:Int)+1:=by omega
 have hd0:(d:Int)≤8:=by omega
 obtain ⟨w0,hw0⟩:=Ey (w.alloc (.cells #[.slice p1 a.1.length c1,.slice (some ⟨bb,oo,none⟩) a.2.length c2] 26));have hb0:Below w.heap.size w w0:=by rw [hw0];exact Aa _ _
 have hA:w0.heap[w.heap.size]?=some (.cells #[.slice p1 a.1.length c1,.slice (some ⟨bb,oo,none⟩) a.2.length c2] 26 (0,0)):=by rw [hw0];exact heap_alloc_new _ _
 have H0:=Ad (An (An (h1.keep hb0).any (h2.keep hb0).any) (An (Ag hbv hb0) (An hA hb0)));have HW:=Ad hw0;have HP:=Ad (An (An ha hi) (An (An hX hN) (An hO hsz)));have HIH:=Ad IH;have HCP:=Ad (An hc1 (An hc2 hz1));obtain ⟨b0,b1,bl⟩:=B3 hA;clear h1 h2 hbv ha hX hN hO hsz IH hA hb0 hw0 hf hc1 hc2 hz1;go_enter Tryz.func313,Tryz.ntmps313
 go_upto_region 1 with fail
 rw [← HW.o];go_wp2_with fail
 refine (Lm _ _ _ a m B _ H0.o.1.1 H0.o.1.2 H0.o.2.1 HP.o.1.1).mono ?_;rw [HP.o.2.1.2];rintro e w1 ⟨rfl,hb1⟩;have hz1:=hb1.size;have hzA:=Ae H0.o.2.2.1;cases N with
 | none =>
   have HE:=Ad (An (show O=none by rw [← HP.o.2.2.1];rfl) (bt H0.o.2.2.2 hb1));obtain ⟨Y,hY⟩:∃ y,Uo none=y:=⟨_,rfl⟩;rw [hY];clear hb1 hY b0 b1 bl;go_wp2;go_ret2;rw [HE.o.1];exact Fu (ba HE.o.2 _)
 | some n =>
   have HO:=Ad (show O=(AS m t d (CN a i)).bind fun x=>(AS m t d (Bp a i n)).map fun y=>x ++ y by rw [← HP.o.2.2.1];rfl);rw [Ou];obtain ⟨X1,X2,X3⟩:=X;obtain ⟨qa,qc,hqe,_,_,hqf⟩:=(H0.o.1.2.keep hb1).atomAt;obtain ⟨b1',o1',hba,_,hzr,e1,e2,e3⟩:=hqf i HP.o.1.2;simp only [Value.slice.injEq] at hqe;obtain ⟨rfl,_,rfl⟩:=hqe;simp only [Option.some.injEq,Addr.mk.injEq,and_true] at hba;obtain ⟨rfl,rfl⟩:=hba;rw [HP.o.2.1.1] at e1 e2 e3;simp only at e1 e2 e3;(have i1:(i:Int) < (a.2.length:Int):=by have:=HP.o.1.2;omega);have hA1:=Ac H0.o.2.2.1 hb1;obtain ⟨wx,hwx⟩:=Ey (w1.alloc (.cells #[.int .i64 X1,.int .i64 X2,.int .i64 X3] 118));(have hbx:Below w1.heap.size w1 wx:=by rw [hwx];exact Aa _ _);have hU:UfS wx w.heap.size w1.heap.size (.slice p1 a.1.length c1) (.slice (some ⟨bb,oo,none⟩) a.2.length c2) (.slice bva 9 bvc) a m B (X1,X2,X3) :=
    ⟨(H0.o.1.1.keep hb1).keep hbx,(H0.o.1.2.keep hb1).keep hbx,Ac hA1 hbx,by rw [hwx];exact heap_alloc_new _ _,Ag (Ag H0.o.2.1 hb1) hbx⟩
   have HX:=Ad hwx;have HU:=Ad (An hU (bt (bt H0.o.2.2.2 hb1) hbx));clear b0 b1 bl;obtain ⟨b0,b1,bl⟩:=B3 hA1;clear hb1 hbx hwx hA1 hqf;(go_upto_region 5 with fail);rw [← HX.o];clear e1 e2 e3 b0 b1 bl hU;obtain ⟨b0,b1,bl⟩:=B3 HU.o.1.bx;(go_wp2_with fail);refine (Gg _ _ a _ HU.o.1.a1 HU.o.1.a2 (Co HP.o.1.1)).mono ?_;rintro e w2 ⟨x1,x2,rfl,r1,r2,hb2⟩;obtain ⟨d1,m1,k1,rfl⟩:=r1.forms;obtain ⟨d2,m2,k2,rfl⟩:=r2.forms;obtain ⟨wE,hwE⟩:=Ey (w2.alloc (.cells #[.slice d1 m1 k1,.slice d2 m2 k2] 26));(have hE:AB wx wE w2.heap.size (.slice d1 m1 k1) (.slice d2 m2 k2) a:=by rw [hwE];exact AB.new hb2 r1 r2);have HWE:=Ad hwE;have H3:=Ad (An hE (HU.o.1.keep hE.bl));clear hb2 r1 r2 hE hwE b0 b1 bl;obtain ⟨⟨t0,t1⟩,⟨z0,z1⟩,tl⟩:=H3.o.1.cells;have x0:=Lp H3.o.2.xb;have x1:=JZ H3.o.2.xb;have x2:=J0 H3.o.2.xb;have xl:=Ae H3.o.2.xb;(go_upto_region 6 with fail);rw [← HWE.o];go_upto_region 7 with (at_builtin;go_must (refine Ez (l:=a.1) (m:=[((true,X2,X3):Ap)]) (B:=wx.heap.size) rfl (.tmp 38) (.tmp 44) _ rfl A0 rfl (H3.o.1.f.keep (Aa _ _)) rfl (Bm _ _ _ _ _) (by have:=HP.o.2.2.2.1;simp;omega) (by have:=H3.o.1.bl.size;simp;omega) ?_;intro v8 w8 o8 hf8;obtain ⟨a8,n8,c8,rfl⟩:=o8.forms;obtain ⟨⟨s0,s1⟩,⟨y0,y1⟩,sl⟩:=(H3.o.1.keep (Aa wE (.cells #[.bool true,.int .i64 X2,.int .i64 X3] 61))).cellsF hf8;have H4:=Ad ((H3.o.1.keep (Aa wE (.cells #[.bool true,.int .i64 X2,.int .i64 X3] 61))).putF o8 hf8);clear o8 hf8))
   obtain ⟨wK,hwK⟩:=Ey (w8.setCell ⟨w2.heap.size,0,none⟩ (.slice a8 n8 c8));have HWK:=Ad hwK;(have hK4:AB wx wK w2.heap.size (.slice a8 n8 c8) (.slice d2 m2 k2) (a.1 ++ [((true,X2,X3):Ap)],a.2):=by rw [hwK];exact H4.o);have HK:=Ad (An hK4 (HU.o.1.keep hK4.bl));(have k1:(i:Int)≤(c2:Int):=by have:=HP.o.1.2;have:=HCP.o.1;omega);(have k2':(i:Int)+1≤(a.2.length:Int):=by have:=HP.o.1.2;omega);(have k3:(a.2.length:Int)≤(c2:Int):=by have:=HCP.o.1;omega);(have k4:(i:Int)+1≤6:=by have:=HP.o.1.2;have:=HP.o.2.2.2.2;omega);(have kw:IntKind.i64.wrap ((i:Int)+1)=(i:Int)+1:=by rw [IntKind.wrap_i64];omega);(have k0:(0:Int)≤(i:Int)+1:=by omega);(have k5:((i:Int)+1).toNat=i+1:=by omega);have HE1:=Ad (HK.o.2.a2.drp (k:=i+1) (by have:=HP.o.1.2;omega));have HT1:=Ad (HK.o.2.a2.tak (k:=i) (by have:=HP.o.1.2;omega));clear s0 s1 sl y0 y1 x0 x1 x2 xl t0 t1 z0 z1 tl hwK hK4;have b1:=AY HK.o.2.bx;have bl:=Ae HK.o.2.bx;obtain ⟨⟨t0,t1⟩,⟨z0,z1⟩,tl⟩:=HK.o.1.cells;rw [← HWK.o];go_cut [] (fun wd=>∃ v6,AB wx wd w2.heap.size (.slice a8 n8 c8) v6 (CN a i))
   case first =>
    by_cases hcap:c2=i+1
    · have HD:=Ad (show RL wK (fun _=>True) (.slice (some ⟨bb,oo,none⟩) (a.2.length - (i+1)) (c2 - (i+1))) (a.2.drop (i+1)) by have:=HE1.o;rwa [if_pos hcap] at this)
      have hcT:(c2=i+1)=True:=eq_true hcap;clear hcap;refine wp_region_noPanic ?_;refine wp_region_held_drew (S:=(fun w'=>w'.cell? ⟨w.heap.size,1,none⟩=some (.slice (some ⟨bb,oo,none⟩) a.2.length c2))) Kr ?_ (fun hHeld=>?_)
      · try dsimp only
        exact Ab (Ai wK) b1
      replace b1:=Ab (Ai wK) b1;refine wpAnyH_take (i:=1) (oi:=_) (v:=?_) rfl Kr Kr Kr (fun _ _ _ h=>h) (Or.inl ⟨by rfl,?_⟩) (by assumption) ?_;rotate_left
      · (intro w hSw;(try dsimp only at hSw);first | (go_simp;done) | (go_simp;with_reducible rfl))
      refine wpAnyH_take (i:=2) (oi:=_) (v:=?_) rfl Kr Kr Kr (fun _ _ _ h=>h) (Or.inl ⟨by rfl,?_⟩) (by assumption) ?_;rotate_left
      · (intro w hSw;(try dsimp only at hSw);first | (go_simp;done) | (go_simp;with_reducible rfl))
      refine wpAnyH_take (i:=3) (oi:=_) (v:=?_) rfl Kr Kr Kr (fun _ _ _ h=>h) (Or.inl ⟨by rfl,?_⟩) (by assumption) ?_;rotate_left
      · (intro w hSw;(try dsimp only at hSw);first | (go_simp;done) | (go_simp;with_reducible rfl))
      refine wpAnyH_take (i:=4) (oi:=_) (v:=?_) rfl Kr Kr Kr (fun _ _ _ h=>h) (Or.inl ⟨by rfl,?_⟩) (by assumption) ?_;rotate_left
      · (intro w hSw;(try dsimp only at hSw);first | (go_simp;done) | (go_simp;with_reducible rfl))
      refine wpAnyH_take (i:=6) (oi:=_) (v:=?_) rfl Kr Kr Kr (fun _ _ _ h=>h) (Or.inl ⟨by rfl,?_⟩) (by assumption) ?_;rotate_left
      · (intro w hSw;(try dsimp only at hSw);first | (go_simp;done) | (go_simp;with_reducible rfl))
      refine wpAnyH_take (i:=7) (oi:=_) (v:=?_) rfl Kr Kr Kr (fun _ _ _ h=>h) (Or.inl ⟨by rfl,?_⟩) (by assumption) ?_;rotate_left
      · (intro w hSw;(try dsimp only at hSw);first | (go_simp;done) | (go_simp;with_reducible rfl))
      refine wpAnyH_take (i:=8) (oi:=_) (v:=?_) rfl Kr Kr Kr (fun _ _ _ h=>h) (Or.inl ⟨by rfl,?_⟩) (by assumption) ?_;rotate_left
      · (intro w hSw;(try dsimp only at hSw);first | (go_simp;done) | (go_simp;with_reducible rfl))
      refine wpAnyH_take (i:=9) (oi:=_) (v:=?_) rfl Kr Kr Kr (fun _ _ _ h=>h) (Or.inl ⟨by rfl,?_⟩) (by assumption) ?_;rotate_left
      · (intro w hSw;(try dsimp only at hSw);first | (go_simp;done) | (go_simp;with_reducible rfl))
      refine wpAnyH_take (i:=10) (oi:=_) (v:=?_) rfl Kr Kr Kr (fun _ _ _ h=>h) (Or.inl ⟨by rfl,?_⟩) (by assumption) ?_;rotate_left
      · (intro w hSw;(try dsimp only at hSw);first | (go_simp;done) | (go_simp;with_reducible rfl))
      refine wpAnyH_ready (rs:=[0]) Kr Sp ?_;refine AllReadyH.cons (o:=_) rfl (fun K hK=>?_) AllReadyH.nil;go_simp
      refine hK.out _ _ ?_ (fun hHeld=>?_)
      · try dsimp only
        exact Ab (Aa _ _) b1
      clear hK K;refine wpAnyH_ready (rs:=[5]) Kr Sp ?_;refine AllReadyH.cons (o:=_) rfl (fun K hK=>?_) AllReadyH.nil;refine CA (l:=([]:List Am)) (m:=a.2.take i) (B:=wK.heap.size) (.tmp 47) (.tmp 51) _ (by rfl) A3 (by rfl) (FE.nil _ _ _) (by rfl) (HT1.o.keep (ba (Ai wK) _)) (by have:=HP.o.2.2.2.2;simp;omega) Sp ?_;intro v5 w5 o5 hf5;obtain ⟨a5,n5,c5,rfl⟩:=o5.forms;have hb5:Below wK.heap.size wK w5:=(ba (Ai wK) _).trans (AG hf5 Sp);replace b1:=AY (Ac HK.o.2.bx hb5);have hs5:=hb5.size;rw [List.nil_append] at o5;have HO5:=Ad (An o5 hb5);clear o5 hf5 hb5;refine hK.out _ _ ?_ (fun hHeld=>?_)
      · try dsimp only
        exact b1
      clear hK K;refine wpAnyH_ready (rs:=[11]) Kr Sp ?_;refine AllReadyH.cons (o:=_) rfl (fun K hK=>?_) AllReadyH.nil;refine CA (l:=a.2.take i) (m:=a.2.drop (i+1)) (B:=wK.heap.size) (.tmp 52) (.tmp 57) _ (by rfl) A3 (by rfl) HO5.o.1 (by rfl) (HD.o.keep HO5.o.2) (by have:=HP.o.2.2.2.2;simp;omega) hs5 ?_;intro v6 w6 o6 hf6;obtain ⟨a6,n6,c6,rfl⟩:=o6.forms;have hb6:Below wK.heap.size wK w6:=HO5.o.2.trans (AG hf6 hs5);replace b1:=AY (Ac HK.o.2.bx hb6);have hE6:=HK.o.1.keep hb6;obtain ⟨⟨s0,s1⟩,⟨y0,y1⟩,sl⟩:=hE6.cells;have HO6:=Ad (hE6.putA (o6.mono (B':=wx.heap.size) HK.o.1.bl.size) (Fr.refl _ _));clear o6 hf6 hb6 hE6;refine hK.out _ _ ?_ (fun hHeld=>?_)
      · try dsimp only
        exact b1
      clear hK K;refine wpAnyH_take (i:=12) (oi:=_) (v:=?_) rfl Kr Kr Kr (fun _ _ _ h=>h) (Or.inl ⟨by rfl,?_⟩) (by assumption) ?_;rotate_left
      · (intro w hSw;(try dsimp only at hSw);first | (go_simp;done) | (go_simp;with_reducible rfl))
      refine wpAnyH_ready (rs:=[13]) Kr Sp ?_;refine AllReadyH.cons (o:=_) rfl (fun K hK=>?_) AllReadyH.nil;go_simp
      refine hK.out _ _ ?_ (fun hHeld=>?_)
      · try dsimp only
        exact AY ((HU.o.1.keep HO6.o.bl).bx)
      clear hK K;refine wpAnyH_done Kr ?_ _;refine NoPanic.normal ?_;go_wp2;go_meet
      case rel=>exact ⟨_,by rw [CN,HP.o.2.1.1];exact HO6.o⟩
    · have HD:=Ad (show RL wK (fun _=>True) (.slice (some ((⟨bb,oo,none⟩:Addr).add ((i+1) * 3))) (a.2.length - (i+1)) (c2 - (i+1))) (a.2.drop (i+1)) by have:=HE1.o;rwa [if_neg hcap,Option.map_some] at this)
      have hcT:(c2=i+1)=False:=eq_false hcap;clear hcap;refine wp_region_noPanic ?_;refine wp_region_held_drew (S:=(fun w'=>w'.cell? ⟨w.heap.size,1,none⟩=some (.slice (some ⟨bb,oo,none⟩) a.2.length c2))) Kr ?_ (fun hHeld=>?_)
      · try dsimp only
        exact Ab (Ai wK) b1
      replace b1:=Ab (Ai wK) b1;refine wpAnyH_take (i:=1) (oi:=_) (v:=?_) rfl Kr Kr Kr (fun _ _ _ h=>h) (Or.inl ⟨by rfl,?_⟩) (by assumption) ?_;rotate_left
      · (intro w hSw;(try dsimp only at hSw);first | (go_simp;done) | (go_simp;with_reducible rfl))
      refine wpAnyH_take (i:=2) (oi:=_) (v:=?_) rfl Kr Kr Kr (fun _ _ _ h=>h) (Or.inl ⟨by rfl,?_⟩) (by assumption) ?_;rotate_left
      · (intro w hSw;(try dsimp only at hSw);first | (go_simp;done) | (go_simp;with_reducible rfl))
      refine wpAnyH_take (i:=3) (oi:=_) (v:=?_) rfl Kr Kr Kr (fun _ _ _ h=>h) (Or.inl ⟨by rfl,?_⟩) (by assumption) ?_;rotate_left
      · (intro w hSw;(try dsimp only at hSw);first | (go_simp;done) | (go_simp;with_reducible rfl))
      refine wpAnyH_take (i:=4) (oi:=_) (v:=?_) rfl Kr Kr Kr (fun _ _ _ h=>h) (Or.inl ⟨by rfl,?_⟩) (by assumption) ?_;rotate_left
      · (intro w hSw;(try dsimp only at hSw);first | (go_simp;done) | (go_simp;with_reducible rfl))
      refine wpAnyH_take (i:=6) (oi:=_) (v:=?_) rfl Kr Kr Kr (fun _ _ _ h=>h) (Or.inl ⟨by rfl,?_⟩) (by assumption) ?_;rotate_left
      · (intro w hSw;(try dsimp only at hSw);first | (go_simp;done) | (go_simp;with_reducible rfl))
      refine wpAnyH_take (i:=7) (oi:=_) (v:=?_) rfl Kr Kr Kr (fun _ _ _ h=>h) (Or.inl ⟨by rfl,?_⟩) (by assumption) ?_;rotate_left
      · (intro w hSw;(try dsimp only at hSw);first | (go_simp;done) | (go_simp;with_reducible rfl))
      refine wpAnyH_take (i:=8) (oi:=_) (v:=?_) rfl Kr Kr Kr (fun _ _ _ h=>h) (Or.inl ⟨by rfl,?_⟩) (by assumption) ?_;rotate_left
      · (intro w hSw;(try dsimp only at hSw);first | (go_simp;done) | (go_simp;with_reducible rfl))
      refine wpAnyH_take (i:=9) (oi:=_) (v:=?_) rfl Kr Kr Kr (fun _ _ _ h=>h) (Or.inl ⟨by rfl,?_⟩) (by assumption) ?_;rotate_left
      · (intro w hSw;(try dsimp only at hSw);first | (go_simp;done) | (go_simp;with_reducible rfl))
      refine wpAnyH_take (i:=10) (oi:=_) (v:=?_) rfl Kr Kr Kr (fun _ _ _ h=>h) (Or.inl ⟨by rfl,?_⟩) (by assumption) ?_;rotate_left
      · (intro w hSw;(try dsimp only at hSw);first | (go_simp;done) | (go_simp;with_reducible rfl))
      refine wpAnyH_ready (rs:=[0]) Kr Sp ?_;refine AllReadyH.cons (o:=_) rfl (fun K hK=>?_) AllReadyH.nil;go_simp
      refine hK.out _ _ ?_ (fun hHeld=>?_)
      · try dsimp only
        exact Ab (Aa _ _) b1
      clear hK K;refine wpAnyH_ready (rs:=[5]) Kr Sp ?_;refine AllReadyH.cons (o:=_) rfl (fun K hK=>?_) AllReadyH.nil;refine CA (l:=([]:List Am)) (m:=a.2.take i) (B:=wK.heap.size) (.tmp 47) (.tmp 51) _ (by rfl) A3 (by rfl) (FE.nil _ _ _) (by rfl) (HT1.o.keep (ba (Ai wK) _)) (by have:=HP.o.2.2.2.2;simp;omega) Sp ?_;intro v5 w5 o5 hf5;obtain ⟨a5,n5,c5,rfl⟩:=o5.forms;have hb5:Below wK.heap.size wK w5:=(ba (Ai wK) _).trans (AG hf5 Sp);replace b1:=AY (Ac HK.o.2.bx hb5);have hs5:=hb5.size;rw [List.nil_append] at o5;have HO5:=Ad (An o5 hb5);clear o5 hf5 hb5;refine hK.out _ _ ?_ (fun hHeld=>?_)
      · try dsimp only
        exact b1
      clear hK K;refine wpAnyH_ready (rs:=[11]) Kr Sp ?_;refine AllReadyH.cons (o:=_) rfl (fun K hK=>?_) AllReadyH.nil;refine CA (l:=a.2.take i) (m:=a.2.drop (i+1)) (B:=wK.heap.size) (.tmp 52) (.tmp 57) _ (by rfl) A3 (by rfl) HO5.o.1 (by rfl) (HD.o.keep HO5.o.2) (by have:=HP.o.2.2.2.2;simp;omega) hs5 ?_;intro v6 w6 o6 hf6;obtain ⟨a6,n6,c6,rfl⟩:=o6.forms;have hb6:Below wK.heap.size wK w6:=HO5.o.2.trans (AG hf6 hs5);replace b1:=AY (Ac HK.o.2.bx hb6);have hE6:=HK.o.1.keep hb6;obtain ⟨⟨s0,s1⟩,⟨y0,y1⟩,sl⟩:=hE6.cells;have HO6:=Ad (hE6.putA (o6.mono (B':=wx.heap.size) HK.o.1.bl.size) (Fr.refl _ _));clear o6 hf6 hb6 hE6;refine hK.out _ _ ?_ (fun hHeld=>?_)
      · try dsimp only
        exact b1
      clear hK K;refine wpAnyH_take (i:=12) (oi:=_) (v:=?_) rfl Kr Kr Kr (fun _ _ _ h=>h) (Or.inl ⟨by rfl,?_⟩) (by assumption) ?_;rotate_left
      · (intro w hSw;(try dsimp only at hSw);first | (go_simp;done) | (go_simp;with_reducible rfl))
      refine wpAnyH_ready (rs:=[13]) Kr Sp ?_;refine AllReadyH.cons (o:=_) rfl (fun K hK=>?_) AllReadyH.nil;go_simp
      refine hK.out _ _ ?_ (fun hHeld=>?_)
      · try dsimp only
        exact AY ((HU.o.1.keep HO6.o.bl).bx)
      clear hK K;refine wpAnyH_done Kr ?_ _;refine NoPanic.normal ?_;go_wp2;go_meet
      case rel=>exact ⟨_,by rw [CN,HP.o.2.1.1];exact HO6.o⟩
   case rest =>
    rename World=>wd
    obtain ⟨v6,hE⟩:=hcut;obtain ⟨a6,n6,c6,rfl⟩:=hE.a.forms;have HM:=Ad (An hE (HU.o.1.keep hE.bl));clear hE b1 bl t0 t1 z0 z1 tl k1 k2' k3 k4 kw k0 k5;obtain ⟨b0,b1,bl⟩:=B3 HM.o.2.bx;have x0:=Lp HM.o.2.xb;have x1:=JZ HM.o.2.xb;have x2:=J0 HM.o.2.xb;have xl:=Ae HM.o.2.xb;have hsn:=Co HP.o.1.1;have HSN:=Ad hsn;clear hsn;(go_wp2_with fail);refine (IR _ _ a i 1 X2 n _ HM.o.2.a1 HM.o.2.a2 HSN.o.1 HSN.o.2).mono ?_;rintro e w9 ⟨y1,y2,rfl,⟨r1,r2⟩,hb9⟩;rw [IS HP.o.1.2] at r2;obtain ⟨e1,g1,l1,rfl⟩:=r1.forms;obtain ⟨e2,g2,l2,rfl⟩:=r2.forms;obtain ⟨wF,hwF⟩:=Ey (w9.alloc (.cells #[.slice e1 g1 l1,.slice e2 g2 l2] 26));(have hF:AB wd wF w9.heap.size (.slice e1 g1 l1) (.slice e2 g2 l2) (a.1,((1,X2,n):Am) :: Br a.2 i):=by rw [hwF];exact AB.new hb9 r1 r2);have HWF:=Ad hwF;have H9:=Ad (An hF (HM.o.2.keep hF.bl));have hz9:wd.heap.size≤wF.heap.size:=hF.bl.size;clear hb9 r1 r2 hF hwF b0 b1 bl x0 x1 x2 xl;obtain ⟨⟨t0,t1⟩,⟨z0,z1⟩,tl⟩:=H9.o.1.cells;have x0:=Lp H9.o.2.xb;have x1:=JZ H9.o.2.xb;have x2:=J0 H9.o.2.xb;have xl:=Ae H9.o.2.xb;(go_upto_region 9 with fail);rw [← HWF.o];go_upto_region 10 with (at_builtin;go_must (refine Ez (l:=a.1) (m:=[((false,X2,X3):Ap)]) (B:=wd.heap.size) rfl (.tmp 68) (.tmp 74) _ rfl A0 rfl (H9.o.1.f.keep (Aa _ _)) rfl (Bm _ _ _ _ _) (by have:=HP.o.2.2.2.1;simp;omega) (by simp;omega) ?_;intro v8 w8 o8 hf8;obtain ⟨a8,n8,c8,rfl⟩:=o8.forms;obtain ⟨⟨s0,s1⟩,⟨y0,y1⟩,sl⟩:=(H9.o.1.keep (Aa wF (.cells #[.bool false,.int .i64 X2,.int .i64 X3] 61))).cellsF hf8;have H10:=Ad ((H9.o.1.keep (Aa wF (.cells #[.bool false,.int .i64 X2,.int .i64 X3] 61))).putF o8 hf8);clear o8 hf8))
    obtain ⟨wG,hwG⟩:=Ey (w8.setCell ⟨w9.heap.size,0,none⟩ (.slice a8 n8 c8));have HWG:=Ad hwG;(have hG:AB wd wG w9.heap.size (.slice a8 n8 c8) (.slice e2 g2 l2) (a.1 ++ [((false,X2,X3):Ap)],((1,X2,n):Am) :: Br a.2 i):=by rw [hwG];exact H10.o);have HG:=Ad (An hG (HM.o.2.keep hG.bl));have hzG:wd.heap.size≤wG.heap.size:=hG.bl.size;clear s0 s1 sl y0 y1 x0 x1 x2 xl t0 t1 z0 z1 tl hwG hG hz9;obtain ⟨⟨t0,t1⟩,⟨z0,z1⟩,tl⟩:=HG.o.1.cells;have x0:=Lp HG.o.2.xb;have x1:=JZ HG.o.2.xb;have x2:=J0 HG.o.2.xb;have xl:=Ae HG.o.2.xb;rw [← HWG.o];go_upto_region 11 with (at_builtin;go_must (refine Ez (l:=((1,X2,n):Am) :: Br a.2 i) (m:=[((2,n,X3):Am)]) (B:=wd.heap.size) rfl (.tmp 78) (.tmp 83) _ rfl A3 rfl (HG.o.1.a.keep (Aa _ _)) rfl (BB _ _ _ _ _) (by have:=HP.o.2.2.2.2;have:=DO a.2 i;simp;omega) (by simp;omega) ?_;intro v11 w11 o8 hf8;obtain ⟨a11,n11,c11,rfl⟩:=o8.forms;obtain ⟨⟨s0,s1⟩,⟨y0,y1⟩,sl⟩:=(HG.o.1.keep (Aa wG (.cells #[.int .i64 2,.int .i64 n,.int .i64 X3] 118))).cellsA hf8;have H11:=Ad ((HG.o.1.keep (Aa wG (.cells #[.int .i64 2,.int .i64 n,.int .i64 X3] 118))).putA o8 hf8);clear o8 hf8))
    obtain ⟨wH,hwH⟩:=Ey (w11.setCell ⟨w9.heap.size,1,none⟩ (.slice a11 n11 c11));have HWH:=Ad hwH;(have hH:AB wd wH w9.heap.size (.slice a8 n8 c8) (.slice a11 n11 c11) (Bp a i n):=by rw [hwH,Bp,HP.o.2.1.1];exact H11.o);have HH:=Ad (An (An hH (HM.o.1.keep hH.bl)) (HM.o.2.keep hH.bl));clear s0 s1 sl y0 y1 x0 x1 x2 xl t0 t1 z0 z1 tl hwH hH hzG;rw [← HWH.o];obtain ⟨⟨u0,u1⟩,_,ul⟩:=HH.o.1.2.cells;have hB1:=HU.o.2.trans ((HM.o.1.bl.trans (HH.o.1.1.bl.mono HM.o.1.bl.size)).mono HU.o.2.size);have HB1:=Ad hB1;have HSE:=Ad (An (show Hg (CN a i) from ⟨by have:=HP.o.2.2.2.1;show (a.1 ++ [_]).length≤_;rw [List.length_append];simp;omega,by have:=DO a.2 i;have:=HP.o.2.2.2.2;show (Br a.2 i).length≤_;omega⟩) (show Hg (Bp a i n) from ⟨by have:=HP.o.2.2.2.1;show (a.1 ++ [_]).length≤_;rw [List.length_append];simp;omega,by have:=DO a.2 i;have:=HP.o.2.2.2.2;show (_ :: (Br a.2 i ++ [_])).length≤_;simp;omega⟩));clear hB1;obtain ⟨O1,hO1⟩:=Ex (AS m t d (CN a i));obtain ⟨O2,hO2⟩:=Ex (AS m t d (Bp a i n));have HOO:=Ad (An (An hO1 hO2) (show O=O1.bind fun x=>O2.map fun y=>x ++ y by rw [HO.o,hO1,hO2]));clear hO1 hO2;(go_wp2_with fail);refine (HIH.o _ _ _ _ _ (CN a i) B _ HH.o.1.2.f.rl HH.o.1.2.a.rl HH.o.2.bs HSE.o.1).mono ?_;rw [HOO.o.1.1];rintro e w12 ⟨vA,LA,rfl,hLA,hnA,gA,hb12⟩;obtain ⟨pa,pc,rfl⟩:=gA.form;have H12:=Ad (An (An (HH.o.1.1.keep hb12) (HH.o.2.keep hb12)) (An gA (An (bt HB1.o hb12) (An hLA hnA))));have hz12:=hb12.size;clear gA hb12 hLA hnA u0 u1 ul;obtain ⟨⟨u0,u1⟩,_,ul⟩:=H12.o.1.1.cells;(go_wp2_with fail);refine (HIH.o _ _ _ _ _ (Bp a i n) B _ H12.o.1.1.f.rl H12.o.1.1.a.rl H12.o.1.2.bs HSE.o.2).mono ?_;rw [HOO.o.1.2];rintro e w13 ⟨vB,LB,rfl,hLB,hnB,gB,hb13⟩;obtain ⟨qa',qc',rfl⟩:=gB.form;have H13:=Ad (An (gB.rl.more (S':=fun k=>w12.heap.size≤k) fun k _ h=>h.elim id id) (An (H12.o.2.1.keep hb13) (An (bt H12.o.2.2.1 hb13) (An hLB hnB))));have HIN:=Ad H12.o.2.1.inside;have hz13:=hb13.size;have hzW:=HB1.o.size;have h2d:(2:Nat) ^ d≤256:=by
     have:2 ^ d≤2 ^ 8:=Nat.pow_le_pow_right Dc hd;exact this
    clear gB hb13 hLB hnB u0 u1 ul;cases O1 with
    | none =>
      have HE:=Ad (show O=none by rw [HOO.o.2];rfl);go_wp2_with (at_builtin;go_must (refine D8 (m:=LB) (B:=wH.heap.size) (R:=fun k=>wH.heap.size≤k) rfl (.tmp 104) (.tmp 105) _ rfl Cy rfl H13.o.2.1 rfl H13.o.1 (fun j _ h=>⟨by have h6:w12.heap.size≤j:=h;show wH.heap.size≤j;omega,fun hne e=>by rcases HIN.o with h4 | h4;exact hne h4;have h5:=(h4 j e).2;have h6:w12.heap.size≤j:=h;omega⟩) (by have h1:=H12.o.2.2.2.2;have h2:=H13.o.2.2.2.2;omega) Om ?_;intro v14 w14 g14 f14;obtain ⟨r1,r2,rfl⟩:=g14.form))
      have hb14:=H13.o.2.1.below H13.o.2.2.1 (Nat.le_trans hzW (Nat.le_refl _)) Om f14;have HR:=Ad (An (show GX w14 w.heap.size (fun k=>w.heap.size≤k) (.slice r1 (LA.length+LB.length) r2) (LA ++ LB) by rw [← List.length_append];exact g14.mono (B':=w.heap.size) (R':=fun k=>w.heap.size≤k) hzW fun j _ h=>Nat.le_trans hzW h) hb14);clear g14 hb14 f14;go_wp2;go_ret2;rw [HE.o];exact ⟨.slice r1 (LA.length+LB.length) r2,LA ++ LB,rfl,fun l h=>(by cases h),by have h1:=H12.o.2.2.2.2;have h2:=H13.o.2.2.2.2;rw [List.length_append,Nat.pow_succ];omega,HR.o.1,HR.o.2⟩
    | some l1 =>
      cases O2 with
      | none =>
        have HE:=Ad (show O=none by rw [HOO.o.2];rfl);go_wp2_with (at_builtin;go_must (refine D8 (m:=LB) (B:=wH.heap.size) (R:=fun k=>wH.heap.size≤k) rfl (.tmp 104) (.tmp 105) _ rfl Cy rfl H13.o.2.1 rfl H13.o.1 (fun j _ h=>⟨by have h6:w12.heap.size≤j:=h;show wH.heap.size≤j;omega,fun hne e=>by rcases HIN.o with h4 | h4;exact hne h4;have h5:=(h4 j e).2;have h6:w12.heap.size≤j:=h;omega⟩) (by have h1:=H12.o.2.2.2.2;have h2:=H13.o.2.2.2.2;omega) Om ?_;intro v14 w14 g14 f14;obtain ⟨r1,r2,rfl⟩:=g14.form))
        have hb14:=H13.o.2.1.below H13.o.2.2.1 (Nat.le_trans hzW (Nat.le_refl _)) Om f14;have HR:=Ad (An (show GX w14 w.heap.size (fun k=>w.heap.size≤k) (.slice r1 (LA.length+LB.length) r2) (LA ++ LB) by rw [← List.length_append];exact g14.mono (B':=w.heap.size) (R':=fun k=>w.heap.size≤k) hzW fun j _ h=>Nat.le_trans hzW h) hb14);clear g14 hb14 f14;go_wp2;go_ret2;rw [HE.o];exact ⟨.slice r1 (LA.length+LB.length) r2,LA ++ LB,rfl,fun l h=>(by cases h),by have h1:=H12.o.2.2.2.2;have h2:=H13.o.2.2.2.2;rw [List.length_append,Nat.pow_succ];omega,HR.o.1,HR.o.2⟩
      | some l2 =>
        have HE:=Ad (show O=some (LA ++ LB) by rw [HOO.o.2,H12.o.2.2.2.1 l1 rfl,H13.o.2.2.2.1 l2 rfl];rfl);go_wp2_with (at_builtin;go_must (refine D8 (m:=LB) (B:=wH.heap.size) (R:=fun k=>wH.heap.size≤k) rfl (.tmp 104) (.tmp 105) _ rfl Cy rfl H13.o.2.1 rfl H13.o.1 (fun j _ h=>⟨by have h6:w12.heap.size≤j:=h;show wH.heap.size≤j;omega,fun hne e=>by rcases HIN.o with h4 | h4;exact hne h4;have h5:=(h4 j e).2;have h6:w12.heap.size≤j:=h;omega⟩) (by have h1:=H12.o.2.2.2.2;have h2:=H13.o.2.2.2.2;omega) Om ?_;intro v14 w14 g14 f14;obtain ⟨r1,r2,rfl⟩:=g14.form))
        have hb14:=H13.o.2.1.below H13.o.2.2.1 (Nat.le_trans hzW (Nat.le_refl _)) Om f14;have HR:=Ad (An (show GX w14 w.heap.size (fun k=>w.heap.size≤k) (.slice r1 (LA.length+LB.length) r2) (LA ++ LB) by rw [← List.length_append];exact g14.mono (B':=w.heap.size) (R':=fun k=>w.heap.size≤k) hzW fun j _ h=>Nat.le_trans hzW h) hb14);clear g14 hb14 f14;go_wp2;go_ret2;rw [HE.o];exact ⟨.slice r1 (LA.length+LB.length) r2,LA ++ LB,rfl,fun l h=>Option.some.inj h,by have h1:=H12.o.2.2.2.2;have h2:=H13.o.2.2.2.2;rw [List.length_append,Nat.pow_succ];omega,HR.o.1,HR.o.2⟩
end Go.Proofs.YtkbbmjcfgcfejaaGreat
