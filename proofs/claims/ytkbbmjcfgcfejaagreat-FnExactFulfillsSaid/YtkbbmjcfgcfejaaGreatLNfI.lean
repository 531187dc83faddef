/- Walk: spec.TidyAssertion. -/
import Derived.Test.YtkbbmjcfgcfejaaGreatLReplI
import Derived.Test.YtkbbmjcfgcfejaaGreatLNfS
set_option linter.unusedVariables false
set_option linter.unusedSimpArgs false
set_option maxRecDepth 100000
set_option maxHeartbeats 12800000
namespace Go.Proofs.YtkbbmjcfgcfejaaGreat
open Go.RowKit
theorem UW {m u i:Nat} (h:i≤8):Q2 (m ||| u) (i:Int)=(decide ((i:Int)≤4) || (m.testBit i || u.testBit i)):=by
 rw [Q2,FN h,Nat.testBit_or]
theorem Q9 {m u i:Nat} (h:i≤8) (b c:Bool) (hb:m.testBit i=b) (hc:u.testBit i=c) :
 ((i:Int)≤4∧Q2 (m ||| u) (i:Int)=true)∨(¬ (i:Int)≤4∧b=true∧Q2 (m ||| u) (i:Int)=true)∨(¬ (i:Int)≤4∧b=false∧c=true∧Q2 (m ||| u) (i:Int)=true)∨(¬ (i:Int)≤4∧b=false∧c=false∧Q2 (m ||| u) (i:Int)=false):=by
 rw [UW h,hb,hc];by_cases h4:(i:Int)≤4
 · left;rw [decide_eq_true h4];exact ⟨h4,rfl⟩
 · right;rw [decide_eq_false h4]
   cases b
   · right
     cases c
     · right;exact ⟨h4,rfl,rfl,rfl⟩
     · left;exact ⟨h4,rfl,rfl,rfl⟩
   · left;exact ⟨h4,rfl,rfl⟩
theorem On {α:Type} [Inhabited α] {p:α→Bool} {l:List α} {k:Nat} (h:k < l.length) (hp:p (gd l k)=true):(l.take (k+1)).filter p=(l.take k).filter p ++ [gd l k]:=by
 rw [AT h,List.filter_append,List.filter_cons,if_pos hp];rfl
theorem Ra {α:Type} [Inhabited α] {p:α→Bool} {l:List α} {k:Nat} (h:k < l.length) (hp:p (gd l k)=false):(l.take (k+1)).filter p=(l.take k).filter p:=by
 rw [AT h,List.filter_append,List.filter_cons,if_neg (by rw [hp];decide),List.filter_nil,List.append_nil]
theorem Oo {α:Type} {p:α→Bool} (l:List α) (k:Nat):((l.take k).filter p).length≤k:=by
 have h1:=List.length_filter_le p (l.take k);have h2:(l.take k).length≤k:=by rw [List.length_take];omega
 omega
theorem Gz {w:World} {g:Nat} (h:w.heap.size=g) (a:Bool) (b c:Int) (T:TypeId):RL (w.alloc (.cells #[.bool a,.int .i64 b,.int .i64 c] T)) (fun k=>k=g) (.slice (some ⟨g,0,none⟩) 1 1) [((a,b,c):Ap)]:=h ▸ Bm w a b c T
theorem Ma {S1 S2:Nat→Prop} (v1 v2 kv:Value) (a:Aj) (l:List Int) (w:World) (h1:RL w S1 v1 a.1) (h2:RL w S2 v2 a.2) (hk:RInts w kv l) (ha:Ah a=true) :
 Calls Tryz.prog 168 #[.agg #[v1,v2],kv] w fun e w'=>∃ x1 x2,e=.returned (.tuple #[.agg #[x1,x2],.bool true])∧(FE w' w.heap.size x1 (BD (Ay l) a).1∧FE w' w.heap.size x2 (BD (Ay l) a).2)∧Below w.heap.size w w':=by
 obtain ⟨p1,c1,rfl⟩:=h1.form;obtain ⟨p2,c2,rfl⟩:=h2.form;obtain ⟨m,hm⟩:=Ex (Ay l);have hbA:=Ac (heap_alloc_new w (.cells #[.slice p1 a.1.length c1,.slice p2 a.2.length c2] 26)) (Aa _ (.cells #[.slice none 0 0,.slice none 0 0] 26));have hbR:=heap_alloc_new (w.alloc (.cells #[.slice p1 a.1.length c1,.slice p2 a.2.length c2] 26)) (.cells #[.slice none 0 0,.slice none 0 0] 26);rw [World.size_alloc] at hbR;have hB0:Below w.heap.size w ((w.alloc (.cells #[.slice p1 a.1.length c1,.slice p2 a.2.length c2] 26)).alloc (.cells #[.slice none 0 0,.slice none 0 0] 26)):=Bl;have H0:=Ad (An (An hbA hbR) (An hB0 (An h1 (An h2 hk))));have HA:=Ad ha;have HM:=Ad hm;clear hbA hbR hB0 h1 h2 hk ha;rw [hm];clear hm;go_enter Tryz.func168,Tryz.ntmps168
 go_wp2_with fail
 refine (cb (Ar _ _ a _ (H0.o.2.2.1.keep Bl) (H0.o.2.2.2.1.keep Bl)) HA.o).mono ?_;rintro e w1 ⟨rfl,hb1⟩;have HB1:=Ad hb1;have a0:=Bd (Ac H0.o.1.1 hb1);have a1:=AY (Ac H0.o.1.1 hb1);have al:=Ae (Ac H0.o.1.1 hb1);clear hb1;go_wp2_with fail
 refine (E1 _ l _ (H0.o.2.2.2.2.keep (bt H0.o.2.1 HB1.o))).mono ?_;rw [HM.o];rintro e w2 ⟨bv,rfl,ho,hb2⟩;obtain ⟨g,cap,rfl⟩:=B8 ho;have hb12:=bt (bt H0.o.2.1 HB1.o) hb2;have a0:=Bd (Ac (Ac H0.o.1.1 HB1.o) hb2);have a1:=AY (Ac (Ac H0.o.1.1 HB1.o) hb2);have al:=Ae (Ac (Ac H0.o.1.1 HB1.o) hb2);have hR2:=Ac (Ac H0.o.1.2 HB1.o) hb2;have hbo:=Aa w2 (.cells #[.slice p1 a.1.length c1,.slice p2 a.2.length c2] 26);have hbO:=heap_alloc_new w2 (.cells #[.slice p1 a.1.length c1,.slice p2 a.2.length c2] 26);have hzo:w.heap.size+2≤w2.heap.size:=by have:=hb2.size;have:=HB1.o.size;simp at this;omega
 have s1:RL w (fun k=>¬ k=w2.heap.size) (.slice p1 a.1.length c1) a.1:=H0.o.2.2.1.any.more fun k hk _ e=>by omega
 have s2:RL w (fun k=>¬ k=w2.heap.size) (.slice p2 a.2.length c2) a.2:=H0.o.2.2.2.1.any.more fun k hk _ e=>by omega
 have hgl:=AD ho (k:=g) rfl;have H2:=Ad (An (An hbO (Ac hR2 hbo)) (An (An (s1.keep (bt hb12 hbo)) (s2.keep (bt hb12 hbo))) (An (Ag ho hbo) (bt hb12 hbo))));have HZ:=Ad (An hzo hgl);obtain ⟨r0,hr0⟩:∃ r,C7 m a.1=r:=⟨_,rfl⟩;have HR0:=Ad hr0;clear hbO hbo hb12 hR2 s1 s2 ho hb2 hzo hgl hr0;go_wp2_with fail
 refine (IA _ _ _ a m w1.heap.size r0 _ H2.o.2.1.1 H2.o.2.1.2 H2.o.2.2.1 (AL HA.o).1 HR0.o).mono ?_;rintro e w3 ⟨rfl,hb3⟩;have H3:=Ad (An (An (Ac H2.o.1.1 hb3) (Ac H2.o.1.2 hb3)) (An (An (H2.o.2.1.1.keep hb3) (H2.o.2.1.2.keep hb3)) (An (Ag H2.o.2.2.1 hb3) (bt H2.o.2.2.2 hb3))));clear hb3 H2 a0 a1 al;obtain ⟨bO,hbO⟩:=Ex (w2.heap.size);rw [hbO] at H3 HZ;simp only [hbO];go_wp2;go_loopg [8,9,10] 4 (fun q sx st so wr=>∃ (b:Aj) (r:Option (Int × Int)) (o1 o2:Value),(Ah b=true∧EH m q b=EH m 4 a∧PN m b.1≤q∧C7 m b.1=r)∧sx=.int .i64 (kX r)∧st=.int .i64 (kT r)∧so=.bool (P7 r)∧(wr.heap[bO]?=some (.cells #[o1,o2] 26 (0,0))∧wr.heap[w.heap.size+1]?=some (.cells #[.slice none 0 0,.slice none 0 0] 26 (0,0)))∧(RL wr (fun k=>¬ k=bO) o1 b.1∧RL wr (fun k=>¬ k=bO) o2 b.2)∧wr.ownsRow w1.heap.size 4 1 (.slice (some ⟨g,0,none⟩) 9 cap) 9 (Av m)∧Below w.heap.size w wr)
 case atStart=>exact ⟨a,r0,_,_,⟨HA.o,rfl,Q4 _ _,HR0.o⟩,rfl,rfl,rfl,H3.o⟩
 case round =>
  clear H3;obtain ⟨b,r,o1,o2,hpl,rfl,rfl,rfl,hBB,hoo,ho,hW⟩:=hrel;obtain ⟨d1,e1,rfl⟩:=hoo.1.form;obtain ⟨d2,e2,rfl⟩:=hoo.2.form;have HP:=Ad hpl;have HR:=Ad (An hBB (An hoo (An ho hW)));obtain ⟨b0,b1,bl⟩:=B3 hBB.1;have bz:=BI hBB.1;clear hpl hBB hoo ho hW;cases r with
  | some s =>
    obtain ⟨sx,st⟩:=s;have hkv:=Gq HP.o.1 HP.o.2.2.2;have HK:=Ad hkv;have hlb:=DY HP.o.1;clear hkv;have hk0:kX (some (sx,st))=sx:=rfl;have hk1:kT (some (sx,st))=st:=rfl;have hk2:P7 (some (sx,st))=true:=rfl;rw [hk0,hk1,hk2];clear hk0 hk1 hk2;(have hl1:(b.1.length:Int)≤12:=by omega);(have hl2:(b.2.length:Int)≤8:=by omega);clear hlb;(go_wp2_with fail);refine (JF _ _ b sx st _ HR.o.2.1.1 HR.o.2.1.2 hl1 hl2).mono ?_;rintro e w5 ⟨x1,x2,rfl,⟨hx1,hx2⟩,hb5⟩;obtain ⟨f1,g1,rfl⟩:=hx1.form;obtain ⟨f2,g2,rfl⟩:=hx2.form;have hO5:=Ac HR.o.1.1 hb5;have hzz:=Ae hO5;have hzw:=hb5.size;have hO6:=BX (BL hO5 (.slice f1 (Cb b sx st).1.length g1)) (.slice f2 (Cb b sx st).2.length g2);have hR6:=Ax (Ax (Ac HR.o.1.2 hb5) ⟨bO,0,none⟩ (.slice f1 (Cb b sx st).1.length g1) (by show ¬ w.heap.size+1=bO;have:=HZ.o.1;omega)) ⟨bO,1,none⟩ (.slice f2 (Cb b sx st).2.length g2) (by show ¬ w.heap.size+1=bO;have:=HZ.o.1;omega);have hs6:=El w5 bO (.slice f1 (Cb b sx st).1.length g1) (.slice f2 (Cb b sx st).2.length g2);have hfar:∀ k,k < w5.heap.size→(fun k=>wr.heap.size≤k) k→¬ (fun j=>j=bO) k:=fun k _ h e=>by
     have h2:wr.heap.size≤k:=h;have e2:k=bO:=e;have:=Ae HR.o.1.1;omega
    have hn6:∀ k,k < w5.heap.size→(fun k=>wr.heap.size≤k) k→¬ k=bO:=fun k h h2 e=>hfar k h h2 e;have q1:=(hx1.rl.more hn6).kept hs6 fun k _ h e=>h e;have q2:=(hx2.rl.more hn6).kept hs6 fun k _ h e=>h e;have ho6:=BR (Ag HR.o.2.2.1 hb5) hs6 fun k hk e=>by
     have e2:k=bO:=e;have:=HZ.o;(have hkg:k=g:=by simpa [Value.ownBlock] using hk);omega
    have hW6:=(bt HR.o.2.2.2 hb5).trans (hs6.below (by have:=(bt HR.o.2.2.2 hb5).size;omega) fun k hk e=>by have e2:k=bO:=e;have:=HZ.o.1;omega);have c0:=Bd hO5;have c1:=AY hO5;have cz:=BI hO5;obtain ⟨r',hr'⟩:∃ r,C7 m (Cb b sx st).1=r:=⟨_,rfl⟩;have HR6:=Ad (An (An hO6 hR6) (An (An q1 q2) (An ho6 hW6)));have HR':=Ad hr';clear hO6 hR6 hs6 hfar hn6 q1 q2 ho6 hW6 hr' hO5 b0 b1 bl bz hx1 hx2 hb5;have d0:=Bd HR6.o.1.1;have dd1:=AY HR6.o.1.1;(go_wp2_with fail);refine (IA _ _ _ (Cb b sx st) m w1.heap.size r' _ HR6.o.2.1.1 HR6.o.2.1.2 HR6.o.2.2.1 (AL HK.o.2.2.1).1 HR'.o).mono ?_;rintro e w7 ⟨rfl,hb7⟩;have HR7:=Ad (An (An (Ac HR6.o.1.1 hb7) (Ac HR6.o.1.2 hb7)) (An (An (HR6.o.2.1.1.keep hb7) (HR6.o.2.1.2.keep hb7)) (An (Ag HR6.o.2.2.1 hb7) (bt HR6.o.2.2.2 hb7))));clear hb7 c0 c1 cz d0 dd1;go_wp2;go_roundg (gk - 1)
    case rel =>
     have hc:=HK.o.2.2.2;have hq:=HP.o.2.2.1;(have hgk:gk=(gk - 1)+1:=by omega);refine ⟨Cb b sx st,r',_,_,⟨HK.o.2.2.1,?_,by omega,HR'.o⟩,rfl,rfl,rfl,HR7.o⟩;rw [← HP.o.2.1,hgk,LY HP.o.2.2.2];rfl
    case measure =>
     have hc:=HK.o.2.2.2;have hq:=HP.o.2.2.1;omega
  | none =>
    obtain ⟨wm,rfl⟩:∃ wm:World,wm=wr:=⟨_,rfl⟩;have hk2:P7 (none:Option (Int × Int))=false:=rfl;rw [hk2];clear hk2;(have hbb:b=EH m 4 a:=by rw [← HP.o.2.1,LZ HP.o.2.2.2]);have HBB:=Ad hbb;have hlb:=DY HP.o.1;have hlf:b.1.length≤12:=hlb.1.1;have HLB:=Ad hlb;clear hbb hlb;have hall:=AL HP.o.1;have HALL:=Ad hall;clear hall;(go_wp2_with fail);refine (BQ (S1:=fun _=>True) _ _ (([]:List Ap),b.2) _ (RL.nil _ _) HR.o.2.1.2 (by rfl) (List.all_eq_true.2 HALL.o.2)).mono ?_;rintro e w5 ⟨uv,rfl,hu,hb5⟩;obtain ⟨gu,ucap,rfl⟩:=B8 hu;have hgu:=AD hu (k:=gu) rfl;have hwz:=hb5.size;have hol:=Ae HR.o.1.1;obtain ⟨U,hU⟩:=Ex (Ak ([],b.2));rw [hU] at hu;have q1:RL w5 (fun k=>k < w5.heap.size) (.slice d1 b.1.length e1) b.1:=(HR.o.2.1.1.keep hb5).more fun k hk _=>hk;have q2:RL w5 (fun k=>k < w5.heap.size) (.slice d2 b.2.length e2) b.2:=(HR.o.2.1.2.keep hb5).more fun k hk _=>hk;have hbE:=Aa w5 (.cells #[] 61);have H5:=Ad (An (An (Ac (Ac HR.o.1.1 hb5) hbE) (Ac (Ac HR.o.1.2 hb5) hbE)) (An (An (q1.keep hbE) (q2.keep hbE)) (An (An (Ag (Ag HR.o.2.2.1 hb5) hbE) (Ag hu hbE)) (An (bt (bt HR.o.2.2.2 hb5) hbE) hbE))));have HU:=Ad hU;have HGU:=Ad (An hgu (An hwz hol));clear q1 q2 hbE hu hU hgu hwz hol hb5 b0 b1 bl bz HR;go_wp2;go_loopg [12,13] b.1.length (fun q sy i wr=>∃ k:Nat,k+q=b.1.length∧i=.int .i64 k∧FE wr w5.heap.size sy ((b.1.take k).filter (Gp (m ||| U)))∧(wr.heap[bO]?=some (.cells #[.slice d1 b.1.length e1,.slice d2 b.2.length e2] 26 (0,0))∧wr.heap[w.heap.size+1]?=some (.cells #[.slice none 0 0,.slice none 0 0] 26 (0,0)))∧(RL wr (fun k=>k < w5.heap.size) (.slice d1 b.1.length e1) b.1∧RL wr (fun k=>k < w5.heap.size) (.slice d2 b.2.length e2) b.2)∧(wr.ownsRow w1.heap.size 4 1 (.slice (some ⟨g,0,none⟩) 9 cap) 9 (Av m)∧wr.ownsRow wm.heap.size 4 1 (.slice (some ⟨gu,0,none⟩) 9 ucap) 9 (Av U))∧Below w.heap.size w wr∧Below w5.heap.size w5 wr)
    case atStart=>exact ⟨0,by omega,rfl,FE.nil _ _ _,H5.o⟩
    case round =>
     clear H5;obtain ⟨k,hk,rfl,hF,hBB,hqq,hoo,hW,hW5⟩:=hrel;have HK:=Ad hk;clear hk;obtain ⟨b0,b1,bl⟩:=B3 hBB.1;obtain ⟨L,hL⟩:=Ex ((b.1.take k).filter (Gp (m ||| U)));(have hLk:L.length≤k:=by rw [← hL];exact Oo _ _);rw [hL] at hF;obtain ⟨ua,un,uc,rfl⟩:=hF.forms;by_cases hk8:k < b.1.length
     · have hki:(k:Int) < (b.1.length:Int):=by omega
       obtain ⟨qa,qc,hqe,_,_,hqf⟩:=hqq.1.factAt;simp only [Value.slice.injEq] at hqe;obtain ⟨rfl,_,rfl⟩:=hqe;obtain ⟨bb,oo,rfl,_,hz1,hp1,hp2,hp3⟩:=hqf k hk8;obtain ⟨X,hX⟩:=Ex (gd b.1 k);obtain ⟨X1,X2,X3⟩:=X;have hv:=Cw.1 (HALL.o.1 _ (Be hk8));rw [hX] at hp1 hp2 hp3 hv;simp only at hp1 hp2 hp3 hv;obtain ⟨i2,rfl⟩:=Int.eq_ofNat_of_zero_le hv.1.1;obtain ⟨i3,rfl⟩:=Int.eq_ofNat_of_zero_le hv.2.1;(have u2:i2≤8:=by omega);(have u3:i3≤8:=by omega);(have t2:(i2:Int) < 9:=by omega);(have t3:(i3:Int) < 9:=by omega);have y2:∃ c,m.testBit i2=c∧wr.cell? ⟨g,i2,none⟩=some (.bool c):=⟨_,rfl,by have:=hoo.1.cellAt i2 Om;rw [AP m i2 (by omega)] at this;exact this⟩;have y3:∃ c,m.testBit i3=c∧wr.cell? ⟨g,i3,none⟩=some (.bool c):=⟨_,rfl,by have:=hoo.1.cellAt i3 Om;rw [AP m i3 (by omega)] at this;exact this⟩;have z2:∃ c,U.testBit i2=c∧wr.cell? ⟨gu,i2,none⟩=some (.bool c):=⟨_,rfl,by have:=hoo.2.cellAt i2 Om;rw [AP U i2 (by omega)] at this;exact this⟩;have z3:∃ c,U.testBit i3=c∧wr.cell? ⟨gu,i3,none⟩=some (.bool c):=⟨_,rfl,by have:=hoo.2.cellAt i3 Om;rw [AP U i3 (by omega)] at this;exact this⟩;obtain ⟨m2,hm2,y2⟩:=y2;obtain ⟨m3,hm3,y3⟩:=y3;obtain ⟨n2,hn2,z2⟩:=z2;obtain ⟨n3,hn3,z3⟩:=z3;have zy:=World.block_lt_of_cell? wr _ y2;have zz:=World.block_lt_of_cell? wr _ z2;simp only at zy zz;have w2:=Q9 (m:=m) (u:=U) u2 m2 n2 hm2 hn2;have w3:=Q9 (m:=m) (u:=U) u3 m3 n3 hm3 hn3;obtain ⟨c,hc⟩:=Ex (Gp (m ||| U) (X1,(i2:Int),(i3:Int)));have hce:(Q2 (m ||| U) (i2:Int) && Q2 (m ||| U) (i3:Int))=c:=hc;have HWW:=Ad (An w2 (An w3 hce));have hbF:=Aa wr (.cells #[.bool X1,.int .i64 i2,.int .i64 i3] 61);have hFX:=heap_alloc_new wr (.cells #[.bool X1,.int .i64 i2,.int .i64 i3] 61);have HD:=Ad (An (An (hF.keep hbF) (An (Ac hBB.1 hbF) (Ac hBB.2 hbF))) (An (An (hqq.1.keep hbF) (hqq.2.keep hbF)) (An (An (Ag hoo.1 hbF) (Ag hoo.2 hbF)) (An (bt hW hbF) (bt hW5 hbF)))));have HX:=Ad (An hX (An hc hL));have HF5:=Ad hW5.size;have HLK:=Ad (show L.length≤k∧k≤12 from ⟨hLk,by omega⟩);clear hqf hv u2 u3 hm2 hm3 hn2 hn3 w2 w3 hce hbF hF hBB hqq hoo hW hW5 hX hc hL hLk;(go_upto_region 15 with fail);go_cut [93] from 58 to 93 (fun s wc=>s=.bool c∧wc=wr.alloc (.cells #[.bool X1,.int .i64 i2,.int .i64 i3] 61))
       case first =>
        rcases HWW.o.1 with ⟨p2,o2⟩ | ⟨p2,rfl,o2⟩ | ⟨p2,rfl,rfl,o2⟩ | ⟨p2,rfl,rfl,o2⟩
        · rcases HWW.o.2.1 with ⟨p3,o3⟩ | ⟨p3,rfl,o3⟩ | ⟨p3,rfl,rfl,o3⟩ | ⟨p3,rfl,rfl,o3⟩
          all_goals
           have hcc:=HWW.o.2.2;rw [o2,o3] at hcc;subst hcc;clear o2 o3;go_wp2;go_meet
           case rel=>exact ⟨rfl,rfl⟩
        · rcases HWW.o.2.1 with ⟨p3,o3⟩ | ⟨p3,rfl,o3⟩ | ⟨p3,rfl,rfl,o3⟩ | ⟨p3,rfl,rfl,o3⟩
          all_goals
           have hcc:=HWW.o.2.2;rw [o2,o3] at hcc;subst hcc;clear o2 o3;go_wp2;go_meet
           case rel=>exact ⟨rfl,rfl⟩
        · rcases HWW.o.2.1 with ⟨p3,o3⟩ | ⟨p3,rfl,o3⟩ | ⟨p3,rfl,rfl,o3⟩ | ⟨p3,rfl,rfl,o3⟩
          all_goals
           have hcc:=HWW.o.2.2;rw [o2,o3] at hcc;subst hcc;clear o2 o3;go_wp2;go_meet
           case rel=>exact ⟨rfl,rfl⟩
        · have hcc:=HWW.o.2.2
          rw [o2,Bool.false_and] at hcc;subst hcc;clear o2;go_wp2;go_meet
          case rel=>exact ⟨rfl,rfl⟩
       case rest =>
        obtain ⟨rfl,rfl⟩:=hcut;clear y2 y3 z2 z3 zy zz hp1 hp2 hp3 t2 t3 HWW;cases c with
        | false =>
          have HN:=Ad (show (b.1.take (k+1)).filter (Gp (m ||| U))=L by rw [Ra hk8 (by rw [HX.o.1];exact HX.o.2.1),HX.o.2.2]);go_wp2;go_roundg (gk - 1)
          case rel=>exact ⟨k+1,by have:=HK.o;omega,by go_num,by rw [HN.o];exact HD.o.1.1,HD.o.1.2,HD.o.2⟩
          case measure=>have:=HK.o;omega
        | true =>
          have HN:=Ad (show (b.1.take (k+1)).filter (Gp (m ||| U))=L ++ [(X1,(i2:Int),(i3:Int))] by rw [On hk8 (by rw [HX.o.1];exact HX.o.2.1),HX.o.2.2,HX.o.1]);have e0:=Lp hFX;have e1:=JZ hFX;have e2:=J0 hFX;have ez:=Ae hFX;have hlk:=HLK.o;have hzw5:=HF5.o;go_wp2_with (at_builtin;go_must (refine Ez (l:=L) (m:=[((X1,(i2:Int),(i3:Int)):Ap)]) (B:=w5.heap.size) (by rfl) (.tmp 94) (.tmp 96) _ (by rfl) A0 (by rfl) (HD.o.1.1.keep (Aa _ (.cells #[.bool X1,.int .i64 i2,.int .i64 i3] 61))) (by rfl) (Gz (g:=wr.heap.size+1) Sp _ _ _ _) (by simp;omega) (by simp;omega) ?_;intro v' w7 o7 hf7;obtain ⟨a7,n7,c7,rfl⟩:=o7.forms))
          have hkp:=Aa (wr.alloc (.cells #[.bool X1,.int .i64 i2,.int .i64 i3] 61)) (.cells #[.bool X1,.int .i64 i2,.int .i64 i3] 61);have hb7:=AG hf7 (by simp;omega);have far:∀ k,k < ((wr.alloc (.cells #[.bool X1,.int .i64 i2,.int .i64 i3] 61)).alloc (.cells #[.bool X1,.int .i64 i2,.int .i64 i3] 61)).heap.size→(fun k=>k < w5.heap.size) k→¬ TF ((wr.alloc (.cells #[.bool X1,.int .i64 i2,.int .i64 i3] 61)).alloc (.cells #[.bool X1,.int .i64 i2,.int .i64 i3] 61)) w5.heap.size 61 k:=fun k _ hs ht=>by
           have h2:k < w5.heap.size:=hs;have:=ht.1;omega
          have H7:=Ad (An (An o7 (An (AM (Ac HD.o.1.2.1 hkp) hf7 Dc) (AM (Ac HD.o.1.2.2 hkp) hf7 Dc))) (An (An ((HD.o.2.1.1.keep hkp).kept hf7 far) ((HD.o.2.1.2.keep hkp).kept hf7 far)) (An (An (SJ (Ag HD.o.2.2.1.1 hkp) hf7 Dc) (SJ (Ag HD.o.2.2.1.2 hkp) hf7 Dc)) (An ((bt HD.o.2.2.2.1 hkp).trans (hb7.mono (by have:=HGU.o;have:=HZ.o;omega))) ((bt HD.o.2.2.2.2 hkp).trans hb7)))));clear o7 hf7 hkp hb7 far hlk hzw5 e0 e1 e2 ez;go_wp2;go_roundg (gk - 1)
          case rel=>exact ⟨k+1,by have:=HK.o;omega,by go_num,by rw [HN.o];exact H7.o.1.1,H7.o.1.2,H7.o.2⟩
          case measure=>have:=HK.o;omega
     · obtain rfl:k=b.1.length:=by have:=HK.o;omega
       rw [List.take_length] at hL;obtain ⟨wn,rfl⟩:∃ wn:World,wn=wr:=⟨_,rfl⟩;(have hLL:(L,b.2)=(I8 m b,b.2):=by rw [← hL,I8,HU.o]);obtain ⟨vl,hfl⟩:∃ v,v=L.length:=⟨_,rfl⟩;have HDD:=Ad (An (An hF.rl hBB) (An hqq (An hW hW5)));have HLL:=Ad (An hLL (show Ah (L,b.2)=true by rw [hLL];exact Hh HP.o.1));have hRl:=Ae hBB.2;clear hF hBB hqq hoo hW hW5 hL hLL hLk;(go_wp2_with fail);refine (RY _ _ (L,b.2) _ HDD.o.1.1 HDD.o.2.1.2 HLL.o.2).mono ?_;rintro e w9 ⟨x1,x2,rfl,⟨n1,n2⟩,hb9⟩;obtain ⟨f1,m1,g1,rfl⟩:=n1.forms;obtain ⟨f2,m2,g2,rfl⟩:=n2.forms;have hR9:=Ac HDD.o.1.2.2 hb9;obtain ⟨r0,r1,rz,rl⟩:=B4 hR9;have rr:=Au (.slice f1 m1 g1) (.slice f2 m2 g2) r0 r1;have hle:w.heap.size≤wn.heap.size:=HDD.o.2.2.1.size;have hfin:=Ad (An (An ((n1.mono hle).set2 (x:=.slice f1 m1 g1) (y:=.slice f2 m2 g2) hR9 Dc) ((n2.mono hle).set2 (x:=.slice f1 m1 g1) (y:=.slice f2 m2 g2) hR9 Dc)) (((bt HDD.o.2.2.1 hb9).setCell (p:=⟨w.heap.size+1,0,none⟩) Sp (.slice f1 m1 g1)).setCell (p:=⟨w.heap.size+1,1,none⟩) Sp (.slice f2 m2 g2)));clear hR9 n1 n2 hb9 b0 b1 bl hRl hle;go_wp2;refine bodyPost_ret (v:=.tuple #[.agg #[.slice f1 m1 g1,.slice f2 m2 g2],.bool true]) (by simp [results,Tryz.results168,go_sem,rr.1,rr.2]) rfl ?_;(have hres:BD m a=Ss (L,b.2):=by rw [BD,Q3,← HBB.o,← HLL.o.1]);exact ⟨_,_,rfl,by rw [hres];exact hfin.out.1,hfin.out.2⟩
def NilE {α:Type} (l:List α) (v:Value):Prop:=l=[]→v=.slice none 0 0
theorem NilE.app {α:Type} (l:List α) (x:α) (v:Value):NilE (l ++ [x]) v:=fun h=>by simp at h
theorem P8 {S1 S2:Nat→Prop} (v1 v2:Value) (a:Aj) (w:World) (h1:RL w S1 v1 a.1) (h2:RL w S2 v2 a.2) (ha:Ah a=true) :
 Calls Tryz.prog 227 #[.agg #[v1,v2]] w fun e w'=>∃ x1 x2,e=.returned (.agg #[x1,x2])∧((FE w' w.heap.size x1 (Ss a).1∧FE w' w.heap.size x2 (Ss a).2)∧(((Ss a).1=[]→x1=.slice none 0 0)∧((Ss a).2=[]→x2=.slice none 0 0)))∧Below w.heap.size w w':=by
 have hsz:=DY ha;obtain ⟨a1,a2⟩:=a;simp only at h1 h2 hsz;obtain ⟨p1,c1,rfl⟩:=h1.form;obtain ⟨p2,c2,rfl⟩:=h2.form;have hl1:(a1.length:Int)≤12:=by omega
 have hl2:(a2.length:Int)≤8:=by omega
 have hbA:=Ac (Ac (heap_alloc_new w (.cells #[.slice p1 a1.length c1,.slice p2 a2.length c2] 26)) (Aa _ (.cells #[.slice none 0 0,.slice none 0 0] 26))) (Aa _ (.cells #[.slice none 0 0,.slice none 0 0] 26));have hbR:=heap_alloc_new (w.alloc (.cells #[.slice p1 a1.length c1,.slice p2 a2.length c2] 26)) (.cells #[.slice none 0 0,.slice none 0 0] 26);rw [World.size_alloc] at hbR;have hB0:Below w.heap.size w ((w.alloc (.cells #[.slice p1 a1.length c1,.slice p2 a2.length c2] 26)).alloc (.cells #[.slice none 0 0,.slice none 0 0] 26)):=Bl;have H1:=Ad (An (An hbA hbR) (An hB0 (show ∀ n,n < a2.length→AQ (gd a2 n)=true from fun n hn=>List.all_eq_true.1 hsz.2.2 _ (Be hn))));have HH:=Ad (An h1 h2);clear hbA hbR hB0 ha h1 h2 hsz;go_enter Tryz.func227,Tryz.ntmps227
 go_wp2;go_loopg [14] a1.length (fun q i wr=>∃ (k:Nat) (y1:Value),k+q=a1.length∧i=.int .i64 k∧DB w wr (w.heap.size+1) (w.heap.size+1+1) y1 (.slice none 0 0) (NS (a1.take k)) []∧wr.heap[w.heap.size]?=some (.cells #[.slice p1 a1.length c1,.slice p2 a2.length c2] 26 (0,0))∧NilE (NS (a1.take k)) y1)
 case atStart=>exact ⟨0,_,by omega,rfl,DB.mkA (FE.nil _ _ _) (FE.nil _ _ _) H1.o.1.2 H1.o.2.1 Sp,H1.o.1.1,fun _=>rfl⟩
 case round =>
  obtain ⟨wo,rfl⟩:∃ wo:World,wo=wr:=⟨_,rfl⟩;obtain ⟨gm,hgm⟩:=Ey (gk - 1);obtain ⟨k,y1,hk,rfl,D,hBX,hE⟩:=hrel;obtain ⟨L,hL⟩:=Ex (NS (a1.take k));have hLk:=NU a1 k;rw [hL] at D hLk hE;obtain ⟨ua1,uc1,rfl⟩:=D.f.form;have HNE:=Ad hE;clear hE;obtain ⟨x0,x1,xl⟩:=B3 hBX;have hwz:=D.fr.size;have hbo:=Ae D.boxA;by_cases hk8:k < a1.length
  · have hki:(k:Int) < (a1.length:Int):=by omega
    (have hLi:(L.length:Int)≤12:=by omega);have hst:=NT hk8;obtain ⟨qa,qc,hqe,_,_,hqf⟩:=(HH.o.1.keep D.fr).factAt;simp only [Value.slice.injEq] at hqe;obtain ⟨rfl,_,rfl⟩:=hqe;obtain ⟨b1,o1,rfl,_,hz1,hp1,hp2,hp3⟩:=hqf k hk8;obtain ⟨X,hX⟩:=Ex (gd a1 k);obtain ⟨X1,X2,X3⟩:=X;rw [hX] at hp1 hp2 hp3 hst;rw [hL] at hst;simp only at hp1 hp2 hp3;have HK:=Ad (An hk (An hst hLk));clear hqf hX hL hk hst hLk;have HD:=Ad (An D hBX);clear D hBX;cases hidf:VY (X1,X2,X3) with
    | true =>
      (have hn:NS (a1.take (k+1))=L:=by rw [HK.o.2.1,Do,if_pos hidf]);simp only [VY,Bool.and_eq_true] at hidf;obtain ⟨rfl,hxe⟩:=hidf;have HN:=Ad hn;clear hn;go_wp2;go_roundg (gk - 1)
      case rel=>exact ⟨k+1,_,by have:=HK.o.1;omega,by go_num,by rw [HN.o];exact HD.o.1.keep (Aa _ _),Ac HD.o.2 (Aa _ _),by rw [HN.o];exact HNE.o⟩
      case measure=>have:=HK.o.1;omega
    | false =>
      obtain ⟨Z,hZ⟩:=Ex (KE (X1,X2,X3));(have hn:NS (a1.take (k+1))=if L.any (· == Z)=true then L else L ++ [Z]:=by rw [HK.o.2.1,Do,if_neg (by rw [hidf];decide),hZ]);have hord:(X3 < X2∧Z=(X1,X3,X2))∨(¬ X3 < X2∧Z=(X1,X2,X3)):=by
       rw [KE] at hZ;by_cases h:X3 < X2
       · rw [if_pos h] at hZ;exact .inl ⟨h,hZ.symm⟩
       · rw [if_neg h] at hZ;exact .inr ⟨h,hZ.symm⟩
      obtain ⟨Z1,Z2,Z3⟩:=Z;simp only [Prod.mk.injEq] at hord;have HN:=Ad (An hn hord);clear hn hord hZ;have hcase:X1=false∨(X1=true∧(X2 == X3)=false):=by
       simp only [VY] at hidf;cases X1 with
       | false=>exact .inl rfl
       | true=>exact .inr ⟨rfl,hidf⟩
      clear hidf;rcases hcase with rfl | ⟨rfl,hxe⟩
      all_goals
       go_upto_if 31 with fail
       go_cut [] from 15 to 60 (fun wc=>wc.heap[wo.heap.size]?=some (.cells #[.bool Z1,.int .i64 Z2,.int .i64 Z3] 61 (0,0))∧Below wo.heap.size wo wc)
       case first =>
        rcases HN.o.2 with ⟨hlt,rfl,rfl,rfl⟩ | ⟨hlt,rfl,rfl,rfl⟩
        · go_wp2
          go_meet
          case rel=>exact ⟨heap_alloc_new _ _,Aa _ _⟩
        · go_wp2
          go_meet
          case rel=>exact ⟨heap_alloc_new _ _,Aa _ _⟩
       case rest =>
        obtain ⟨hZc,hbc⟩:=hcut;have HD2:=Ad (An (HD.o.1.keep hbc) (Ac HD.o.2 hbc));have g0:=Lp hZc;have g1:=JZ hZc;have g2:=J0 hZc;have gz:=Ae hZc;have hbo2:=Ae HD2.o.1.boxA;have d0:=Bd HD2.o.1.boxA;have HZ:=Ad hZc;clear hZc hbc x0 x1 hp1 hp2 hp3;go_wp2;go_loopg [6,41] L.length (fun q x i wi=>∃ (j:Nat) (o:Bool),j+q=L.length∧i=.int .i64 j∧x=.bool o∧o=(L.take j).any (· == (Z1,Z2,Z3))∧Below wc.heap.size wc wi)
        case atStart=>exact ⟨0,false,by omega,rfl,rfl,by simp,Below.refl _ _⟩
        case round =>
         obtain ⟨j,o,hj,rfl,rfl,ho,hbi⟩:=hrel;have HJ:=Ad (An hj ho);have HD3:=Ad (An (HD2.o.1.keep hbi) (Ac HD2.o.2 hbi));replace g0:=Ab hbi g0;replace g1:=Ab hbi g1;replace g2:=Ab hbi g2;have gz:=Ae (Ac HZ.o hbi);have hbo3:=Ae HD3.o.1.boxA;have e0:=Bd HD3.o.1.boxA;clear hj ho d0;by_cases hj8:j < L.length
         · have hji:(j:Int) < (L.length:Int):=by omega
           obtain ⟨qa,qc,hqe,_,_,hqf⟩:=HD3.o.1.f.rl.factAt;simp only [Value.slice.injEq] at hqe;obtain ⟨rfl,_,rfl⟩:=hqe;obtain ⟨b2,o2,rfl,_,hz2,hq1,hq2,hq3⟩:=hqf j hj8;have hnx:=LV (p:=fun y=>y == (Z1,Z2,Z3)) hj8;rw [← HJ.o.2] at hnx;obtain ⟨Y,hY⟩:=Ex (gd L j);obtain ⟨Y1,Y2,Y3⟩:=Y;rw [hY] at hq1 hq2 hq3 hnx;simp only [NX] at hq1 hq2 hq3 hnx;have HX:=Ad hnx;clear hqf hY hnx;(have hstp:∀ b:Bool,b=(Y1 == Z1 && (Y2 == Z2 && Y3 == Z3))→(L.take (j+1)).any (fun y=>y == (Z1,Z2,Z3))=(o || b):=fun b e=>by rw [e];exact HX.o);have HS:=Ad hstp;clear hstp;cases o with
           | true =>
             go_wp2;go_roundg (gk - 1)
             case rel=>exact ⟨j+1,true,by have:=HJ.o.1;omega,by go_num,rfl,(HS.o _ rfl).symm,ba hbi _⟩
             case measure=>have:=HJ.o.1;omega
           | false =>
             have hc4:(Y1 == Z1)=false∨((Y1 == Z1)=true∧(Y2 == Z2)=false)∨((Y1 == Z1)=true∧(Y2 == Z2)=true∧(Y3 == Z3)=false)∨((Y1 == Z1)=true∧(Y2 == Z2)=true∧(Y3 == Z3)=true):=by
              cases (Y1 == Z1) <;> cases (Y2 == Z2) <;> cases (Y3 == Z3) <;> simp
             rcases hc4 with e1 | ⟨e1,e2⟩ | ⟨e1,e2,e3⟩ | ⟨e1,e2,e3⟩
             · have HV:=Ad (HS.o false (by rw [e1];rfl))
               go_wp2;go_roundg (gk - 1)
               case rel=>exact ⟨j+1,false,by have:=HJ.o.1;omega,by go_num,rfl,HV.o.symm,ba hbi _⟩
               case measure=>have:=HJ.o.1;omega
             · have HV:=Ad (HS.o false (by rw [e1,e2];rfl))
               go_wp2;go_roundg (gk - 1)
               case rel=>exact ⟨j+1,false,by have:=HJ.o.1;omega,by go_num,rfl,HV.o.symm,ba hbi _⟩
               case measure=>have:=HJ.o.1;omega
             · have HV:=Ad (HS.o false (by rw [e1,e2,e3];rfl))
               go_wp2;go_roundg (gk - 1)
               case rel=>exact ⟨j+1,false,by have:=HJ.o.1;omega,by go_num,rfl,HV.o.symm,ba hbi _⟩
               case measure=>have:=HJ.o.1;omega
             · have HV:=Ad (HS.o true (by rw [e1,e2,e3];rfl))
               go_wp2;go_roundg (gk - 1)
               case rel=>exact ⟨j+1,true,by have:=HJ.o.1;omega,by go_num,rfl,HV.o.symm,ba hbi _⟩
               case measure=>have:=HJ.o.1;omega
         · obtain rfl:j=L.length:=by have:=HJ.o.1;omega
           (have hany:L.any (fun y=>y == (Z1,Z2,Z3))=o:=by have:=HJ.o.2;rw [List.take_length] at this;exact this.symm);have hn2:=HN.o.1;rw [hany] at hn2;have HM:=Ad (An hn2 HK.o.2.2);clear hany hn2;cases o with
           | true =>
             go_wp2;go_roundg gm
             case rel=>exact ⟨k+1,_,by have:=HK.o.1;omega,by go_num,by rw [HM.o.1];exact HD3.o.1,HD3.o.2,by rw [HM.o.1];exact HNE.o⟩
             case measure=>have:=HK.o.1;omega
           | false =>
             have hlk:=HM.o.2;go_wp2_with (at_builtin;go_must (refine Ez (l:=L) (m:=[((Z1,Z2,Z3):Ap)]) (B:=w.heap.size) (by rfl) (.tmp 55) (.tmp 57) _ (by rfl) A0 (by rfl) (HD3.o.1.f.keep (Aa _ _)) (by rfl) (Bm _ _ _ _ _) (by simp;omega) (by simp;omega) ?_;intro v' w7 o7 hf7;obtain ⟨a7,n7,c7,rfl⟩:=o7.forms;have hA7:=AM (Ac HD3.o.1.boxA (Aa wr (.cells #[.bool Z1,.int .i64 Z2,.int .i64 Z3] 61))) hf7 Dc;have hb0:=Bd hA7;have hbz:=BI hA7 0;have hbl7:=Ae hA7;clear hA7))
             have hkp:=Aa wr (.cells #[.bool Z1,.int .i64 Z2,.int .i64 Z3] 61);have D9:=(HD3.o.1.keep hkp).app1 Om Om o7 hf7;have hB9:=Ax (AM (Ac HD3.o.2 hkp) hf7 Dc) ⟨(w.heap.size+1+1),0,none⟩ (.slice a7 n7 c7) (by show ¬ w.heap.size=(w.heap.size+1+1);omega);have H9:=Ad (An D9 hB9);clear D9 hB9 o7 hf7 hkp;go_wp2;go_roundg gm
             case rel=>exact ⟨k+1,_,by have:=HK.o.1;omega,by go_num,by rw [HM.o.1];exact H9.o.1,H9.o.2,by rw [HM.o.1];exact NilE.app _ _ _⟩
             case measure=>have:=HK.o.1;omega
  · obtain rfl:k=a1.length:=by omega
    rw [List.take_length] at hL;(have hLl:L.length≤12:=by omega);obtain ⟨wm,rfl⟩:∃ wm:World,wm=wo:=⟨_,rfl⟩;have HD0:=Ad (An D hBX);have HL:=Ad hL;clear D hBX hL hk;go_wp2;clear x0 x1 xl;go_loopg [64] a2.length (fun q i wr=>∃ (n:Nat) (y2:Value),n+q=a2.length∧i=.int .i64 n∧DB w wr (w.heap.size+1) (w.heap.size+1+1) (.slice ua1 L.length uc1) y2 L (O5 (a2.take n))∧wr.heap[w.heap.size]?=some (.cells #[.slice p1 a1.length c1,.slice p2 a2.length c2] 26 (0,0))∧NilE (O5 (a2.take n)) y2)
    case atStart=>exact ⟨0,_,by omega,rfl,HD0.o.1,HD0.o.2,fun _=>rfl⟩
    case round =>
     obtain ⟨n,y2,hn,rfl,D,hBX,hE⟩:=hrel;obtain ⟨M,hM⟩:=Ex (O5 (a2.take n));have hMn:=NW a2 n;rw [hM] at D hMn hE;obtain ⟨ua2,uc2,rfl⟩:=D.a.form;have HNM:=Ad hE;clear hE;by_cases hn8:n < a2.length
     · have hni:(n:Int) < (a2.length:Int):=by omega
       obtain ⟨x0,x1,xl⟩:=B3 hBX;have hwz:=D.fr.size;have hbo:=Ae D.boxA;have hst:=NV hn8;obtain ⟨qa,qc,hqe,_,_,hqf⟩:=(HH.o.2.keep D.fr).atomAt;simp only [Value.slice.injEq] at hqe;obtain ⟨rfl,_,rfl⟩:=hqe;obtain ⟨b1,o1,rfl,_,hz1,hp1,hp2,hp3⟩:=hqf n hn8;obtain ⟨X,hX⟩:=Ex (gd a2 n);obtain ⟨X1,X2,X3⟩:=X;rw [hX] at hp1 hp2 hp3 hst;rw [hM] at hst;simp only at hp1 hp2 hp3 hst;have HN:=Ad (An hn (An hst hMn));have HD:=Ad (An D hBX);have HA1:=Ad (show AQ (X1,X2,X3)=true by rw [← hX];exact H1.o.2.2 n hn8);clear hqf hX hM hn hst hMn D hBX;have hka:X1=1∨X1=2:=by
        have h:=HA1.o;simp [AQ] at h;omega
       rcases hka with rfl | rfl
       · have hnx:O5 (a2.take (n+1))=M ++ [(1,X2,X3)]:=by rw [HN.o.2.1];simp
         have HX:=Ad hnx;clear hnx;have hlk:=HN.o.2.2;have d1:=AY HD.o.1.boxA;have dz:=BI HD.o.1.boxA 1;have dl:=Ae HD.o.1.boxA;go_wp2_with (at_builtin;go_must (refine Ez (l:=M) (m:=[((1,X2,X3):Am)]) (B:=w.heap.size) (by rfl) (.tmp 79) (.tmp 81) _ (by rfl) A3 (by rfl) (HD.o.1.a.keep (ba (Aa wr (.cells #[.int .i64 1,.int .i64 X2,.int .i64 X3] 118)) (.cells #[.int .i64 1,.int .i64 X2,.int .i64 X3] 118))) (by rfl) (DZ (g:=wr.heap.size+1) Sp _ _ _ _) (by simp;omega) (by simp;omega) ?_;intro v' w7 o7 hf7;obtain ⟨a7,n7,c7,rfl⟩:=o7.forms;have hA7:=AM (Ac HD.o.1.boxA (ba (Aa wr (.cells #[.int .i64 1,.int .i64 X2,.int .i64 X3] 118)) (.cells #[.int .i64 1,.int .i64 X2,.int .i64 X3] 118))) hf7 Dc;have hb0:=AY hA7;have hbz:=BI hA7 1;have hbl7:=Ae hA7;clear hA7))
         have hkp:Below wr.heap.size wr ((wr.alloc (.cells #[.int .i64 1,.int .i64 X2,.int .i64 X3] 118)).alloc (.cells #[.int .i64 1,.int .i64 X2,.int .i64 X3] 118)):=ba (Aa wr (.cells #[.int .i64 1,.int .i64 X2,.int .i64 X3] 118)) (.cells #[.int .i64 1,.int .i64 X2,.int .i64 X3] 118);have D9:=(HD.o.1.keep hkp).app2 Om Om o7 hf7;have hB9:=Ax (AM (Ac HD.o.2 hkp) hf7 Dc) ⟨w.heap.size+1+1,1,none⟩ (.slice a7 n7 c7) (by show ¬ w.heap.size=w.heap.size+1+1;omega);have H9:=Ad (An D9 hB9);clear D9 hB9 o7 hf7 hkp;go_wp2;go_roundg (gk - 1)
         case rel=>exact ⟨n+1,_,by have:=HN.o.1;omega,by go_num,by rw [HX.o];exact H9.o.1,H9.o.2,by rw [HX.o];exact NilE.app _ _ _⟩
         case measure=>have:=HN.o.1;omega
       · cases hxe:(X2 != X3) with
         | false =>
           (have hnx:O5 (a2.take (n+1))=M:=by rw [HN.o.2.1,hxe];simp);have HX:=Ad hnx;clear hnx;go_wp2;go_roundg (gk - 1)
           case rel=>exact ⟨n+1,_,by have:=HN.o.1;omega,by go_num,by rw [HX.o];exact HD.o.1.keep (Aa _ _),Ac HD.o.2 (Aa _ _),by rw [HX.o];exact HNM.o⟩
           case measure=>have:=HN.o.1;omega
         | true =>
           (have hnx:O5 (a2.take (n+1))=M ++ [(2,X2,X3)]:=by rw [HN.o.2.1,hxe];simp);have HX:=Ad hnx;clear hnx;have hlk:=HN.o.2.2;have d1:=AY HD.o.1.boxA;have dz:=BI HD.o.1.boxA 1;have dl:=Ae HD.o.1.boxA;go_wp2_with (at_builtin;go_must (refine Ez (l:=M) (m:=[((2,X2,X3):Am)]) (B:=w.heap.size) (by rfl) (.tmp 79) (.tmp 81) _ (by rfl) A3 (by rfl) (HD.o.1.a.keep (ba (Aa wr (.cells #[.int .i64 2,.int .i64 X2,.int .i64 X3] 118)) (.cells #[.int .i64 2,.int .i64 X2,.int .i64 X3] 118))) (by rfl) (DZ (g:=wr.heap.size+1) Sp _ _ _ _) (by simp;omega) (by simp;omega) ?_;intro v' w7 o7 hf7;obtain ⟨a7,n7,c7,rfl⟩:=o7.forms;have hA7:=AM (Ac HD.o.1.boxA (ba (Aa wr (.cells #[.int .i64 2,.int .i64 X2,.int .i64 X3] 118)) (.cells #[.int .i64 2,.int .i64 X2,.int .i64 X3] 118))) hf7 Dc;have hb0:=AY hA7;have hbz:=BI hA7 1;have hbl7:=Ae hA7;clear hA7))
           have hkp:Below wr.heap.size wr ((wr.alloc (.cells #[.int .i64 2,.int .i64 X2,.int .i64 X3] 118)).alloc (.cells #[.int .i64 2,.int .i64 X2,.int .i64 X3] 118)):=ba (Aa wr (.cells #[.int .i64 2,.int .i64 X2,.int .i64 X3] 118)) (.cells #[.int .i64 2,.int .i64 X2,.int .i64 X3] 118);have D9:=(HD.o.1.keep hkp).app2 Om Om o7 hf7;have hB9:=Ax (AM (Ac HD.o.2 hkp) hf7 Dc) ⟨w.heap.size+1+1,1,none⟩ (.slice a7 n7 c7) (by show ¬ w.heap.size=w.heap.size+1+1;omega);have H9:=Ad (An D9 hB9);clear D9 hB9 o7 hf7 hkp;go_wp2;go_roundg (gk - 1)
           case rel=>exact ⟨n+1,_,by have:=HN.o.1;omega,by go_num,by rw [HX.o];exact H9.o.1,H9.o.2,by rw [HX.o];exact NilE.app _ _ _⟩
           case measure=>have:=HN.o.1;omega
     · obtain rfl:n=a2.length:=by omega
       rw [List.take_length] at hM;have x0:=Bd hBX;have x1:=AY hBX;obtain ⟨b0,b1,bz,bl⟩:=B4 D.boxA;obtain ⟨r0,r1,rz,rl⟩:=B4 D.boxR;have r:=Au (.slice ua1 L.length uc1) (.slice ua2 M.length uc2) r0 r1;have HO:=Ad (An hM (D.done Om (.slice ua1 L.length uc1) (.slice ua2 M.length uc2)));clear D hBX hM hn;go_wp2;refine bodyPost_ret (v:=.agg #[.slice ua1 L.length uc1,.slice ua2 M.length uc2]) (by simp [results,Tryz.results227,go_sem,r.1,r.2]) rfl ?_;exact ⟨_,_,rfl,by rw [Ss,HL.o,HO.o.1];exact ⟨HO.o.2.1,HNE.o,HNM.o⟩,HO.o.2.2⟩
end Go.Proofs.YtkbbmjcfgcfejaaGreat
