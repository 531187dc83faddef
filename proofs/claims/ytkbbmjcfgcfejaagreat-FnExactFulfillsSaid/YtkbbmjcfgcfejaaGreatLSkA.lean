/- SkA: texts Sk1, SkA in one. -/
import Derived.Test.YtkbbmjcfgcfejaaGreatLMtc3
import Derived.Test.YtkbbmjcfgcfejaaGreatLItrB
set_option linter.unusedVariables false
set_option linter.unusedSimpArgs false
set_option maxRecDepth 100000
set_option maxHeartbeats 12800000
namespace Go.Proofs.YtkbbmjcfgcfejaaGreat
open Go.RowKit
theorem Tw {m c:Nat} (h:c≤8):AN m (c:Int)=m.testBit c:=by
 rw [AN,At.2 Om,Bool.true_and,Int.toNat_natCast]
theorem PW {cl:List Int} {m k:Nat} {l:List Am} (h:k < l.length):Bh cl m (l.drop k)=if (gd l k).1 ≠ 1∨gi cl (gd l k).2.1.toNat < 0 then Bh cl m (l.drop (k+1)) else
 if (gi cl (gd l k).2.1.toNat == 0 || AN m (gi cl (gd l k).2.1.toNat))=true then false else Bh cl (As m (gi cl (gd l k).2.1.toNat)) (l.drop (k+1)):=by
 rw [Ih h,Bh]
theorem Dh {S:Nat→Prop} (v cv:Value) (l:List Am) (cl:List Int) (w:World) (h:RL w S v l) (hc:RInts w cv cl) (hx:l.all AQ=true) (hc9:cl.length=9) (h8:∀ i,i < 9→gi cl i≤8) :
 Calls Tryz.prog 257 #[v,cv] w fun e w'=>e=.returned (.bool (Bh cl 0 l))∧Below w.heap.size w w':=by
 have hmk:=Ta;have hm:=h.len;unfold maxLen at hm;obtain ⟨a,c,rfl,_,_,hf1⟩:=h.atomAt;have F1:=Ad hf1;have HB:=Ad (FD hx);obtain ⟨cb,co,cc,rfl,_,_,hcell⟩:=hc.ne Om;have HC:=Ad hcell;have HC9:=Ad hc9;have H8:=Ad h8;have hbw:=Jd (LS w w.heap.size (Nat.le_refl _));have HBW:=Ad hbw;clear hf1 h hx hcell hc9 hc h8 hbw;go_enter Tryz.func257,Tryz.ntmps257
 go_wp2;go_loopg [6] l.length (fun q i wr=>∃ k m:Nat,k+q=l.length∧i=.int .i64 k∧Bh cl 0 l=Bh cl m (l.drop k)∧BW wr w.heap.size 9 m∧Below w.heap.size w wr)
 case atStart=>exact ⟨0,0,by omega,rfl,rfl,HBW.o,Aa _ _⟩
 case round =>
  clear hmk;obtain ⟨k,m,hk,rfl,he,hbw,hb⟩:=hrel;have HK:=Ad hk;have HE:=Ad he;clear hk he;by_cases hk8:k < l.length
  · obtain ⟨b1,o1,rfl,_,hbl1,hp1,hp2,hp3⟩:=F1.o k hk8
    replace hp1:=Ab hb hp1;replace hp2:=Ab hb hp2;have hs:=hb.size;(have i1:(k:Int) < (l.length:Int):=by omega);(have hzb:b1 < wr.heap.size:=by omega);have hst:=PW (cl:=cl) (m:=m) hk8;obtain ⟨t1,t2,_,_⟩:=BH (HB.o k hk8);obtain ⟨i,hi⟩:=Int.eq_ofNat_of_zero_le t1;(have hi9:(i:Int) < (cl.length:Int):=by rw [HC9.o];omega);(have hi':i < cl.length:=by rw [HC9.o];omega);have hci:=Ab hb (HC.o i hi');have hzc:cb < wr.heap.size:=World.block_lt_of_cell? wr _ hci;have hc8:=H8.o i Om;rw [hi] at hp2 hst;rw [Int.toNat_natCast] at hst;obtain ⟨C,hC⟩:∃ x,gi cl i=x:=⟨_,rfl⟩;obtain ⟨K1,hK1⟩:∃ x,(gd l k).1=x:=⟨_,rfl⟩;rw [hC] at hci hst hc8;rw [hK1] at hp1 hst;clear hi t1 t2 hC hK1 hp3 hi';by_cases hk1:K1=1
    · have hkb:(K1 != 1)=false:=by simp [hk1]
      by_cases hc0:C < 0
      · have HN:=Ad (show Bh cl 0 l=Bh cl m (l.drop (k+1)) by rw [HE.o,hst,if_pos (.inr hc0)])
        clear hst hk1;go_wp2;go_roundg (gk - 1)
        case rel=>exact ⟨k+1,m,by have:=HK.o;omega,by go_num,HN.o,hbw,hb⟩
        case measure=>have:=HK.o;omega
      obtain ⟨n,rfl⟩:=Int.eq_ofNat_of_zero_le (show 0≤C by omega);(have hn8:n≤8:=by omega);(have hn9:(n:Int) < 9:=by omega);rw [if_neg (by rintro (h | h);exact h hk1;exact hc0 h),Tw hn8,Df hn8] at hst;have hbit:=hbw.cell n Om;have hfz:=hbw.fz n Om;have hzw:=hbw.lt;by_cases hn0:n=0
      · have hnb:((n:Int) == 0)=true:=by simp [hn0]
        have HN:=Ad (show Bh cl 0 l=false by rw [HE.o,hst,if_pos (by rw [hnb];rfl)]);clear hst hk1 hn0;go_wp2;go_returns;exact ⟨by rw [HN.o];rfl,hb⟩
      (have hnb:((n:Int) == 0)=false:=by simp [hn0]);cases hbt:m.testBit n with
      | true =>
        rw [hbt] at hbit;have HN:=Ad (show Bh cl 0 l=false by rw [HE.o,hst,if_pos (by rw [hbt];simp)]);clear hst hk1 hn0 hbt;go_wp2;go_returns;exact ⟨by rw [HN.o];rfl,hb⟩
      | false =>
        rw [hbt] at hbit;have HN:=Ad (show Bh cl 0 l=Bh cl (m ||| 2 ^ n) (l.drop (k+1)) by rw [HE.o,hst,if_neg (by rw [hbt,hnb];simp)]);clear hst hk1 hn0 hbt;have H2:=Ad (hbw.set (i:=n) Om);clear hbw;go_wp2;go_roundg (gk - 1)
        case rel=>exact ⟨k+1,m ||| 2 ^ n,by have:=HK.o;omega,by go_num,HN.o,H2.o,hb.setCell (p:=⟨w.heap.size,n,none⟩) (Nat.le_refl _) _⟩
        case measure=>have:=HK.o;omega
    · have hkb:(K1 != 1)=true:=by simp [hk1]
      have HN:=Ad (show Bh cl 0 l=Bh cl m (l.drop (k+1)) by rw [HE.o,hst,if_pos (.inl hk1)]);clear hst hk1;go_wp2;go_roundg (gk - 1)
      case rel=>exact ⟨k+1,m,by have:=HK.o;omega,by go_num,HN.o,hbw,hb⟩
      case measure=>have:=HK.o;omega
  · obtain rfl:k=l.length:=by have:=HK.o;omega
    have HN:=Ad (show Bh cl 0 l=true by rw [HE.o,List.drop_length];rfl);go_wp2;go_returns;exact ⟨by rw [HN.o];rfl,hb⟩
theorem MS {cl:List Int} {l:List Am} (h:l.all AQ=true):∀ y ∈ Az cl l,y.1=1∨(y.1=2∧y.2.1 ≠ y.2.2):=fun y hy=>by
 obtain ⟨x,hx,rfl⟩:=List.mem_map.1 hy;obtain ⟨hx1,hx2⟩:=List.mem_filter.1 hx;have hk:=(List.all_eq_true.1 h) x hx1;simp only [AQ,Bool.and_eq_true,Bool.or_eq_true,beq_iff_eq] at hk;simp only [De,Bool.or_eq_true,beq_iff_eq,bne_iff_ne] at hx2;simp only [Un];rcases hk.1 with h1 | h1
 · exact .inl h1
 · rcases hx2 with h2 | h2
   · exact .inl h2
   · exact .inr ⟨h1,h2⟩
theorem PX {S1 S2 S3 S4:Nat→Prop} (v1 v2 u1 u2 cv:Value) (a b:Aj) (cl:List Int) (w:World) (h1:RL w S1 v1 a.1) (h2:RL w S2 v2 a.2) (k1:RL w S3 u1 b.1) (k2:RL w S4 u2 b.2) (hc:RInts w cv cl)
 (ha:Ah a=true) (hb:Ah b=true) (hc9:cl.length=9) :
 Calls Tryz.prog 260 #[.agg #[v1,v2],.agg #[u1,u2],cv] w fun e w'=>e=.returned (.bool (b.1.all (Bu cl) && (CJ (Az cl a.2) (Az cl b.2)).isSome))∧Below w.heap.size w w':=by
 obtain ⟨xa1,xc1,rfl⟩:=h1.form;obtain ⟨xa2,xc2,rfl⟩:=h2.form;obtain ⟨ya1,yc1,rfl⟩:=k1.form;obtain ⟨ya2,yc2,rfl⟩:=k2.form;obtain ⟨ca,cc,rfl⟩:=hc.form;have fa:=CK ha;have fb:=CK hb;have FA:=Ad (An fa fb);have HC9:=Ad hc9;have hl2:(a.2.length≤1048576∧b.2.length≤1048576)∧(Az cl a.2).length≤6:=⟨⟨by have:=fa.2;omega,by have:=fb.2;omega⟩,Nat.le_trans (EX _ _) fa.2⟩;have HL2:=Ad hl2;obtain ⟨fbb,hfb⟩:∃ r,b.1.all (Bu cl)=r:=⟨_,rfl⟩;obtain ⟨q,hq⟩:∃ r,(CJ (Az cl a.2) (Az cl b.2)).isSome=r:=⟨_,rfl⟩;rw [hfb,hq];have HFB:=Ad hfb;have HQ:=Ad hq;have HKD:=Ad (MS (cl:=cl) fb.1.2);have hc1:((w.alloc (.cells #[.slice xa1 a.1.length xc1,.slice xa2 a.2.length xc2] 26)).alloc (.cells #[.slice ya1 b.1.length yc1,.slice ya2 b.2.length yc2] 26)).cell? ⟨w.heap.size,1,none⟩=some (.slice xa2 a.2.length xc2):=by simp [go_sem]
 have hd0:((w.alloc (.cells #[.slice xa1 a.1.length xc1,.slice xa2 a.2.length xc2] 26)).alloc (.cells #[.slice ya1 b.1.length yc1,.slice ya2 b.2.length yc2] 26)).cell? ⟨w.heap.size+1,0,none⟩=some (.slice ya1 b.1.length yc1):=by simp [go_sem]
 have hd1:((w.alloc (.cells #[.slice xa1 a.1.length xc1,.slice xa2 a.2.length xc2] 26)).alloc (.cells #[.slice ya1 b.1.length yc1,.slice ya2 b.2.length yc2] 26)).cell? ⟨w.heap.size+1,1,none⟩=some (.slice ya2 b.2.length yc2):=by simp [go_sem]
 have hW:Below w.heap.size w ((w.alloc (.cells #[.slice xa1 a.1.length xc1,.slice xa2 a.2.length xc2] 26)).alloc (.cells #[.slice ya1 b.1.length yc1,.slice ya2 b.2.length yc2] 26)):=Bl;have HX:=Ad (An hc1 (An (An hd0 hd1) hW));clear fa fb hl2 hfb hq ha hb hc9 hc1 hd0 hd1 hW;go_enter Tryz.func260,Tryz.ntmps260
 go_wp2;generalize ((w.alloc (.cells #[.slice xa1 a.1.length xc1,.slice xa2 a.2.length xc2] 26)).alloc (.cells #[.slice ya1 b.1.length yc1,.slice ya2 b.2.length yc2] 26))=w0 at HX ⊢;have hc1:=HX.o.1;have hd0:=HX.o.2.1.1;have hd1:=HX.o.2.1.2;have hW:=HX.o.2.2;have q2:=h2.keep hW;have q3:=k1.keep hW;have q4:=k2.keep hW;have qc:=hc.keep hW;have z1:=World.block_lt_of_cell? w0 _ hc1;have z2:=World.block_lt_of_cell? w0 _ hd0;simp only at z1 z2;clear h1 h2 k1 k2 hc;cases fbb with
 | false =>
   refine Af Kr Kr ?_;repeat (go_big_quiet_step ((go_at_call 256;first
    | with_reducible exact Eu (cb (CH (.slice ya1 b.1.length yc1) (.slice ca cl.length cc) b.1 cl _ (q3.keep (AV _ _)) (qc.keep (AV _ _)) FA.o.2.1.1 HC9.o) HFB.o))))
   refine wpQuiet_nil ?_;intro w5 hb5;go_wp2;go_returns;exact ⟨rfl,bt hW hb5⟩
 | true =>
   go_region_held3 (fun w'=>w'.cell? ⟨w.heap.size,1,none⟩=some (.slice xa2 a.2.length xc2)∧(w'.cell? ⟨w.heap.size+1,0,none⟩=some (.slice ya1 b.1.length yc1)∧w'.cell? ⟨w.heap.size+1,1,none⟩=some (.slice ya2 b.2.length yc2)))
    (exact ⟨Ab Bl hc1,Ab Bl hd0,Ab Bl hd1⟩)
    (first
      | (go_at_call 256;(with_reducible refine (cb (CH (.slice ya1 b.1.length yc1) (.slice ca cl.length cc) b.1 cl _ (q3.keep Bl) (qc.keep Bl) FA.o.2.1.1 HC9.o) HFB.o).mono ?_);rintro e w2 ⟨rfl,hb2'⟩;have hb2:Below w0.heap.size w0 w2:=bt Bl hb2')
      | (go_at_call 259;(with_reducible refine (DV (.slice ca cl.length cc) (.slice xa2 a.2.length xc2) cl a.2 _ (qc.keep Bl) HC9.o (q2.keep Bl) FA.o.1.1.2 HL2.o.1.1).mono ?_);rintro e w5 ⟨vL,rfl,hL,hb5'⟩;have hLr:=hL.rl;obtain ⟨la,lc,rfl⟩:=hLr.form;have hb5:Below w0.heap.size w0 w5:=bt (bt hb2 Bl) hb5')
      | (go_at_call 259;(with_reducible refine (DV (.slice ca cl.length cc) (.slice ya2 b.2.length yc2) cl b.2 _ (qc.keep Bl) HC9.o (q4.keep Bl) FA.o.2.1.2 HL2.o.1.2).mono ?_);rintro e w6 ⟨vR,rfl,hR,hb6'⟩;have hRr:=hR.rl;obtain ⟨ra,rc,rfl⟩:=hRr.form;have hb56:Below w5.heap.size w5 w6:=bt Bl hb6';have hb6:Below w0.heap.size w0 w6:=bt hb5 hb56)
      | (go_at_call 279;(with_reducible refine (cb (N5 (.slice la (Az cl a.2).length lc) (.slice ra (Az cl b.2).length rc) (Az cl a.2) (Az cl b.2) _ ((hLr.keep hb56).keep Bl) (hRr.keep Bl) HL2.o.2 HKD.o) HQ.o).mono ?_);rintro e w7 ⟨rfl,hb7'⟩;have hb7:Below w0.heap.size w0 w7:=bt (bt hb6 Bl) hb7'))
   go_wp2;go_returns;exact ⟨rfl,bt hW hb7⟩
theorem Er {w:World} {ops:Array Oper} {rest:List Oper} {o:Oper} {a:Act} {Q:Exit→Act→World→Prop} (hgd:o.guard=none) (s x:Operand)
 (ho:o.op=.call { callee:=.builtin .append,args:=#[s,x],argTypes:=#[27,27] }) (hs:a.eval s=.slice (some ⟨w.heap.size,0,none⟩) 0 0) {v:Value} {l:List Int} (hx:a.eval x=v)
 (hr:RInts w v l) (hl:l.length≤1048576) (hp:0 < l.length)
 (h:∀ g cap w',w'.ownsRow w.heap.size 3 1 (.slice (some ⟨g,0,none⟩) l.length cap) l.length (ints l)→Below w.heap.size w w'→wpList Tryz.prog ops Q rest (a.put o.dst (.slice (some ⟨g,0,none⟩) l.length cap)) w') :
 wpList Tryz.prog ops Q (o :: rest) a (w.alloc (.cells #[] 3)):=by
 obtain ⟨b,oo,c,rfl,_,_,_⟩:=hr.ne hp;obtain ⟨i0,hi,hz0,hz1,hz2⟩:=info_parts Ht;have hown:(w.alloc (.cells #[] 3)).ownsRow w.heap.size 3 1 (.slice (some ⟨w.heap.size,0,none⟩) 0 0) 0 (ints []):=World.ownsRow_lit (size:=1) w #[] 0 (Nat.le_refl _) (by unfold maxLen;omega) rfl;refine wpList_append_lies _ hgd s x 27 ho w.heap.size 3 i0 (.int .i64 0) 1 8 Tryz.underlying27 hi hz0 hz1 hz2 rfl Dc _ 0 (ints []) hs hown ⟨b,oo,none⟩ l.length c (ints l) hx (by simp [ints]) (hr.alloc _).news ?_ hp (by unfold maxLen;omega) Om Sp _ rfl ?_
 · intro u hu
   simp [ints] at hu;obtain ⟨_,_,rfl⟩:=hu;rfl
 · intro g cap w' hown' hgrow _ _
   rw [Nat.zero_add] at hown' ⊢;(have e0':ints [] ++ ints l=ints l:=by simp [ints]);rw [e0'] at hown';refine h g cap w' hown' (((Below.fr (Aa w (.cells #[] 3))).then (AF hgrow) fun i hi e=>?_).below (Nat.le_refl _) fun _ _ h=>h);simp [Value.ownBlock] at e;omega
structure ClsP (M:Nat) (p q:List Int) (t:Nat):Prop where
 hp:p.length=t
 hq:q.length=9
 ag:∀ i,i < t→gi q i=gi p i
 neg:∀ i,t≤i→i < 9→gi q i=-1
 st:∀ i,i < t→Fi M q i=true
section
variable {M:Nat} {p q:List Int} {t:Nat} {a:Aj}
theorem ClsP.le8 (h:ClsP M p q t):∀ i,i < 9→gi q i≤8:=fun i hi=>by
 by_cases hlt:i < t
 · have:=h.st i hlt
   rw [Fi] at this;split at this
   · simp only [Bool.and_eq_true,decide_eq_true_eq] at this;omega
   · rw [beq_iff_eq] at this;omega
 · rw [h.neg i Om hi];decide
theorem ClsP.skip (h:ClsP M p q t) (ht:t < 9) (hb:M.testBit t=false):ClsP M (p ++ [-1]) q (t+1) where
 hp:=by simp [h.hp]
 hq:=h.hq
 ag i hi:=by
  by_cases e:i=t
  · subst e;rw [h.neg i (Nat.le_refl _) ht,← h.hp,MO]
  · rw [h.ag i Om,KR (by rw [h.hp];omega)]
 neg i h1 h2:=h.neg i Om h2
 st i hi:=by
  by_cases e:i=t
  · subst e;rw [Fi,if_neg (by rw [hb];decide),h.neg i (Nat.le_refl _) ht];rfl
  · exact h.st i Om
theorem ClsP.next (h:ClsP M p q t) (ht:t < 9) (hb:M.testBit t=true) {k:Nat} (hk:(k < t∧gi q k=(k:Int))∨k=t):ClsP M (p ++ [(k:Int)]) (q.set t (k:Int)) (t+1) where
 hp:=by simp [h.hp]
 hq:=by rw [List.length_set];exact h.hq
 ag i hi:=by
  have:=Jg (p:=p) (q:=q) h.hq (by rw [h.hp];exact ht) (fun i hi=>h.ag i (by rw [← h.hp];exact hi)) (k:Int) i (by simp [h.hp];omega);rwa [h.hp] at this
 neg i h1 h2:=by rw [Cc (by omega)];exact h.neg i Om h2
 st i hi:=by
  by_cases e:i=t
  · subst e
    rw [Fi,if_pos hb,Gv (by rw [h.hq];exact ht),Int.toNat_natCast];simp only [Bool.and_eq_true,decide_eq_true_eq,beq_iff_eq];refine ⟨by omega,by omega,?_⟩;rcases hk with ⟨h1,h2⟩ | rfl
    · rw [Cc (by omega)];exact h2
    · exact Gv (by rw [h.hq];exact ht) _
  · have hs:=h.st i Om
    rw [Fi,Cc (by omega)];rw [Fi] at hs;split
    · rename_i hb'
      rw [if_pos hb'] at hs;simp only [Bool.and_eq_true,decide_eq_true_eq,beq_iff_eq] at hs ⊢;refine ⟨hs.1,hs.2.1,?_⟩;rw [Cc (by omega)];exact hs.2.2
    · rename_i hb'
      rw [if_neg hb'] at hs;exact hs
theorem ClsP.shape (h:ClsP M p q 9):C5 M q=true:=by
 rw [C5,h.hq,Bool.and_eq_true];exact ⟨rfl,List.all_eq_true.2 fun i hi=>h.st i (List.mem_range.1 hi)⟩
theorem ClsP.cut (h:ClsP M p q t) {n:Nat} (ha:Ah a=true) (hf:(a.1.all (Bu q) && Bh q 0 a.2)=false):Bq M a n p=[] :=
 RF ha (fun i hi=>h.ag i (by rw [← h.hp];exact hi)) (fun i h1 h2=>by rw [h.neg i (by rw [← h.hp];exact h1) h2];decide) hf
theorem N9 (ha:Ah a=true) (hs:C5 M q=true) (hcov:∀ j,(Ak a).testBit j=true→M.testBit j=true):Bi q 8 a=(a.1.all (Bu q) && CG (Az q a.2)):=by
 have hcl:∀ t:Int,Al t=true→(Ak a).testBit t.toNat=true→0≤gi q t.toNat∧gi q t.toNat≤8:=fun t ht hb=>by
  have h8:=At.1 ht;have:=Fk hs (t:=t.toNat) Om (hcov _ hb);omega
 unfold Bi;congr 1
 · rw [Bool.eq_iff_iff,List.all_eq_true,List.all_eq_true]
   have key:∀ f ∈ a.1,GZ q 8 f=Bu q f:=fun f hf=>by
    obtain ⟨⟨p1,p2⟩,⟨q1,q2⟩⟩:=GJ ha hf;have e1:=At.1 p1;have e2:=At.1 q1;have c1:=hcl _ p1 p2;have c2:=hcl _ q1 q2;rw [GZ,if_pos ⟨e1.2,e2.2⟩,Bu,decide_eq_true c1.1,decide_eq_true c2.1,B5];cases gi q f.2.1.toNat == gi q f.2.2.toNat <;> cases f.1 <;> rfl
   exact ⟨fun h f hf=>by rw [← key f hf];exact h f hf,fun h f hf=>by rw [key f hf];exact h f hf⟩
 · rw [FL (MR ha).2 fun x hx=>?_]
   obtain ⟨⟨p1,p2⟩,_⟩:=I1 ha hx;exact At.2 (hcl _ p1 p2)
theorem ClsP.fin (h:ClsP M p q 9) (ha:Ah a=true) (hcov:∀ j,(Ak a).testBit j=true→M.testBit j=true) (hf:a.1.all (Bu q)=true):Bq M a 0 p=if CG (Az q a.2)=true then [q] else []:=by
 have e:=KS h.hq h.hp (fun i hi=>h.ag i (by rw [← h.hp];exact hi));subst e;rw [I6,N9 ha h.shape hcov,hf,Bool.true_and]
end
theorem KV {α:Type} {P:α→Bool} {l m xs:List α} (h:l ++ m <+: xs) (hl:l.find? P=none) {x:α} (hm:m.find? P=some x):xs.find? P=some x:=by
 obtain ⟨t,rfl⟩:=h;rw [List.find?_append,List.find?_append,hl,hm];rfl
theorem E7 {α:Type} {P:α→Bool} {l m:List α} (hl:l.find? P=none) (hm:m.find? P=none):(l ++ m).find? P=none:=by
 rw [List.find?_append,hl,hm];rfl
def Dz (k:Nat):List Int:=0 :: Rt (-1) k
theorem Hj (w:World):Calls Tryz.prog 223 #[] w fun e w'=>∃ v,e=.returned v∧w'.ownsRow w.heap.size 3 1 v 9 (ints (Dz 8))∧Below w.heap.size w w':=by
 have hown:(w.alloc (.cells #[.int .i64 0] 3)).ownsRow w.heap.size 3 1 (.slice (some ⟨w.heap.size,0,none⟩) 1 1) 1 (ints (Dz 0)):=World.ownsRow_lit (size:=1) w #[.int .i64 0] 1 (Nat.le_refl _) (by unfold maxLen;omega) rfl;have HO:=Ad hown;clear hown;go_enter Tryz.func223,Tryz.ntmps223
 go_wp2;go_loopg [1] 8 (fun q x wr=>∃ k:Nat,k+q=8∧wr.ownsRow w.heap.size 3 1 x (k+1) (ints (Dz k))∧Below w.heap.size w wr)
 case atStart=>exact ⟨0,by omega,HO.o,Aa _ _⟩
 case round =>
  obtain ⟨k,hk,ho,hb⟩:=hrel;have HK:=Ad hk;obtain ⟨a,c,rfl,_⟩:=Hy ho;by_cases hk8:k < 8
  · have hki:(k:Int)+1≤8:=by omega
    (have hl:(Dz k).length=k+1:=by simp [Dz,Rt]);have HO2:=Ad ho;have hs:=hb.size;clear hk;go_wp2_with (at_builtin;go_must (refine Fv _ rfl _ _ rfl w.heap.size _ (Dz k) rfl (by rw [hl];exact Ag HO2.o (Aa _ _)) ⟨wr.heap.size,0,none⟩ (-1) rfl (DE _ _ _) Om (by simp;omega) ?_;intro v' w7 own7 hf7))
    (have he:Dz k ++ [-1]=Dz (k+1):=by simp [Dz,Rt,List.replicate_succ']);(have hl2:(Dz (k+1)).length=k+1+1:=by simp [Dz,Rt]);rw [he,hl2] at own7;have HN:=Ad (An own7 (Ce (Ag HO2.o (Aa _ (.cells #[.int .i64 (-1)] 3))) hf7 (bt hb (Aa _ _)) (by simp;omega)));clear own7 hf7 he hl2;go_roundg (gk - 1)
    case rel=>exact ⟨k+1,by have:=HK.o;omega,HN.o.1,HN.o.2⟩
    case measure=>have:=HK.o;omega
  · obtain rfl:k=8:=by have:=HK.o;omega
    go_wp2;go_ret;exact ⟨_,rfl,ho,hb⟩
def Gx (M:Nat) (a:Aj) (n:Nat):Prop:=∀ {S1 S2:Nat→Prop} (v1 v2 cv:Value) (Mf g fc t:Nat) (ti:Int) (p q:List Int) (r:Option (List Int)) (w:World) (_h1:RL w S1 v1 a.1) (_h2:RL w S2 v2 a.2) (_hbw:BW w g 9 Mf) (_hc:RInts w cv q) (_hbit:∀ j,1≤j→M.testBit j=Mf.testBit j)
    (_hti:ti=(t:Int)) (_ht1:1≤t) (_htn:t+n=9) (_hP:ClsP M p q t) (_hr:(Bq M a n p).find? (fun _=>true)=r),
    Calls Tryz.prog 224 #[.agg #[v1,v2],.slice (some ⟨g,0,none⟩) 9 fc,cv,.int .i64 ti] w fun e w'=>∃ v',e=.returned (.tuple #[v',.bool r.isSome])∧(∀ cl,r=some cl→w'.ownsRow w.heap.size 3 1 v' cl.length (ints cl))∧Below w.heap.size w w'
theorem PY {M:Nat} {a:Aj} (ha:Ah a=true) (hcov:∀ j,(Ak a).testBit j=true→M.testBit j=true):Gx M a 0:=by
 intro S1 S2 v1 v2 cv Mf g fc t ti p q r w h1 h2 hbw hc hbit hti ht1 htn hP hr;obtain ⟨xa1,xc1,rfl⟩:=h1.form;obtain ⟨xa2,xc2,rfl⟩:=h2.form;obtain ⟨ca,cc,rfl⟩:=hc.form;have fa:=CK ha;have FA:=Ad fa;have H8:=Ad hP.le8;have HP:=Ad hP;have HQ9:=Ad hP.hq;have hl2:a.2.length≤1048576:=by have:=fa.2;omega
 have c0:(w.alloc (.cells #[.slice xa1 a.1.length xc1,.slice xa2 a.2.length xc2] 26)).cell? ⟨w.heap.size,0,none⟩=some (.slice xa1 a.1.length xc1):=by simp [go_sem]
 have c1:(w.alloc (.cells #[.slice xa1 a.1.length xc1,.slice xa2 a.2.length xc2] 26)).cell? ⟨w.heap.size,1,none⟩=some (.slice xa2 a.2.length xc2):=by simp [go_sem]
 have hW:Below w.heap.size w (w.alloc (.cells #[.slice xa1 a.1.length xc1,.slice xa2 a.2.length xc2] 26)):=Bl;have HX:=Ad (An (An c0 c1) (An hW trivial));have hg:=hbw.lt;obtain ⟨f1,hf1⟩:∃ x,a.1.all (Bu q)=x:=⟨_,rfl⟩;obtain ⟨f2,hf2⟩:∃ x,Bh q 0 a.2=x:=⟨_,rfl⟩;have HF1:=Ad hf1;have HF2:=Ad hf2;have HR:=Ad hr;clear c0 c1 hW fa hf1 hf2 hr hP;obtain rfl:ti=(t:Int):=hti;have hcw:=Ad hc;have HBW:=Ad hbw;have HTN:=Ad htn;have HBIT:=Ad hbit;clear hc hbw htn hbit;obtain rfl:t=9:=by have:=HTN.o;omega
 have HNo:=Ad (show (f1 && f2)=false→r=none by
  intro hf;rw [← HR.o,HP.o.cut ha (by rw [HF1.o,HF2.o];exact hf)];rfl)
 go_enter Tryz.func224,Tryz.ntmps224
 go_wp2_with fail
 generalize (w.alloc (.cells #[.slice xa1 a.1.length xc1,.slice xa2 a.2.length xc2] 26))=w0 at HX ⊢;have c0:=HX.o.1.1;have c1:=HX.o.1.2;have hW:=HX.o.2.1;refine (cb (CH _ _ a.1 q _ (h1.keep hW) (hcw.out.keep hW) FA.o.1.1 HQ9.o) HF1.o).mono ?_;rintro e w1 ⟨rfl,hb⟩;replace c0:=Ab hb c0;replace c1:=Ab hb c1;replace hW:=bt hW hb;clear hb;cases f1 with
 | false =>
   have HN:=Ad (HNo.o rfl);go_wp2;go_returns;exact ⟨_,by rw [HN.o];rfl,fun cl e=>(by rw [HN.o] at e;cases e),bt hW Bl⟩
 | true =>
   (go_wp2_with fail);refine (cb (Dh _ _ a.2 q _ (h2.keep hW) (hcw.out.keep hW) FA.o.1.2 HQ9.o H8.o) HF2.o).mono ?_;rintro e w2 ⟨rfl,hb⟩;replace c0:=Ab hb c0;replace c1:=Ab hb c1;replace hW:=bt hW hb;clear hb;cases f2 with
   | false =>
     have HN:=Ad (HNo.o rfl);go_wp2;go_returns;exact ⟨_,by rw [HN.o];rfl,fun cl e=>(by rw [HN.o] at e;cases e),bt hW Bl⟩
   | true =>
     obtain ⟨ap,hap⟩:∃ x,CG (Az q a.2)=x:=⟨_,rfl⟩;have hfin:=HP.o.fin ha hcov HF1.o;rw [hap] at hfin;have HAP:=Ad hap;have HFIN:=Ad hfin;clear hap hfin;(go_wp2_with fail);refine (DV _ _ q a.2 _ (hcw.out.keep hW) HQ9.o (h2.keep hW) FA.o.1.2 hl2).mono ?_;rintro e w3 ⟨vL,rfl,hL,hb⟩;have hLr:=hL.rl;obtain ⟨la,lc,rfl⟩:=hLr.form;replace c0:=Ab hb c0;replace c1:=Ab hb c1;replace hW:=bt hW hb;clear hb hL;(go_wp2_with fail);refine (cb (Gj _ (Az q a.2) _ hLr) HAP.o).mono ?_;rintro e w4 ⟨rfl,hb⟩;replace c0:=Ab hb c0;replace c1:=Ab hb c1;replace hW:=bt hW hb;clear hb hLr;cases ap with
     | false =>
       have HN:=Ad (show r=none by rw [← HR.o,HFIN.o];rfl);go_wp2;go_returns;exact ⟨_,by rw [HN.o];rfl,fun cl e=>(by rw [HN.o] at e;cases e),bt hW Bl⟩
     | true =>
       have HN:=Ad (show r=some q by rw [← HR.o,HFIN.o];rfl);go_wp2_with (at_builtin;go_must (refine Er rfl _ _ rfl rfl rfl (hcw.out.keep hW) (by rw [HQ9.o];decide) (by rw [HQ9.o];decide) ?_;intro g9 c9 w9 E4 hb9))
       go_returns;exact ⟨_,by rw [HN.o];rfl,fun cl e=>(by rw [HN.o] at e;injection e with e;subst e;exact BK E4 hW.size),bt hW hb9⟩
theorem PZ {M:Nat} {a:Aj} (ha:Ah a=true) {n:Nat} (ih:Gx M a n):Gx M a (n+1):=by
 intro S1 S2 v1 v2 cv Mf g fc t ti p q r w h1 h2 hbw hc hbit hti ht1 htn hP hr;obtain ⟨xa1,xc1,rfl⟩:=h1.form;obtain ⟨xa2,xc2,rfl⟩:=h2.form;obtain ⟨ca,cc,rfl⟩:=hc.form;have fa:=CK ha;have FA:=Ad fa;have H8:=Ad hP.le8;have HP:=Ad hP;have HQ9:=Ad hP.hq;have hl2:a.2.length≤1048576:=by have:=fa.2;omega
 have c0:(w.alloc (.cells #[.slice xa1 a.1.length xc1,.slice xa2 a.2.length xc2] 26)).cell? ⟨w.heap.size,0,none⟩=some (.slice xa1 a.1.length xc1):=by simp [go_sem]
 have c1:(w.alloc (.cells #[.slice xa1 a.1.length xc1,.slice xa2 a.2.length xc2] 26)).cell? ⟨w.heap.size,1,none⟩=some (.slice xa2 a.2.length xc2):=by simp [go_sem]
 have hW:Below w.heap.size w (w.alloc (.cells #[.slice xa1 a.1.length xc1,.slice xa2 a.2.length xc2] 26)):=Bl;have HX:=Ad (An (An c0 c1) (An hW trivial));have hg:=hbw.lt;obtain ⟨f1,hf1⟩:∃ x,a.1.all (Bu q)=x:=⟨_,rfl⟩;obtain ⟨f2,hf2⟩:∃ x,Bh q 0 a.2=x:=⟨_,rfl⟩;have HF1:=Ad hf1;have HF2:=Ad hf2;have HR:=Ad hr;clear c0 c1 hW fa hf1 hf2 hr hP;obtain rfl:ti=(t:Int):=hti;have hcw:=Ad hc;have HBW:=Ad hbw;have HTN:=Ad htn;have HBIT:=Ad hbit;clear hc hbw htn hbit;have ht8:(t:Int)≤8:=by have:=HTN.o;omega
 have ht9:t < 9:=by omega
 have htq:(t:Int) < 9:=by omega
 have HNo:=Ad (show (f1 && f2)=false→r=none by
  intro hf;rw [← HR.o,HP.o.cut ha (by rw [HF1.o,HF2.o];exact hf)];rfl)
 go_enter Tryz.func224,Tryz.ntmps224
 go_wp2_with fail
 generalize (w.alloc (.cells #[.slice xa1 a.1.length xc1,.slice xa2 a.2.length xc2] 26))=w0 at HX ⊢;have c0:=HX.o.1.1;have c1:=HX.o.1.2;have hW:=HX.o.2.1;refine (cb (CH _ _ a.1 q _ (h1.keep hW) (hcw.out.keep hW) FA.o.1.1 HQ9.o) HF1.o).mono ?_;rintro e w1 ⟨rfl,hb⟩;replace c0:=Ab hb c0;replace c1:=Ab hb c1;replace hW:=bt hW hb;clear hb;cases f1 with
 | false =>
   have HN:=Ad (HNo.o rfl);go_wp2;go_returns;exact ⟨_,by rw [HN.o];rfl,fun cl e=>(by rw [HN.o] at e;cases e),bt hW Bl⟩
 | true =>
   (go_wp2_with fail);refine (cb (Dh _ _ a.2 q _ (h2.keep hW) (hcw.out.keep hW) FA.o.1.2 HQ9.o H8.o) HF2.o).mono ?_;rintro e w2 ⟨rfl,hb⟩;replace c0:=Ab hb c0;replace c1:=Ab hb c1;replace hW:=bt hW hb;clear hb;cases f2 with
   | false =>
     have HN:=Ad (HNo.o rfl);go_wp2;go_returns;exact ⟨_,by rw [HN.o];rfl,fun cl e=>(by rw [HN.o] at e;cases e),bt hW Bl⟩
   | true =>
     have hbw:=HBW.o.keep hW;have hfl:=hbw.cell t Om;have hMt:=HBIT.o t ht1;cases hbt:Mf.testBit t with
     | false =>
       rw [hbt] at hfl hMt;have HMT:=Ad hMt;have hre:=It (M:=M) (a:=a) (n:=n) (p:=p) (by rw [HP.o.hp];exact hMt);have hih:=ih _ _ _ Mf g fc (t+1) ((t:Int)+1) (p ++ [-1]) q r w2 (h1.keep hW) (h2.keep hW) hbw (hcw.out.keep hW) HBIT.o Om Om (by have:=HTN.o;omega) (HP.o.skip ht9 hMt) (by rw [← hre];exact HR.o);have HIH:=Ad hih;clear hbt hMt hre hih hbw;(go_wp2_with fail);refine HIH.o.mono ?_;rintro e w5 ⟨v5,rfl,ho5,hb5⟩;go_wp2;go_returns;exact ⟨_,rfl,fun cl e=>BK (ho5 cl e) hW.size,bt hW hb5⟩
     | true =>
       rw [hbt] at hfl hMt;have HMT:=Ad hMt;have HW2:=Ad (An (An c0 c1) (An hW trivial));clear hbt hMt hbw;go_wp2;go_loopg [10] (t+1) (fun gq i wr=>∃ k:Nat,k+gq=t+1∧i=.int .i64 k∧(Bo M a n p k).find? (fun _=>true)=none∧(wr.cell? ⟨w.heap.size,0,none⟩=some (.slice xa1 a.1.length xc1)∧wr.cell? ⟨w.heap.size,1,none⟩=some (.slice xa2 a.2.length xc2))∧Below w.heap.size w wr)
       case atStart=>exact ⟨0,by omega,rfl,rfl,HW2.o.1,HW2.o.2.1⟩
       case round =>
        clear c0 c1 hW hfl;obtain ⟨k,hk,rfl,hno,⟨c0,c1⟩,hW⟩:=hrel;have HK:=Ad hk;have HNONE:=Ad hno;clear hk hno;obtain ⟨gb,go_,gc,hfe,_,_,hcell⟩:=(hcw.out.keep hW).ne (by rw [HQ9.o];decide);simp only [Value.slice.injEq] at hfe;obtain ⟨rfl,hh,rfl⟩:=hfe;clear hh;by_cases hk8:k≤t
        · have hki:(k:Int)≤(t:Int):=by omega
          (have hk9:(k:Int) < (q.length:Int):=by rw [HQ9.o];omega);have hcl:=hcell k (by rw [HQ9.o];omega);have hzb:gb < wr.heap.size:=World.block_lt_of_cell? wr _ hcl;obtain ⟨E,hE⟩:=Ex (gi q k);rw [hE] at hcl;clear hcell;by_cases hne:k < t∧¬ E=(k:Int)
          · have hlt:(k:Int) < (t:Int):=by omega
            (have heb:(E != (k:Int))=true:=by simp [hne.2]);have HN:=Ad (show (Bo M a n p (k+1)).find? (fun _=>true)=none by
             rw [Fn (by
              rw [Bool.or_eq_false_iff,beq_eq_false_iff_ne,beq_eq_false_iff_ne,HP.o.hp];exact ⟨by omega,by rw [← HP.o.ag k hne.1,hE];exact hne.2⟩)]
             exact HNONE.o)
            clear hE hne;go_wp2;go_roundg (gk - 1)
            case rel=>exact ⟨k+1,by have:=HK.o;omega,by go_num,HN.o,⟨c0,c1⟩,hW⟩
            case measure=>have:=HK.o;omega
          have hyes:(k < t∧gi q k=(k:Int))∨k=t:=by
           by_cases e:k=t
           · exact .inr e
           · exact .inl ⟨by omega,by rw [hE];exact Decidable.byContradiction fun h=>hne ⟨by omega,h⟩⟩
          have hst:=EM (M:=M) (a:=a) (n:=n) (p:=p) (k:=k) (by
           rw [Bool.or_eq_true,beq_iff_eq,beq_iff_eq,HP.o.hp];rcases hyes with ⟨h1,h2⟩ | h
           · exact .inr (by rw [← HP.o.ag k h1];exact h2)
           · exact .inl h)
          have HST:=Ad hst;have HPN:=Ad (HP.o.next ht9 HMT.o hyes);obtain ⟨rk,hrk⟩:∃ x,(Bq M a n (p ++ [(k:Int)])).find? (fun _=>true)=x:=⟨_,rfl⟩;have HRK:=Ad hrk;have hcase:(E=(k:Int)∧(k:Int) < (t:Int))∨¬ (k:Int) < (t:Int):=by
           rcases hyes with ⟨h1,h2⟩ | h
           · exact .inl ⟨by rw [← hE];exact h2,by omega⟩
           · right;omega
          clear hst hyes hne hE hrk;have HRN:=Ad (show rk=none→(Bo M a n p (k+1)).find? (fun _=>true)=none by
           intro e;subst e;rw [HST.o];exact E7 HNONE.o HRK.o)
          have HRS:=Ad (show ∀ cl,rk=some cl→r=some cl by
           intro cl e;subst e;rw [← HR.o];have hto:=GN (M:=M) (a:=a) (n:=n) (p:=p) (k:=k+1) (by rw [HP.o.hp];exact HMT.o) (by rw [HP.o.hp];omega);rw [HST.o] at hto;exact KV hto HNONE.o HRK.o)
          have hzw:w.heap.size < wr.heap.size:=World.block_lt_of_cell? wr _ c0;rcases hcase with ⟨rfl,hlt⟩ | hlt
          all_goals
           go_wp2_with (at_builtin;go_must (refine Er rfl _ _ rfl rfl rfl (hcw.out.keep hW) (by rw [HQ9.o];decide) (by rw [HQ9.o];decide) ?_;intro g9 c9 w9 E4 hb9;have HO9:=Ad E4;obtain ⟨hcold,hfz⟩:=Kf E4 t (by rw [HQ9.o];omega);have hq9:(t:Int) < (q.length:Int):=(by rw [HQ9.o];omega);have hg9:wr.heap.size≤g9:=(AD E4 rfl).1;replace c0:=AC (r:=⟨g9,t,none⟩) (u:=.int .i64 (k:Int)) (Ab hb9 c0) (show ¬ w.heap.size=g9 by omega);replace c1:=AC (r:=⟨g9,t,none⟩) (u:=.int .i64 (k:Int)) (Ab hb9 c1) (show ¬ w.heap.size=g9 by omega);have hW9:=Ad (bt hW (hb9.setCell (show wr.heap.size≤(⟨g9,t,none⟩:Addr).block from hg9) (.int .i64 (k:Int))));clear E4 hb9))
           refine (ih _ _ _ Mf g fc (t+1) ((t:Int)+1) (p ++ [(k:Int)]) (q.set t (k:Int)) rk _ (h1.keep hW9.out) (h2.keep hW9.out) (HBW.o.keep hW9.out) (CV (MD HO9.o t (k:Int))).1 HBIT.o Om Om (by have:=HTN.o;omega) HPN.o HRK.o).mono ?_;rintro e w5 ⟨v5,rfl,ho5,hb5⟩;replace c0:=Ab hb5 c0;replace c1:=Ab hb5 c1;replace hW:=bt hW9.out hb5;cases rk with
           | none =>
             have HN:=Ad (HRN.o rfl);clear hb5 ho5;go_wp2;go_roundg (gk - 1)
             case rel=>exact ⟨k+1,by have:=HK.o;omega,by go_num,HN.o,⟨c0,c1⟩,hW⟩
             case measure=>have:=HK.o;omega
           | some cl =>
             have HN:=Ad (HRS.o cl rfl);go_wp2;go_returns;exact ⟨_,by rw [HN.o];rfl,fun cl' e=>(by rw [HN.o] at e;injection e with e;subst e;exact BK (ho5 _ rfl) hW9.out.size),hW⟩
        · obtain rfl:k=t+1:=by have:=HK.o;omega
          (have hki:¬ ((t+1:Nat):Int)≤(t:Int):=by omega);have hall:=EN (M:=M) (a:=a) (n:=n) (p:=p) (by rw [HP.o.hp];exact HMT.o);rw [HP.o.hp] at hall;have HN:=Ad (show r=none by rw [← HR.o,← hall];exact HNONE.o);clear hall hcell;go_wp2;go_returns;exact ⟨_,by rw [HN.o];rfl,fun cl e=>(by rw [HN.o] at e;cases e),bt hW Bl⟩
def Q5 (M:Nat) (a b:Aj) (n:Nat):Prop:=∀ {S1 S2 S3 S4:Nat→Prop} (v1 v2 u1 u2 cv:Value) (Mf g fc t:Nat) (ti:Int) (p q:List Int) (r:Option (List Int)) (w:World) (_h1:RL w S1 v1 a.1) (_h2:RL w S2 v2 a.2) (_k1:RL w S3 u1 b.1) (_k2:RL w S4 u2 b.2) (_hbw:BW w g 9 Mf) (_hc:RInts w cv q) (_hbit:∀ j,1≤j→M.testBit j=Mf.testBit j)
    (_hti:ti=(t:Int)) (_ht1:1≤t) (_htn:t+n=9) (_hP:ClsP M p q t) (_hr:(Bq M a n p).find? (EF a b)=r),
    Calls Tryz.prog 221 #[.agg #[v1,v2],.agg #[u1,u2],.slice (some ⟨g,0,none⟩) 9 fc,cv,.int .i64 ti] w fun e w'=>∃ v',e=.returned (.tuple #[v',.bool r.isSome])∧(∀ cl,r=some cl→w'.ownsRow w.heap.size 3 1 v' cl.length (ints cl))∧Below w.heap.size w w'
theorem RQ {M:Nat} {a b:Aj} (ha:Ah a=true) (hbv:Ah b=true) (hcov:∀ j,(Ak a).testBit j=true→M.testBit j=true) (hMb:M=FZ a b):Q5 M a b 0:=by
 intro S1 S2 S3 S4 v1 v2 u1 u2 cv Mf g fc t ti p q r w h1 h2 k1 k2 hbw hc hbit hti ht1 htn hP hr;obtain ⟨xa1,xc1,rfl⟩:=h1.form;obtain ⟨xa2,xc2,rfl⟩:=h2.form;obtain ⟨ya1,yc1,rfl⟩:=k1.form;obtain ⟨ya2,yc2,rfl⟩:=k2.form;obtain ⟨ca,cc,rfl⟩:=hc.form;have fa:=CK ha;have FA:=Ad fa;have H8:=Ad hP.le8;have HP:=Ad hP;have HQ9:=Ad hP.hq;have hl2:a.2.length≤1048576:=by have:=fa.2;omega
 have c0:((w.alloc (.cells #[.slice xa1 a.1.length xc1,.slice xa2 a.2.length xc2] 26)).alloc (.cells #[.slice ya1 b.1.length yc1,.slice ya2 b.2.length yc2] 26)).cell? ⟨w.heap.size,0,none⟩=some (.slice xa1 a.1.length xc1):=by simp [go_sem]
 have c1:((w.alloc (.cells #[.slice xa1 a.1.length xc1,.slice xa2 a.2.length xc2] 26)).alloc (.cells #[.slice ya1 b.1.length yc1,.slice ya2 b.2.length yc2] 26)).cell? ⟨w.heap.size,1,none⟩=some (.slice xa2 a.2.length xc2):=by simp [go_sem]
 have d0:((w.alloc (.cells #[.slice xa1 a.1.length xc1,.slice xa2 a.2.length xc2] 26)).alloc (.cells #[.slice ya1 b.1.length yc1,.slice ya2 b.2.length yc2] 26)).cell? ⟨w.heap.size+1,0,none⟩=some (.slice ya1 b.1.length yc1):=(by simp [go_sem]);have d1:((w.alloc (.cells #[.slice xa1 a.1.length xc1,.slice xa2 a.2.length xc2] 26)).alloc (.cells #[.slice ya1 b.1.length yc1,.slice ya2 b.2.length yc2] 26)).cell? ⟨w.heap.size+1,1,none⟩=some (.slice ya2 b.2.length yc2):=(by simp [go_sem]);have hW:Below w.heap.size w ((w.alloc (.cells #[.slice xa1 a.1.length xc1,.slice xa2 a.2.length xc2] 26)).alloc (.cells #[.slice ya1 b.1.length yc1,.slice ya2 b.2.length yc2] 26)):=Bl;have HX:=Ad (An (An c0 c1) (An hW (An d0 d1)));have hg:=hbw.lt;obtain ⟨f1,hf1⟩:∃ x,a.1.all (Bu q)=x:=⟨_,rfl⟩;obtain ⟨f2,hf2⟩:∃ x,Bh q 0 a.2=x:=⟨_,rfl⟩;have HF1:=Ad hf1;have HF2:=Ad hf2;have HR:=Ad hr;clear c0 c1 hW d0 d1 fa hf1 hf2 hr hP;obtain rfl:ti=(t:Int):=hti;have hcw:=Ad hc;have HBW:=Ad hbw;have HTN:=Ad htn;have HBIT:=Ad hbit;clear hc hbw htn hbit;obtain rfl:t=9:=by have:=HTN.o;omega
 have HNo:=Ad (show (f1 && f2)=false→r=none by
  intro hf;rw [← HR.o,HP.o.cut ha (by rw [HF1.o,HF2.o];exact hf)];rfl)
 go_enter Tryz.func221,Tryz.ntmps221
 go_wp2_with fail
 generalize ((w.alloc (.cells #[.slice xa1 a.1.length xc1,.slice xa2 a.2.length xc2] 26)).alloc (.cells #[.slice ya1 b.1.length yc1,.slice ya2 b.2.length yc2] 26))=w0 at HX ⊢;have c0:=HX.o.1.1;have c1:=HX.o.1.2;have d0:=HX.o.2.2.1;have d1:=HX.o.2.2.2;have hW:=HX.o.2.1;refine (cb (CH _ _ a.1 q _ (h1.keep hW) (hcw.out.keep hW) FA.o.1.1 HQ9.o) HF1.o).mono ?_;rintro e w1 ⟨rfl,hb⟩;replace c0:=Ab hb c0;replace c1:=Ab hb c1;replace d0:=Ab hb d0;replace d1:=Ab hb d1;replace hW:=bt hW hb;clear hb;cases f1 with
 | false =>
   have HN:=Ad (HNo.o rfl);go_wp2;go_returns;exact ⟨_,by rw [HN.o];rfl,fun cl e=>(by rw [HN.o] at e;cases e),bt hW Bl⟩
 | true =>
   (go_wp2_with fail);refine (cb (Dh _ _ a.2 q _ (h2.keep hW) (hcw.out.keep hW) FA.o.1.2 HQ9.o H8.o) HF2.o).mono ?_;rintro e w2 ⟨rfl,hb⟩;replace c0:=Ab hb c0;replace c1:=Ab hb c1;replace d0:=Ab hb d0;replace d1:=Ab hb d1;replace hW:=bt hW hb;clear hb;cases f2 with
   | false =>
     have HN:=Ad (HNo.o rfl);go_wp2;go_returns;exact ⟨_,by rw [HN.o];rfl,fun cl e=>(by rw [HN.o] at e;cases e),bt hW Bl⟩
   | true =>
     obtain ⟨ap,hap⟩:∃ x,CG (Az q a.2)=x:=⟨_,rfl⟩;have hfin:=HP.o.fin ha hcov HF1.o;rw [hap] at hfin;have HAP:=Ad hap;have HFIN:=Ad hfin;clear hap hfin;(go_wp2_with fail);refine (DV _ _ q a.2 _ (hcw.out.keep hW) HQ9.o (h2.keep hW) FA.o.1.2 hl2).mono ?_;rintro e w3 ⟨vL,rfl,hL,hb⟩;have hLr:=hL.rl;obtain ⟨la,lc,rfl⟩:=hLr.form;replace c0:=Ab hb c0;replace c1:=Ab hb c1;replace d0:=Ab hb d0;replace d1:=Ab hb d1;replace hW:=bt hW hb;clear hb hL;(go_wp2_with fail);refine (cb (Gj _ (Az q a.2) _ hLr) HAP.o).mono ?_;rintro e w4 ⟨rfl,hb⟩;replace c0:=Ab hb c0;replace c1:=Ab hb c1;replace d0:=Ab hb d0;replace d1:=Ab hb d1;replace hW:=bt hW hb;clear hb hLr;cases ap with
     | false =>
       have HN:=Ad (show r=none by rw [← HR.o,HFIN.o];rfl);go_wp2;go_returns;exact ⟨_,by rw [HN.o];rfl,fun cl e=>(by rw [HN.o] at e;cases e),bt hW Bl⟩
     | true =>
       obtain ⟨q6,hq6⟩:∃ x,(b.1.all (Bu q) && (CJ (Az q a.2) (Az q b.2)).isSome)=x:=⟨_,rfl⟩;have HQ6:=Ad hq6;have hfail:EF a b q=!q6:=by
        have hsh:=HP.o.shape;rw [hMb] at hsh;have hrd:QT (Ak b) a q=true:=by
         rw [QT,Bool.and_eq_true];exact ⟨hsh,by rw [N9 ha HP.o.shape hcov,HF1.o,HAP.o];rfl⟩
        rw [EF,KA,← Td hbv hrd,← hq6];cases b.1.all (Bu q) <;> cases CJ (Az q a.2) (Az q b.2) <;> rfl
       have HFAIL:=Ad hfail;clear hq6 hfail;(go_wp2_with fail);refine (cb (PX _ _ _ _ _ a b q _ (h1.keep hW) (h2.keep hW) (k1.keep hW) (k2.keep hW) (hcw.out.keep hW) ha hbv HQ9.o) HQ6.o).mono ?_;rintro e w5 ⟨rfl,hb⟩;replace hW:=bt hW hb;clear hb c0 c1 d0 d1;cases q6 with
       | true =>
         have HN:=Ad (show r=none by rw [← HR.o,HFIN.o];simp [HFAIL.o]);go_wp2;go_returns;exact ⟨_,by rw [HN.o];rfl,fun cl e=>(by rw [HN.o] at e;cases e),bt hW Bl⟩
       | false =>
         have HN:=Ad (show r=some q by rw [← HR.o,HFIN.o];simp [HFAIL.o]);go_wp2_with (at_builtin;go_must (refine Er rfl _ _ rfl rfl rfl (hcw.out.keep hW) (by rw [HQ9.o];decide) (by rw [HQ9.o];decide) ?_;intro g9 c9 w9 E4 hb9))
         go_returns;exact ⟨_,by rw [HN.o];rfl,fun cl e=>(by rw [HN.o] at e;injection e with e;subst e;exact BK E4 hW.size),bt hW hb9⟩
theorem RR {M:Nat} {a b:Aj} (ha:Ah a=true) {n:Nat} (ih:Q5 M a b n):Q5 M a b (n+1):=by
 intro S1 S2 S3 S4 v1 v2 u1 u2 cv Mf g fc t ti p q r w h1 h2 k1 k2 hbw hc hbit hti ht1 htn hP hr;obtain ⟨xa1,xc1,rfl⟩:=h1.form;obtain ⟨xa2,xc2,rfl⟩:=h2.form;obtain ⟨ya1,yc1,rfl⟩:=k1.form;obtain ⟨ya2,yc2,rfl⟩:=k2.form;obtain ⟨ca,cc,rfl⟩:=hc.form;have fa:=CK ha;have FA:=Ad fa;have H8:=Ad hP.le8;have HP:=Ad hP;have HQ9:=Ad hP.hq;have hl2:a.2.length≤1048576:=by have:=fa.2;omega
 have c0:((w.alloc (.cells #[.slice xa1 a.1.length xc1,.slice xa2 a.2.length xc2] 26)).alloc (.cells #[.slice ya1 b.1.length yc1,.slice ya2 b.2.length yc2] 26)).cell? ⟨w.heap.size,0,none⟩=some (.slice xa1 a.1.length xc1):=by simp [go_sem]
 have c1:((w.alloc (.cells #[.slice xa1 a.1.length xc1,.slice xa2 a.2.length xc2] 26)).alloc (.cells #[.slice ya1 b.1.length yc1,.slice ya2 b.2.length yc2] 26)).cell? ⟨w.heap.size,1,none⟩=some (.slice xa2 a.2.length xc2):=by simp [go_sem]
 have d0:((w.alloc (.cells #[.slice xa1 a.1.length xc1,.slice xa2 a.2.length xc2] 26)).alloc (.cells #[.slice ya1 b.1.length yc1,.slice ya2 b.2.length yc2] 26)).cell? ⟨w.heap.size+1,0,none⟩=some (.slice ya1 b.1.length yc1):=(by simp [go_sem]);have d1:((w.alloc (.cells #[.slice xa1 a.1.length xc1,.slice xa2 a.2.length xc2] 26)).alloc (.cells #[.slice ya1 b.1.length yc1,.slice ya2 b.2.length yc2] 26)).cell? ⟨w.heap.size+1,1,none⟩=some (.slice ya2 b.2.length yc2):=(by simp [go_sem]);have hW:Below w.heap.size w ((w.alloc (.cells #[.slice xa1 a.1.length xc1,.slice xa2 a.2.length xc2] 26)).alloc (.cells #[.slice ya1 b.1.length yc1,.slice ya2 b.2.length yc2] 26)):=Bl;have HX:=Ad (An (An c0 c1) (An hW (An d0 d1)));have hg:=hbw.lt;obtain ⟨f1,hf1⟩:∃ x,a.1.all (Bu q)=x:=⟨_,rfl⟩;obtain ⟨f2,hf2⟩:∃ x,Bh q 0 a.2=x:=⟨_,rfl⟩;have HF1:=Ad hf1;have HF2:=Ad hf2;have HR:=Ad hr;clear c0 c1 hW d0 d1 fa hf1 hf2 hr hP;obtain rfl:ti=(t:Int):=hti;have hcw:=Ad hc;have HBW:=Ad hbw;have HTN:=Ad htn;have HBIT:=Ad hbit;clear hc hbw htn hbit;have ht8:(t:Int)≤8:=by have:=HTN.o;omega
 have ht9:t < 9:=by omega
 have htq:(t:Int) < 9:=by omega
 have HNo:=Ad (show (f1 && f2)=false→r=none by
  intro hf;rw [← HR.o,HP.o.cut ha (by rw [HF1.o,HF2.o];exact hf)];rfl)
 go_enter Tryz.func221,Tryz.ntmps221
 go_wp2_with fail
 generalize ((w.alloc (.cells #[.slice xa1 a.1.length xc1,.slice xa2 a.2.length xc2] 26)).alloc (.cells #[.slice ya1 b.1.length yc1,.slice ya2 b.2.length yc2] 26))=w0 at HX ⊢;have c0:=HX.o.1.1;have c1:=HX.o.1.2;have d0:=HX.o.2.2.1;have d1:=HX.o.2.2.2;have hW:=HX.o.2.1;refine (cb (CH _ _ a.1 q _ (h1.keep hW) (hcw.out.keep hW) FA.o.1.1 HQ9.o) HF1.o).mono ?_;rintro e w1 ⟨rfl,hb⟩;replace c0:=Ab hb c0;replace c1:=Ab hb c1;replace d0:=Ab hb d0;replace d1:=Ab hb d1;replace hW:=bt hW hb;clear hb;cases f1 with
 | false =>
   have HN:=Ad (HNo.o rfl);go_wp2;go_returns;exact ⟨_,by rw [HN.o];rfl,fun cl e=>(by rw [HN.o] at e;cases e),bt hW Bl⟩
 | true =>
   (go_wp2_with fail);refine (cb (Dh _ _ a.2 q _ (h2.keep hW) (hcw.out.keep hW) FA.o.1.2 HQ9.o H8.o) HF2.o).mono ?_;rintro e w2 ⟨rfl,hb⟩;replace c0:=Ab hb c0;replace c1:=Ab hb c1;replace d0:=Ab hb d0;replace d1:=Ab hb d1;replace hW:=bt hW hb;clear hb;cases f2 with
   | false =>
     have HN:=Ad (HNo.o rfl);go_wp2;go_returns;exact ⟨_,by rw [HN.o];rfl,fun cl e=>(by rw [HN.o] at e;cases e),bt hW Bl⟩
   | true =>
     have hbw:=HBW.o.keep hW;have hfl:=hbw.cell t Om;have hMt:=HBIT.o t ht1;cases hbt:Mf.testBit t with
     | false =>
       rw [hbt] at hfl hMt;have HMT:=Ad hMt;have hre:=It (M:=M) (a:=a) (n:=n) (p:=p) (by rw [HP.o.hp];exact hMt);have hih:=ih _ _ _ _ _ Mf g fc (t+1) ((t:Int)+1) (p ++ [-1]) q r w2 (h1.keep hW) (h2.keep hW) (k1.keep hW) (k2.keep hW) hbw (hcw.out.keep hW) HBIT.o Om Om (by have:=HTN.o;omega) (HP.o.skip ht9 hMt) (by rw [← hre];exact HR.o);have HIH:=Ad hih;clear hbt hMt hre hih hbw;(go_wp2_with fail);refine HIH.o.mono ?_;rintro e w5 ⟨v5,rfl,ho5,hb5⟩;go_wp2;go_returns;exact ⟨_,rfl,fun cl e=>BK (ho5 cl e) hW.size,bt hW hb5⟩
     | true =>
       rw [hbt] at hfl hMt;have HMT:=Ad hMt;have HW2:=Ad (An (An c0 c1) (An hW (An d0 d1)));clear hbt hMt hbw;go_wp2;go_loopg [12] (t+1) (fun gq i wr=>∃ k:Nat,k+gq=t+1∧i=.int .i64 k∧(Bo M a n p k).find? (EF a b)=none∧(wr.cell? ⟨w.heap.size,0,none⟩=some (.slice xa1 a.1.length xc1)∧wr.cell? ⟨w.heap.size,1,none⟩=some (.slice xa2 a.2.length xc2))∧(wr.cell? ⟨w.heap.size+1,0,none⟩=some (.slice ya1 b.1.length yc1)∧wr.cell? ⟨w.heap.size+1,1,none⟩=some (.slice ya2 b.2.length yc2))∧Below w.heap.size w wr)
       case atStart=>exact ⟨0,by omega,rfl,rfl,HW2.o.1,HW2.o.2.2,HW2.o.2.1⟩
       case round =>
        clear c0 c1 d0 d1 hW hfl;obtain ⟨k,hk,rfl,hno,⟨c0,c1⟩,⟨d0,d1⟩,hW⟩:=hrel;have HK:=Ad hk;have HNONE:=Ad hno;clear hk hno;obtain ⟨gb,go_,gc,hfe,_,_,hcell⟩:=(hcw.out.keep hW).ne (by rw [HQ9.o];decide);simp only [Value.slice.injEq] at hfe;obtain ⟨rfl,hh,rfl⟩:=hfe;clear hh;by_cases hk8:k≤t
        · have hki:(k:Int)≤(t:Int):=by omega
          (have hk9:(k:Int) < (q.length:Int):=by rw [HQ9.o];omega);have hcl:=hcell k (by rw [HQ9.o];omega);have hzb:gb < wr.heap.size:=World.block_lt_of_cell? wr _ hcl;obtain ⟨E,hE⟩:=Ex (gi q k);rw [hE] at hcl;clear hcell;by_cases hne:k < t∧¬ E=(k:Int)
          · have hlt:(k:Int) < (t:Int):=by omega
            (have heb:(E != (k:Int))=true:=by simp [hne.2]);have HN:=Ad (show (Bo M a n p (k+1)).find? (EF a b)=none by
             rw [Fn (by
              rw [Bool.or_eq_false_iff,beq_eq_false_iff_ne,beq_eq_false_iff_ne,HP.o.hp];exact ⟨by omega,by rw [← HP.o.ag k hne.1,hE];exact hne.2⟩)]
             exact HNONE.o)
            clear hE hne;go_wp2;go_roundg (gk - 1)
            case rel=>exact ⟨k+1,by have:=HK.o;omega,by go_num,HN.o,⟨c0,c1⟩,⟨d0,d1⟩,hW⟩
            case measure=>have:=HK.o;omega
          have hyes:(k < t∧gi q k=(k:Int))∨k=t:=by
           by_cases e:k=t
           · exact .inr e
           · exact .inl ⟨by omega,by rw [hE];exact Decidable.byContradiction fun h=>hne ⟨by omega,h⟩⟩
          have hst:=EM (M:=M) (a:=a) (n:=n) (p:=p) (k:=k) (by
           rw [Bool.or_eq_true,beq_iff_eq,beq_iff_eq,HP.o.hp];rcases hyes with ⟨h1,h2⟩ | h
           · exact .inr (by rw [← HP.o.ag k h1];exact h2)
           · exact .inl h)
          have HST:=Ad hst;have HPN:=Ad (HP.o.next ht9 HMT.o hyes);obtain ⟨rk,hrk⟩:∃ x,(Bq M a n (p ++ [(k:Int)])).find? (EF a b)=x:=⟨_,rfl⟩;have HRK:=Ad hrk;have hcase:(E=(k:Int)∧(k:Int) < (t:Int))∨¬ (k:Int) < (t:Int):=by
           rcases hyes with ⟨h1,h2⟩ | h
           · exact .inl ⟨by rw [← hE];exact h2,by omega⟩
           · right;omega
          clear hst hyes hne hE hrk;have HRN:=Ad (show rk=none→(Bo M a n p (k+1)).find? (EF a b)=none by
           intro e;subst e;rw [HST.o];exact E7 HNONE.o HRK.o)
          have HRS:=Ad (show ∀ cl,rk=some cl→r=some cl by
           intro cl e;subst e;rw [← HR.o];have hto:=GN (M:=M) (a:=a) (n:=n) (p:=p) (k:=k+1) (by rw [HP.o.hp];exact HMT.o) (by rw [HP.o.hp];omega);rw [HST.o] at hto;exact KV hto HNONE.o HRK.o)
          have hzw:w.heap.size+1 < wr.heap.size:=World.block_lt_of_cell? wr _ d0;rcases hcase with ⟨rfl,hlt⟩ | hlt
          all_goals
           go_wp2_with (at_builtin;go_must (refine Er rfl _ _ rfl rfl rfl (hcw.out.keep hW) (by rw [HQ9.o];decide) (by rw [HQ9.o];decide) ?_;intro g9 c9 w9 E4 hb9;have HO9:=Ad E4;obtain ⟨hcold,hfz⟩:=Kf E4 t (by rw [HQ9.o];omega);have hq9:(t:Int) < (q.length:Int):=(by rw [HQ9.o];omega);have hg9:wr.heap.size≤g9:=(AD E4 rfl).1;replace c0:=AC (r:=⟨g9,t,none⟩) (u:=.int .i64 (k:Int)) (Ab hb9 c0) (show ¬ w.heap.size=g9 by omega);replace c1:=AC (r:=⟨g9,t,none⟩) (u:=.int .i64 (k:Int)) (Ab hb9 c1) (show ¬ w.heap.size=g9 by omega);replace d0:=AC (r:=⟨g9,t,none⟩) (u:=.int .i64 (k:Int)) (Ab hb9 d0) (show ¬ w.heap.size+1=g9 by omega);replace d1:=AC (r:=⟨g9,t,none⟩) (u:=.int .i64 (k:Int)) (Ab hb9 d1) (show ¬ w.heap.size+1=g9 by omega);have hW9:=Ad (bt hW (hb9.setCell (show wr.heap.size≤(⟨g9,t,none⟩:Addr).block from hg9) (.int .i64 (k:Int))));clear E4 hb9))
           refine (ih _ _ _ _ _ Mf g fc (t+1) ((t:Int)+1) (p ++ [(k:Int)]) (q.set t (k:Int)) rk _ (h1.keep hW9.out) (h2.keep hW9.out) (k1.keep hW9.out) (k2.keep hW9.out) (HBW.o.keep hW9.out) (CV (MD HO9.o t (k:Int))).1 HBIT.o Om Om (by have:=HTN.o;omega) HPN.o HRK.o).mono ?_;rintro e w5 ⟨v5,rfl,ho5,hb5⟩;replace c0:=Ab hb5 c0;replace c1:=Ab hb5 c1;replace d0:=Ab hb5 d0;replace d1:=Ab hb5 d1;replace hW:=bt hW9.out hb5;cases rk with
           | none =>
             have HN:=Ad (HRN.o rfl);clear hb5 ho5;go_wp2;go_roundg (gk - 1)
             case rel=>exact ⟨k+1,by have:=HK.o;omega,by go_num,HN.o,⟨c0,c1⟩,⟨d0,d1⟩,hW⟩
             case measure=>have:=HK.o;omega
           | some cl =>
             have HN:=Ad (HRS.o cl rfl);go_wp2;go_returns;exact ⟨_,by rw [HN.o];rfl,fun cl' e=>(by rw [HN.o] at e;injection e with e;subst e;exact BK (ho5 _ rfl) hW9.out.size),hW⟩
        · obtain rfl:k=t+1:=by have:=HK.o;omega
          (have hki:¬ ((t+1:Nat):Int)≤(t:Int):=by omega);have hall:=EN (M:=M) (a:=a) (n:=n) (p:=p) (by rw [HP.o.hp];exact HMT.o);rw [HP.o.hp] at hall;have HN:=Ad (show r=none by rw [← HR.o,← hall];exact HNONE.o);clear hall hcell;go_wp2;go_returns;exact ⟨_,by rw [HN.o];rfl,fun cl e=>(by rw [HN.o] at e;cases e),bt hW Bl⟩
end Go.Proofs.YtkbbmjcfgcfejaaGreat
