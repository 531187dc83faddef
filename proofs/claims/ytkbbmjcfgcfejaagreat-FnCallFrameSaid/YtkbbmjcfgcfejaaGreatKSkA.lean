/- SkA: texts Sk1, SkA in one. -/
import Derived.Test.YtkbbmjcfgcfejaaGreatKMtc3
import Derived.Test.YtkbbmjcfgcfejaaGreatKCaseC
import Derived.Test.YtkbbmjcfgcfejaaGreatKMtcA
import Derived.Test.YtkbbmjcfgcfejaaGreatKItrB
namespace Go.Proofs.YtkbbmjcfgcfejaaGreat
open Go.RowKit
theorem hasT_nat {m c:Nat} (h:c≤8):hasT m (c:Int)=m.testBit c:=by
 rw [hasT,isTermB_iff.2 (by omega),Bool.true_and,Int.toNat_natCast]
theorem early_step {cl:List Int} {m k:Nat} {l:List Atom} (h:k < l.length):earlyE cl m (l.drop k)=if (gd l k).1 ≠ 1∨gi cl (gd l k).2.1.toNat < 0 then earlyE cl m (l.drop (k+1)) else
 if (gi cl (gd l k).2.1.toNat == 0 || hasT m (gi cl (gd l k).2.1.toNat))=true then false else earlyE cl (termM m (gi cl (gd l k).2.1.toNat)) (l.drop (k+1)):=by
 rw [drop_gd' h,earlyE]
set_option maxRecDepth 100000 in
set_option maxHeartbeats 3200000 in
theorem l5Early_any {S:Nat→Prop} (v cv:Value) (l:List Atom) (cl:List Int) (w:World) (h:RL w S v l) (hc:RInts w cv cl) (hx:l.all atomB=true) (hc9:cl.length=9) (h8:∀ i,i < 9→gi cl i≤8) :
 Calls Tryz.prog 257 #[v,cv] w fun e w'=>e=.returned (.bool (earlyE cl 0 l))∧Below w.heap.size w w':=by
 have hmk:=mk9T
 have hm:=h.len
 unfold maxLen at hm
 obtain ⟨a,c,rfl,_,_,hf1⟩:=h.atomAt
 have F1:=Lib.hid hf1
 have HB:=Lib.hid (all_of hx)
 obtain ⟨cb,co,cc,rfl,_,_,hcell⟩:=hc.ne (by omega)
 have HC:=Lib.hid hcell
 have HC9:=Lib.hid hc9
 have H8:=Lib.hid h8
 have hbw:=bw_own (own9T w w.heap.size (Nat.le_refl _))
 have HBW:=Lib.hid hbw
 clear hf1 h hx hcell hc9 hc h8 hbw
 go_enter Tryz.func257,Tryz.ntmps257
 go_wp2
 go_loopg [6] l.length (fun q i wr=>∃ k m:Nat,k+q=l.length∧i=.int .i64 k∧earlyE cl 0 l=earlyE cl m (l.drop k)∧BW wr w.heap.size 9 m∧Below w.heap.size w wr)
 case atStart=>exact ⟨0,0,by omega,rfl,rfl,HBW.out,below_alloc _ _⟩
 case round =>
  clear hmk
  obtain ⟨k,m,hk,rfl,he,hbw,hb⟩:=hrel
  have HK:=Lib.hid hk
  have HE:=Lib.hid he
  clear hk he
  by_cases hk8:k < l.length
  · obtain ⟨b1,o1,rfl,_,hbl1,hp1,hp2,hp3⟩:=F1.out k hk8
    replace hp1:=cell_keep hb hp1;replace hp2:=cell_keep hb hp2
    have hs:=hb.size
    have i1:(k:Int) < (l.length:Int):=by omega
    have hzb:b1 < wr.heap.size:=by omega
    have hst:=early_step (cl:=cl) (m:=m) hk8
    obtain ⟨t1,t2,_,_⟩:=atomB_le' (HB.out k hk8)
    obtain ⟨i,hi⟩:=Int.eq_ofNat_of_zero_le t1
    have hi9:(i:Int) < (cl.length:Int):=by rw [HC9.out];omega
    have hi':i < cl.length:=by rw [HC9.out];omega
    have hci:=cell_keep hb (HC.out i hi')
    have hzc:cb < wr.heap.size:=World.block_lt_of_cell? wr _ hci
    have hc8:=H8.out i (by omega)
    rw [hi] at hp2 hst
    rw [Int.toNat_natCast] at hst
    obtain ⟨C,hC⟩:∃ x,gi cl i=x:=⟨_,rfl⟩
    obtain ⟨K1,hK1⟩:∃ x,(gd l k).1=x:=⟨_,rfl⟩
    rw [hC] at hci hst hc8
    rw [hK1] at hp1 hst
    clear hi t1 t2 hC hK1 hp3 hi'
    by_cases hk1:K1=1
    · have hkb:(K1 != 1)=false:=by simp [hk1]
      by_cases hc0:C < 0
      · have HN:=Lib.hid (show earlyE cl 0 l=earlyE cl m (l.drop (k+1)) by rw [HE.out,hst,if_pos (.inr hc0)])
        clear hst hk1
        go_wp2
        go_roundg (gk - 1)
        case rel=>exact ⟨k+1,m,by have:=HK.out;omega,by go_num,HN.out,hbw,hb⟩
        case measure=>have:=HK.out;omega
      obtain ⟨n,rfl⟩:=Int.eq_ofNat_of_zero_le (show 0≤C by omega)
      have hn8:n≤8:=by omega
      have hn9:(n:Int) < 9:=by omega
      rw [if_neg (by rintro (h | h);exact h hk1;exact hc0 h),hasT_nat hn8,termM_nat hn8] at hst
      have hbit:=hbw.cell n (by omega)
      have hfz:=hbw.fz n (by omega)
      have hzw:=hbw.lt
      by_cases hn0:n=0
      · have hnb:((n:Int) == 0)=true:=by simp [hn0]
        have HN:=Lib.hid (show earlyE cl 0 l=false by rw [HE.out,hst,if_pos (by rw [hnb];rfl)])
        clear hst hk1 hn0
        go_wp2
        go_returns
        exact ⟨by rw [HN.out];rfl,hb⟩
      have hnb:((n:Int) == 0)=false:=by simp [hn0]
      cases hbt:m.testBit n with
      | true =>
        rw [hbt] at hbit
        have HN:=Lib.hid (show earlyE cl 0 l=false by rw [HE.out,hst,if_pos (by rw [hbt];simp)])
        clear hst hk1 hn0 hbt
        go_wp2
        go_returns
        exact ⟨by rw [HN.out];rfl,hb⟩
      | false =>
        rw [hbt] at hbit
        have HN:=Lib.hid (show earlyE cl 0 l=earlyE cl (m ||| 2 ^ n) (l.drop (k+1)) by rw [HE.out,hst,if_neg (by rw [hbt,hnb];simp)])
        clear hst hk1 hn0 hbt
        have H2:=Lib.hid (hbw.set (i:=n) (by omega))
        clear hbw
        go_wp2
        go_roundg (gk - 1)
        case rel=>exact ⟨k+1,m ||| 2 ^ n,by have:=HK.out;omega,by go_num,HN.out,H2.out,hb.setCell (p:=⟨w.heap.size,n,none⟩) (Nat.le_refl _) _⟩
        case measure=>have:=HK.out;omega
    · have hkb:(K1 != 1)=true:=by simp [hk1]
      have HN:=Lib.hid (show earlyE cl 0 l=earlyE cl m (l.drop (k+1)) by rw [HE.out,hst,if_pos (.inl hk1)])
      clear hst hk1
      go_wp2
      go_roundg (gk - 1)
      case rel=>exact ⟨k+1,m,by have:=HK.out;omega,by go_num,HN.out,hbw,hb⟩
      case measure=>have:=HK.out;omega
  · obtain rfl:k=l.length:=by have:=HK.out;omega
    have HN:=Lib.hid (show earlyE cl 0 l=true by rw [HE.out,List.drop_length];rfl)
    go_wp2
    go_returns
    exact ⟨by rw [HN.out];rfl,hb⟩
theorem filled_kinds {cl:List Int} {l:List Atom} (h:l.all atomB=true):∀ y ∈ filledL cl l,y.1=1∨(y.1=2∧y.2.1 ≠ y.2.2):=fun y hy=>by
 obtain ⟨x,hx,rfl⟩:=List.mem_map.1 hy
 obtain ⟨hx1,hx2⟩:=List.mem_filter.1 hx
 have hk:=(List.all_eq_true.1 h) x hx1
 simp only [atomB,Bool.and_eq_true,Bool.or_eq_true,beq_iff_eq] at hk
 simp only [fillC,Bool.or_eq_true,beq_iff_eq,bne_iff_ne] at hx2
 simp only [atC]
 rcases hk.1 with h1 | h1
 · exact .inl h1
 · rcases hx2 with h2 | h2
   · exact .inl h2
   · exact .inr ⟨h1,h2⟩
set_option maxRecDepth 100000 in
set_option maxHeartbeats 3200000 in
theorem l6Case_any {S1 S2 S3 S4:Nat→Prop} (v1 v2 u1 u2 cv:Value) (a b:Asn) (cl:List Int) (w:World) (h1:RL w S1 v1 a.1) (h2:RL w S2 v2 a.2) (k1:RL w S3 u1 b.1) (k2:RL w S4 u2 b.2) (hc:RInts w cv cl)
 (ha:asnB a=true) (hb:asnB b=true) (hc9:cl.length=9) :
 Calls Tryz.prog 260 #[.agg #[v1,v2],.agg #[u1,u2],cv] w fun e w'=>e=.returned (.bool (b.1.all (fitsF cl) && (mtchF (filledL cl a.2) (filledL cl b.2)).isSome))∧Below w.heap.size w w':=by
 obtain ⟨xa1,xc1,rfl⟩:=h1.form
 obtain ⟨xa2,xc2,rfl⟩:=h2.form
 obtain ⟨ya1,yc1,rfl⟩:=k1.form
 obtain ⟨ya2,yc2,rfl⟩:=k2.form
 obtain ⟨ca,cc,rfl⟩:=hc.form
 have fa:=asn_all' ha
 have fb:=asn_all' hb
 have FA:=Lib.hid (And.intro fa fb)
 have HC9:=Lib.hid hc9
 have hl2:(a.2.length≤1048576∧b.2.length≤1048576)∧(filledL cl a.2).length≤6:=⟨⟨by have:=fa.2;omega,by have:=fb.2;omega⟩,Nat.le_trans (filledL_len _ _) fa.2⟩
 have HL2:=Lib.hid hl2
 obtain ⟨fbb,hfb⟩:∃ r,b.1.all (fitsF cl)=r:=⟨_,rfl⟩
 obtain ⟨q,hq⟩:∃ r,(mtchF (filledL cl a.2) (filledL cl b.2)).isSome=r:=⟨_,rfl⟩
 rw [hfb,hq]
 have HFB:=Lib.hid hfb
 have HQ:=Lib.hid hq
 have HKD:=Lib.hid (filled_kinds (cl:=cl) fb.1.2)
 have hc1:((w.alloc (.cells #[.slice xa1 a.1.length xc1,.slice xa2 a.2.length xc2] 26)).alloc (.cells #[.slice ya1 b.1.length yc1,.slice ya2 b.2.length yc2] 26)).cell? ⟨w.heap.size,1,none⟩=some (.slice xa2 a.2.length xc2):=by simp [go_sem]
 have hd0:((w.alloc (.cells #[.slice xa1 a.1.length xc1,.slice xa2 a.2.length xc2] 26)).alloc (.cells #[.slice ya1 b.1.length yc1,.slice ya2 b.2.length yc2] 26)).cell? ⟨w.heap.size+1,0,none⟩=some (.slice ya1 b.1.length yc1):=by simp [go_sem]
 have hd1:((w.alloc (.cells #[.slice xa1 a.1.length xc1,.slice xa2 a.2.length xc2] 26)).alloc (.cells #[.slice ya1 b.1.length yc1,.slice ya2 b.2.length yc2] 26)).cell? ⟨w.heap.size+1,1,none⟩=some (.slice ya2 b.2.length yc2):=by simp [go_sem]
 have hW:Below w.heap.size w ((w.alloc (.cells #[.slice xa1 a.1.length xc1,.slice xa2 a.2.length xc2] 26)).alloc (.cells #[.slice ya1 b.1.length yc1,.slice ya2 b.2.length yc2] 26)):=Bl
 have HX:=Lib.hid (And.intro hc1 (And.intro (And.intro hd0 hd1) hW))
 clear fa fb hl2 hfb hq ha hb hc9 hc1 hd0 hd1 hW
 go_enter Tryz.func260,Tryz.ntmps260
 go_wp2
 generalize ((w.alloc (.cells #[.slice xa1 a.1.length xc1,.slice xa2 a.2.length xc2] 26)).alloc (.cells #[.slice ya1 b.1.length yc1,.slice ya2 b.2.length yc2] 26))=w0 at HX ⊢
 have hc1:=HX.out.1
 have hd0:=HX.out.2.1.1
 have hd1:=HX.out.2.1.2
 have hW:=HX.out.2.2
 have q2:=h2.keep hW
 have q3:=k1.keep hW
 have q4:=k2.keep hW
 have qc:=hc.keep hW
 have z1:=World.block_lt_of_cell? w0 _ hc1
 have z2:=World.block_lt_of_cell? w0 _ hd0
 simp only at z1 z2
 clear h1 h2 k1 k2 hc
 cases fbb with
 | false =>
   refine wp_region_ext (by kernel_rfl) (by kernel_rfl) ?_
   repeat (go_big_quiet_step ((go_at_call 256;first
    | with_reducible exact ext_c (cb (l5Fits_any (.slice ya1 b.1.length yc1) (.slice ca cl.length cc) b.1 cl _ (q3.keep (ext_below _ _)) (qc.keep (ext_below _ _)) FA.out.2.1.1 HC9.out) HFB.out))))
   refine wpQuiet_nil ?_
   intro w5 hb5
   go_wp2
   go_returns
   exact ⟨rfl,bt hW hb5⟩
 | true =>
   go_region_held3 (fun w'=>w'.cell? ⟨w.heap.size,1,none⟩=some (.slice xa2 a.2.length xc2)∧(w'.cell? ⟨w.heap.size+1,0,none⟩=some (.slice ya1 b.1.length yc1)∧w'.cell? ⟨w.heap.size+1,1,none⟩=some (.slice ya2 b.2.length yc2)))
    (exact ⟨cell_keep Bl hc1,cell_keep Bl hd0,cell_keep Bl hd1⟩)
    (first
      | (go_at_call 256;(with_reducible refine (cb (l5Fits_any (.slice ya1 b.1.length yc1) (.slice ca cl.length cc) b.1 cl _ (q3.keep Bl) (qc.keep Bl) FA.out.2.1.1 HC9.out) HFB.out).mono ?_);rintro e w2 ⟨rfl,hb2'⟩;have hb2:Below w0.heap.size w0 w2:=bt Bl hb2')
      | (go_at_call 259;(with_reducible refine (filledS_any (.slice ca cl.length cc) (.slice xa2 a.2.length xc2) cl a.2 _ (qc.keep Bl) HC9.out (q2.keep Bl) FA.out.1.1.2 HL2.out.1.1).mono ?_);rintro e w5 ⟨vL,rfl,hL,hb5'⟩;have hLr:=hL.rl;obtain ⟨la,lc,rfl⟩:=hLr.form;have hb5:Below w0.heap.size w0 w5:=bt (bt hb2 Bl) hb5')
      | (go_at_call 259;(with_reducible refine (filledS_any (.slice ca cl.length cc) (.slice ya2 b.2.length yc2) cl b.2 _ (qc.keep Bl) HC9.out (q4.keep Bl) FA.out.2.1.2 HL2.out.1.2).mono ?_);rintro e w6 ⟨vR,rfl,hR,hb6'⟩;have hRr:=hR.rl;obtain ⟨ra,rc,rfl⟩:=hRr.form;have hb56:Below w5.heap.size w5 w6:=bt Bl hb6';have hb6:Below w0.heap.size w0 w6:=bt hb5 hb56)
      | (go_at_call 279;(with_reducible refine (cb (l6Match_any (.slice la (filledL cl a.2).length lc) (.slice ra (filledL cl b.2).length rc) (filledL cl a.2) (filledL cl b.2) _ ((hLr.keep hb56).keep Bl) (hRr.keep Bl) HL2.out.2 HKD.out) HQ.out).mono ?_);rintro e w7 ⟨rfl,hb7'⟩;have hb7:Below w0.heap.size w0 w7:=bt (bt hb6 Bl) hb7'))
   go_wp2
   go_returns
   exact ⟨rfl,bt hW hb7⟩
theorem app_copy0 {w:World} {ops:Array Oper} {rest:List Oper} {o:Oper} {a:Act} {Q:Exit→Act→World→Prop} (hgd:o.guard=none) (s x:Operand)
 (ho:o.op=.call { callee:=.builtin .append,args:=#[s,x],argTypes:=#[27,27] }) (hs:a.eval s=.slice (some ⟨w.heap.size,0,none⟩) 0 0) {v:Value} {l:List Int} (hx:a.eval x=v)
 (hr:RInts w v l) (hl:l.length≤1048576) (hp:0 < l.length)
 (h:∀ g cap w',w'.ownsRow w.heap.size 3 1 (.slice (some ⟨g,0,none⟩) l.length cap) l.length (ints l)→Below w.heap.size w w'→wpList Tryz.prog ops Q rest (a.put o.dst (.slice (some ⟨g,0,none⟩) l.length cap)) w') :
 wpList Tryz.prog ops Q (o :: rest) a (w.alloc (.cells #[] 3)):=by
 obtain ⟨b,oo,c,rfl,_,_,_⟩:=hr.ne hp
 obtain ⟨i0,hi,hz0,hz1,hz2⟩:=info_parts info_int
 have hown:(w.alloc (.cells #[] 3)).ownsRow w.heap.size 3 1 (.slice (some ⟨w.heap.size,0,none⟩) 0 0) 0 (ints []):=World.ownsRow_lit (size:=1) w #[] 0 (Nat.le_refl _) (by unfold maxLen;omega) rfl
 refine wpList_append_lies _ hgd s x 27 ho w.heap.size 3 i0 (.int .i64 0) 1 8 Tryz.underlying27 hi hz0 hz1 hz2 rfl (by decide) _ 0 (ints []) hs hown ⟨b,oo,none⟩ l.length c (ints l) hx (by simp [ints]) (hr.alloc _).news ?_ hp (by unfold maxLen;omega) (by omega) (by simp) _ rfl ?_
 · intro u hu
   simp [ints] at hu
   obtain ⟨_,_,rfl⟩:=hu
   rfl
 · intro g cap w' hown' hgrow _ _
   rw [Nat.zero_add] at hown' ⊢
   have e0':ints [] ++ ints l=ints l:=by simp [ints]
   rw [e0'] at hown'
   refine h g cap w' hown' (((Below.fr (below_alloc w (.cells #[] 3))).then (grown_fr hgrow) fun i hi e=>?_).below (Nat.le_refl _) fun _ _ h=>h)
   simp [Value.ownBlock] at e
   omega
end Go.Proofs.YtkbbmjcfgcfejaaGreat
namespace Go.Proofs.YtkbbmjcfgcfejaaGreat
open Go.RowKit
structure ClsP (M:Nat) (p q:List Int) (t:Nat):Prop where
 hp:p.length=t
 hq:q.length=9
 ag:∀ i,i < t→gi q i=gi p i
 neg:∀ i,t≤i→i < 9→gi q i=-1
 st:∀ i,i < t→stepC M q i=true
section
variable {M:Nat} {p q:List Int} {t:Nat} {a:Asn}
theorem ClsP.le8 (h:ClsP M p q t):∀ i,i < 9→gi q i≤8:=fun i hi=>by
 by_cases hlt:i < t
 · have:=h.st i hlt
   rw [stepC] at this
   split at this
   · simp only [Bool.and_eq_true,decide_eq_true_eq] at this;omega
   · rw [beq_iff_eq] at this;omega
 · rw [h.neg i (by omega) hi];decide
theorem ClsP.skip (h:ClsP M p q t) (ht:t < 9) (hb:M.testBit t=false):ClsP M (p ++ [-1]) q (t+1) where
 hp:=by simp [h.hp]
 hq:=h.hq
 ag i hi:=by
  by_cases e:i=t
  · subst e;rw [h.neg i (Nat.le_refl _) ht,← h.hp,gi_snoc]
  · rw [h.ag i (by omega),gi_snoc_lt (by rw [h.hp];omega)]
 neg i h1 h2:=h.neg i (by omega) h2
 st i hi:=by
  by_cases e:i=t
  · subst e;rw [stepC,if_neg (by rw [hb];decide),h.neg i (Nat.le_refl _) ht];rfl
  · exact h.st i (by omega)
theorem ClsP.next (h:ClsP M p q t) (ht:t < 9) (hb:M.testBit t=true) {k:Nat} (hk:(k < t∧gi q k=(k:Int))∨k=t):ClsP M (p ++ [(k:Int)]) (q.set t (k:Int)) (t+1) where
 hp:=by simp [h.hp]
 hq:=by rw [List.length_set];exact h.hq
 ag i hi:=by
  have:=agree_set (p:=p) (q:=q) h.hq (by rw [h.hp];exact ht) (fun i hi=>h.ag i (by rw [← h.hp];exact hi)) (k:Int) i (by simp [h.hp];omega)
  rwa [h.hp] at this
 neg i h1 h2:=by rw [gi_set_neq (by omega)];exact h.neg i (by omega) h2
 st i hi:=by
  by_cases e:i=t
  · subst e
    rw [stepC,if_pos hb,gi_set_self (by rw [h.hq];exact ht),Int.toNat_natCast]
    simp only [Bool.and_eq_true,decide_eq_true_eq,beq_iff_eq]
    refine ⟨by omega,by omega,?_⟩
    rcases hk with ⟨h1,h2⟩ | rfl
    · rw [gi_set_neq (by omega)];exact h2
    · exact gi_set_self (by rw [h.hq];exact ht) _
  · have hs:=h.st i (by omega)
    rw [stepC,gi_set_neq (by omega)]
    rw [stepC] at hs
    split
    · rename_i hb'
      rw [if_pos hb'] at hs
      simp only [Bool.and_eq_true,decide_eq_true_eq,beq_iff_eq] at hs ⊢
      refine ⟨hs.1,hs.2.1,?_⟩
      rw [gi_set_neq (by omega)];exact hs.2.2
    · rename_i hb'
      rw [if_neg hb'] at hs
      exact hs
theorem ClsP.shape (h:ClsP M p q 9):shapeC M q=true:=by
 rw [shapeC,h.hq,Bool.and_eq_true]
 exact ⟨rfl,List.all_eq_true.2 fun i hi=>h.st i (List.mem_range.1 hi)⟩
theorem ClsP.cut (h:ClsP M p q t) {n:Nat} (ha:asnB a=true) (hf:(a.1.all (fitsF q) && earlyE q 0 a.2)=false):restL M a n p=[] :=
 rest_cutS ha (fun i hi=>h.ag i (by rw [← h.hp];exact hi)) (fun i h1 h2=>by rw [h.neg i (by rw [← h.hp];exact h1) h2];decide) hf
theorem end_poss (ha:asnB a=true) (hs:shapeC M q=true) (hcov:∀ j,(termsM a).testBit j=true→M.testBit j=true):possC q 8 a=(a.1.all (fitsF q) && apartB (filledL q a.2)):=by
 have hcl:∀ t:Int,isTermB t=true→(termsM a).testBit t.toNat=true→0≤gi q t.toNat∧gi q t.toNat≤8:=fun t ht hb=>by
  have h8:=isTermB_iff.1 ht
  have:=step_bit hs (t:=t.toNat) (by omega) (hcov _ hb)
  omega
 unfold possC
 congr 1
 · rw [Bool.eq_iff_iff,List.all_eq_true,List.all_eq_true]
   have key:∀ f ∈ a.1,okF q 8 f=fitsF q f:=fun f hf=>by
    obtain ⟨⟨p1,p2⟩,⟨q1,q2⟩⟩:=fact_bits ha hf
    have e1:=isTermB_iff.1 p1
    have e2:=isTermB_iff.1 q1
    have c1:=hcl _ p1 p2
    have c2:=hcl _ q1 q2
    rw [okF,if_pos ⟨e1.2,e2.2⟩,fitsF,decide_eq_true c1.1,decide_eq_true c2.1,factC]
    cases gi q f.2.1.toNat == gi q f.2.2.toNat <;> cases f.1 <;> rfl
   exact ⟨fun h f hf=>by rw [← key f hf];exact h f hf,fun h f hf=>by rw [key f hf];exact h f hf⟩
 · rw [starts_apart (asn_all ha).2 fun x hx=>?_]
   obtain ⟨⟨p1,p2⟩,_⟩:=atom_bits ha hx
   exact isTermB_iff.2 (hcl _ p1 p2)
theorem ClsP.fin (h:ClsP M p q 9) (ha:asnB a=true) (hcov:∀ j,(termsM a).testBit j=true→M.testBit j=true) (hf:a.1.all (fitsF q)=true):restL M a 0 p=if apartB (filledL q a.2)=true then [q] else []:=by
 have e:=agree_eq h.hq h.hp (fun i hi=>h.ag i (by rw [← h.hp];exact hi))
 subst e
 rw [rest_zero,end_poss ha h.shape hcov,hf,Bool.true_and]
end
theorem find_pre {α:Type} {P:α→Bool} {l m xs:List α} (h:l ++ m <+: xs) (hl:l.find? P=none) {x:α} (hm:m.find? P=some x):xs.find? P=some x:=by
 obtain ⟨t,rfl⟩:=h
 rw [List.find?_append,List.find?_append,hl,hm];rfl
theorem find_none_app {α:Type} {P:α→Bool} {l m:List α} (hl:l.find? P=none) (hm:m.find? P=none):(l ++ m).find? P=none:=by
 rw [List.find?_append,hl,hm];rfl
def openL (k:Nat):List Int:=0 :: reps (-1) k
set_option maxHeartbeats 1600000 in
theorem l5Open_any (w:World):Calls Tryz.prog 223 #[] w fun e w'=>∃ v,e=.returned v∧w'.ownsRow w.heap.size 3 1 v 9 (ints (openL 8))∧Below w.heap.size w w':=by
 have hown:(w.alloc (.cells #[.int .i64 0] 3)).ownsRow w.heap.size 3 1 (.slice (some ⟨w.heap.size,0,none⟩) 1 1) 1 (ints (openL 0)):=World.ownsRow_lit (size:=1) w #[.int .i64 0] 1 (Nat.le_refl _) (by unfold maxLen;omega) rfl
 have HO:=Lib.hid hown
 clear hown
 go_enter Tryz.func223,Tryz.ntmps223
 go_wp2
 go_loopg [1] 8 (fun q x wr=>∃ k:Nat,k+q=8∧wr.ownsRow w.heap.size 3 1 x (k+1) (ints (openL k))∧Below w.heap.size w wr)
 case atStart=>exact ⟨0,by omega,HO.out,below_alloc _ _⟩
 case round =>
  obtain ⟨k,hk,ho,hb⟩:=hrel
  have HK:=Lib.hid hk
  obtain ⟨a,c,rfl,_⟩:=row_form ho
  by_cases hk8:k < 8
  · have hki:(k:Int)+1≤8:=by omega
    have hl:(openL k).length=k+1:=by simp [openL,reps]
    have HO2:=Lib.hid ho
    have hs:=hb.size
    clear hk
    go_wp2_with (at_builtin;go_must (refine app_int _ rfl _ _ rfl w.heap.size _ (openL k) rfl (by rw [hl];exact own_keep HO2.out (below_alloc _ _)) ⟨wr.heap.size,0,none⟩ (-1) rfl (cell_new1 _ _ _) (by omega) (by simp;omega) ?_;intro v' w7 own7 hf7))
    have he:openL k ++ [-1]=openL (k+1):=by simp [openL,reps,List.replicate_succ']
    have hl2:(openL (k+1)).length=k+1+1:=by simp [openL,reps]
    rw [he,hl2] at own7
    have HN:=Lib.hid (And.intro own7 (below_own (own_keep HO2.out (below_alloc _ (.cells #[.int .i64 (-1)] 3))) hf7 (bt hb (below_alloc _ _)) (by simp;omega)))
    clear own7 hf7 he hl2
    go_roundg (gk - 1)
    case rel=>exact ⟨k+1,by have:=HK.out;omega,HN.out.1,HN.out.2⟩
    case measure=>have:=HK.out;omega
  · obtain rfl:k=8:=by have:=HK.out;omega
    go_wp2
    go_ret
    exact ⟨_,rfl,ho,hb⟩
end Go.Proofs.YtkbbmjcfgcfejaaGreat
namespace Go.Proofs.YtkbbmjcfgcfejaaGreat
open Go.RowKit
end Go.Proofs.YtkbbmjcfgcfejaaGreat
namespace Go.Proofs.YtkbbmjcfgcfejaaGreat
open Go.RowKit
def SeekP (M:Nat) (a b:Asn) (n:Nat):Prop:=∀ {S1 S2 S3 S4:Nat→Prop} (v1 v2 u1 u2 cv:Value) (Mf g fc t:Nat) (ti:Int) (p q:List Int) (r:Option (List Int)) (w:World) (_h1:RL w S1 v1 a.1) (_h2:RL w S2 v2 a.2) (_k1:RL w S3 u1 b.1) (_k2:RL w S4 u2 b.2) (_hbw:BW w g 9 Mf) (_hc:RInts w cv q) (_hbit:∀ j,1≤j→M.testBit j=Mf.testBit j)
    (_hti:ti=(t:Int)) (_ht1:1≤t) (_htn:t+n=9) (_hP:ClsP M p q t) (_hr:(restL M a n p).find? (failC a b)=r),
    Calls Tryz.prog 221 #[.agg #[v1,v2],.agg #[u1,u2],.slice (some ⟨g,0,none⟩) 9 fc,cv,.int .i64 ti] w fun e w'=>∃ v',e=.returned (.tuple #[v',.bool r.isSome])∧(∀ cl,r=some cl→w'.ownsRow w.heap.size 3 1 v' cl.length (ints cl))∧Below w.heap.size w w'
set_option maxRecDepth 100000 in
set_option maxHeartbeats 6400000 in
theorem seek_zero {M:Nat} {a b:Asn} (ha:asnB a=true) (hbv:asnB b=true) (hcov:∀ j,(termsM a).testBit j=true→M.testBit j=true) (hMb:M=bothM a b):SeekP M a b 0:=by
 intro S1 S2 S3 S4 v1 v2 u1 u2 cv Mf g fc t ti p q r w h1 h2 k1 k2 hbw hc hbit hti ht1 htn hP hr
 obtain ⟨xa1,xc1,rfl⟩:=h1.form
 obtain ⟨xa2,xc2,rfl⟩:=h2.form
 obtain ⟨ya1,yc1,rfl⟩:=k1.form;obtain ⟨ya2,yc2,rfl⟩:=k2.form;obtain ⟨ca,cc,rfl⟩:=hc.form
 have fa:=asn_all' ha
 have FA:=Lib.hid fa
 have H8:=Lib.hid hP.le8
 have HP:=Lib.hid hP
 have HQ9:=Lib.hid hP.hq
 have hl2:a.2.length≤1048576:=by have:=fa.2;omega
 have c0:((w.alloc (.cells #[.slice xa1 a.1.length xc1,.slice xa2 a.2.length xc2] 26)).alloc (.cells #[.slice ya1 b.1.length yc1,.slice ya2 b.2.length yc2] 26)).cell? ⟨w.heap.size,0,none⟩=some (.slice xa1 a.1.length xc1):=by simp [go_sem]
 have c1:((w.alloc (.cells #[.slice xa1 a.1.length xc1,.slice xa2 a.2.length xc2] 26)).alloc (.cells #[.slice ya1 b.1.length yc1,.slice ya2 b.2.length yc2] 26)).cell? ⟨w.heap.size,1,none⟩=some (.slice xa2 a.2.length xc2):=by simp [go_sem]
 have d0:((w.alloc (.cells #[.slice xa1 a.1.length xc1,.slice xa2 a.2.length xc2] 26)).alloc (.cells #[.slice ya1 b.1.length yc1,.slice ya2 b.2.length yc2] 26)).cell? ⟨w.heap.size+1,0,none⟩=some (.slice ya1 b.1.length yc1):=(by simp [go_sem]);have d1:((w.alloc (.cells #[.slice xa1 a.1.length xc1,.slice xa2 a.2.length xc2] 26)).alloc (.cells #[.slice ya1 b.1.length yc1,.slice ya2 b.2.length yc2] 26)).cell? ⟨w.heap.size+1,1,none⟩=some (.slice ya2 b.2.length yc2):=(by simp [go_sem]);have hW:Below w.heap.size w ((w.alloc (.cells #[.slice xa1 a.1.length xc1,.slice xa2 a.2.length xc2] 26)).alloc (.cells #[.slice ya1 b.1.length yc1,.slice ya2 b.2.length yc2] 26)):=Bl
 have HX:=Lib.hid (And.intro (And.intro c0 c1) (And.intro hW (And.intro d0 d1)))
 have hg:=hbw.lt
 obtain ⟨f1,hf1⟩:∃ x,a.1.all (fitsF q)=x:=⟨_,rfl⟩
 obtain ⟨f2,hf2⟩:∃ x,earlyE q 0 a.2=x:=⟨_,rfl⟩
 have HF1:=Lib.hid hf1
 have HF2:=Lib.hid hf2
 have HR:=Lib.hid hr
 clear c0 c1 hW d0 d1 fa hf1 hf2 hr hP
 obtain rfl:ti=(t:Int):=hti
 have hcw:=Lib.hid hc
 have HBW:=Lib.hid hbw
 have HTN:=Lib.hid htn
 have HBIT:=Lib.hid hbit
 clear hc hbw htn hbit
 obtain rfl:t=9:=by have:=HTN.out;omega
 have HNo:=Lib.hid (show (f1 && f2)=false→r=none by
  intro hf
  rw [← HR.out,HP.out.cut ha (by rw [HF1.out,HF2.out];exact hf)];rfl)
 go_enter Tryz.func221,Tryz.ntmps221
 go_wp2_with fail
 generalize ((w.alloc (.cells #[.slice xa1 a.1.length xc1,.slice xa2 a.2.length xc2] 26)).alloc (.cells #[.slice ya1 b.1.length yc1,.slice ya2 b.2.length yc2] 26))=w0 at HX ⊢
 have c0:=HX.out.1.1
 have c1:=HX.out.1.2
 have d0:=HX.out.2.2.1;have d1:=HX.out.2.2.2;have hW:=HX.out.2.1
 refine (cb (l5Fits_any _ _ a.1 q _ (h1.keep hW) (hcw.out.keep hW) FA.out.1.1 HQ9.out) HF1.out).mono ?_
 rintro e w1 ⟨rfl,hb⟩
 replace c0:=cell_keep hb c0;replace c1:=cell_keep hb c1;replace d0:=cell_keep hb d0;replace d1:=cell_keep hb d1;replace hW:=bt hW hb
 clear hb
 cases f1 with
 | false =>
   have HN:=Lib.hid (HNo.out rfl)
   go_wp2
   go_returns
   exact ⟨_,by rw [HN.out];rfl,fun cl e=>(by rw [HN.out] at e;cases e),bt hW Bl⟩
 | true =>
   go_wp2_with fail
   refine (cb (l5Early_any _ _ a.2 q _ (h2.keep hW) (hcw.out.keep hW) FA.out.1.2 HQ9.out H8.out) HF2.out).mono ?_
   rintro e w2 ⟨rfl,hb⟩
   replace c0:=cell_keep hb c0;replace c1:=cell_keep hb c1;replace d0:=cell_keep hb d0;replace d1:=cell_keep hb d1;replace hW:=bt hW hb
   clear hb
   cases f2 with
   | false =>
     have HN:=Lib.hid (HNo.out rfl)
     go_wp2
     go_returns
     exact ⟨_,by rw [HN.out];rfl,fun cl e=>(by rw [HN.out] at e;cases e),bt hW Bl⟩
   | true =>
     obtain ⟨ap,hap⟩:∃ x,apartB (filledL q a.2)=x:=⟨_,rfl⟩
     have hfin:=HP.out.fin ha hcov HF1.out
     rw [hap] at hfin
     have HAP:=Lib.hid hap
     have HFIN:=Lib.hid hfin
     clear hap hfin
     go_wp2_with fail
     refine (filledS_any _ _ q a.2 _ (hcw.out.keep hW) HQ9.out (h2.keep hW) FA.out.1.2 hl2).mono ?_
     rintro e w3 ⟨vL,rfl,hL,hb⟩
     have hLr:=hL.rl
     obtain ⟨la,lc,rfl⟩:=hLr.form
     replace c0:=cell_keep hb c0;replace c1:=cell_keep hb c1;replace d0:=cell_keep hb d0;replace d1:=cell_keep hb d1;replace hW:=bt hW hb
     clear hb hL
     go_wp2_with fail
     refine (cb (l5Apart_any _ (filledL q a.2) _ hLr) HAP.out).mono ?_
     rintro e w4 ⟨rfl,hb⟩
     replace c0:=cell_keep hb c0;replace c1:=cell_keep hb c1;replace d0:=cell_keep hb d0;replace d1:=cell_keep hb d1;replace hW:=bt hW hb
     clear hb hLr
     cases ap with
     | false =>
       have HN:=Lib.hid (show r=none by rw [← HR.out,HFIN.out];rfl)
       go_wp2
       go_returns
       exact ⟨_,by rw [HN.out];rfl,fun cl e=>(by rw [HN.out] at e;cases e),bt hW Bl⟩
     | true =>
       obtain ⟨q6,hq6⟩:∃ x,(b.1.all (fitsF q) && (mtchF (filledL q a.2) (filledL q b.2)).isSome)=x:=⟨_,rfl⟩
       have HQ6:=Lib.hid hq6
       have hfail:failC a b q=!q6:=by
        have hsh:=HP.out.shape
        rw [hMb] at hsh
        have hrd:readC (termsM b) a q=true:=by
         rw [readC,Bool.and_eq_true]
         exact ⟨hsh,by rw [end_poss ha HP.out.shape hcov,HF1.out,HAP.out];rfl⟩
        rw [failC,matchC,← facts_eq hbv hrd,← hq6]
        cases b.1.all (fitsF q) <;> cases mtchF (filledL q a.2) (filledL q b.2) <;> rfl
       have HFAIL:=Lib.hid hfail
       clear hq6 hfail
       go_wp2_with fail
       refine (cb (l6Case_any _ _ _ _ _ a b q _ (h1.keep hW) (h2.keep hW) (k1.keep hW) (k2.keep hW) (hcw.out.keep hW) ha hbv HQ9.out) HQ6.out).mono ?_
       rintro e w5 ⟨rfl,hb⟩
       replace hW:=bt hW hb
       clear hb c0 c1 d0 d1
       cases q6 with
       | true =>
         have HN:=Lib.hid (show r=none by rw [← HR.out,HFIN.out];simp [HFAIL.out])
         go_wp2
         go_returns
         exact ⟨_,by rw [HN.out];rfl,fun cl e=>(by rw [HN.out] at e;cases e),bt hW Bl⟩
       | false =>
         have HN:=Lib.hid (show r=some q by rw [← HR.out,HFIN.out];simp [HFAIL.out])
         go_wp2_with (at_builtin;go_must (refine app_copy0 rfl _ _ rfl rfl rfl (hcw.out.keep hW) (by rw [HQ9.out];decide) (by rw [HQ9.out];decide) ?_;intro g9 c9 w9 own9 hb9))
         go_returns
         exact ⟨_,by rw [HN.out];rfl,fun cl e=>(by rw [HN.out] at e;injection e with e;subst e;exact own_mono own9 hW.size),bt hW hb9⟩
set_option maxRecDepth 100000 in
set_option maxHeartbeats 12800000 in
theorem seek_succ {M:Nat} {a b:Asn} (ha:asnB a=true) {n:Nat} (ih:SeekP M a b n):SeekP M a b (n+1):=by
 intro S1 S2 S3 S4 v1 v2 u1 u2 cv Mf g fc t ti p q r w h1 h2 k1 k2 hbw hc hbit hti ht1 htn hP hr
 obtain ⟨xa1,xc1,rfl⟩:=h1.form
 obtain ⟨xa2,xc2,rfl⟩:=h2.form
 obtain ⟨ya1,yc1,rfl⟩:=k1.form;obtain ⟨ya2,yc2,rfl⟩:=k2.form;obtain ⟨ca,cc,rfl⟩:=hc.form
 have fa:=asn_all' ha
 have FA:=Lib.hid fa
 have H8:=Lib.hid hP.le8
 have HP:=Lib.hid hP
 have HQ9:=Lib.hid hP.hq
 have hl2:a.2.length≤1048576:=by have:=fa.2;omega
 have c0:((w.alloc (.cells #[.slice xa1 a.1.length xc1,.slice xa2 a.2.length xc2] 26)).alloc (.cells #[.slice ya1 b.1.length yc1,.slice ya2 b.2.length yc2] 26)).cell? ⟨w.heap.size,0,none⟩=some (.slice xa1 a.1.length xc1):=by simp [go_sem]
 have c1:((w.alloc (.cells #[.slice xa1 a.1.length xc1,.slice xa2 a.2.length xc2] 26)).alloc (.cells #[.slice ya1 b.1.length yc1,.slice ya2 b.2.length yc2] 26)).cell? ⟨w.heap.size,1,none⟩=some (.slice xa2 a.2.length xc2):=by simp [go_sem]
 have d0:((w.alloc (.cells #[.slice xa1 a.1.length xc1,.slice xa2 a.2.length xc2] 26)).alloc (.cells #[.slice ya1 b.1.length yc1,.slice ya2 b.2.length yc2] 26)).cell? ⟨w.heap.size+1,0,none⟩=some (.slice ya1 b.1.length yc1):=(by simp [go_sem]);have d1:((w.alloc (.cells #[.slice xa1 a.1.length xc1,.slice xa2 a.2.length xc2] 26)).alloc (.cells #[.slice ya1 b.1.length yc1,.slice ya2 b.2.length yc2] 26)).cell? ⟨w.heap.size+1,1,none⟩=some (.slice ya2 b.2.length yc2):=(by simp [go_sem]);have hW:Below w.heap.size w ((w.alloc (.cells #[.slice xa1 a.1.length xc1,.slice xa2 a.2.length xc2] 26)).alloc (.cells #[.slice ya1 b.1.length yc1,.slice ya2 b.2.length yc2] 26)):=Bl
 have HX:=Lib.hid (And.intro (And.intro c0 c1) (And.intro hW (And.intro d0 d1)))
 have hg:=hbw.lt
 obtain ⟨f1,hf1⟩:∃ x,a.1.all (fitsF q)=x:=⟨_,rfl⟩
 obtain ⟨f2,hf2⟩:∃ x,earlyE q 0 a.2=x:=⟨_,rfl⟩
 have HF1:=Lib.hid hf1
 have HF2:=Lib.hid hf2
 have HR:=Lib.hid hr
 clear c0 c1 hW d0 d1 fa hf1 hf2 hr hP
 obtain rfl:ti=(t:Int):=hti
 have hcw:=Lib.hid hc
 have HBW:=Lib.hid hbw
 have HTN:=Lib.hid htn
 have HBIT:=Lib.hid hbit
 clear hc hbw htn hbit
 have ht8:(t:Int)≤8:=by have:=HTN.out;omega
 have ht9:t < 9:=by omega
 have htq:(t:Int) < 9:=by omega
 have HNo:=Lib.hid (show (f1 && f2)=false→r=none by
  intro hf
  rw [← HR.out,HP.out.cut ha (by rw [HF1.out,HF2.out];exact hf)];rfl)
 go_enter Tryz.func221,Tryz.ntmps221
 go_wp2_with fail
 generalize ((w.alloc (.cells #[.slice xa1 a.1.length xc1,.slice xa2 a.2.length xc2] 26)).alloc (.cells #[.slice ya1 b.1.length yc1,.slice ya2 b.2.length yc2] 26))=w0 at HX ⊢
 have c0:=HX.out.1.1
 have c1:=HX.out.1.2
 have d0:=HX.out.2.2.1;have d1:=HX.out.2.2.2;have hW:=HX.out.2.1
 refine (cb (l5Fits_any _ _ a.1 q _ (h1.keep hW) (hcw.out.keep hW) FA.out.1.1 HQ9.out) HF1.out).mono ?_
 rintro e w1 ⟨rfl,hb⟩
 replace c0:=cell_keep hb c0;replace c1:=cell_keep hb c1;replace d0:=cell_keep hb d0;replace d1:=cell_keep hb d1;replace hW:=bt hW hb
 clear hb
 cases f1 with
 | false =>
   have HN:=Lib.hid (HNo.out rfl)
   go_wp2
   go_returns
   exact ⟨_,by rw [HN.out];rfl,fun cl e=>(by rw [HN.out] at e;cases e),bt hW Bl⟩
 | true =>
   go_wp2_with fail
   refine (cb (l5Early_any _ _ a.2 q _ (h2.keep hW) (hcw.out.keep hW) FA.out.1.2 HQ9.out H8.out) HF2.out).mono ?_
   rintro e w2 ⟨rfl,hb⟩
   replace c0:=cell_keep hb c0;replace c1:=cell_keep hb c1;replace d0:=cell_keep hb d0;replace d1:=cell_keep hb d1;replace hW:=bt hW hb
   clear hb
   cases f2 with
   | false =>
     have HN:=Lib.hid (HNo.out rfl)
     go_wp2
     go_returns
     exact ⟨_,by rw [HN.out];rfl,fun cl e=>(by rw [HN.out] at e;cases e),bt hW Bl⟩
   | true =>
     have hbw:=HBW.out.keep hW
     have hfl:=hbw.cell t (by omega)
     have hMt:=HBIT.out t ht1
     cases hbt:Mf.testBit t with
     | false =>
       rw [hbt] at hfl hMt
       have HMT:=Lib.hid hMt
       have hre:=rest_not (M:=M) (a:=a) (n:=n) (p:=p) (by rw [HP.out.hp];exact hMt)
       have hih:=ih _ _ _ _ _ Mf g fc (t+1) ((t:Int)+1) (p ++ [-1]) q r w2 (h1.keep hW) (h2.keep hW) (k1.keep hW) (k2.keep hW) hbw (hcw.out.keep hW) HBIT.out (by omega) (by omega) (by have:=HTN.out;omega) (HP.out.skip ht9 hMt) (by rw [← hre];exact HR.out)
       have HIH:=Lib.hid hih
       clear hbt hMt hre hih hbw
       go_wp2_with fail
       refine HIH.out.mono ?_
       rintro e w5 ⟨v5,rfl,ho5,hb5⟩
       go_wp2
       go_returns
       exact ⟨_,rfl,fun cl e=>own_mono (ho5 cl e) hW.size,bt hW hb5⟩
     | true =>
       rw [hbt] at hfl hMt
       have HMT:=Lib.hid hMt
       have HW2:=Lib.hid (And.intro (And.intro c0 c1) (And.intro hW (And.intro d0 d1)))
       clear hbt hMt hbw
       go_wp2
       go_loopg [12] (t+1) (fun gq i wr=>∃ k:Nat,k+gq=t+1∧i=.int .i64 k∧(restTo M a n p k).find? (failC a b)=none∧(wr.cell? ⟨w.heap.size,0,none⟩=some (.slice xa1 a.1.length xc1)∧wr.cell? ⟨w.heap.size,1,none⟩=some (.slice xa2 a.2.length xc2))∧(wr.cell? ⟨w.heap.size+1,0,none⟩=some (.slice ya1 b.1.length yc1)∧wr.cell? ⟨w.heap.size+1,1,none⟩=some (.slice ya2 b.2.length yc2))∧Below w.heap.size w wr)
       case atStart=>exact ⟨0,by omega,rfl,rfl,HW2.out.1,HW2.out.2.2,HW2.out.2.1⟩
       case round =>
        clear c0 c1 d0 d1 hW hfl
        obtain ⟨k,hk,rfl,hno,⟨c0,c1⟩,⟨d0,d1⟩,hW⟩:=hrel
        have HK:=Lib.hid hk
        have HNONE:=Lib.hid hno
        clear hk hno
        obtain ⟨gb,go_,gc,hfe,_,_,hcell⟩:=(hcw.out.keep hW).ne (by rw [HQ9.out];decide)
        simp only [Value.slice.injEq] at hfe
        obtain ⟨rfl,hh,rfl⟩:=hfe
        clear hh
        by_cases hk8:k≤t
        · have hki:(k:Int)≤(t:Int):=by omega
          have hk9:(k:Int) < (q.length:Int):=by rw [HQ9.out];omega
          have hcl:=hcell k (by rw [HQ9.out];omega)
          have hzb:gb < wr.heap.size:=World.block_lt_of_cell? wr _ hcl
          obtain ⟨E,hE⟩:∃ E,gi q k=E:=⟨_,rfl⟩
          rw [hE] at hcl
          clear hcell
          by_cases hne:k < t∧¬ E=(k:Int)
          · have hlt:(k:Int) < (t:Int):=by omega
            have heb:(E != (k:Int))=true:=by simp [hne.2]
            have HN:=Lib.hid (show (restTo M a n p (k+1)).find? (failC a b)=none by
             rw [restTo_no (by
              rw [Bool.or_eq_false_iff,beq_eq_false_iff_ne,beq_eq_false_iff_ne,HP.out.hp]
              exact ⟨by omega,by rw [← HP.out.ag k hne.1,hE];exact hne.2⟩)]
             exact HNONE.out)
            clear hE hne
            go_wp2
            go_roundg (gk - 1)
            case rel=>exact ⟨k+1,by have:=HK.out;omega,by go_num,HN.out,⟨c0,c1⟩,⟨d0,d1⟩,hW⟩
            case measure=>have:=HK.out;omega
          have hyes:(k < t∧gi q k=(k:Int))∨k=t:=by
           by_cases e:k=t
           · exact .inr e
           · exact .inl ⟨by omega,by rw [hE];exact Decidable.byContradiction fun h=>hne ⟨by omega,h⟩⟩
          have hst:=restTo_yes (M:=M) (a:=a) (n:=n) (p:=p) (k:=k) (by
           rw [Bool.or_eq_true,beq_iff_eq,beq_iff_eq,HP.out.hp]
           rcases hyes with ⟨h1,h2⟩ | h
           · exact .inr (by rw [← HP.out.ag k h1];exact h2)
           · exact .inl h)
          have HST:=Lib.hid hst
          have HPN:=Lib.hid (HP.out.next ht9 HMT.out hyes)
          obtain ⟨rk,hrk⟩:∃ x,(restL M a n (p ++ [(k:Int)])).find? (failC a b)=x:=⟨_,rfl⟩
          have HRK:=Lib.hid hrk
          have hcase:(E=(k:Int)∧(k:Int) < (t:Int))∨¬ (k:Int) < (t:Int):=by
           rcases hyes with ⟨h1,h2⟩ | h
           · exact .inl ⟨by rw [← hE];exact h2,by omega⟩
           · right;omega
          clear hst hyes hne hE hrk
          have HRN:=Lib.hid (show rk=none→(restTo M a n p (k+1)).find? (failC a b)=none by
           intro e;subst e;rw [HST.out];exact find_none_app HNONE.out HRK.out)
          have HRS:=Lib.hid (show ∀ cl,rk=some cl→r=some cl by
           intro cl e;subst e
           rw [← HR.out]
           have hto:=restTo_to (M:=M) (a:=a) (n:=n) (p:=p) (k:=k+1) (by rw [HP.out.hp];exact HMT.out) (by rw [HP.out.hp];omega)
           rw [HST.out] at hto
           exact find_pre hto HNONE.out HRK.out)
          have hzw:w.heap.size+1 < wr.heap.size:=World.block_lt_of_cell? wr _ d0
          rcases hcase with ⟨rfl,hlt⟩ | hlt
          all_goals
           go_wp2_with (at_builtin;go_must (refine app_copy0 rfl _ _ rfl rfl rfl (hcw.out.keep hW) (by rw [HQ9.out];decide) (by rw [HQ9.out];decide) ?_;intro g9 c9 w9 own9 hb9;have HO9:=Lib.hid own9;obtain ⟨hcold,hfz⟩:=own_cell own9 t (by rw [HQ9.out];omega);have hq9:(t:Int) < (q.length:Int):=(by rw [HQ9.out];omega);have hg9:wr.heap.size≤g9:=(own_lt own9 rfl).1;replace c0:=cell_set_other (r:=⟨g9,t,none⟩) (u:=.int .i64 (k:Int)) (cell_keep hb9 c0) (show ¬ w.heap.size=g9 by omega);replace c1:=cell_set_other (r:=⟨g9,t,none⟩) (u:=.int .i64 (k:Int)) (cell_keep hb9 c1) (show ¬ w.heap.size=g9 by omega);replace d0:=cell_set_other (r:=⟨g9,t,none⟩) (u:=.int .i64 (k:Int)) (cell_keep hb9 d0) (show ¬ w.heap.size+1=g9 by omega);replace d1:=cell_set_other (r:=⟨g9,t,none⟩) (u:=.int .i64 (k:Int)) (cell_keep hb9 d1) (show ¬ w.heap.size+1=g9 by omega);have hW9:=Lib.hid (bt hW (hb9.setCell (show wr.heap.size≤(⟨g9,t,none⟩:Addr).block from hg9) (.int .i64 (k:Int))));clear own9 hb9))
           refine (ih _ _ _ _ _ Mf g fc (t+1) ((t:Int)+1) (p ++ [(k:Int)]) (q.set t (k:Int)) rk _ (h1.keep hW9.out) (h2.keep hW9.out) (k1.keep hW9.out) (k2.keep hW9.out) (HBW.out.keep hW9.out) (own_ints (own_set HO9.out t (k:Int))).1 HBIT.out (by omega) (by omega) (by have:=HTN.out;omega) HPN.out HRK.out).mono ?_
           rintro e w5 ⟨v5,rfl,ho5,hb5⟩
           replace c0:=cell_keep hb5 c0;replace c1:=cell_keep hb5 c1;replace d0:=cell_keep hb5 d0;replace d1:=cell_keep hb5 d1;replace hW:=bt hW9.out hb5
           cases rk with
           | none =>
             have HN:=Lib.hid (HRN.out rfl)
             clear hb5 ho5
             go_wp2
             go_roundg (gk - 1)
             case rel=>exact ⟨k+1,by have:=HK.out;omega,by go_num,HN.out,⟨c0,c1⟩,⟨d0,d1⟩,hW⟩
             case measure=>have:=HK.out;omega
           | some cl =>
             have HN:=Lib.hid (HRS.out cl rfl)
             go_wp2
             go_returns
             exact ⟨_,by rw [HN.out];rfl,fun cl' e=>(by rw [HN.out] at e;injection e with e;subst e;exact own_mono (ho5 _ rfl) hW9.out.size),hW⟩
        · obtain rfl:k=t+1:=by have:=HK.out;omega
          have hki:¬ ((t+1:Nat):Int)≤(t:Int):=by omega
          have hall:=restTo_all (M:=M) (a:=a) (n:=n) (p:=p) (by rw [HP.out.hp];exact HMT.out)
          rw [HP.out.hp] at hall
          have HN:=Lib.hid (show r=none by rw [← HR.out,← hall];exact HNONE.out)
          clear hall hcell
          go_wp2
          go_returns
          exact ⟨_,by rw [HN.out];rfl,fun cl e=>(by rw [HN.out] at e;cases e),bt hW Bl⟩
end Go.Proofs.YtkbbmjcfgcfejaaGreat
