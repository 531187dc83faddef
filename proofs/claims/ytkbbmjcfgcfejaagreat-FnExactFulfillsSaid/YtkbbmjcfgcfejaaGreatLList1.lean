/- Walk: spec.l3Subst. -/
import Derived.Test.YtkbbmjcfgcfejaaGreatLCase14
set_option linter.unusedVariables false
set_option linter.unusedSimpArgs false
set_option maxRecDepth 100000
set_option maxHeartbeats 12800000
namespace Go.Proofs.YtkbbmjcfgcfejaaGreat
open Go.RowKit
theorem Pt {P Q:Prop} (q:Q) (f:Q→P:=by intro q;first | (simp only [Act.put,List.setIfInBounds_toArray,List.set_cons_zero,List.set_cons_succ];exact q) | exact q):P:=f q
theorem JF {S1 S2:Nat→Prop} (v1 v2:Value) (a:Aj) (x t:Int) (w:World) (h1:RL w S1 v1 a.1) (h2:RL w S2 v2 a.2) (hl1:(a.1.length:Int)≤12) (hl2:(a.2.length:Int)≤8) :
 Calls Tryz.prog 158 #[.agg #[v1,v2],.int .i64 x,.int .i64 t] w fun e w'=>∃ x1 x2,e=.returned (.agg #[x1,x2])∧(FE w' w.heap.size x1 (Cb a x t).1∧FE w' w.heap.size x2 (Cb a x t).2)∧Below w.heap.size w w':=by
 obtain ⟨a1,a2⟩:=a;simp only at h1 h2 hl1 hl2;obtain ⟨p1,c1,rfl⟩:=h1.form;obtain ⟨p2,c2,rfl⟩:=h2.form;have hbA:=Ac (Ac (heap_alloc_new w (.cells #[.slice p1 a1.length c1,.slice p2 a2.length c2] 26)) (Aa _ (.cells #[.slice none 0 0,.slice none 0 0] 26))) (Aa _ (.cells #[.slice none 0 0,.slice none 0 0] 26));have hbR:=heap_alloc_new (w.alloc (.cells #[.slice p1 a1.length c1,.slice p2 a2.length c2] 26)) (.cells #[.slice none 0 0,.slice none 0 0] 26);rw [World.size_alloc] at hbR;have hB0:Below w.heap.size w ((w.alloc (.cells #[.slice p1 a1.length c1,.slice p2 a2.length c2] 26)).alloc (.cells #[.slice none 0 0,.slice none 0 0] 26)):=Bl;have H1:=Ad (An (An hbA hbR) hB0);have HH:=Ad (An h1 h2);clear hbA hbR hB0 h1 h2;go_enter Tryz.func158,Tryz.ntmps158
 go_wp2;go_loopg [8] a1.length (fun q i wr=>∃ (k:Nat) (y1:Value),k+q=a1.length∧i=.int .i64 k∧DB w wr (w.heap.size+1) (w.heap.size+1+1) y1 (.slice none 0 0) ((a1.take k).map (O6 x t)) []∧wr.heap[w.heap.size]?=some (.cells #[.slice p1 a1.length c1,.slice p2 a2.length c2] 26 (0,0)))
 case atStart=>exact ⟨0,_,by omega,rfl,DB.mkA (FE.nil _ _ _) (FE.nil _ _ _) H1.o.1.2 H1.o.2 Sp,H1.o.1.1⟩
 case round =>
  obtain ⟨k,y1,hk,rfl,D,hBX⟩:=hrel;have hLk:=In (f:=O6 x t) (show k≤a1.length by omega);obtain ⟨L,hL⟩:=Ex ((a1.take k).map (O6 x t));rw [hL] at D hLk;obtain ⟨ua1,uc1,rfl⟩:=D.f.form;obtain ⟨x0,x1,xl⟩:=B3 hBX;have hwz:=D.fr.size;have hbo:=Ae D.boxA;by_cases hk8:k < a1.length
  · have hki:(k:Int) < (a1.length:Int):=by omega
    have hst:=NY (f:=O6 x t) hk8;obtain ⟨qa,qc,hqe,_,_,hqf⟩:=(HH.o.1.keep D.fr).factAt;simp only [Value.slice.injEq] at hqe;obtain ⟨rfl,_,rfl⟩:=hqe;obtain ⟨b1,o1,rfl,_,hz1,hp1,hp2,hp3⟩:=hqf k hk8;obtain ⟨X,hX⟩:=Ex (gd a1 k);obtain ⟨X1,X2,X3⟩:=X;rw [hX] at hp1 hp2 hp3 hst;rw [hL] at hst;simp only [O6] at hp1 hp2 hp3 hst;have HK:=Ad (An hk (An hst hLk));clear hqf hX hL hk hst hLk;have HD:=Ad (An D hBX);clear D hBX;(go_upto_region 6 with fail);have hwo:Below wr.heap.size wr (wr.alloc (.cells #[.bool X1,.int .i64 X2,.int .i64 X3] 61)):=Aa _ _;have hF:=heap_alloc_new wr (.cells #[.bool X1,.int .i64 X2,.int .i64 X3] 61);generalize wr.alloc (.cells #[.bool X1,.int .i64 X2,.int .i64 X3] 61)=we at hwo hF ⊢;have HE:=Ad (An (HD.o.1.keep hwo) (Ac HD.o.2 hwo));clear x0 x1 xl hp1 hp2 hp3 hz1 hwo hwz hbo;generalize wr.heap.size=bF at hF ⊢;have g0:=Lp hF;have g1:=JZ hF;have g2:=J0 hF;have gz:=Ae hF;have d0:=Bd HE.o.1.boxA;have dz:=BI HE.o.1.boxA 0;have hbo:=Ae HE.o.1.boxA;have hwz:=HE.o.1.fr.size;have hlk:L.length≤k:=Nat.le_of_eq HK.o.2.2;have HS:=Ad (An (Ab (Ai we) d0) (An (Ab (Ai we) g0) (An (Ab (Ai we) g1) (Ab (Ai we) g2))));clear hF g0 g1 g2 d0;refine Cj (S:=(fun w'=>w'.cell? ⟨w.heap.size+1+1,0,none⟩=some (.slice ua1 L.length uc1)∧(w'.cell? ⟨bF,0,none⟩=some (.bool X1)∧(w'.cell? ⟨bF,1,none⟩=some (.int .i64 X2)∧w'.cell? ⟨bF,2,none⟩=some (.int .i64 X3))))) (dep:=[16,18]) Kr HS.o (fun hHeld=>?_);refine Ao (i:=0) (oi:=_) (v:=?_) rfl Kr Kr Kr Kr (fun _ _ _ h=>h) (Or.inl ⟨by rfl,?_⟩) hHeld (fun hHeld=>?_);rotate_left
    · (intro w _;first | (go_simp;done) | (go_simp;with_reducible rfl))
    refine Pt ?_;refine Ao (i:=2) (oi:=_) (v:=?_) rfl Kr Kr Kr Kr (fun _ _ _ h=>h) (Or.inl ⟨by rfl,?_⟩) hHeld (fun hHeld=>?_);rotate_left
    · (intro w _;first | (go_simp;done) | (go_simp;with_reducible rfl))
    refine Pt ?_;refine Ao (i:=4) (oi:=_) (v:=?_) rfl Kr Kr Kr Kr (fun _ _ _ h=>h) (Or.inl ⟨by rfl,?_⟩) hHeld (fun hHeld=>?_);rotate_left
    · (intro w _;first | (go_simp;done) | (go_simp;with_reducible rfl))
    refine Pt ?_;refine Ao (i:=6) (oi:=_) (v:=?_) rfl Kr Kr Kr Kr (fun _ _ _ h=>h) (Or.inl ⟨by rfl,?_⟩) hHeld (fun hHeld=>?_);rotate_left
    · (intro w _;first | (go_simp;done) | (go_simp;with_reducible rfl))
    refine Pt ?_;refine Ao (i:=7) (oi:=_) (v:=?_) rfl Kr Kr Kr Kr (fun _ _ _ h=>h) (Or.inl ⟨by rfl,?_⟩) hHeld (fun hHeld=>?_);rotate_left
    · (intro w _;first | (go_simp;done) | (go_simp;with_reducible rfl))
    refine Pt ?_;refine Ao (i:=9) (oi:=_) (v:=?_) rfl Kr Kr Kr Kr (fun _ _ _ h=>h) (Or.inl ⟨by rfl,?_⟩) hHeld (fun hHeld=>?_);rotate_left
    · (intro w _;first | (go_simp;done) | (go_simp;with_reducible rfl))
    refine Pt ?_;refine Ao (i:=11) (oi:=_) (v:=?_) rfl Kr Kr Kr Kr (fun _ _ _ h=>h) (Or.inl ⟨by rfl,?_⟩) hHeld (fun hHeld=>?_);rotate_left
    · (intro w _;first | (go_simp;done) | (go_simp;with_reducible rfl))
    refine Pt ?_;refine Ao (i:=12) (oi:=_) (v:=?_) rfl Kr Kr Kr Kr (fun _ _ _ h=>h) (Or.inl ⟨by rfl,?_⟩) hHeld (fun hHeld=>?_);rotate_left
    · (intro w _;first | (go_simp;done) | (go_simp;with_reducible rfl))
    refine Pt ?_;refine AW (i:=1) (oi:=_) (v:=?_) rfl Kr Kr Kr Kr Kr (fun _ _ _ h=>h) (Or.inl ⟨by rfl,?_⟩) (hHeld (BC Kr)) ?_;rotate_left
    · (intro w hSw;obtain ⟨hS0,hS1,hS2,hS3⟩:=hSw;first | (go_simp;done) | (go_simp;with_reducible rfl))
    refine Pt ?_;replace hHeld:=fun (he:Early _ _)=>hHeld (Early.of_set (i:=1) he Dc);refine AW (i:=3) (oi:=_) (v:=?_) rfl Kr Kr Kr Kr Kr (fun _ _ _ h=>h) (Or.inl ⟨by rfl,?_⟩) (hHeld (BC Kr)) ?_;rotate_left
    · (intro w hSw;obtain ⟨hS0,hS1,hS2,hS3⟩:=hSw;first | (go_simp;done) | (go_simp;with_reducible rfl))
    refine Pt ?_;replace hHeld:=fun (he:Early _ _)=>hHeld (Early.of_set (i:=3) he Dc);refine AW (i:=5) (oi:=_) (v:=?_) rfl Kr Kr Kr Kr Kr (fun _ _ _ h=>h) (Or.inl ⟨by rfl,?_⟩) (hHeld (BC Kr)) ?_;rotate_left
    · (intro w hSw;obtain ⟨hS0,hS1,hS2,hS3⟩:=hSw;first | (go_simp;done) | (go_simp;with_reducible rfl))
    refine Pt ?_;replace hHeld:=fun (he:Early _ _)=>hHeld (Early.of_set (i:=5) he Dc);refine AW (i:=10) (oi:=_) (v:=?_) rfl Kr Kr Kr Kr Kr (fun _ _ _ h=>h) (Or.inl ⟨by rfl,?_⟩) (hHeld (BC Kr)) ?_;rotate_left
    · (intro w hSw;obtain ⟨hS0,hS1,hS2,hS3⟩:=hSw;first | (go_simp;done) | (go_simp;with_reducible rfl))
    refine Pt ?_;replace hHeld:=fun (he:Early _ _)=>hHeld (Early.of_set (i:=10) he Dc);refine AK (rs:=[8]) Kr Sp ?_;refine (AllReadyD.cons (o:=_) rfl (fun K hK=>?_) AllReadyD.nil);clear hHeld;go_simp
    (go_at_call 214;refine (DM _ _ _ _).mono ?_;rintro e y1 ⟨rfl,rfl⟩)
    (go_wp2_with fail);refine hK.out _ _ ?_ (fun hHeld=>?_)
    · exact fun _=>HS.o
    clear hK K;refine Pt ?_;refine AK (rs:=[13]) Kr Sp ?_;refine (AllReadyD.cons (o:=_) rfl (fun K hK=>?_) AllReadyD.nil);clear hHeld;go_simp
    (go_at_call 214;refine (DM _ _ _ _).mono ?_;rintro e y2 ⟨rfl,rfl⟩)
    (go_wp2_with fail);refine hK.out _ _ ?_ (fun hHeld=>?_)
    · exact fun _=>HS.o
    clear hK K;refine Pt ?_;refine Ao (i:=14) (oi:=_) (v:=?_) rfl Kr Kr Kr Kr (fun _ _ _ h=>h) (Or.inl ⟨by rfl,?_⟩) hHeld (fun hHeld=>?_);rotate_left
    · (intro w _;first | (go_simp;done) | (go_simp;with_reducible rfl))
    refine Pt ?_;refine AK (rs:=[15]) Kr Sp ?_;refine (AllReadyD.cons (o:=_) rfl (fun K hK=>?_) AllReadyD.nil);clear hHeld;go_simp
    refine hK.out _ _ ?_ (fun hHeld=>?_)
    · exact fun _=>⟨Ab (Aa _ _) HS.o.1,Ab (Aa _ _) HS.o.2.1,Ab (Aa _ _) HS.o.2.2.1,Ab (Aa _ _) HS.o.2.2.2⟩
    clear hK K;refine Pt ?_;refine AK (rs:=[16]) Kr Sp ?_;refine (AllReadyD.cons (o:=_) rfl (fun K hK=>?_) AllReadyD.nil);clear hHeld;refine DH (l:=L) (m:=[((X1,DL x t X2,DL x t X3):Ap)]) (B:=w.heap.size) (by rfl) (.tmp 26) (.tmp 40) _ (by rfl) A0 (by rfl) (HE.o.1.f.keep Bl) (by rfl) (Bm _ _ _ _ _) (by simp;omega) (by simp;omega) ?_;intro v' w7 o7 hf7;obtain ⟨a7,n7,c7,rfl⟩:=o7.forms;have hA7:=HE.o.1.boxTf hf7 Bl Dc;have hb0:=Bd hA7;have hbz:=BI hA7 0;have hbl7:=Ae hA7;clear hA7;refine hK.out _ _ ?_ (fun hHeld=>?_)
    · exact Dd Kr
    clear hK K;refine Pt ?_;refine Ao (i:=17) (oi:=_) (v:=?_) rfl Kr Kr Kr Kr (fun _ _ _ h=>h) (Or.inl ⟨by rfl,?_⟩) hHeld (fun hHeld=>?_);rotate_left
    · (intro w _;first | (go_simp;done) | (go_simp;with_reducible rfl))
    refine Pt ?_;refine AK (rs:=[18]) Kr Sp ?_;refine (AllReadyD.cons (o:=_) rfl (fun K hK=>?_) AllReadyD.nil);clear hHeld;go_simp
    refine hK.out _ _ ?_ (fun hHeld=>?_)
    · exact Dd Kr
    clear hK K;refine Pt ?_;refine Db Kr ?_ _;clear hHeld;have D9:=HE.o.1.app1T hf7 o7 Bl Om Om;have hB9:=Tm HE.o.2 hf7 Bl Dc ⟨w.heap.size+1+1,0,none⟩ (.slice a7 n7 c7) (by show ¬ w.heap.size=w.heap.size+1+1;omega);have H9:=Ad (An D9 hB9);clear D9 hB9 o7 hf7;go_wp2;go_roundg (gk - 1)
    case rel=>exact ⟨k+1,_,by have:=HK.o.1;omega,by go_num,by rw [HK.o.2.1];exact H9.o.1,H9.o.2⟩
    case measure=>have:=HK.o.1;omega
  · obtain rfl:k=a1.length:=by omega
    rw [List.take_length] at hL;obtain ⟨wm,rfl⟩:∃ wm:World,wm=wr:=⟨_,rfl⟩;have HD0:=Ad (An D hBX);have HL:=Ad hL;(have hLl:L.length≤12:=by omega);clear D hBX hL hk hLk hbo hwz;go_wp2;clear x0 x1 xl;go_loopg [10] a2.length (fun q i wr=>∃ (n:Nat) (y2:Value),n+q=a2.length∧i=.int .i64 n∧DB w wr (w.heap.size+1) (w.heap.size+1+1) (.slice ua1 L.length uc1) y2 L ((a2.take n).map (Q0 x t))∧wr.heap[w.heap.size]?=some (.cells #[.slice p1 a1.length c1,.slice p2 a2.length c2] 26 (0,0)))
    case atStart=>exact ⟨0,_,by omega,rfl,HD0.o.1,HD0.o.2⟩
    case round =>
     clear HD0;obtain ⟨n,y2,hn,rfl,D,hBX⟩:=hrel;have hMn:=In (f:=Q0 x t) (show n≤a2.length by omega);obtain ⟨M,hM⟩:=Ex ((a2.take n).map (Q0 x t));rw [hM] at D hMn;obtain ⟨ua2,uc2,rfl⟩:=D.a.form;by_cases hn8:n < a2.length
     · obtain ⟨x0,x1,xl⟩:=B3 hBX
       (have hni:(n:Int) < (a2.length:Int):=by omega);have hst:=NY (f:=Q0 x t) hn8;obtain ⟨qa,qc,hqe,_,_,hqf⟩:=(HH.o.2.keep D.fr).atomAt;simp only [Value.slice.injEq] at hqe;obtain ⟨rfl,_,rfl⟩:=hqe;obtain ⟨b1,o1,rfl,_,hz1,hp1,hp2,hp3⟩:=hqf n hn8;obtain ⟨X,hX⟩:=Ex (gd a2 n);obtain ⟨X1,X2,X3⟩:=X;rw [hX] at hp1 hp2 hp3 hst;rw [hM] at hst;simp only [Q0] at hp1 hp2 hp3 hst;have HN:=Ad (An hn (An hst hMn));clear hqf hX hM hn hst hMn;have HD:=Ad (An D hBX);clear D hBX;(go_upto_region 11 with fail);have hwo:Below wr.heap.size wr (wr.alloc (.cells #[.int .i64 X1,.int .i64 X2,.int .i64 X3] 118)):=Aa _ _;have hF:=heap_alloc_new wr (.cells #[.int .i64 X1,.int .i64 X2,.int .i64 X3] 118);generalize wr.alloc (.cells #[.int .i64 X1,.int .i64 X2,.int .i64 X3] 118)=we at hwo hF ⊢;have HE:=Ad (An (HD.o.1.keep hwo) (Ac HD.o.2 hwo));clear x0 x1 xl hp1 hp2 hp3 hz1 hwo;generalize wr.heap.size=bF at hF ⊢;have gz:=Ae hF;have dz:=BI HE.o.1.boxA 1;have hbo:=Ae HE.o.1.boxA;have hwz:=HE.o.1.fr.size;have hlk:M.length≤n:=Nat.le_of_eq HN.o.2.2;have HS:=Ad (An (Ab (Ai we) (AY HE.o.1.boxA)) (An (Ab (Ai we) (Lp hF)) (An (Ab (Ai we) (JZ hF)) (Ab (Ai we) (J0 hF)))));clear hF;refine Cj (S:=(fun w'=>w'.cell? ⟨w.heap.size+1+1,1,none⟩=some (.slice ua2 M.length uc2)∧(w'.cell? ⟨bF,0,none⟩=some (.int .i64 X1)∧(w'.cell? ⟨bF,1,none⟩=some (.int .i64 X2)∧w'.cell? ⟨bF,2,none⟩=some (.int .i64 X3))))) (dep:=[16,18]) Kr HS.o (fun hHeld=>?_);refine Ao (i:=0) (oi:=_) (v:=?_) rfl Kr Kr Kr Kr (fun _ _ _ h=>h) (Or.inl ⟨by rfl,?_⟩) hHeld (fun hHeld=>?_);rotate_left
       · (intro w _;first | (go_simp;done) | (go_simp;with_reducible rfl))
       refine Pt ?_;refine Ao (i:=2) (oi:=_) (v:=?_) rfl Kr Kr Kr Kr (fun _ _ _ h=>h) (Or.inl ⟨by rfl,?_⟩) hHeld (fun hHeld=>?_);rotate_left
       · (intro w _;first | (go_simp;done) | (go_simp;with_reducible rfl))
       refine Pt ?_;refine Ao (i:=4) (oi:=_) (v:=?_) rfl Kr Kr Kr Kr (fun _ _ _ h=>h) (Or.inl ⟨by rfl,?_⟩) hHeld (fun hHeld=>?_);rotate_left
       · (intro w _;first | (go_simp;done) | (go_simp;with_reducible rfl))
       refine Pt ?_;refine Ao (i:=6) (oi:=_) (v:=?_) rfl Kr Kr Kr Kr (fun _ _ _ h=>h) (Or.inl ⟨by rfl,?_⟩) hHeld (fun hHeld=>?_);rotate_left
       · (intro w _;first | (go_simp;done) | (go_simp;with_reducible rfl))
       refine Pt ?_;refine Ao (i:=7) (oi:=_) (v:=?_) rfl Kr Kr Kr Kr (fun _ _ _ h=>h) (Or.inl ⟨by rfl,?_⟩) hHeld (fun hHeld=>?_);rotate_left
       · (intro w _;first | (go_simp;done) | (go_simp;with_reducible rfl))
       refine Pt ?_;refine Ao (i:=9) (oi:=_) (v:=?_) rfl Kr Kr Kr Kr (fun _ _ _ h=>h) (Or.inl ⟨by rfl,?_⟩) hHeld (fun hHeld=>?_);rotate_left
       · (intro w _;first | (go_simp;done) | (go_simp;with_reducible rfl))
       refine Pt ?_;refine Ao (i:=11) (oi:=_) (v:=?_) rfl Kr Kr Kr Kr (fun _ _ _ h=>h) (Or.inl ⟨by rfl,?_⟩) hHeld (fun hHeld=>?_);rotate_left
       · (intro w _;first | (go_simp;done) | (go_simp;with_reducible rfl))
       refine Pt ?_;refine Ao (i:=12) (oi:=_) (v:=?_) rfl Kr Kr Kr Kr (fun _ _ _ h=>h) (Or.inl ⟨by rfl,?_⟩) hHeld (fun hHeld=>?_);rotate_left
       · (intro w _;first | (go_simp;done) | (go_simp;with_reducible rfl))
       refine Pt ?_;refine AW (i:=1) (oi:=_) (v:=?_) rfl Kr Kr Kr Kr Kr (fun _ _ _ h=>h) (Or.inl ⟨by rfl,?_⟩) (hHeld (BC Kr)) ?_;rotate_left
       · (intro w hSw;obtain ⟨hS0,hS1,hS2,hS3⟩:=hSw;first | (go_simp;done) | (go_simp;with_reducible rfl))
       refine Pt ?_;replace hHeld:=fun (he:Early _ _)=>hHeld (Early.of_set (i:=1) he Dc);refine AW (i:=3) (oi:=_) (v:=?_) rfl Kr Kr Kr Kr Kr (fun _ _ _ h=>h) (Or.inl ⟨by rfl,?_⟩) (hHeld (BC Kr)) ?_;rotate_left
       · (intro w hSw;obtain ⟨hS0,hS1,hS2,hS3⟩:=hSw;first | (go_simp;done) | (go_simp;with_reducible rfl))
       refine Pt ?_;replace hHeld:=fun (he:Early _ _)=>hHeld (Early.of_set (i:=3) he Dc);refine AW (i:=5) (oi:=_) (v:=?_) rfl Kr Kr Kr Kr Kr (fun _ _ _ h=>h) (Or.inl ⟨by rfl,?_⟩) (hHeld (BC Kr)) ?_;rotate_left
       · (intro w hSw;obtain ⟨hS0,hS1,hS2,hS3⟩:=hSw;first | (go_simp;done) | (go_simp;with_reducible rfl))
       refine Pt ?_;replace hHeld:=fun (he:Early _ _)=>hHeld (Early.of_set (i:=5) he Dc);refine AW (i:=10) (oi:=_) (v:=?_) rfl Kr Kr Kr Kr Kr (fun _ _ _ h=>h) (Or.inl ⟨by rfl,?_⟩) (hHeld (BC Kr)) ?_;rotate_left
       · (intro w hSw;obtain ⟨hS0,hS1,hS2,hS3⟩:=hSw;first | (go_simp;done) | (go_simp;with_reducible rfl))
       refine Pt ?_;replace hHeld:=fun (he:Early _ _)=>hHeld (Early.of_set (i:=10) he Dc);refine AK (rs:=[8]) Kr Sp ?_;refine (AllReadyD.cons (o:=_) rfl (fun K hK=>?_) AllReadyD.nil);clear hHeld;go_simp
       (go_at_call 214;refine (DM _ _ _ _).mono ?_;rintro e y1 ⟨rfl,rfl⟩)
       (go_wp2_with fail);refine hK.out _ _ ?_ (fun hHeld=>?_)
       · exact fun _=>HS.o
       clear hK K;refine Pt ?_;refine AK (rs:=[13]) Kr Sp ?_;refine (AllReadyD.cons (o:=_) rfl (fun K hK=>?_) AllReadyD.nil);clear hHeld;go_simp
       (go_at_call 214;refine (DM _ _ _ _).mono ?_;rintro e y2 ⟨rfl,rfl⟩)
       (go_wp2_with fail);refine hK.out _ _ ?_ (fun hHeld=>?_)
       · exact fun _=>HS.o
       clear hK K;refine Pt ?_;refine Ao (i:=14) (oi:=_) (v:=?_) rfl Kr Kr Kr Kr (fun _ _ _ h=>h) (Or.inl ⟨by rfl,?_⟩) hHeld (fun hHeld=>?_);rotate_left
       · (intro w _;first | (go_simp;done) | (go_simp;with_reducible rfl))
       refine Pt ?_;refine AK (rs:=[15]) Kr Sp ?_;refine (AllReadyD.cons (o:=_) rfl (fun K hK=>?_) AllReadyD.nil);clear hHeld;go_simp
       refine hK.out _ _ ?_ (fun hHeld=>?_)
       · exact fun _=>⟨Ab (Aa _ _) HS.o.1,Ab (Aa _ _) HS.o.2.1,Ab (Aa _ _) HS.o.2.2.1,Ab (Aa _ _) HS.o.2.2.2⟩
       clear hK K;refine Pt ?_;refine AK (rs:=[16]) Kr Sp ?_;refine (AllReadyD.cons (o:=_) rfl (fun K hK=>?_) AllReadyD.nil);clear hHeld;refine DH (l:=M) (m:=[((X1,DL x t X2,DL x t X3):Am)]) (B:=w.heap.size) (by rfl) (.tmp 56) (.tmp 70) _ (by rfl) A3 (by rfl) (HE.o.1.a.keep Bl) (by rfl) (BB _ _ _ _ _) (by simp;omega) (by simp;omega) ?_;intro v' w7 o7 hf7;obtain ⟨a7,n7,c7,rfl⟩:=o7.forms;have hA7:=HE.o.1.boxTf hf7 Bl Dc;have hb0:=AY hA7;have hbz:=BI hA7 1;have hbl7:=Ae hA7;clear hA7;refine hK.out _ _ ?_ (fun hHeld=>?_)
       · exact Dd Kr
       clear hK K;refine Pt ?_;refine Ao (i:=17) (oi:=_) (v:=?_) rfl Kr Kr Kr Kr (fun _ _ _ h=>h) (Or.inl ⟨by rfl,?_⟩) hHeld (fun hHeld=>?_);rotate_left
       · (intro w _;first | (go_simp;done) | (go_simp;with_reducible rfl))
       refine Pt ?_;refine AK (rs:=[18]) Kr Sp ?_;refine (AllReadyD.cons (o:=_) rfl (fun K hK=>?_) AllReadyD.nil);clear hHeld;go_simp
       refine hK.out _ _ ?_ (fun hHeld=>?_)
       · exact Dd Kr
       clear hK K;refine Pt ?_;refine Db Kr ?_ _;clear hHeld;have D9:=HE.o.1.app2T hf7 o7 Bl Om Om;have hB9:=Tm HE.o.2 hf7 Bl Dc ⟨w.heap.size+1+1,1,none⟩ (.slice a7 n7 c7) (by show ¬ w.heap.size=w.heap.size+1+1;omega);have H9:=Ad (An D9 hB9);clear D9 hB9 o7 hf7;go_wp2;go_roundg (gk - 1)
       case rel=>exact ⟨n+1,_,by have:=HN.o.1;omega,by go_num,by rw [HN.o.2.1];exact H9.o.1,H9.o.2⟩
       case measure=>have:=HN.o.1;omega
     · obtain rfl:n=a2.length:=by omega
       rw [List.take_length] at hM;have x0:=Bd hBX;have x1:=AY hBX;obtain ⟨b0,b1,bz,bl⟩:=B4 D.boxA;obtain ⟨r0,r1,rz,rl⟩:=B4 D.boxR;have r:=Au (.slice ua1 L.length uc1) (.slice ua2 M.length uc2) r0 r1;have HO:=Ad (An hM (D.done Om (.slice ua1 L.length uc1) (.slice ua2 M.length uc2)));clear D hBX hM hn hMn;go_wp2;refine bodyPost_ret (v:=.agg #[.slice ua1 L.length uc1,.slice ua2 M.length uc2]) (by simp [results,Tryz.results158,go_sem,r.1,r.2]) rfl ?_;exact ⟨_,_,rfl,by rw [Cb,HL.o,HO.o.1];exact HO.o.2.1,HO.o.2.2⟩
theorem Iw {sz n:Nat} {xs ys:List Value} (hx:xs.length=n * sz) (hy:ys.length=n * sz) (h:∀ i,i < n→Bz sz xs i=Bz sz ys i):xs=ys:=by
 induction n generalizing xs ys with
 | zero =>
   rw [Nat.zero_mul] at hx hy;rw [List.eq_nil_of_length_eq_zero hx,List.eq_nil_of_length_eq_zero hy]
 | succ n ih =>
   have h0:=h 0 Om;rw [Bz,Bz,Nat.zero_mul,List.drop_zero,List.drop_zero] at h0;have hd:xs.drop sz=ys.drop sz:=by
    refine ih (by rw [List.length_drop,hx,Nat.succ_mul];omega) (by rw [List.length_drop,hy,Nat.succ_mul];omega) fun i hi=>?_;have:=h (i+1) Om;rw [Bz,Bz,Nat.succ_mul] at this;rw [Bz,Bz,List.drop_drop,List.drop_drop,Nat.add_comm sz];exact this
   rw [← List.take_append_drop sz xs,← List.take_append_drop sz ys,h0,hd]
theorem Iy (l:List Am):(LR l).length=l.length * 3:=by
 induction l with
 | nil=>rfl
 | cons x l ih=>show (LR l).length+1+1+1=(l.length+1) * 3;rw [ih];omega
theorem P6 {l:List Am} {xs:List Value} {w:World} {S:Nat→Prop} (hx:xs.length=l.length * 3) (h:∀ i,i < l.length→Dat.rd w S (gd l i) (Bz 3 xs i)):xs=LR l :=
 Iw hx (Iy l) fun i hi=>by
  rw [Ei hi];obtain ⟨c1,c2,e,h1,c3,c4,e2,h3,h4⟩:=h i hi;rw [e,e2,show c1=[.int .i64 (gd l i).1] from h1,show c3=[.int .i64 (gd l i).2.1] from h3,show c4=[.int .i64 (gd l i).2.2] from h4];rfl
section
variable {w:World} {B g n cap:Nat} {l:List Am} {v:Value}
theorem AO.at (h:AO w B (.slice (some ⟨g,0,none⟩) n cap) l) (hn:n=l.length) {k:Nat} (hk:k < l.length) :
 (w.cell? ⟨g,k * 3,none⟩=some (.int .i64 (gd l k).1)∧w.cell? ⟨g,k * 3+1,none⟩=some (.int .i64 (gd l k).2.1)∧w.cell? ⟨g,k * 3+2,none⟩=some (.int .i64 (gd l k).2.2))∧∀ i,w.frozen? ⟨g,i,none⟩=false:=by
 subst hn;have h2:w.ownsRow B 118 3 (.slice (some ⟨g,0,none⟩) l.length cap) l.length (LR l):=h;have hx:=Ei hk;refine ⟨⟨?_,?_,?_⟩,h2.frozenAt⟩
 · rw [h2.cellAt (k * 3) (by omega)];exact E3 (j:=0) (by rw [hx];rfl)
 · rw [h2.cellAt (k * 3+1) (by omega)];exact E3 (j:=1) (by rw [hx];rfl)
 · rw [h2.cellAt (k * 3+2) (by omega)];exact E3 (j:=2) (by rw [hx];rfl)
theorem AO.form (h:AO w B v l):∃ a cap,v=.slice a l.length cap∧∀ k,k < l.length→∃ g,a=some ⟨g,0,none⟩:=Hy h
theorem OL.AO {fp:List Nat} (h:OL w B v l fp):AO w B v l∧fp=v.ownBlock.toList:=by
 obtain ⟨xs,hr,hx⟩:=Fz h;obtain rfl:xs=LR l:=P6 hr.1 hx;exact ⟨hr,JW h⟩
end
def AE (w:World) (B:Nat) (v:Value) (l:List Am):Prop:=(l=[]∧∃ a,v=.slice a 0 0)∨AO w B v l
theorem AE.of {w w1 w2:World} {B:Nat} {v:Value} {l m:List Am} {xs ys:List Value} {S1 S2:Nat→Prop} (h:RowE w B 118 3 v (l.length+m.length) (xs ++ ys)) (hx:xs.length=l.length * 3) (hy:ys.length=m.length * 3)
 (h1:∀ i,i < l.length→Dat.rd w1 S1 (gd l i) (Bz 3 xs i)) (h2:∀ i,i < m.length→Dat.rd w2 S2 (gd m i) (Bz 3 ys i)):AE w B v (l ++ m):=by
 obtain rfl:=P6 hx h1;obtain rfl:=P6 hy h2;rcases h with ⟨h0,_,ha⟩ | h
 · exact .inl ⟨List.eq_nil_of_length_eq_zero (by rw [List.length_append];exact h0),ha⟩
 · refine .inr ?_
   unfold AO;rw [List.length_append,QS];exact h
section
variable {w w':World} {B B':Nat} {v:Value} {l:List Am}
theorem AE.rl (h:AE w B v l):RL w (fun k=>B≤k) v l:=by
 rcases h with ⟨rfl,a,rfl⟩ | h
 · exact .inl ⟨a,0,rfl,rfl,Nat.zero_le _,fun _=>rfl⟩
 · exact h.rl
theorem AE.setB (h:AE w B v l) {p:Addr} (hp:p.block < B) (u:Value):AE (w.setCell p u) B v l:=by
 rcases h with h | h
 · exact .inl h
 · exact .inr (BR h (Aw _ _ _) fun k hk e=>by have:=(AD h hk).1;have e2:k=p.block:=e;omega)
theorem AE.own (h:AE w B v l) (hl:0 < l.length):AO w B v l:=by
 rcases h with ⟨rfl,_⟩ | h
 · cases hl
 · exact h
end
theorem Og {S1 S2 S3 S4:Nat→Prop} (v1 v2 u1 u2:Value) (a b:Aj) (w:World) (h1:RL w S1 v1 a.1) (h2:RL w S2 v2 a.2) (k1:RL w S3 u1 b.1) (k2:RL w S4 u2 b.2)
 (n1:a.1.length≤1048576) (n2:a.2.length≤1048576) (n3:b.1.length≤1048576) (n4:b.2.length≤1048576) :
 Calls Tryz.prog 76 #[.agg #[v1,v2],.agg #[u1,u2]] w fun e w'=>∃ x1 x2 m,e=.returned (.agg #[x1,x2])∧RL w' (fun k=>w.heap.size≤k∧k < m) x1 (a.1 ++ b.1)∧AE w' m x2 (a.2 ++ b.2)∧w.heap.size≤m∧Below w.heap.size w w':=by
 obtain ⟨a1,a2⟩:=a;obtain ⟨b1,b2⟩:=b;simp only at h1 h2 k1 k2 n1 n2 n3 n4;obtain ⟨p1,c1,rfl⟩:=h1.form;obtain ⟨p2,c2,rfl⟩:=h2.form;obtain ⟨p3,c3,rfl⟩:=k1.form;obtain ⟨p4,c4,rfl⟩:=k2.form;go_enter Tryz.func76,Tryz.ntmps76
 go_wp2;generalize hw0:(((w.alloc (.cells #[.slice p1 a1.length c1,.slice p2 a2.length c2] 26)).alloc (.cells #[.slice p3 b1.length c3,.slice p4 b2.length c4] 26)).alloc (.cells #[.slice none 0 0,.slice none 0 0] 26))=w0;have hc0:w0.cell? ⟨w.heap.size,0,none⟩=some (.slice p1 a1.length c1):=by rw [← hw0];simp [go_sem]
 have hc1:w0.cell? ⟨w.heap.size,1,none⟩=some (.slice p2 a2.length c2):=by rw [← hw0];simp [go_sem]
 have hd0:w0.cell? ⟨w.heap.size+1,0,none⟩=some (.slice p3 b1.length c3):=by rw [← hw0];simp [go_sem]
 have hd1:w0.cell? ⟨w.heap.size+1,1,none⟩=some (.slice p4 b2.length c4):=by rw [← hw0];simp [go_sem]
 have hA:w0.heap[w.heap.size+2]?=some (.cells #[.slice none 0 0,.slice none 0 0] 26 (0,0)):=by
  rw [← hw0];have:=heap_alloc_new ((w.alloc (.cells #[.slice p1 a1.length c1,.slice p2 a2.length c2] 26)).alloc (.cells #[.slice p3 b1.length c3,.slice p4 b2.length c4] 26)) (.cells #[.slice none 0 0,.slice none 0 0] 26);simpa using this
 have hz:w0.heap.size=w.heap.size+3:=by rw [← hw0];simp
 have hW:Below w.heap.size w w0:=by rw [← hw0];exact ba (ba (Aa _ _) _) _
 clear hw0;have HA:=Ad hA;have HZ:=Ad hz;have q1:=h1.keep hW;have q2:=h2.keep hW;have q3:=k1.keep hW;have q4:=k2.keep hW;clear hA hz h1 h2 k1 k2;go_region_held3 (fun w'=>(w'.cell? ⟨w.heap.size,0,none⟩=some (.slice p1 a1.length c1)∧w'.cell? ⟨w.heap.size,1,none⟩=some (.slice p2 a2.length c2))∧(w'.cell? ⟨w.heap.size+1,0,none⟩=some (.slice p3 b1.length c3)∧w'.cell? ⟨w.heap.size+1,1,none⟩=some (.slice p4 b2.length c4)))
  (exact ⟨⟨(Ck hc0),(Ck hc1)⟩,⟨(Ck hd0),(Ck hd1)⟩⟩)
  (first
    | (refine DG (l:=a1) (by rfl) (.tmp 5) (.tmp 7) _ (by rfl) A0 (by rfl) (by rfl) (q1.keep Bl) n1 ?_;intro B1 hB1 v5 w5 y1 r1 t1 hb5';have hle1:w0.heap.size≤B1:=(by rw [hB1];exact Below.size (w:=w0) (B:=w0.heap.size) Bl);have hle5:B1≤w5.heap.size:=(by rw [hB1];exact hb5'.size);have HB1:=Ad hB1;clear hB1;have hb5:Below w0.heap.size w0 w5:=Below.trans Bl (hb5'.mono hle1))
    | (refine Eo (l:=b1) (n:=a1.length) (by rfl) (.tmp 8) (.tmp 10) _ (by rfl) (B:=B1) A0 (by rfl) (r1.keep Bl) (by rfl) (q3.keep Bl) Om (Nat.le_trans hle5 (Below.size (w:=w5) (B:=w5.heap.size) Bl)) ?_;intro v6 w6 y2 r2 _ t2 hb6';have hb6:Below w0.heap.size w0 w6:=Below.trans Bl (hb6'.mono hle1);have rl6:=Fe r2 r1.len t1 t2;have rl6':=rl6.more (S':=fun k=>w0.heap.size≤k∧k < w6.heap.size) (fun k h1 h2=>⟨Nat.le_trans hle1 h2,h1⟩);obtain ⟨d6,m6,k6,rfl⟩:=rl6.forms)
    | (refine DG (l:=a2) (by rfl) (.tmp 12) (.tmp 14) _ (by rfl) A3 (by rfl) (by rfl) (q2.keep Bl) n2 ?_;intro B2 hB2 v7 w7 y3 r3 t3 hb7';have hle2:w0.heap.size≤B2:=(by rw [hB2];exact Below.size (w:=w0) (B:=w0.heap.size) Bl);have hle26:w6.heap.size≤B2:=(by rw [hB2];exact Below.size (w:=w6) (B:=w6.heap.size) Bl);have hle7:B2≤w7.heap.size:=(by rw [hB2];exact hb7'.size);have HB2:=Ad hB2;clear hB2;have hb7:Below w0.heap.size w0 w7:=Below.trans Bl (hb7'.mono hle2);have hb67:Below w6.heap.size w6 w7:=Below.trans Bl (hb7'.mono hle26))
    | (refine Eo (l:=b2) (n:=a2.length) (by rfl) (.tmp 15) (.tmp 17) _ (by rfl) (B:=B2) A3 (by rfl) (r3.keep Bl) (by rfl) (q4.keep Bl) Om (Nat.le_trans hle7 (Below.size (w:=w7) (B:=w7.heap.size) Bl)) ?_;intro v8 w8 y4 r4 _ t4 hb8';have hb8:Below w0.heap.size w0 w8:=Below.trans Bl (hb8'.mono hle2);have hb68:Below w6.heap.size w6 w8:=Below.trans Bl (hb8'.mono hle26);have rl8:=Fe r4 r3.len t3 t4;have ae8:=AE.of r4 r3.len (by have:=r4.len;rw [List.length_append,r3.len,Nat.add_mul] at this;exact Nat.add_left_cancel this) t3 t4;obtain ⟨d8,m8,k8,rfl⟩:=rl8.forms;have hA8:=Ac HA.o hb8;have ha0:=Bd hA8;have ha1:=AY hA8;have haz:∀ i,w8.frozen? ⟨w.heap.size+2,i,none⟩=false:=BI hA8;have hlA:=Ae hA8;clear hA8))
 all_goals
  have hz0:=HZ.o;have f6:=(((rl6'.keep hb68).setB (p:=⟨w.heap.size+2,0,none⟩) (u:=.slice d6 m6 k6) (fun k h e=>by simp at e;omega)).setB (p:=⟨w.heap.size+2,1,none⟩) (u:=.slice d8 m8 k8) (fun k h e=>by simp at e;omega)).more (S':=fun k=>w.heap.size≤k∧k < B2) fun k _ h=>by omega
  have f8:=((ae8.setB (p:=⟨w.heap.size+2,0,none⟩) (by simp only;omega) (.slice d6 m6 k6)).setB (p:=⟨w.heap.size+2,1,none⟩) (by simp only;omega) (.slice d8 m8 k8));have fb:=((bt hW hb8).setCell (p:=⟨w.heap.size+2,0,none⟩) Sp (.slice d6 m6 k6)).setCell (p:=⟨w.heap.size+2,1,none⟩) Sp (.slice d8 m8 k8);have hm:w.heap.size≤B2:=by omega
  have HO:=Ad (An f6 (An f8 (An hm fb)));have r:=Au (.slice d6 m6 k6) (.slice d8 m8 k8) ha0 ha1;clear f6 f8 fb rl6 rl6' ae8 rl8 r1 r2 r3 r4 t1 t2 t3 t4 hb5 hb5' hb6 hb6' hb7 hb7' hb8 hb8' hb67 hb68;go_wp2;refine bodyPost_ret (v:=.agg #[.slice d6 m6 k6,.slice d8 m8 k8]) (by simp [results,Tryz.results76,go_sem,r.1,r.2]) rfl ?_;exact ⟨_,_,_,rfl,HO.o.1,HO.o.2.1,HO.o.2.2.1,HO.o.2.2.2⟩
theorem Oh {S1 S2:Nat→Prop} (v1 v2:Value) (a:Aj) (w:World) (h1:RL w S1 v1 a.1) (h2:RL w S2 v2 a.2) (hs:Hg a) :
 Calls Tryz.prog 141 #[.agg #[v1,v2]] w fun e w'=>∃ x1 x2 m,e=.returned (.agg #[x1,x2])∧RL w' (fun k=>w.heap.size≤k∧k < m) x1 a.1∧AE w' m x2 a.2∧w.heap.size≤m∧Below w.heap.size w w':=by
 obtain ⟨p1,c1,rfl⟩:=h1.form;obtain ⟨p2,c2,rfl⟩:=h2.form;have HS:=Ad hs;clear hs;go_enter Tryz.func141,Tryz.ntmps141
 go_wp2_with fail
 refine (Og _ _ _ _ a ([],[]) _ ((h1.alloc _).alloc _) ((h2.alloc _).alloc _) (RL.nil _ (fun _=>True)) (RL.nil _ (fun _=>True)) HS.o.1 HS.o.2 Dc Dc).mono ?_;rintro e w1 ⟨x1,x2,m,rfl,r1,r2,hm,hb⟩;simp only [World.size_alloc] at r1 hm;simp only [List.append_nil] at r1 r2;obtain ⟨d1,m1,k1,rfl⟩:=r1.forms;obtain ⟨d2,m2,k2,rfl⟩:=r2.rl.forms;have hA:=Ac (heap_alloc_new (w.alloc (.cells #[.slice p1 a.1.length c1,.slice p2 a.2.length c2] 26)) (.cells #[.slice none 0 0,.slice none 0 0] 26)) hb;rw [World.size_alloc] at hA;have ha0:=Bd hA;have ha1:=AY hA;have haz:∀ i,w1.frozen? ⟨w.heap.size+1,i,none⟩=false:=BI hA;have hlA:=Ae hA;have r:=Au (.slice d1 m1 k1) (.slice d2 m2 k2) ha0 ha1;have f1:=((r1.setB (p:=⟨w.heap.size+1,0,none⟩) (u:=.slice d1 m1 k1) (fun k h e=>by simp at h e;omega)).setB (p:=⟨w.heap.size+1,1,none⟩) (u:=.slice d2 m2 k2) (fun k h e=>by simp at h e;omega)).more (S':=fun k=>w.heap.size≤k∧k < m) fun k _ h=>by omega
 have f2:=(r2.setB (p:=⟨w.heap.size+1,0,none⟩) (by simp only;omega) (.slice d1 m1 k1)).setB (p:=⟨w.heap.size+1,1,none⟩) (by simp only;omega) (.slice d2 m2 k2);have fb:=((bt (ba (Aa w _) _) hb).setCell (p:=⟨w.heap.size+1,0,none⟩) Sp (.slice d1 m1 k1)).setCell (p:=⟨w.heap.size+1,1,none⟩) Sp (.slice d2 m2 k2);have hm2:w.heap.size≤m:=by omega
 have HO:=Ad (An f1 (An f2 (An hm2 fb)));clear f1 f2 fb r1 r2 hb hA;go_wp2;refine bodyPost_ret (v:=.agg #[.slice d1 m1 k1,.slice d2 m2 k2]) (by simp [results,Tryz.results141,go_sem,r.1,r.2]) rfl ?_;exact ⟨_,_,_,rfl,HO.o.1,HO.o.2.1,HO.o.2.2.1,HO.o.2.2.2⟩
end Go.Proofs.YtkbbmjcfgcfejaaGreat
