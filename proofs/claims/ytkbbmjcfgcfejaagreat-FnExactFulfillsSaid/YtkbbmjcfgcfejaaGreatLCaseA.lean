/- CaseA: texts Case1, Case2, Case3, Case4 in one. -/
import Derived.Test.YtkbbmjcfgcfejaaGreatLFam1
set_option linter.unusedVariables false
set_option linter.unusedSimpArgs false
set_option maxRecDepth 100000
set_option maxHeartbeats 12800000
namespace Go.Proofs.YtkbbmjcfgcfejaaGreat
open Go.RowKit
def As (m:Nat) (t:Int):Nat:=if Al t=true then m ||| 2 ^ t.toNat else m
def AN (m:Nat) (t:Int):Bool:=Al t && m.testBit t.toNat
theorem AJ {m:Nat} {t:Int} (h:m < 65536):As m t < 65536:=by
 unfold As;split
 · rename_i ht;have:=At.1 ht;exact Wm m _ h Om
 · exact h
theorem AR (m:Nat) (t:Int) (j:Nat):(As m t).testBit j=(m.testBit j || (Al t && decide (t=(j:Int)))):=by
 unfold As;split
 · rename_i ht
   have:=At.1 ht;rw [Bk,ht,Bool.true_and];congr 1
   rw [decide_eq_decide];omega
 · rename_i ht
   (have ht':Al t=false:=by simpa using ht);rw [ht',Bool.false_and,Bool.or_false]
def CE (m:Nat) (l:List Ap):Nat:=l.foldl (fun m f=>As (As m f.2.1) f.2.2) m
def Dm (m:Nat) (l:List Am):Nat:=l.foldl (fun m x=>As (As m x.2.1) x.2.2) m
def Ak (a:Aj):Nat:=Dm (CE 0 a.1) a.2
theorem Ju {m k:Nat} {l:List Ap} (h:k < l.length):CE m (l.take (k+1))=As (As (CE m (l.take k)) (gd l k).2.1) (gd l k).2.2:=by
 rw [AT h,CE,List.foldl_append];rfl
theorem Jv {m k:Nat} {l:List Am} (h:k < l.length):Dm m (l.take (k+1))=As (As (Dm m (l.take k)) (gd l k).2.1) (gd l k).2.2:=by
 rw [AT h,Dm,List.foldl_append];rfl
theorem IZ {l:List Ap}:∀ {m:Nat},m < 65536→CE m l < 65536:=by
 induction l with
 | nil=>exact fun h=>h
 | cons f l ih=>exact fun h=>ih (AJ (AJ h))
theorem LQ {l:List Am}:∀ {m:Nat},m < 65536→Dm m l < 65536:=by
 induction l with
 | nil=>exact fun h=>h
 | cons f l ih=>exact fun h=>ih (AJ (AJ h))
theorem Bw (a:Aj):Ak a < 65536:=LQ (IZ Dc)
theorem I0 (m:Nat) (t:Int) (w:World) (hm:m < 65536) :
 Calls Tryz.prog 147 #[.int .u16 m,.int .i64 t] w fun e w'=>e=.returned (.int .u16 (As m t))∧w=w':=by
 by_cases ha:Al t=true
 · have hn:=At.1 ha
   obtain ⟨k,rfl⟩:=Int.eq_ofNat_of_zero_le (show 0≤t by omega);have hor:=VE m k hm Om;have HO:=Ad hor;clear hor;go_enter Tryz.func147,Tryz.ntmps147
   go_wp2_with (go_at_call 194;refine (Bc _ _).mono ?_;rintro e w' ⟨rfl,rfl⟩)
   go_ret;refine ⟨?_,rfl⟩;rw [As,if_pos ha,Int.toNat_natCast,← HO.o];rfl
 · have ha':Al t=false:=by simpa using ha
   go_enter Tryz.func147,Tryz.ntmps147
   go_wp2_with (go_at_call 194;refine (Bc _ _).mono ?_;rintro e w' ⟨rfl,rfl⟩)
   go_ret;exact ⟨by rw [As,if_neg ha];rfl,rfl⟩
theorem A6 {m n:Nat} {t:Int} (w:World) (hm:m < 65536) (h:As m t=n) :
 Calls Tryz.prog 147 #[.int .u16 m,.int .i64 t] w fun e w'=>e=.returned (.int .u16 n)∧w=w':=by
 subst h;exact I0 m t w hm
theorem Gh (m:Nat) (t:Int) (w:World) (hm:m < 65536) :
 Calls Tryz.prog 148 #[.int .u16 m,.int .i64 t] w fun e w'=>e=.returned (.bool (AN m t))∧w=w':=by
 by_cases ha:Al t=true
 · have hn:=At.1 ha
   obtain ⟨k,rfl⟩:=Int.eq_ofNat_of_zero_le (show 0≤t by omega);have hfin:=Ur m k hm;have HF:=Ad hfin;clear hfin;go_enter Tryz.func148,Tryz.ntmps148
   go_wp2_with (go_at_call 194;refine (Bc _ _).mono ?_;rintro e w' ⟨rfl,rfl⟩)
   go_ret;exact ⟨by simp [HF.o,AN,ha],rfl⟩
 · have ha':Al t=false:=by simpa using ha
   go_enter Tryz.func148,Tryz.ntmps148
   go_wp2_with (go_at_call 194;refine (Bc _ _).mono ?_;rintro e w' ⟨rfl,rfl⟩)
   go_ret;exact ⟨by simp [ha',AN],rfl⟩
theorem BH {x:Am} (h:AQ x=true):0≤x.2.1∧x.2.1≤8∧0≤x.2.2∧x.2.2≤8:=by
 simp [AQ,Al] at h;omega
theorem NL {α:Type} [Inhabited α] {p:α→Bool} {l:List α} {k:Nat} (h:k < l.length) (hp:p (gd l k)=true):l.any p=true:=by
 rw [List.any_eq_true];exact ⟨_,Be h,hp⟩
theorem If {α:Type} [Inhabited α] {p:α→Bool} {l:List α} {k:Nat} (h:k < l.length) (ht:(l.take k).any p=false) (hp:p (gd l k)=false):(l.take (k+1)).any p=false:=by
 rw [AT h,List.any_append,ht];simp [hp]
theorem NM {α:Type} {p:α→Bool} {l:List α} (ht:(l.take l.length).any p=false):l.any p=false:=by rwa [List.take_length] at ht
def RArr (w:World) (b:Nat) (cl:List Int):Prop:=cl.length=9∧b < w.heap.size∧∀ i,i < 9→w.cell? ⟨b,i,none⟩=some (.int .i64 (gi cl i))
theorem RArr.keep {w w':World} {b:Nat} {cl:List Int} (h:RArr w b cl) (hb:Below w.heap.size w w'):RArr w' b cl :=
 ⟨h.1,Nat.lt_of_lt_of_le h.2.1 hb.size,fun i hi=>Ab hb (h.2.2 i hi)⟩
def B5 (cl:List Int) (f:Ap):Bool:=(gi cl f.2.1.toNat == gi cl f.2.2.toNat) == f.1
def De (cl:List Int) (x:Am):Bool:=(x.1 == 1) || (gi cl x.2.1.toNat != gi cl x.2.2.toNat)
def Un (cl:List Int) (x:Am):Am:=(x.1,gi cl x.2.1.toNat,gi cl x.2.2.toNat)
def Az (cl:List Int) (l:List Am):List Am:=(l.filter (De cl)).map (Un cl)
theorem CF (b:Nat) (cl:List Int) (f:Ap) (w:World) (h:RArr w b cl) (hf:AH f=true) :
 Calls Tryz.prog 268 #[.pointer (some ⟨b,0,none⟩),.agg #[.bool f.1,.int .i64 f.2.1,.int .i64 f.2.2]] w fun e w'=>e=.returned (.bool (B5 cl f))∧Below w.heap.size w w':=by
 obtain ⟨f1,f2,f3⟩:=f;obtain ⟨t1,t2,t3,t4⟩:=Ci hf;simp only at t1 t2 t3 t4;obtain ⟨i,rfl⟩:=Int.eq_ofNat_of_zero_le t1;obtain ⟨j,rfl⟩:=Int.eq_ofNat_of_zero_le t3;have hi9:(i:Int) < 9:=by omega
 have hj9:(j:Int) < 9:=by omega
 have hci:=h.2.2 i Om;have hcj:=h.2.2 j Om;have hzb:=h.2.1;have hres:B5 cl (f1,((i:Int),(j:Int)))=((gi cl i == gi cl j) == f1):=rfl;have HR:=Ad hres;clear hres hf h;go_enter Tryz.func268,Tryz.ntmps268
 go_wp2;refine Af Kr Kr ?_;repeat (go_big_quiet_step ((fail)))
 refine wpQuiet_nil ?_;intro w5 hb5;go_wp2;go_ret;exact ⟨by rw [HR.o];rfl,bt Bl hb5⟩
theorem Kt {S:Nat→Prop} (b:Nat) (cl:List Int) (v:Value) (l:List Ap) (w:World) (h:RArr w b cl) (hv:RL w S v l) (hf:l.all AH=true) :
 Calls Tryz.prog 249 #[.pointer (some ⟨b,0,none⟩),v] w fun e w'=>e=.returned (.bool (l.all (B5 cl)))∧Below w.heap.size w w':=by
 have hm:=hv.len;unfold maxLen at hm;obtain ⟨a,c,rfl,_,_,hf1⟩:=hv.factAt;have F1:=Ad hf1;have HB:=Ad (FD hf);clear hf1 hv hf;go_enter Tryz.func249,Tryz.ntmps249
 go_wp2;go_loopg [9] l.length (fun q i wr=>∃ k:Nat,k+q=l.length∧i=.int .i64 k∧(l.take k).all (B5 cl)=true∧Below w.heap.size w wr)
 case atStart=>exact ⟨0,by omega,rfl,by simp,Below.refl _ _⟩
 case round =>
  obtain ⟨k,hk,rfl,ht,hb⟩:=hrel;have HK:=Ad hk;have HT:=Ad ht;clear hk ht;by_cases hk8:k < l.length
  · obtain ⟨b1,o1,rfl,_,hbl1,hp1,hp2,hp3⟩:=F1.o k hk8
    replace hp1:=Ab hb hp1;replace hp2:=Ab hb hp2;replace hp3:=Ab hb hp3;have hs:=hb.size;(have i1:(k:Int) < (l.length:Int):=by omega);(have hzb:b1 < wr.heap.size:=by omega);have hok:=HB.o k hk8;have HOK:=Ad hok;clear hok;cases hp:B5 cl (gd l k)
    · have HF:=Ad (F9 hk8 hp)
      have HP:=Ad hp;clear hp;(go_wp2_with fail);refine (cb (CF b cl (gd l k) _ (h.keep (bt hb Bl)) HOK.o) HP.o).mono ?_;rintro e w5 ⟨rfl,hb5⟩;go_wp2;go_ret;exact ⟨by rw [HF.o];rfl,bt (bt hb Bl) hb5⟩
    · have HP:=Ad hp
      clear hp;(go_wp2_with fail);refine (cb (CF b cl (gd l k) _ (h.keep (bt hb Bl)) HOK.o) HP.o).mono ?_;rintro e w5 ⟨rfl,hb5⟩;go_wp2;go_roundg (gk - 1)
      case rel=>exact ⟨k+1,by have:=HK.o;omega,by go_num,Bb hk8 HT.o HP.o,bt (bt hb Bl) hb5⟩
      case measure=>have:=HK.o;omega
  · obtain rfl:k=l.length:=by have:=HK.o;omega
    have HA:=Ad (Fy HT.o);clear HT;go_wp2;go_ret;exact ⟨by rw [HA.o];rfl,hb⟩
theorem Cv (b:Nat) (cl:List Int) (x:Am) (w:World) (h:RArr w b cl) (hx:AQ x=true) :
 Calls Tryz.prog 234 #[.pointer (some ⟨b,0,none⟩),.agg #[.int .i64 x.1,.int .i64 x.2.1,.int .i64 x.2.2]] w fun e w'=>e=.returned (.bool (De cl x))∧Below w.heap.size w w':=by
 obtain ⟨x1,x2,x3⟩:=x;obtain ⟨t1,t2,t3,t4⟩:=BH hx;simp only at t1 t2 t3 t4;obtain ⟨i,rfl⟩:=Int.eq_ofNat_of_zero_le t1;obtain ⟨j,rfl⟩:=Int.eq_ofNat_of_zero_le t3;have hi9:(i:Int) < 9:=by omega
 have hj9:(j:Int) < 9:=by omega
 have hci:=h.2.2 i Om;have hcj:=h.2.2 j Om;have hzb:=h.2.1;have hres:De cl (x1,((i:Int),(j:Int)))=((x1 == 1) || (gi cl i != gi cl j)):=rfl;have HR:=Ad hres;clear hres hx h;by_cases hk:x1=1
 · have hkb:(x1 == 1)=true:=by simp [hk]
   go_enter Tryz.func234,Tryz.ntmps234
   go_wp2;refine Af Kr Kr ?_;repeat (go_big_quiet_step ((fail)))
   refine wpQuiet_nil ?_;intro w5 hb5;go_wp2;go_ret;exact ⟨by rw [HR.o,hkb];rfl,bt Bl hb5⟩
 · have hkb:(x1 == 1)=false:=by simp [hk]
   go_enter Tryz.func234,Tryz.ntmps234
   go_wp2;refine Af Kr Kr ?_;repeat (go_big_quiet_step ((fail)))
   refine wpQuiet_nil ?_;intro w5 hb5;go_wp2;go_ret;exact ⟨by rw [HR.o,hkb];rfl,bt Bl hb5⟩
theorem MM {S:Nat→Prop} (v:Value) (l:List Am) (c:Int) (w:World) (hv:RL w S v l) :
 Calls Tryz.prog 277 #[v,.int .i64 c] w fun e w'=>e=.returned (.bool (l.any fun x=>x.2.1 == c))∧Below w.heap.size w w':=by
 have hm:=hv.len;unfold maxLen at hm;obtain ⟨a,cp,rfl,_,_,hf1⟩:=hv.atomAt;have F1:=Ad hf1;clear hf1 hv;go_enter Tryz.func277,Tryz.ntmps277
 go_wp2;go_loopg [9] l.length (fun q i wr=>∃ k:Nat,k+q=l.length∧i=.int .i64 k∧((l.take k).any fun x=>x.2.1 == c)=false∧Below w.heap.size w wr)
 case atStart=>exact ⟨0,by omega,rfl,by simp,Below.refl _ _⟩
 case round =>
  obtain ⟨k,hk,rfl,ht,hb⟩:=hrel;have HK:=Ad hk;have HT:=Ad ht;clear hk ht;by_cases hk8:k < l.length
  · obtain ⟨b1,o1,rfl,_,hbl1,hp1,hp2,hp3⟩:=F1.o k hk8
    replace hp1:=Ab hb hp1;replace hp2:=Ab hb hp2;replace hp3:=Ab hb hp3;have hs:=hb.size;(have i1:(k:Int) < (l.length:Int):=by omega);(have hzb:b1 < wr.heap.size:=by omega);by_cases hp:(gd l k).2.1=c
    · have hpb:((gd l k).2.1 == c)=true:=by simp [hp]
      have HF:=Ad (NL (p:=fun x:Am=>x.2.1 == c) hk8 hpb);clear hp;go_wp2;go_ret;exact ⟨by rw [HF.o];rfl,bt hb Bl⟩
    · have hpb:((gd l k).2.1 == c)=false:=by simp [hp]
      have HP:=Ad hpb;clear hp;go_wp2;go_roundg (gk - 1)
      case rel=>exact ⟨k+1,by have:=HK.o;omega,by go_num,If (p:=fun x:Am=>x.2.1 == c) hk8 HT.o HP.o,bt hb Bl⟩
      case measure=>have:=HK.o;omega
  · obtain rfl:k=l.length:=by have:=HK.o;omega
    have HA:=Ad (NM HT.o);clear HT;go_wp2;go_ret;exact ⟨by rw [HA.o];rfl,hb⟩
def LR (l:List Am):List Value:=(l.map fun x=>[Value.int .i64 x.1,.int .i64 x.2.1,.int .i64 x.2.2]).flatten
theorem QS (l m:List Am):LR (l ++ m)=LR l ++ LR m:=by simp [LR]
theorem UL (x:Am):LR [x]=[.int .i64 x.1,.int .i64 x.2.1,.int .i64 x.2.2]:=rfl
theorem Ei {l:List Am} {i:Nat} (h:i < l.length):Bz 3 (LR l) i=[.int .i64 (gd l i).1,.int .i64 (gd l i).2.1,.int .i64 (gd l i).2.2]:=by
 rw [LR,Ia (by intro c hc;obtain ⟨x,_,rfl⟩:=List.mem_map.1 hc;rfl) (by simpa using h)];simp [gd,h]
def AO (w:World) (B:Nat) (v:Value) (l:List Am):Prop:=w.ownsRow B 118 3 v l.length (LR l)
theorem AO.rl {w:World} {B:Nat} {v:Value} {l:List Am} (h:AO w B v l):RL w (fun k=>B≤k) v l:=by
 refine (RowE.rl (α:=Am) (S:=fun _=>False) (.inr h) fun i hi=>?_).more fun k _ hk=>?_
 · rw [show Dat.sz Am=3 from rfl,Ei hi]
   exact ⟨[.int .i64 (gd l i).1],[.int .i64 (gd l i).2.1,.int .i64 (gd l i).2.2],rfl,rfl,⟨[.int .i64 (gd l i).2.1],[.int .i64 (gd l i).2.2],rfl,rfl,rfl⟩⟩
 · rcases hk with hk | hk
   · exact hk.elim
   · exact hk
theorem AO.keep {w w':World} {B:Nat} {v:Value} {l:List Am} (h:AO w B v l) (hb:Below w.heap.size w w'):AO w' B v l:=Ag h hb
theorem AO.snoc {w:World} {B:Nat} {v:Value} {l:List Am} {x:Am} (h:w.ownsRow B 118 3 v (l.length+1) (LR l ++ [.int .i64 x.1,.int .i64 x.2.1,.int .i64 x.2.2])):AO w B v (l ++ [x]):=by
 unfold AO;rw [List.length_append,QS,UL];exact h
theorem Vq (w:World) (x y z:Value) (e:TypeId):0 < 1→∃ b o,some (⟨w.heap.size,0,none⟩:Addr)=some ⟨b,o,none⟩∧∀ j u,[x,y,z][j]?=some u→(w.alloc (.cells #[x,y,z] e)).cell? ⟨b,o+j,none⟩=some u:=fun _ =>
 ⟨w.heap.size,0,rfl,fun j u hj=>by
   match j,hj with
   | 0,hj=>simp at hj;subst hj;simp
   | 1,hj=>simp at hj;subst hj;simp
   | 2,hj=>simp at hj;subst hj;simp⟩
theorem S8 (w:World) (g:Nat) (hg:w.heap.size=g) (x y z:Value) (e:TypeId):0 < 1→∃ b o,some (⟨g,0,none⟩:Addr)=some ⟨b,o,none⟩∧∀ j u,[x,y,z][j]?=some u→(w.alloc (.cells #[x,y,z] e)).cell? ⟨b,o+j,none⟩=some u:=by
 subst hg;exact Vq w x y z e
theorem S9 (w:World) (B:Nat) (hB:B≤w.heap.size):AO (w.alloc (.cells #[] 118)) B (.slice (some ⟨w.heap.size,0,none⟩) 0 0) [] :=
 World.ownsRow_lit (size:=3) w #[] 0 hB (by unfold maxLen;omega) rfl
theorem VV (x y z:Int):∀ u ∈ [Value.int .i64 x,Value.int .i64 y,Value.int .i64 z],u.oneCell'=true:=fun u hu=>by
 simp at hu;rcases hu with rfl | rfl | rfl <;> rfl
theorem Gi {cl:List Int} {l:List Am} {k:Nat} (h:k < l.length) (hf:De cl (gd l k)=true):Az cl (l.take (k+1))=Az cl (l.take k) ++ [Un cl (gd l k)]:=by
 rw [AT h,Az,List.filter_append,List.map_append];simp [hf,Az]
theorem Ku {cl:List Int} {l:List Am} {k:Nat} (h:k < l.length) (hf:De cl (gd l k)=false):Az cl (l.take (k+1))=Az cl (l.take k):=by
 rw [AT h,Az,List.filter_append,List.map_append];simp [hf,Az]
theorem EX (cl:List Int) (l:List Am):(Az cl l).length≤l.length:=by
 rw [Az,List.length_map];exact List.length_filter_le _ _
theorem Ig (cl:List Int) (l:List Am) (k:Nat):(Az cl (l.take k)).length≤l.length:=by
 refine Nat.le_trans (EX _ _) ?_;rw [List.length_take];omega
theorem Jw {S:Nat→Prop} (b:Nat) (cl:List Int) (v:Value) (l:List Am) (w:World) (h:RArr w b cl) (hv:RL w S v l) (hx:l.all AQ=true) (hl:l.length≤1048576) :
 Calls Tryz.prog 190 #[.pointer (some ⟨b,0,none⟩),v] w fun e w'=>∃ v',e=.returned v'∧AO w' w.heap.size v' (Az cl l)∧Below w.heap.size w w':=by
 obtain ⟨a,c,rfl,_,_,hf1⟩:=hv.atomAt;have F1:=Ad hf1;have HB:=Ad (FD hx);clear hf1 hv hx;go_enter Tryz.func190,Tryz.ntmps190
 go_wp2;go_loopg [5,10] l.length (fun q x i wr=>∃ k:Nat,k+q=l.length∧i=.int .i64 k∧AO wr w.heap.size x (Az cl (l.take k))∧Below w.heap.size w wr)
 case atStart=>exact ⟨0,by omega,rfl,World.ownsRow_nil _ _ _ _,Below.refl _ _⟩
 case round =>
  obtain ⟨k,hk,rfl,ho,hb⟩:=hrel;have HK:=Ad hk;clear hk;by_cases hk8:k < l.length
  · obtain ⟨b1,o1,rfl,_,hbl1,hp1,hp2,hp3⟩:=F1.o k hk8
    replace hp1:=Ab hb hp1;replace hp2:=Ab hb hp2;replace hp3:=Ab hb hp3;have hs:=hb.size;(have i1:(k:Int) < (l.length:Int):=by omega);(have hzb:b1 < wr.heap.size:=by omega);have hok:=HB.o k hk8;have HOK:=Ad hok;have HO:=Ad ho;clear hok ho;cases hp:De cl (gd l k)
    · have hN:=Ku hk8 hp
      have HP:=Ad (An hp hN);clear hp hN;(go_wp2_with fail);refine (cb (Cv b cl (gd l k) _ (h.keep (bt hb Bl)) HOK.o) HP.o.1).mono ?_;rintro e w5 ⟨rfl,hb5⟩;go_wp2;go_roundg (gk - 1)
      case rel=>exact ⟨k+1,by have:=HK.o;omega,by go_num,by rw [HP.o.2];exact HO.o.keep (bt Bl hb5),bt (bt hb Bl) hb5⟩
      case measure=>have:=HK.o;omega
    · have hN:=Gi hk8 hp
      have HP:=Ad (An hp hN);clear hp hN;obtain ⟨t1,t2,t3,t4⟩:=BH HOK.o;obtain ⟨i,hi⟩:=Int.eq_ofNat_of_zero_le t1;obtain ⟨j,hj⟩:=Int.eq_ofNat_of_zero_le t3;(have hi9:(i:Int) < 9:=by omega);(have hj9:(j:Int) < 9:=by omega);(have hat:Un cl (gd l k)=((gd l k).1,gi cl i,gi cl j):=by simp only [Un,hi,hj,Int.toNat_natCast]);have HA:=Ad hat;have HI:=Ad (An hi hj);clear hat t1 t2 t3 t4 hi hj;(go_wp2_with fail);refine (cb (Cv b cl (gd l k) _ (h.keep (bt hb Bl)) HOK.o) HP.o.1).mono ?_;rintro e w5 ⟨rfl,hb5⟩;have hd0:=Ab hb5 (p:=⟨wr.heap.size,0,none⟩) (v:=.int .i64 (gd l k).1) (by simp [go_sem]);have hd1:=Ab hb5 (p:=⟨wr.heap.size,1,none⟩) (v:=.int .i64 (gd l k).2.1) (by simp [go_sem]);have hd2:=Ab hb5 (p:=⟨wr.heap.size,2,none⟩) (v:=.int .i64 (gd l k).2.2) (by simp [go_sem]);rw [HI.o.1] at hd1;rw [HI.o.2] at hd2;have hwr5:Below wr.heap.size wr w5:=bt Bl hb5;have hb05:=bt hb hwr5;have hA5:=h.keep hb05;have hci:=hA5.2.2 i Om;have hcj:=hA5.2.2 j Om;have hr:=HO.o.keep hwr5;unfold AO at hr;have hln:=Ig cl l k;have hzA:=h.2.1;have hs5:=hb05.size;clear hb5;go_wp2;go_region_held3 (fun w'=>(w'.cell? ⟨wr.heap.size,0,none⟩=some (.int .i64 (gd l k).1)∧w'.cell? ⟨wr.heap.size,1,none⟩=some (.int .i64 i)∧w'.cell? ⟨wr.heap.size,2,none⟩=some (.int .i64 j))∧(w'.cell? ⟨b,i,none⟩=some (.int .i64 (gi cl i))∧w'.cell? ⟨b,j,none⟩=some (.int .i64 (gi cl j))))
       (first | exact ⟨⟨e0,e1,e2⟩,e3,e4⟩ | exact ⟨⟨Ab Bl hd0,Ab Bl hd1,Ab Bl hd2⟩,Ab Bl hci,Ab Bl hcj⟩)
       (first
         | (refine Pi (n:=(Az cl (l.take k)).length) (m:=1) (news:=[.int .i64 (gd l k).1,.int .i64 (gi cl i),.int .i64 (gi cl j)]) (by rfl) (.tmp 17) (.tmp 33) _ (by rfl) (B:=w.heap.size) A3 (by rfl) (Ag hr Bl) (by rfl) (by rfl) (Vq _ _ _ _ _) (VV _ _ _) Om (by simp;omega) ?_;intro v' w7 hr7 hf7 hl7;have e0:=hf7.cell (fun e=>Nat.lt_irrefl _ (AD HO.o e).2) (Ab Bl hd0);have e1:=hf7.cell (fun e=>Nat.lt_irrefl _ (AD HO.o e).2) (Ab Bl hd1);have e2:=hf7.cell (fun e=>Nat.lt_irrefl _ (AD HO.o e).2) (Ab Bl hd2);have e3:=hf7.cell (fun e=>Nat.not_le.2 hzA (AD HO.o e).1) (Ab Bl hci);have e4:=hf7.cell (fun e=>Nat.not_le.2 hzA (AD HO.o e).1) (Ab Bl hcj)))
      all_goals
       have hbb:Below w.heap.size w w7:=Ce (Ag hr Bl) hf7 (bt hb05 Bl) (by simp;omega);go_wp2;go_roundg (gk - 1)
       case rel=>exact ⟨k+1,by have:=HK.o;omega,by go_num,by rw [HP.o.2,HA.o];exact AO.snoc hr7,hbb⟩
       case measure=>have:=HK.o;omega
  · obtain rfl:k=l.length:=by have:=HK.o;omega
    rw [List.take_length] at ho;go_wp2;go_ret;exact ⟨_,rfl,ho,hb⟩
theorem DV {S:Nat→Prop} (cv v:Value) (cl:List Int) (l:List Am) (w:World) (hc:RInts w cv cl) (hc9:cl.length=9) (hv:RL w S v l) (hx:l.all AQ=true) (hl:l.length≤1048576) :
 Calls Tryz.prog 259 #[v,cv] w fun e w'=>∃ v',e=.returned v'∧AO w' w.heap.size v' (Az cl l)∧Below w.heap.size w w':=by
 obtain ⟨a,c,rfl,_,_,hf1⟩:=hv.atomAt;have F1:=Ad hf1;have HB:=Ad (FD hx);obtain ⟨cb,co,cc,rfl,_,_,hcell⟩:=hc.ne Om;have HC:=Ad hcell;have HC9:=Ad hc9;clear hf1 hv hx hcell hc9 hc;go_enter Tryz.func259,Tryz.ntmps259
 go_wp2;go_loopg [5,6] l.length (fun q x i wr=>∃ k:Nat,k+q=l.length∧i=.int .i64 k∧AO wr w.heap.size x (Az cl (l.take k))∧Below w.heap.size w wr)
 case atStart=>exact ⟨0,by omega,rfl,S9 w _ (Nat.le_refl _),Aa _ _⟩
 case round =>
  obtain ⟨k,hk,rfl,ho,hb⟩:=hrel;have HK:=Ad hk;clear hk;by_cases hk8:k < l.length
  · obtain ⟨b1,o1,rfl,_,hbl1,hp1,hp2,hp3⟩:=F1.o k hk8
    replace hp1:=Ab hb hp1;replace hp2:=Ab hb hp2;replace hp3:=Ab hb hp3;have hs:=hb.size;(have i1:(k:Int) < (l.length:Int):=by omega);(have hzb:b1 < wr.heap.size:=by omega);have hok:=HB.o k hk8;have HO:=Ad ho;obtain ⟨t1,t2,t3,t4⟩:=BH hok;obtain ⟨i,hi⟩:=Int.eq_ofNat_of_zero_le t1;obtain ⟨j,hj⟩:=Int.eq_ofNat_of_zero_le t3;(have hi9:(i:Int) < (cl.length:Int):=by rw [HC9.o];omega);(have hj9:(j:Int) < (cl.length:Int):=by rw [HC9.o];omega);(have hat:Un cl (gd l k)=((gd l k).1,gi cl i,gi cl j):=by simp only [Un,hi,hj,Int.toNat_natCast]);(have hfl:De cl (gd l k)=(((gd l k).1 == 1) || (gi cl i != gi cl j)):=by simp only [De,hi,hj,Int.toNat_natCast]);have HA:=Ad hat;rw [hi] at hp2;rw [hj] at hp3;have hci:=Ab hb (HC.o i Om);have hcj:=Ab hb (HC.o j Om);have hzc:cb < wr.heap.size:=World.block_lt_of_cell? wr _ hci;have hln:=Ig cl l k;clear hat t1 t2 t3 t4 hi hj hok ho;by_cases hk1:(gd l k).1=1
    · have hkb:((gd l k).1 == 1)=true:=by simp [hk1]
      (have hp:De cl (gd l k)=true:=by rw [hfl,hkb];rfl);have hN:=Gi hk8 hp;have HP:=Ad (An hp hN);clear hp hN hfl hk1;go_wp2;go_region_held3 (fun w'=>(w'.cell? ⟨b1,o1+k * 3,none⟩=some (.int .i64 (gd l k).1)∧w'.cell? ⟨b1,o1+k * 3+1,none⟩=some (.int .i64 i)∧w'.cell? ⟨b1,o1+k * 3+2,none⟩=some (.int .i64 j))∧(w'.cell? ⟨cb,co+i,none⟩=some (.int .i64 (gi cl i))∧w'.cell? ⟨cb,co+j,none⟩=some (.int .i64 (gi cl j))))
       (exact ⟨⟨Ab Bl hp1,Ab Bl hp2,Ab Bl hp3⟩,Ab Bl hci,Ab Bl hcj⟩)
       (first | fail)
      go_wp2_with (at_builtin;go_must (refine Fd (n:=(Az cl (l.take k)).length) (m:=1) (news:=[.int .i64 (gd l k).1,.int .i64 (gi cl i),.int .i64 (gi cl j)]) rfl (.tmp 47) (.tmp 49) _ rfl (B:=w.heap.size) A3 rfl (Ag HO.o Bl) rfl rfl (S8 _ _ Sp _ _ _ _) (VV _ _ _) Om (by simp;omega) ?_;intro v' w7 hr7 hf7 hl7))
      have hbb:Below w.heap.size w w7:=Ce (Ag HO.o Bl) hf7 (bt hb Bl) (by simp;omega);go_roundg (gk - 1)
      case rel=>exact ⟨k+1,by have:=HK.o;omega,by go_num,by rw [HP.o.2,HA.o];exact AO.snoc hr7,hbb⟩
      case measure=>have:=HK.o;omega
    · have hkb:((gd l k).1 == 1)=false:=by simp [hk1]
      clear hk1;by_cases hn1:gi cl i=gi cl j
      · have hnb:(gi cl i != gi cl j)=false:=by simp [hn1]
        (have hp:De cl (gd l k)=false:=by rw [hfl,hkb,hnb];rfl);have hN:=Ku hk8 hp;have HP:=Ad (An hp hN);clear hp hN hfl hn1;go_wp2;go_region_held3 (fun w'=>(w'.cell? ⟨b1,o1+k * 3,none⟩=some (.int .i64 (gd l k).1)∧w'.cell? ⟨b1,o1+k * 3+1,none⟩=some (.int .i64 i)∧w'.cell? ⟨b1,o1+k * 3+2,none⟩=some (.int .i64 j))∧(w'.cell? ⟨cb,co+i,none⟩=some (.int .i64 (gi cl i))∧w'.cell? ⟨cb,co+j,none⟩=some (.int .i64 (gi cl j))))
         (exact ⟨⟨Ab Bl hp1,Ab Bl hp2,Ab Bl hp3⟩,Ab Bl hci,Ab Bl hcj⟩)
         (first | fail)
        go_wp2;go_roundg (gk - 1)
        case rel=>exact ⟨k+1,by have:=HK.o;omega,by go_num,by rw [HP.o.2];exact HO.o.keep Bl,bt hb Bl⟩
        case measure=>have:=HK.o;omega
      · have hnb:(gi cl i != gi cl j)=true:=by simp [hn1]
        (have hp:De cl (gd l k)=true:=by rw [hfl,hkb,hnb];rfl);have hN:=Gi hk8 hp;have HP:=Ad (An hp hN);clear hp hN hfl hn1;go_wp2;go_region_held3 (fun w'=>(w'.cell? ⟨b1,o1+k * 3,none⟩=some (.int .i64 (gd l k).1)∧w'.cell? ⟨b1,o1+k * 3+1,none⟩=some (.int .i64 i)∧w'.cell? ⟨b1,o1+k * 3+2,none⟩=some (.int .i64 j))∧(w'.cell? ⟨cb,co+i,none⟩=some (.int .i64 (gi cl i))∧w'.cell? ⟨cb,co+j,none⟩=some (.int .i64 (gi cl j))))
         (exact ⟨⟨Ab Bl hp1,Ab Bl hp2,Ab Bl hp3⟩,Ab Bl hci,Ab Bl hcj⟩)
         (first | fail)
        go_wp2_with (at_builtin;go_must (refine Fd (n:=(Az cl (l.take k)).length) (m:=1) (news:=[.int .i64 (gd l k).1,.int .i64 (gi cl i),.int .i64 (gi cl j)]) rfl (.tmp 47) (.tmp 49) _ rfl (B:=w.heap.size) A3 rfl (Ag HO.o Bl) rfl rfl (S8 _ _ Sp _ _ _ _) (VV _ _ _) Om (by simp;omega) ?_;intro v' w7 hr7 hf7 hl7))
        have hbb:Below w.heap.size w w7:=Ce (Ag HO.o Bl) hf7 (bt hb Bl) (by simp;omega);go_roundg (gk - 1)
        case rel=>exact ⟨k+1,by have:=HK.o;omega,by go_num,by rw [HP.o.2,HA.o];exact AO.snoc hr7,hbb⟩
        case measure=>have:=HK.o;omega
  · obtain rfl:k=l.length:=by have:=HK.o;omega
    rw [List.take_length] at ho;go_wp2;go_ret;exact ⟨_,rfl,ho,hb⟩
theorem B6 {S1 S2:Nat→Prop} (v1 v2:Value) (a:Aj) (w:World) (h1:RL w S1 v1 a.1) (h2:RL w S2 v2 a.2) :
 Calls Tryz.prog 66 #[.agg #[v1,v2]] w fun e w'=>e=.returned (.int .u16 (Ak a))∧Below w.heap.size w w':=by
 have hm1:=h1.len;have hm2:=h2.len;unfold maxLen at hm1 hm2;obtain ⟨l1,l2⟩:=a;simp only at h1 h2 hm1 hm2;obtain ⟨a1,c1,rfl,_,_,hf1⟩:=h1.factAt;obtain ⟨a2,c2,rfl,_,_,hf2⟩:=h2.atomAt;have F1:=Ad hf1;have F2:=Ad hf2;clear hf1 hf2 h1 h2;go_enter Tryz.func66,Tryz.ntmps66
 go_wp2;go_loopg [3,11] l1.length (fun q x i wr=>∃ k:Nat,k+q=l1.length∧i=.int .i64 k∧x=.int .u16 (CE 0 (l1.take k))∧(wr.cell? ⟨w.heap.size,1,none⟩=some (.slice a2 l2.length c2))∧Below w.heap.size w wr)
 case atStart=>exact ⟨0,by omega,rfl,rfl,by simp,Aa _ _⟩
 case round =>
  obtain ⟨k,hk,rfl,rfl,hc1,hb⟩:=hrel;have HK:=Ad hk;clear hk;have hz:w.heap.size < wr.heap.size:=World.block_lt_of_cell? wr _ hc1;by_cases hk8:k < l1.length
  · obtain ⟨b1,o1,rfl,_,hbl1,hp1,hp2,hp3⟩:=F1.o k hk8
    replace hp1:=Ab hb hp1;replace hp2:=Ab hb hp2;replace hp3:=Ab hb hp3;(have i1:(k:Int) < (l1.length:Int):=by omega);have hzb:b1 < wr.heap.size:=World.block_lt_of_cell? wr _ hp1;have hst:=Ju (m:=0) hk8;obtain ⟨m,hm⟩:=Ex (CE 0 (l1.take k));(have hml:m < 65536:=by rw [← hm];exact IZ Dc);rw [hm] at hst ⊢;obtain ⟨n1,hn1⟩:∃ n,As m (gd l1 k).2.1=n:=⟨_,rfl⟩;(have hnl1:n1 < 65536:=by rw [← hn1];exact AJ hml);obtain ⟨n2,hn2⟩:∃ n,As n1 (gd l1 k).2.2=n:=⟨_,rfl⟩;rw [hn1,hn2] at hst;have HST:=Ad hst;have HN:=Ad (An hn1 hn2);clear hst hn1 hn2 hm;go_wp2;refine Af Kr Kr ?_;repeat (go_big_quiet_step ((go_at_call 147;first
     | with_reducible exact BA (A6 _ hml HN.o.1)
     | with_reducible exact BA (A6 _ hnl1 HN.o.2))))
    refine wpQuiet_nil ?_;intro w5 hb5;go_wp2;go_roundg (gk - 1)
    case rel=>exact ⟨k+1,by have:=HK.o;omega,by go_num,by rw [HST.o],Ab (bt Bl hb5) hc1,bt (bt hb Bl) hb5⟩
    case measure=>have:=HK.o;omega
  · obtain rfl:k=l1.length:=by have:=HK.o;omega
    rw [List.take_length];have hml:CE 0 l1 < 65536:=IZ Dc;have hT:Ak (l1,l2)=Dm (CE 0 l1) l2:=rfl;obtain ⟨M,hM⟩:∃ m,CE 0 l1=m:=⟨_,rfl⟩;rw [hM] at hml hT ⊢;have HT:=Ad hT;clear hM hT;have hbe:Below wr.heap.size wr wr:=Below.refl _ _;obtain ⟨wo,rfl⟩:∃ wo:World,wo=wr:=⟨_,rfl⟩;go_wp2;go_loopg [3,26] l2.length (fun q x i wr=>∃ k:Nat,k+q=l2.length∧i=.int .i64 k∧x=.int .u16 (Dm M (l2.take k))∧Below wo.heap.size wo wr)
    case atStart=>exact ⟨0,by omega,rfl,rfl,hbe⟩
    case round =>
     obtain ⟨k,hk,rfl,rfl,hb'⟩:=hrel;have HK:=Ad hk;clear hk;by_cases hk8:k < l2.length
     · obtain ⟨b1,o1,rfl,_,hbl1,hp1,hp2,hp3⟩:=F2.o k hk8
       replace hp1:=Ab (bt hb hb') hp1;replace hp2:=Ab (bt hb hb') hp2;replace hp3:=Ab (bt hb hb') hp3;(have i1:(k:Int) < (l2.length:Int):=by omega);have hzb:b1 < wr.heap.size:=World.block_lt_of_cell? wr _ hp1;have hst:=Jv (m:=M) hk8;obtain ⟨m,hm⟩:=Ex (Dm M (l2.take k));(have hml2:m < 65536:=by rw [← hm];exact LQ hml);rw [hm] at hst ⊢;obtain ⟨n1,hn1⟩:∃ n,As m (gd l2 k).2.1=n:=⟨_,rfl⟩;(have hnl1:n1 < 65536:=by rw [← hn1];exact AJ hml2);obtain ⟨n2,hn2⟩:∃ n,As n1 (gd l2 k).2.2=n:=⟨_,rfl⟩;rw [hn1,hn2] at hst;have HST:=Ad hst;have HN:=Ad (An hn1 hn2);clear hst hn1 hn2 hm;go_wp2;refine Af Kr Kr ?_;repeat (go_big_quiet_step ((go_at_call 147;first
        | with_reducible exact BA (A6 _ hml2 HN.o.1)
        | with_reducible exact BA (A6 _ hnl1 HN.o.2))))
       refine wpQuiet_nil ?_;intro w5 hb5;go_wp2;go_roundg (gk - 1)
       case rel=>exact ⟨k+1,by have:=HK.o;omega,by go_num,by rw [HST.o],bt (bt hb' Bl) hb5⟩
       case measure=>have:=HK.o;omega
     · obtain rfl:k=l2.length:=by have:=HK.o;omega
       rw [List.take_length];go_wp2;go_ret;exact ⟨by rw [HT.o];rfl,bt hb hb'⟩
theorem Ta (w:World):(Instr.makeSlice 119 (.int .i64 9) (.int .i64 9)).run Tryz.prog w =
 .ok (.slice (some ⟨w.heap.size,0,none⟩) 9 9) (w.alloc (.cells #[.bool false,.bool false,.bool false,.bool false,.bool false,.bool false,.bool false,.bool false,.bool false] 4)):=by kernel_rfl
theorem LS (w:World) (B:Nat) (hB:B≤w.heap.size) :
 (w.alloc (.cells #[.bool false,.bool false,.bool false,.bool false,.bool false,.bool false,.bool false,.bool false,.bool false] 4)).ownsRow B 4 1 (.slice (some ⟨w.heap.size,0,none⟩) 9 9) 9 (Av 0) :=
 World.ownsRow_lit (size:=1) w _ 9 hB (by unfold maxLen;omega) rfl
theorem Df {m n:Nat} (h:n≤8):As m (n:Int)=m ||| 2 ^ n:=by
 rw [As,if_pos (At.2 Om),Int.toNat_natCast]
theorem BQ {S1 S2:Nat→Prop} (v1 v2:Value) (a:Aj) (w:World) (h1:RL w S1 v1 a.1) (h2:RL w S2 v2 a.2) (hx1:a.1.all AH=true) (hx2:a.2.all AQ=true) :
 Calls Tryz.prog 75 #[.agg #[v1,v2]] w fun e w'=>∃ v,e=.returned v∧w'.ownsRow w.heap.size 4 1 v 9 (Av (Ak a))∧Below w.heap.size w w':=by
 have hmk:=Ta;have hm1:=h1.len;have hm2:=h2.len;unfold maxLen at hm1 hm2;obtain ⟨l1,l2⟩:=a;simp only at h1 h2 hm1 hm2 hx1 hx2;obtain ⟨a1,c1,rfl,_,_,hf1⟩:=h1.factAt;obtain ⟨a2,c2,rfl,_,_,hf2⟩:=h2.atomAt;have F1:=Ad hf1;have F2:=Ad hf2;have B1:=Ad (FD hx1);have B2:=Ad (FD hx2);clear hf1 hf2 h1 h2 hx1 hx2;have hfl:=LS (w.alloc (.cells #[.slice a1 l1.length c1,.slice a2 l2.length c2] 26)) w.heap.size Sp;simp only [World.size_alloc] at hfl;have HFL:=Ad hfl;clear hfl;go_enter Tryz.func75,Tryz.ntmps75
 go_wp2;go_loopg [4] l1.length (fun q i wr=>∃ k:Nat,k+q=l1.length∧i=.int .i64 k∧wr.ownsRow w.heap.size 4 1 (.slice (some ⟨w.heap.size+1,0,none⟩) 9 9) 9 (Av (CE 0 (l1.take k)))∧(wr.cell? ⟨w.heap.size,0,none⟩=some (.slice a1 l1.length c1)∧wr.cell? ⟨w.heap.size,1,none⟩=some (.slice a2 l2.length c2))∧Below w.heap.size w wr)
 case atStart=>exact ⟨0,by omega,rfl,HFL.o,⟨by simp [go_sem],by simp [go_sem]⟩,Bl⟩
 case round =>
  obtain ⟨k,hk,rfl,ho,⟨hc0,hc1⟩,hb⟩:=hrel;have HK:=Ad hk;clear hk;have hz:w.heap.size < wr.heap.size:=World.block_lt_of_cell? wr _ hc1;have hzf:w.heap.size+1 < wr.heap.size:=(ho.lt _ rfl).2;by_cases hk8:k < l1.length
  · obtain ⟨b1,o1,rfl,_,hbl1,hp1,hp2,hp3⟩:=F1.o k hk8
    replace hp1:=Ab hb hp1;replace hp2:=Ab hb hp2;replace hp3:=Ab hb hp3;(have i1:(k:Int) < (l1.length:Int):=by omega);(have hne:¬ b1=w.heap.size+1:=by omega);have hst:=Ju (m:=0) hk8;obtain ⟨t1,t2,t3,t4⟩:=Ci (B1.out k hk8);obtain ⟨i,hi⟩:=Int.eq_ofNat_of_zero_le t1;obtain ⟨j,hj⟩:=Int.eq_ofNat_of_zero_le t3;(have hi9:(i:Int) < 9:=by omega);(have hj9:(j:Int) < 9:=by omega);obtain ⟨m,hm⟩:=Ex (CE 0 (l1.take k));rw [hi,hj,Df Om,Df Om,hm] at hst;rw [hm] at ho;rw [hi] at hp2;rw [hj] at hp3;have HST:=Ad hst;obtain ⟨s1,g1⟩:=ho.stored i (.bool true);rw [Da m i (by omega)] at s1;have f1:=AF g1;have z1:=ho.frozenAt i;have y1:wr.cell? ⟨w.heap.size+1,i,none⟩=some (.bool (m.testBit i)):=by
     have:=ho.cellAt i Om;rw [AP m i (by omega)] at this;simpa using this
    have hc0':=f1.cell (p:=⟨w.heap.size,0,none⟩) (fun e=>by have:=Option.some.inj e;simp at this) hc0;have hc1':=f1.cell (p:=⟨w.heap.size,1,none⟩) (fun e=>by have:=Option.some.inj e;simp at this) hc1;have hp3':=f1.cell (p:=⟨b1,o1+k * 3+2,none⟩) (fun e=>hne (Option.some.inj e)) hp3;have hb1:=hb.trans (f1.below hb.size fun k _ e=>by have:=Option.some.inj e;omega);have HS1:=Ad (An s1 hb1);have HC1:=Ad (An hp3' (An hc0' hc1'));clear hst t1 t2 t3 t4 hi hj hm ho s1 g1 f1 hp3' hb1 hc0' hc1';(go_upto_region 6 with fail);generalize wr.setCell ⟨w.heap.size+1,i,none⟩ (.bool true)=w6 at HS1 HC1 ⊢;have s1:=HS1.o.1;have hb6:=HS1.o.2;have hp6:=HC1.o.1;have hd0:=HC1.o.2.1;have hd1:=HC1.o.2.2;obtain ⟨s2,g2⟩:=s1.stored j (.bool true);rw [Da _ j (by omega)] at s2;have z2:=s1.frozenAt j;have y2:w6.cell? ⟨w.heap.size+1,j,none⟩=some (.bool ((m ||| 2 ^ i).testBit j)):=by
     have:=s1.cellAt j Om;rw [AP _ j (by omega)] at this;simpa using this
    have HS:=Ad (An s2 (AF g2));clear s1 s2 g2 hc1 z1 y1 hc0 hp1 hp2 hp3;go_wp2;go_roundg (gk - 1)
    case rel=>exact ⟨k+1,by have:=HK.o;omega,by go_num,by rw [HST.o];exact HS.o.1,⟨HS.o.2.cell (fun e=>by have:=Option.some.inj e;simp at this) hd0,HS.o.2.cell (fun e=>by have:=Option.some.inj e;simp at this) hd1⟩,hb6.trans (HS.o.2.below hb6.size fun k _ e=>by have:=Option.some.inj e;omega)⟩
    case measure=>have:=HK.o;omega
  · obtain rfl:k=l1.length:=by have:=HK.o;omega
    rw [List.take_length] at ho;have hT:Ak (l1,l2)=Dm (CE 0 l1) l2:=rfl;obtain ⟨M,hM⟩:∃ m,CE 0 l1=m:=⟨_,rfl⟩;rw [hM] at ho hT;have HT:=Ad hT;have HO:=Ad ho;clear hM hT ho;obtain ⟨wo,rfl⟩:∃ wo:World,wo=wr:=⟨_,rfl⟩;go_wp2;go_loopg [5] l2.length (fun q i wr=>∃ k:Nat,k+q=l2.length∧i=.int .i64 k∧wr.ownsRow w.heap.size 4 1 (.slice (some ⟨w.heap.size+1,0,none⟩) 9 9) 9 (Av (Dm M (l2.take k)))∧wr.cell? ⟨w.heap.size,1,none⟩=some (.slice a2 l2.length c2)∧Below w.heap.size w wr)
    case atStart=>exact ⟨0,by omega,rfl,HO.o,hc1,hb⟩
    case round =>
     clear hc0 hc1 hb hz hzf;obtain ⟨k,hk,rfl,ho,hc1,hb⟩:=hrel;have HK:=Ad hk;clear hk;have hz:w.heap.size < wr.heap.size:=World.block_lt_of_cell? wr _ hc1;have hzf:w.heap.size+1 < wr.heap.size:=(ho.lt _ rfl).2;by_cases hk8:k < l2.length
     · obtain ⟨b1,o1,rfl,_,hbl1,hp1,hp2,hp3⟩:=F2.o k hk8
       replace hp1:=Ab hb hp1;replace hp2:=Ab hb hp2;replace hp3:=Ab hb hp3;(have i1:(k:Int) < (l2.length:Int):=by omega);(have hne:¬ b1=w.heap.size+1:=by omega);have hst:=Jv (m:=M) hk8;obtain ⟨t1,t2,t3,t4⟩:=BH (B2.out k hk8);obtain ⟨i,hi⟩:=Int.eq_ofNat_of_zero_le t1;obtain ⟨j,hj⟩:=Int.eq_ofNat_of_zero_le t3;(have hi9:(i:Int) < 9:=by omega);(have hj9:(j:Int) < 9:=by omega);obtain ⟨m,hm⟩:=Ex (Dm M (l2.take k));rw [hi,hj,Df Om,Df Om,hm] at hst;rw [hm] at ho;rw [hi] at hp2;rw [hj] at hp3;have HST:=Ad hst;obtain ⟨s1,g1⟩:=ho.stored i (.bool true);rw [Da m i (by omega)] at s1;have f1:=AF g1;have z1:=ho.frozenAt i;have y1:wr.cell? ⟨w.heap.size+1,i,none⟩=some (.bool (m.testBit i)):=by
        have:=ho.cellAt i Om;rw [AP m i (by omega)] at this;simpa using this
       have hc1':=f1.cell (p:=⟨w.heap.size,1,none⟩) (fun e=>by have:=Option.some.inj e;simp at this) hc1;have hp3':=f1.cell (p:=⟨b1,o1+k * 3+2,none⟩) (fun e=>hne (Option.some.inj e)) hp3;have hb1:=hb.trans (f1.below hb.size fun k _ e=>by have:=Option.some.inj e;omega);have HS1:=Ad (An s1 hb1);have HC1:=Ad (An hp3' hc1');clear hst t1 t2 t3 t4 hi hj hm ho s1 g1 f1 hp3' hb1 hc1';(go_upto_region 11 with fail);generalize wr.setCell ⟨w.heap.size+1,i,none⟩ (.bool true)=w6 at HS1 HC1 ⊢;have s1:=HS1.o.1;have hb6:=HS1.o.2;have hp6:=HC1.o.1;have hd1:=HC1.o.2;obtain ⟨s2,g2⟩:=s1.stored j (.bool true);rw [Da _ j (by omega)] at s2;have z2:=s1.frozenAt j;have y2:w6.cell? ⟨w.heap.size+1,j,none⟩=some (.bool ((m ||| 2 ^ i).testBit j)):=by
        have:=s1.cellAt j Om;rw [AP _ j (by omega)] at this;simpa using this
       have HS:=Ad (An s2 (AF g2));clear s1 s2 g2 hc1 z1 y1 hp1 hp2 hp3;go_wp2;go_roundg (gk - 1)
       case rel=>exact ⟨k+1,by have:=HK.o;omega,by go_num,by rw [HST.o];exact HS.o.1,HS.o.2.cell (fun e=>by have:=Option.some.inj e;simp at this) hd1,hb6.trans (HS.o.2.below hb6.size fun k _ e=>by have:=Option.some.inj e;omega)⟩
       case measure=>have:=HK.o;omega
     · obtain rfl:k=l2.length:=by have:=HK.o;omega
       rw [List.take_length] at ho;go_wp2;go_ret;exact ⟨_,rfl,by rw [HT.o];exact ho,hb⟩
def GZ (cl:List Int) (last:Int) (f:Ap):Bool:=if f.2.1≤last∧f.2.2≤last then B5 cl f else true
def F5 (cl:List Int) (last:Int) (x:Am):Bool:=decide (x.2.1≤last) && (decide (x.2.2≤last) && De cl x)
def Bt (cl:List Int) (last:Int) (m:Nat):List Am→Bool
 | []=>true
 | x :: r=>if F5 cl last x=true then (if (gi cl x.2.1.toNat == 0 || AN m (gi cl x.2.1.toNat))=true then false else Bt cl last (As m (gi cl x.2.1.toNat)) r) else Bt cl last m r
def Bi (cl:List Int) (last:Int) (a:Aj):Bool:=a.1.all (GZ cl last) && Bt cl last 0 a.2
theorem Ih {α:Type} [Inhabited α] {l:List α} {k:Nat} (h:k < l.length):l.drop k=gd l k :: l.drop (k+1):=by
 rw [List.drop_eq_getElem_cons h,BT h]
section
variable {cl:List Int} {last:Int} {m k:Nat} {l:List Am}
theorem FK (h:k < l.length) (hi:F5 cl last (gd l k)=false):Bt cl last m (l.drop k)=Bt cl last m (l.drop (k+1)):=by
 rw [Ih h,Bt,hi];rfl
theorem Ii (h:k < l.length) (hi:F5 cl last (gd l k)=true) (hs:(gi cl (gd l k).2.1.toNat == 0 || AN m (gi cl (gd l k).2.1.toNat))=true):Bt cl last m (l.drop k)=false:=by
 rw [Ih h,Bt,hi,hs];rfl
theorem MN (h:k < l.length) (hi:F5 cl last (gd l k)=true) (hs:(gi cl (gd l k).2.1.toNat == 0 || AN m (gi cl (gd l k).2.1.toNat))=false):Bt cl last m (l.drop k)=Bt cl last (As m (gi cl (gd l k).2.1.toNat)) (l.drop (k+1)):=by
 rw [Ih h,Bt,hi,hs];rfl
end
theorem CX {m:Nat} {t:Int} {r:Bool} (w:World) (hm:m < 65536) (h:AN m t=r) :
 Calls Tryz.prog 148 #[.int .u16 m,.int .i64 t] w fun e w'=>e=.returned (.bool r)∧w=w':=by
 subst h;exact Gh m t w hm
theorem Ls {S1 S2:Nat→Prop} (b:Nat) (cl:List Int) (v1 v2:Value) (a:Aj) (last:Int) (w:World) (h:RArr w b cl) (h1:RL w S1 v1 a.1) (h2:RL w S2 v2 a.2) (hx1:a.1.all AH=true) (hx2:a.2.all AQ=true) :
 Calls Tryz.prog 233 #[.pointer (some ⟨b,0,none⟩),.agg #[v1,v2],.int .i64 last] w fun e w'=>e=.returned (.bool (Bi cl last a))∧Below w.heap.size w w':=by
 have hm1:=h1.len;have hm2:=h2.len;unfold maxLen at hm1 hm2;obtain ⟨l1,l2⟩:=a;simp only at h1 h2 hm1 hm2 hx1 hx2;obtain ⟨a1,c1,rfl,_,_,hf1⟩:=h1.factAt;obtain ⟨a2,c2,rfl,_,_,hf2⟩:=h2.atomAt;have F1:=Ad hf1;have F2:=Ad hf2;have B1:=Ad (FD hx1);have B2:=Ad (FD hx2);have HPO:=Ad (show Bi cl last (l1,l2)=(l1.all (GZ cl last) && Bt cl last 0 l2) from rfl);clear hf1 hf2 h1 h2 hx1 hx2;go_enter Tryz.func233,Tryz.ntmps233
 go_wp2;go_loopg [15] l1.length (fun q i wr=>∃ k:Nat,k+q=l1.length∧i=.int .i64 k∧(l1.take k).all (GZ cl last)=true∧wr.cell? ⟨w.heap.size,1,none⟩=some (.slice a2 l2.length c2)∧Below w.heap.size w wr)
 case atStart=>exact ⟨0,by omega,rfl,by simp,by simp,Aa _ _⟩
 case round =>
  obtain ⟨k,hk,rfl,ht,hc1,hb⟩:=hrel;have HK:=Ad hk;have HT:=Ad ht;clear hk ht;have hz:w.heap.size < wr.heap.size:=World.block_lt_of_cell? wr _ hc1;by_cases hk8:k < l1.length
  · obtain ⟨b1,o1,rfl,_,hbl1,hp1,hp2,hp3⟩:=F1.o k hk8
    replace hp1:=Ab hb hp1;replace hp2:=Ab hb hp2;replace hp3:=Ab hb hp3;(have i1:(k:Int) < (l1.length:Int):=by omega);have hzb:b1 < wr.heap.size:=World.block_lt_of_cell? wr _ hp1;have HOK:=Ad (B1.out k hk8);by_cases hA:(gd l1 k).2.1≤last
    · by_cases hB:(gd l1 k).2.2≤last
      · cases hp:B5 cl (gd l1 k)
        · have hq:GZ cl last (gd l1 k)=false:=by rw [GZ,if_pos ⟨hA,hB⟩,hp]
          have HF:=Ad (F9 hk8 hq);have HP:=Ad hp;clear hp hq;(go_wp2_with fail);refine (cb (CF b cl (gd l1 k) _ (h.keep (bt hb Bl)) HOK.o) HP.o).mono ?_;rintro e w5 ⟨rfl,hb5⟩;go_wp2;go_ret;exact ⟨by rw [HPO.o,HF.o];rfl,bt (bt hb Bl) hb5⟩
        · have hq:GZ cl last (gd l1 k)=true:=by rw [GZ,if_pos ⟨hA,hB⟩,hp]
          have HP:=Ad (An hp hq);clear hp hq;(go_wp2_with fail);refine (cb (CF b cl (gd l1 k) _ (h.keep (bt hb Bl)) HOK.o) HP.o.1).mono ?_;rintro e w5 ⟨rfl,hb5⟩;go_wp2;go_roundg (gk - 1)
          case rel=>exact ⟨k+1,by have:=HK.o;omega,by go_num,Bb hk8 HT.o HP.o.2,Ab (bt Bl hb5) hc1,bt (bt hb Bl) hb5⟩
          case measure=>have:=HK.o;omega
      · have hq:GZ cl last (gd l1 k)=true:=by rw [GZ,if_neg (by omega)]
        have HP:=Ad hq;clear hq;go_wp2;go_roundg (gk - 1)
        case rel=>exact ⟨k+1,by have:=HK.o;omega,by go_num,Bb hk8 HT.o HP.o,Ab Bl hc1,bt hb Bl⟩
        case measure=>have:=HK.o;omega
    · have hq:GZ cl last (gd l1 k)=true:=by rw [GZ,if_neg (by omega)]
      have HP:=Ad hq;clear hq;go_wp2;go_roundg (gk - 1)
      case rel=>exact ⟨k+1,by have:=HK.o;omega,by go_num,Bb hk8 HT.o HP.o,Ab Bl hc1,bt hb Bl⟩
      case measure=>have:=HK.o;omega
  · obtain rfl:k=l1.length:=by have:=HK.o;omega
    have hall:=Fy HT.o;have HPS:=Ad (show Bi cl last (l1,l2)=Bt cl last 0 (l2.drop 0) by rw [HPO.o,hall];rfl);clear hall HT HPO;have hbe:Below wr.heap.size wr wr:=Below.refl _ _;obtain ⟨wo,rfl⟩:∃ wo:World,wo=wr:=⟨_,rfl⟩;have h':=h.keep hb;go_wp2;go_loopg [9,39] l2.length (fun q x i wr=>∃ (k m:Nat),k+q=l2.length∧i=.int .i64 k∧x=.int .u16 m∧m < 65536∧Bi cl last (l1,l2)=Bt cl last m (l2.drop k)∧Below wo.heap.size wo wr)
    case atStart=>exact ⟨0,0,by omega,rfl,rfl,by omega,HPS.o,hbe⟩
    case round =>
     clear hbe hc1;obtain ⟨k,m,hk,rfl,rfl,hm6,hps,hb'⟩:=hrel;have HK:=Ad hk;have HPS:=Ad hps;clear hk hps;by_cases hk8:k < l2.length
     · obtain ⟨b1,o1,rfl,_,hbl1,hp1,hp2,hp3⟩:=F2.o k hk8
       replace hp1:=Ab (bt hb hb') hp1;replace hp2:=Ab (bt hb hb') hp2;replace hp3:=Ab (bt hb hb') hp3;(have i1:(k:Int) < (l2.length:Int):=by omega);have hzb:b1 < wr.heap.size:=World.block_lt_of_cell? wr _ hp1;have HOK:=Ad (B2.out k hk8);by_cases hA:last < (gd l2 k).2.1
       · have hq:F5 cl last (gd l2 k)=false:=by rw [F5,decide_eq_false (by omega)];rfl
         have HN:=Ad (FK (m:=m) hk8 hq);clear hq;go_wp2;go_roundg (gk - 1)
         case rel=>exact ⟨k+1,m,by have:=HK.o;omega,by go_num,rfl,hm6,by rw [HPS.o,HN.o],bt hb' Bl⟩
         case measure=>have:=HK.o;omega
       by_cases hB:last < (gd l2 k).2.2
       · have hq:F5 cl last (gd l2 k)=false:=by rw [F5,decide_eq_false (p:=(gd l2 k).2.2≤last) (by omega)];simp
         have HN:=Ad (FK (m:=m) hk8 hq);clear hq;go_wp2;go_roundg (gk - 1)
         case rel=>exact ⟨k+1,m,by have:=HK.o;omega,by go_num,rfl,hm6,by rw [HPS.o,HN.o],bt hb' Bl⟩
         case measure=>have:=HK.o;omega
       cases hp:De cl (gd l2 k)
       · have hq:F5 cl last (gd l2 k)=false:=by rw [F5,hp];simp
         have HN:=Ad (FK (m:=m) hk8 hq);have HP:=Ad hp;clear hq hp;(go_wp2_with fail);refine (cb (Cv b cl (gd l2 k) _ (h'.keep (bt hb' Bl)) HOK.o) HP.o).mono ?_;rintro e w5 ⟨rfl,hb5⟩;go_wp2;go_roundg (gk - 1)
         case rel=>exact ⟨k+1,m,by have:=HK.o;omega,by go_num,rfl,hm6,by rw [HPS.o,HN.o],bt (bt hb' Bl) hb5⟩
         case measure=>have:=HK.o;omega
       · have hq:F5 cl last (gd l2 k)=true:=by rw [F5,hp,decide_eq_true Om,decide_eq_true (by omega)];rfl
         obtain ⟨t1,t2,t3,t4⟩:=BH HOK.o;obtain ⟨i,hi⟩:=Int.eq_ofNat_of_zero_le t1;(have hi9:(i:Int) < 9:=by omega);obtain ⟨E,hE⟩:=Ex (gi cl i);(have hEt:gi cl (gd l2 k).2.1.toNat=E:=by rw [hi,Int.toNat_natCast,hE]);have HP:=Ad (An hp hi);have HE:=Ad hE;by_cases hE0:E=0
         · have hkb:(E == 0)=true:=by simp [hE0]
           (have hs:(gi cl (gd l2 k).2.1.toNat == 0 || AN m (gi cl (gd l2 k).2.1.toNat))=true:=by rw [hEt,hkb];rfl);have HN:=Ad (Ii hk8 hq hs);clear hs hEt hE hi hp hq t1 t2 t3 t4 hE0;(go_wp2_with fail);refine (cb (Cv b cl (gd l2 k) _ (h'.keep (bt hb' Bl)) HOK.o) HP.o.1).mono ?_;rintro e w5 ⟨rfl,hb5⟩;have hd1:=Ab hb5 (p:=⟨wr.heap.size,1,none⟩) (v:=.int .i64 (gd l2 k).2.1) (by simp [go_sem]);rw [HP.o.2] at hd1;have hw5:Below wr.heap.size wr w5:=bt Bl hb5;have hA5:=h'.keep (bt hb' hw5);have hci:=hA5.2.2 i Om;rw [HE.o] at hci;have hzz:b < w5.heap.size:=hA5.2.1;have hzy:wr.heap.size < w5.heap.size:=World.block_lt_of_cell? w5 _ hd1;clear hb5 hA5;go_wp2;refine Af Kr Kr ?_;repeat (go_big_quiet_step ((fail)))
           refine wpQuiet_nil ?_;intro w6 hb6;go_wp2;go_ret;exact ⟨by rw [HPS.o,HN.o];rfl,bt (bt hb hb') (bt hw5 hb6)⟩
         · have hkb:(E == 0)=false:=by simp [hE0]
           cases hh:AN m E
           · have hs:(gi cl (gd l2 k).2.1.toNat == 0 || AN m (gi cl (gd l2 k).2.1.toNat))=false:=by rw [hEt,hkb,hh];rfl
             have hn:=MN hk8 hq hs;rw [hEt] at hn;have hnl:=AJ (t:=E) hm6;obtain ⟨n,hnn⟩:=Ex (As m E);rw [hnn] at hn hnl;have HN:=Ad hn;have HH:=Ad (An hh hnn);clear hs hEt hE hi hp hq t1 t2 t3 t4 hE0 hh hn hnn;(go_wp2_with fail);refine (cb (Cv b cl (gd l2 k) _ (h'.keep (bt hb' Bl)) HOK.o) HP.o.1).mono ?_;rintro e w5 ⟨rfl,hb5⟩;have hd1:=Ab hb5 (p:=⟨wr.heap.size,1,none⟩) (v:=.int .i64 (gd l2 k).2.1) (by simp [go_sem]);rw [HP.o.2] at hd1;have hw5:Below wr.heap.size wr w5:=bt Bl hb5;have hA5:=h'.keep (bt hb' hw5);have hci:=hA5.2.2 i Om;rw [HE.o] at hci;have hzz:b < w5.heap.size:=hA5.2.1;have hzy:wr.heap.size < w5.heap.size:=World.block_lt_of_cell? w5 _ hd1;clear hb5 hA5;go_wp2;refine Af Kr Kr ?_;repeat (go_big_quiet_step ((go_at_call 148;with_reducible exact BA (CX _ hm6 HH.o.1))))
             refine wpQuiet_nil ?_;intro w6 hb6;replace hd1:=Ab hb6 hd1;replace hci:=Ab hb6 hci;have hzz:b < w6.heap.size:=World.block_lt_of_cell? w6 _ hci;have hzy:wr.heap.size < w6.heap.size:=World.block_lt_of_cell? w6 _ hd1;go_wp2;refine Af Kr Kr ?_;repeat (go_big_quiet_step ((go_at_call 147;with_reducible exact BA (A6 _ hm6 HH.o.2))))
             refine wpQuiet_nil ?_;intro w7 hb7;go_wp2;go_roundg (gk - 1)
             case rel=>exact ⟨k+1,n,by have:=HK.o;omega,by go_num,rfl,hnl,by rw [HPS.o,HN.o],bt hb' (bt hw5 (bt hb6 hb7))⟩
             case measure=>have:=HK.o;omega
           · have hs:(gi cl (gd l2 k).2.1.toNat == 0 || AN m (gi cl (gd l2 k).2.1.toNat))=true:=by rw [hEt,hkb,hh];rfl
             have HN:=Ad (Ii hk8 hq hs);have HH:=Ad hh;clear hs hEt hE hi hp hq t1 t2 t3 t4 hE0 hh;(go_wp2_with fail);refine (cb (Cv b cl (gd l2 k) _ (h'.keep (bt hb' Bl)) HOK.o) HP.o.1).mono ?_;rintro e w5 ⟨rfl,hb5⟩;have hd1:=Ab hb5 (p:=⟨wr.heap.size,1,none⟩) (v:=.int .i64 (gd l2 k).2.1) (by simp [go_sem]);rw [HP.o.2] at hd1;have hw5:Below wr.heap.size wr w5:=bt Bl hb5;have hA5:=h'.keep (bt hb' hw5);have hci:=hA5.2.2 i Om;rw [HE.o] at hci;have hzz:b < w5.heap.size:=hA5.2.1;have hzy:wr.heap.size < w5.heap.size:=World.block_lt_of_cell? w5 _ hd1;clear hb5 hA5;go_wp2;refine Af Kr Kr ?_;repeat (go_big_quiet_step ((go_at_call 148;with_reducible exact BA (CX _ hm6 HH.o))))
             refine wpQuiet_nil ?_;intro w6 hb6;go_wp2;go_ret;exact ⟨by rw [HPS.o,HN.o];rfl,bt (bt hb hb') (bt hw5 hb6)⟩
     · obtain rfl:k=l2.length:=by have:=HK.o;omega
       have HE:=Ad (show Bi cl last (l1,l2)=true by rw [HPS.o,List.drop_length];rfl);go_wp2;go_ret;exact ⟨by rw [HE.o];rfl,bt hb hb'⟩
end Go.Proofs.YtkbbmjcfgcfejaaGreat
