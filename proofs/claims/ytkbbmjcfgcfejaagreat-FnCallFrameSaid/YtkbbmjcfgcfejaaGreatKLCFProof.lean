/- Walks: assertions that are equal are the same. (Printed by gen_sam.py.) -/
import Derived.Test.YtkbbmjcfgcfejaaGreatKBtxA
import Derived.Laws.StructEq
import Derived.Deep.RegionHeld3
import Derived.Handy
import Derived.Test.YtkbbmjcfgcfejaaGreatKPickI
import Derived.Test.YtkbbmjcfgcfejaaGreatKCallI
import Derived.Test.YtkbbmjcfgcfejaaGreatKCallS
import Derived.Test.YtkbbmjcfgcfejaaGreatKFgt
import Derived.Deep.Cut
import Derived.Test.YtkbbmjcfgcfejaaGreatChecked
import Derived.WalkKit
import Derived.Test.YtkbbmjcfgcfejaaGreatKDraw1
namespace Go.Proofs.YtkbbmjcfgcfejaaGreat
open Go.RowKit
set_option maxRecDepth 100000 in
set_option maxHeartbeats 3200000 in
theorem sameFact_any {S1 S2:Nat→Prop} (v1 v2:Value) (l:List Fact) (w:World) (h1:RL w S1 v1 l) (h2:RL w S2 v2 l) :
 Calls Tryz.prog 78 #[v1,v2] w fun e w'=>e=.returned (.bool true)∧Below w.heap.size w w':=by
 have hm:=h1.len
 unfold maxLen at hm
 obtain ⟨a1,c1,rfl,_,_,hf1⟩:=h1.factAt
 obtain ⟨a2,c2,rfl,_,_,hf2⟩:=h2.factAt
 have F1:=Lib.hid hf1
 have F2:=Lib.hid hf2
 have hne:((l.length:Int) != (l.length:Int))=false:=by simp
 clear hf1 hf2 h1 h2
 go_enter Tryz.func78,Tryz.ntmps78
 go_wp2
 go_loopg [14] l.length (fun q i wr=>∃ k:Nat,k+q=l.length∧i=.int .i64 k∧Below w.heap.size w wr)
 case atStart=>exact ⟨0,by omega,rfl,Below.refl _ _⟩
 case round =>
  obtain ⟨k,hk,rfl,hb⟩:=hrel
  have HK:=Lib.hid hk
  clear hk
  by_cases hk8:k < l.length
  · obtain ⟨b1,o1,rfl,_,hbl1,hp1,hp2,hp3⟩:=F1.out k hk8
    obtain ⟨b2,o2,rfl,_,hbl2,hq1,hq2,hq3⟩:=F2.out k hk8
    replace hp1:=cell_keep hb hp1
    replace hp2:=cell_keep hb hp2
    replace hp3:=cell_keep hb hp3
    replace hq1:=cell_keep hb hq1
    replace hq2:=cell_keep hb hq2
    replace hq3:=cell_keep hb hq3
    obtain ⟨X1,hX1⟩:∃ x,x=(gd l k).1:=⟨_,rfl⟩
    obtain ⟨X2,hX2⟩:∃ x,x=(gd l k).2.1:=⟨_,rfl⟩
    obtain ⟨X3,hX3⟩:∃ x,x=(gd l k).2.2:=⟨_,rfl⟩
    rw [← hX1] at hp1 hq1
    rw [← hX2] at hp2 hq2
    rw [← hX3] at hp3 hq3
    clear hX1 hX2 hX3
    have hs:=hb.size
    have g1:b1 < wr.heap.size:=by omega
    have g2:b2 < wr.heap.size:=by omega
    have i1:(k:Int) < (l.length:Int):=by omega
    have e1:(X1 == X1)=true:=by simp
    have e2:(X2 == X2)=true:=by simp
    have e3:(X3 == X3)=true:=by simp
    go_wp2
    refine wp_region_ext (by kernel_rfl) (by kernel_rfl) ?_
    repeat (go_big_quiet_step ((fail)))
    refine wpQuiet_nil ?_
    intro w2 hb2
    have hbn:Below w.heap.size w w2:=bt hb (bt Bl hb2)
    clear hb2
    go_wp2
    go_roundg (gk - 1)
    case rel=>exact ⟨k+1,by have:=HK.out;omega,by go_num,hbn⟩
    case measure=>have:=HK.out;omega
  · obtain rfl:k=l.length:=by have:=HK.out;omega
    go_wp2
    go_returns
    exact ⟨rfl,hb⟩
set_option maxRecDepth 100000 in
set_option maxHeartbeats 3200000 in
theorem sameAtom_any {S1 S2:Nat→Prop} (v1 v2:Value) (l:List Atom) (w:World) (h1:RL w S1 v1 l) (h2:RL w S2 v2 l) :
 Calls Tryz.prog 79 #[v1,v2] w fun e w'=>e=.returned (.bool true)∧Below w.heap.size w w':=by
 have hm:=h1.len
 unfold maxLen at hm
 obtain ⟨a1,c1,rfl,_,_,hf1⟩:=h1.atomAt
 obtain ⟨a2,c2,rfl,_,_,hf2⟩:=h2.atomAt
 have F1:=Lib.hid hf1
 have F2:=Lib.hid hf2
 have hne:((l.length:Int) != (l.length:Int))=false:=by simp
 clear hf1 hf2 h1 h2
 go_enter Tryz.func79,Tryz.ntmps79
 go_wp2
 go_loopg [14] l.length (fun q i wr=>∃ k:Nat,k+q=l.length∧i=.int .i64 k∧Below w.heap.size w wr)
 case atStart=>exact ⟨0,by omega,rfl,Below.refl _ _⟩
 case round =>
  obtain ⟨k,hk,rfl,hb⟩:=hrel
  have HK:=Lib.hid hk
  clear hk
  by_cases hk8:k < l.length
  · obtain ⟨b1,o1,rfl,_,hbl1,hp1,hp2,hp3⟩:=F1.out k hk8
    obtain ⟨b2,o2,rfl,_,hbl2,hq1,hq2,hq3⟩:=F2.out k hk8
    replace hp1:=cell_keep hb hp1
    replace hp2:=cell_keep hb hp2
    replace hp3:=cell_keep hb hp3
    replace hq1:=cell_keep hb hq1
    replace hq2:=cell_keep hb hq2
    replace hq3:=cell_keep hb hq3
    obtain ⟨X1,hX1⟩:∃ x,x=(gd l k).1:=⟨_,rfl⟩
    obtain ⟨X2,hX2⟩:∃ x,x=(gd l k).2.1:=⟨_,rfl⟩
    obtain ⟨X3,hX3⟩:∃ x,x=(gd l k).2.2:=⟨_,rfl⟩
    rw [← hX1] at hp1 hq1
    rw [← hX2] at hp2 hq2
    rw [← hX3] at hp3 hq3
    clear hX1 hX2 hX3
    have hs:=hb.size
    have g1:b1 < wr.heap.size:=by omega
    have g2:b2 < wr.heap.size:=by omega
    have i1:(k:Int) < (l.length:Int):=by omega
    have e1:(X1 == X1)=true:=by simp
    have e2:(X2 == X2)=true:=by simp
    have e3:(X3 == X3)=true:=by simp
    go_wp2
    refine wp_region_ext (by kernel_rfl) (by kernel_rfl) ?_
    repeat (go_big_quiet_step ((fail)))
    refine wpQuiet_nil ?_
    intro w2 hb2
    have hbn:Below w.heap.size w w2:=bt hb (bt Bl hb2)
    clear hb2
    go_wp2
    go_roundg (gk - 1)
    case rel=>exact ⟨k+1,by have:=HK.out;omega,by go_num,hbn⟩
    case measure=>have:=HK.out;omega
  · obtain rfl:k=l.length:=by have:=HK.out;omega
    go_wp2
    go_returns
    exact ⟨rfl,hb⟩
set_option maxRecDepth 100000 in
set_option maxHeartbeats 3200000 in
theorem asnSame_any {S1 S2 S3 S4:Nat→Prop} (v1 v2 u1 u2:Value) (a:Asn) (w:World) (h1:RL w S1 v1 a.1) (h2:RL w S2 v2 a.2) (k1:RL w S3 u1 a.1) (k2:RL w S4 u2 a.2) :
 Calls Tryz.prog 15 #[.agg #[v1,v2],.agg #[u1,u2]] w fun e w'=>e=.returned (.bool true)∧Below w.heap.size w w':=by
 obtain ⟨p1,c1,rfl⟩:=h1.form
 obtain ⟨p2,c2,rfl⟩:=h2.form
 obtain ⟨p3,c3,rfl⟩:=k1.form
 obtain ⟨p4,c4,rfl⟩:=k2.form
 go_enter Tryz.func15,Tryz.ntmps15
 go_wp2_with fail
 refine (sameFact_any _ _ a.1 _ ((h1.alloc _).alloc _) ((k1.alloc _).alloc _)).mono ?_
 rintro e w1 ⟨rfl,hb⟩
 have d1:=cell_keep hb (p:=⟨w.heap.size,1,none⟩) (v:=.slice p2 a.2.length c2) (by simp [go_sem])
 have d2:=cell_keep hb (p:=⟨w.heap.size+1,1,none⟩) (v:=.slice p4 a.2.length c4) (by simp [go_sem])
 have hW:Below w.heap.size w w1:=bt Bl hb
 clear hb
 go_wp2_with fail
 refine (sameAtom_any _ _ a.2 _ (h2.keep hW) (k2.keep hW)).mono ?_
 rintro e w2 ⟨rfl,hb⟩
 go_wp2
 go_returns
 exact ⟨rfl,bt hW hb⟩
end Go.Proofs.YtkbbmjcfgcfejaaGreat
namespace Go.Proofs.YtkbbmjcfgcfejaaGreat
open Go.RowKit
theorem lcf_says {a C:Asn} {k:Con} {l:List Int} {O:Option Asn} (h:callO a k l=O) (h1:true=O.isSome) (h2:C=O.getD ([],[])) :
 ∃ f,frR a k.1=some f∧C.2.length=k.2.1.2.length+f.length∧C.1.length=a.1.length+k.2.1.1.length∧C.2.take k.2.1.2.length=k.2.1.2:=by
 cases O with
 | none=>cases h1
 | some x =>
   obtain rfl:C=x:=h2
   obtain ⟨f,e1,e2,e3,e4⟩:=call_says h
   have hv:(asnB a && conB k)=true:=by
    rw [callO] at h
    split at h
    · assumption
    · cases h
   rw [Bool.and_eq_true] at hv
   have hk:asnB k.1=true:=by
    have:=hv.2
    rw [conB,Bool.and_eq_true] at this
    exact this.1
   exact ⟨f,by rw [frR,hv.1,hk];exact e1,e2,e3,e4⟩
theorem lcf_take {w:World} {S:Nat→Prop} {a:Option Addr} {n c:Nat} {l m:List Atom} (h:RL w S (.slice a n c) l) (hk:m.length≤l.length) (e:l.take m.length=m):RL w S (.slice a m.length c) m:=by
 rcases h with ⟨a',c',e2,h1,h2,h3⟩ | ⟨b,o,c',e2,h1,h2,h3,h4⟩
 · subst h1
   obtain rfl:m=[]:=List.eq_nil_of_length_eq_zero (by simpa using hk)
   injection e2 with e1 e2 e3
   subst e1;subst e3
   exact .inl ⟨_,_,rfl,rfl,h2,h3⟩
 · injection e2 with e1 e2 e3
   subst e1;subst e3
   refine .inr ⟨b,o,c,rfl,by omega,h2,fun hp=>h3 (by omega),fun i hi=>?_⟩
   obtain ⟨cs,hrd,hc⟩:=h4 i (by omega)
   refine ⟨cs,?_,hc⟩
   have e3:gd m i=gd l i:=by have:=gd_take (l:=l) (i:=i) (k:=m.length) hi;rw [e] at this;exact this
   rw [e3];exact hrd
theorem cap_of {α:Type} [Dat α] {w:World} {S:Nat→Prop} {a:Option Addr} {n c:Nat} {l:List α} (h:RL w S (.slice a n c) l):∃ g:Nat,g=c∧l.length≤c∧c≤maxLen:=by
 obtain ⟨a',c',e,h1,h2,_⟩:=h.cells
 injection e with _ _ e
 subst e
 exact ⟨_,rfl,h1,h2⟩
theorem frameX_any {S1 S2 S3 S4:Nat→Prop} (v1 v2 u1 u2:Value) (a b:Asn) (w:World) (h1:RL w S1 v1 a.1) (h2:RL w S2 v2 a.2) (k1:RL w S3 u1 b.1) (k2:RL w S4 u2 b.2) :
 Calls Tryz.prog 16 #[.agg #[v1,v2],.agg #[u1,u2]] w fun e w'=>∃ x1 x2,e=.returned (.tuple #[.agg #[x1,x2],.bool (frR a b).isSome])∧(RL w' (fun _=>True) x1 (([],(frR a b).getD []):Asn).1∧RL w' (fun _=>True) x2 (([],(frR a b).getD []):Asn).2)∧Below w.heap.size w w':=by
 refine (frameI_any v1 v2 u1 u2 a b w h1 h2 k1 k2).mono ?_
 rintro e w' ⟨x2,rfl,h,hb⟩
 exact ⟨_,x2,rfl,⟨RL.nil _ _,h.rl.any⟩,hb⟩
set_option maxRecDepth 100000 in
set_option maxHeartbeats 12800000 in
theorem fnCallFrame_walk (v:Value) (n:Nat) (w:World) (h:RBytes w v n) :
 Calls Tryz.prog 3 #[v] w fun e w'=>e=.returned (.bool true)∧Below w.heap.size w w':=by
 obtain ⟨a,cap,rfl⟩:=bytes_form h
 by_cases hn:n≤1048576
 rotate_left
 · go_enter Tryz.func3,Tryz.ntmps3
   go_wp2
   go_ret
   exact ⟨rfl,Below.refl _ _⟩
 go_enter Tryz.func3,Tryz.ntmps3
 go_wp2_with fail
 refine (specDrawCallPost_any _ n _ h).mono ?_
 rintro e w1 ⟨u1,u2,p1,p2,q1,q2,ch,kv,A,K,l,rfl,⟨r1,r2⟩,rk,rj,hb⟩
 have hW:=hb
 clear hb
 have r_A1:=r1.any
 have r_A2:=r2.any
 obtain ⟨Aa1,Ac1,rfl⟩:=r_A1.form
 obtain ⟨Aa2,Ac2,rfl⟩:=r_A2.form
 have r_K1:=rk.pre1.any
 have r_K2:=rk.pre2.any
 have r_K3:=rk.post1.any
 have r_K4:=rk.post2.any
 have r_K5:=rk.chg.any
 obtain ⟨Ka1,Kc1,rfl⟩:=r_K1.form
 obtain ⟨Ka2,Kc2,rfl⟩:=r_K2.form
 obtain ⟨Ka3,Kc3,rfl⟩:=r_K3.form
 obtain ⟨Ka4,Kc4,rfl⟩:=r_K4.form
 obtain ⟨Ka5,Kc5,rfl⟩:=r_K5.form
 have r_J:=rj.rl.any
 obtain ⟨Ja,Jc,rfl⟩:=r_J.form
 clear r1 r2 rk rj h
 obtain ⟨O,hO⟩:∃ O,callO A K l=O:=⟨_,rfl⟩
 obtain ⟨ok,hok⟩:∃ ok,ok=O.isSome:=⟨_,rfl⟩
 obtain ⟨C,hC⟩:∃ C,C=O.getD ([],[]):=⟨_,rfl⟩
 have hbn:(ok != ok)=false:=by cases ok <;> rfl
 have hbe:(ok == ok)=true:=by cases ok <;> rfl
 have HX:=Lib.hid (And.intro hO (And.intro hok hC))
 clear hO hok hC
 go_wp2_with fail
 refine (callI_any _ _ _ _ _ _ _ _ A K l _ (r_A1.keep Bl) (r_A2.keep Bl) ⟨r_K1.keep Bl,r_K2.keep Bl,r_K3.keep Bl,r_K4.keep Bl,r_K5.keep Bl⟩ (r_J.keep Bl).ints).mono ?_
 rw [HX.out.1,← HX.out.2.1,← HX.out.2.2]
 rintro e w2 ⟨x1,x2,rfl,⟨i1,i2⟩,hb⟩
 have c_A1:=cell_keep hb (p:=⟨w1.heap.size,0,none⟩) (v:=.slice Aa1 A.1.length Ac1) (by simp)
 have c_A2:=cell_keep hb (p:=⟨w1.heap.size,1,none⟩) (v:=.slice Aa2 A.2.length Ac2) (by simp)
 have c_K1:=cell_keep hb (p:=⟨w1.heap.size+1,0,none⟩) (v:=.slice Ka1 (K.1.1).length Kc1) (by simp)
 have c_K2:=cell_keep hb (p:=⟨w1.heap.size+1,1,none⟩) (v:=.slice Ka2 (K.1.2).length Kc2) (by simp)
 have c_K3:=cell_keep hb (p:=⟨w1.heap.size+1,2,none⟩) (v:=.slice Ka3 (K.2.1.1).length Kc3) (by simp)
 have c_K4:=cell_keep hb (p:=⟨w1.heap.size+1,3,none⟩) (v:=.slice Ka4 (K.2.1.2).length Kc4) (by simp)
 have c_K5:=cell_keep hb (p:=⟨w1.heap.size+1,4,none⟩) (v:=.slice Ka5 (K.2.2).length Kc5) (by simp)
 replace hb:Below w1.heap.size w1 w2:=bt Bl hb
 replace r_A1:=r_A1.keep hb
 replace r_A2:=r_A2.keep hb
 replace r_K1:=r_K1.keep hb
 replace r_K2:=r_K2.keep hb
 replace r_K3:=r_K3.keep hb
 replace r_K4:=r_K4.keep hb
 replace r_K5:=r_K5.keep hb
 replace r_J:=r_J.keep hb
 replace hW:=bt hW hb
 clear hb
 have z_A:w1.heap.size < w2.heap.size:=World.block_lt_of_cell? w2 _ c_A1
 have z_K:w1.heap.size+1 < w2.heap.size:=World.block_lt_of_cell? w2 _ c_K1
 have r_C1:=i1.any
 have r_C2:=i2.any
 obtain ⟨Ca1,Cc1,rfl⟩:=r_C1.form
 obtain ⟨Ca2,Cc2,rfl⟩:=r_C2.form
 clear i1 i2
 go_wp2_with fail
 refine (callS_any _ _ _ _ _ _ _ _ A K l _ (r_A1.keep Bl) (r_A2.keep Bl) ⟨r_K1.keep Bl,r_K2.keep Bl,r_K3.keep Bl,r_K4.keep Bl,r_K5.keep Bl⟩ (r_J.keep Bl).ints).mono ?_
 rw [HX.out.1,← HX.out.2.1,← HX.out.2.2]
 rintro e w3 ⟨y1,y2,rfl,⟨i1,i2⟩,hb⟩
 have c_C1:=cell_keep hb (p:=⟨w2.heap.size,0,none⟩) (v:=.slice Ca1 C.1.length Cc1) (by simp)
 have c_C2:=cell_keep hb (p:=⟨w2.heap.size,1,none⟩) (v:=.slice Ca2 C.2.length Cc2) (by simp)
 replace hb:Below w2.heap.size w2 w3:=bt Bl hb
 replace c_A1:=cell_keep hb c_A1
 replace c_A2:=cell_keep hb c_A2
 replace c_K1:=cell_keep hb c_K1
 replace c_K2:=cell_keep hb c_K2
 replace c_K3:=cell_keep hb c_K3
 replace c_K4:=cell_keep hb c_K4
 replace c_K5:=cell_keep hb c_K5
 replace r_A1:=r_A1.keep hb
 replace r_A2:=r_A2.keep hb
 replace r_K1:=r_K1.keep hb
 replace r_K2:=r_K2.keep hb
 replace r_K3:=r_K3.keep hb
 replace r_K4:=r_K4.keep hb
 replace r_K5:=r_K5.keep hb
 replace r_J:=r_J.keep hb
 replace r_C1:=r_C1.keep hb
 replace r_C2:=r_C2.keep hb
 replace hW:=bt hW hb
 clear hb
 clear z_A
 have z_A:w1.heap.size < w3.heap.size:=World.block_lt_of_cell? w3 _ c_A1
 clear z_K
 have z_K:w1.heap.size+1 < w3.heap.size:=World.block_lt_of_cell? w3 _ c_K1
 have z_C:w2.heap.size < w3.heap.size:=World.block_lt_of_cell? w3 _ c_C1
 have r_W1:=i1.any
 have r_W2:=i2.any
 obtain ⟨Wa1,Wc1,rfl⟩:=r_W1.form
 obtain ⟨Wa2,Wc2,rfl⟩:=r_W2.form
 clear i1 i2
 go_wp2_with fail
 refine (asnSame_any _ _ _ _ C _ (r_C1.keep Bl) (r_C2.keep Bl) (r_W1.keep Bl) (r_W2.keep Bl)).mono ?_
 rintro e w4 ⟨rfl,hb⟩
 have c_W1:=cell_keep hb (p:=⟨w3.heap.size,0,none⟩) (v:=.slice Wa1 C.1.length Wc1) (by simp)
 have c_W2:=cell_keep hb (p:=⟨w3.heap.size,1,none⟩) (v:=.slice Wa2 C.2.length Wc2) (by simp)
 replace hb:Below w3.heap.size w3 w4:=bt Bl hb
 replace c_A1:=cell_keep hb c_A1
 replace c_A2:=cell_keep hb c_A2
 replace c_K1:=cell_keep hb c_K1
 replace c_K2:=cell_keep hb c_K2
 replace c_K3:=cell_keep hb c_K3
 replace c_K4:=cell_keep hb c_K4
 replace c_K5:=cell_keep hb c_K5
 replace c_C1:=cell_keep hb c_C1
 replace c_C2:=cell_keep hb c_C2
 replace r_A1:=r_A1.keep hb
 replace r_A2:=r_A2.keep hb
 replace r_K1:=r_K1.keep hb
 replace r_K2:=r_K2.keep hb
 replace r_K3:=r_K3.keep hb
 replace r_K4:=r_K4.keep hb
 replace r_K5:=r_K5.keep hb
 replace r_J:=r_J.keep hb
 replace r_C1:=r_C1.keep hb
 replace r_C2:=r_C2.keep hb
 replace r_W1:=r_W1.keep hb
 replace r_W2:=r_W2.keep hb
 replace hW:=bt hW hb
 clear hb
 clear z_A
 have z_A:w1.heap.size < w4.heap.size:=World.block_lt_of_cell? w4 _ c_A1
 clear z_K
 have z_K:w1.heap.size+1 < w4.heap.size:=World.block_lt_of_cell? w4 _ c_K1
 clear z_C
 have z_C:w2.heap.size < w4.heap.size:=World.block_lt_of_cell? w4 _ c_C1
 have z_W:w3.heap.size < w4.heap.size:=World.block_lt_of_cell? w4 _ c_W1
 cases ok with
 | false =>
   go_wp2_with fail
   refine (asnSame_any _ _ _ _ C _ (r_C1.keep Bl) (r_C2.keep Bl) (r_W1.keep Bl) (r_W2.keep Bl)).mono ?_
   rintro e w5 ⟨rfl,hb⟩
   replace c_A1:=cell_keep hb c_A1
   replace c_A2:=cell_keep hb c_A2
   replace c_K1:=cell_keep hb c_K1
   replace c_K2:=cell_keep hb c_K2
   replace c_K3:=cell_keep hb c_K3
   replace c_K4:=cell_keep hb c_K4
   replace c_K5:=cell_keep hb c_K5
   replace c_C1:=cell_keep hb c_C1
   replace c_C2:=cell_keep hb c_C2
   replace c_W1:=cell_keep hb c_W1
   replace c_W2:=cell_keep hb c_W2
   replace r_A1:=r_A1.keep hb
   replace r_A2:=r_A2.keep hb
   replace r_K1:=r_K1.keep hb
   replace r_K2:=r_K2.keep hb
   replace r_K3:=r_K3.keep hb
   replace r_K4:=r_K4.keep hb
   replace r_K5:=r_K5.keep hb
   replace r_J:=r_J.keep hb
   replace r_C1:=r_C1.keep hb
   replace r_C2:=r_C2.keep hb
   replace r_W1:=r_W1.keep hb
   replace r_W2:=r_W2.keep hb
   replace hW:=bt hW hb
   clear hb
   clear z_A
   have z_A:w1.heap.size < w5.heap.size:=World.block_lt_of_cell? w5 _ c_A1
   clear z_K
   have z_K:w1.heap.size+1 < w5.heap.size:=World.block_lt_of_cell? w5 _ c_K1
   clear z_C
   have z_C:w2.heap.size < w5.heap.size:=World.block_lt_of_cell? w5 _ c_C1
   clear z_W
   have z_W:w3.heap.size < w5.heap.size:=World.block_lt_of_cell? w5 _ c_W1
   go_wp2
   go_ret
   exact ⟨rfl,hW⟩
 | true =>
   clear r_W1 r_W2 c_W1 c_W2 z_W r_J
   obtain ⟨f,hf,hl2,hl1,htk⟩:=lcf_says HX.out.1 HX.out.2.1 HX.out.2.2
   obtain ⟨F,hF⟩:∃ F:Asn,F=([],f):=⟨_,rfl⟩
   obtain ⟨fk,hfk⟩:∃ fk,fk=(frR A K.1).isSome:=⟨_,rfl⟩
   have hfk1:fk=true:=by rw [hfk,hf];rfl
   subst hfk1
   have HF:=Lib.hid (And.intro hf (And.intro hfk (And.intro hF htk)))
   have hle:K.2.1.2.length≤C.2.length:=by omega
   have hF2:F.2=f:=by rw [hF]
   have hl2':C.2.length=K.2.1.2.length+F.2.length:=by rw [hF2];exact hl2
   have HN:=Lib.hid (And.intro hl2' (And.intro hl1 hle))
   clear hf hfk hF htk hl2 hl1 hle hF2 hl2'
   go_wp2_with fail
   refine (frameX_any _ _ _ _ A K.1 _ (r_A1.keep Bl) (r_A2.keep Bl) (r_K1.keep Bl) (r_K2.keep Bl)).mono ?_
   rw [← HF.out.2.1,HF.out.1,Option.getD_some,← HF.out.2.2.1]
   rintro e w5 ⟨t1,t2,rfl,⟨i1,i2⟩,hb⟩
   replace c_A1:=cell_keep hb c_A1
   replace c_A2:=cell_keep hb c_A2
   replace c_K1:=cell_keep hb c_K1
   replace c_K2:=cell_keep hb c_K2
   replace c_K3:=cell_keep hb c_K3
   replace c_K4:=cell_keep hb c_K4
   replace c_K5:=cell_keep hb c_K5
   replace c_C1:=cell_keep hb c_C1
   replace c_C2:=cell_keep hb c_C2
   replace r_A1:=r_A1.keep hb
   replace r_A2:=r_A2.keep hb
   replace r_K1:=r_K1.keep hb
   replace r_K2:=r_K2.keep hb
   replace r_K3:=r_K3.keep hb
   replace r_K4:=r_K4.keep hb
   replace r_K5:=r_K5.keep hb
   replace r_C1:=r_C1.keep hb
   replace r_C2:=r_C2.keep hb
   replace hW:=bt hW hb
   clear hb
   clear z_A
   have z_A:w1.heap.size < w5.heap.size:=World.block_lt_of_cell? w5 _ c_A1
   clear z_K
   have z_K:w1.heap.size+1 < w5.heap.size:=World.block_lt_of_cell? w5 _ c_K1
   clear z_C
   have z_C:w2.heap.size < w5.heap.size:=World.block_lt_of_cell? w5 _ c_C1
   have r_F1:=i1.any
   have r_F2:=i2.any
   obtain ⟨Fa1,Fc1,rfl⟩:=r_F1.form
   obtain ⟨Fa2,Fc2,rfl⟩:=r_F2.form
   clear i1 i2
   obtain ⟨gC,hgC,hcap,hcm⟩:=cap_of r_C2
   have hle:(K.2.1.2.length:Int)≤(Cc2:Int):=by have:=HN.out.2.2;omega
   have hw1:IntKind.i64.wrap ((K.2.1.2.length:Int)+(F.2.length:Int))=(K.2.1.2.length:Int)+(F.2.length:Int):=by rw [IntKind.wrap_i64];have:=HN.out.1;have:=r_C2.len;unfold maxLen at this;omega
   have hw2:IntKind.i64.wrap ((A.1.length:Int)+(K.2.1.1.length:Int))=(A.1.length:Int)+(K.2.1.1.length:Int):=by rw [IntKind.wrap_i64];have:=HN.out.2.1;have:=r_C1.len;unfold maxLen at this;omega
   have hsum:((C.2.length:Int) == (K.2.1.2.length:Int)+(F.2.length:Int))=true:=by rw [beq_iff_eq];have:=HN.out.1;omega
   have hsm1:((C.1.length:Int) == (A.1.length:Int)+(K.2.1.1.length:Int))=true:=by rw [beq_iff_eq];have:=HN.out.2.1;omega
   go_wp2_with fail
   refine (asnSame_any (S1:=fun _=>True) (S3:=fun _=>True) _ _ _ _ ([],K.2.1.2) _ (RL.nil _ _) ((lcf_take r_C2 HN.out.2.2 HF.out.2.2.2).keep Bl) (RL.nil _ _) (r_K4.keep Bl)).mono ?_
   rintro e w6 ⟨rfl,hb⟩
   have c_F1:=cell_keep hb (p:=⟨w5.heap.size,0,none⟩) (v:=.slice Fa1 F.1.length Fc1) (by simp)
   have c_F2:=cell_keep hb (p:=⟨w5.heap.size,1,none⟩) (v:=.slice Fa2 F.2.length Fc2) (by simp)
   replace hb:Below w5.heap.size w5 w6:=bt Bl hb
   replace c_A1:=cell_keep hb c_A1
   replace c_A2:=cell_keep hb c_A2
   replace c_K1:=cell_keep hb c_K1
   replace c_K2:=cell_keep hb c_K2
   replace c_K3:=cell_keep hb c_K3
   replace c_K4:=cell_keep hb c_K4
   replace c_K5:=cell_keep hb c_K5
   replace c_C1:=cell_keep hb c_C1
   replace c_C2:=cell_keep hb c_C2
   replace r_A1:=r_A1.keep hb
   replace r_A2:=r_A2.keep hb
   replace r_K1:=r_K1.keep hb
   replace r_K2:=r_K2.keep hb
   replace r_K3:=r_K3.keep hb
   replace r_K4:=r_K4.keep hb
   replace r_K5:=r_K5.keep hb
   replace r_C1:=r_C1.keep hb
   replace r_C2:=r_C2.keep hb
   replace r_F1:=r_F1.keep hb
   replace r_F2:=r_F2.keep hb
   replace hW:=bt hW hb
   clear hb
   clear z_A
   have z_A:w1.heap.size < w6.heap.size:=World.block_lt_of_cell? w6 _ c_A1
   clear z_K
   have z_K:w1.heap.size+1 < w6.heap.size:=World.block_lt_of_cell? w6 _ c_K1
   clear z_C
   have z_C:w2.heap.size < w6.heap.size:=World.block_lt_of_cell? w6 _ c_C1
   have z_F:w5.heap.size < w6.heap.size:=World.block_lt_of_cell? w6 _ c_F1
   go_wp2
   go_ret
   exact ⟨rfl,hW⟩
end Go.Proofs.YtkbbmjcfgcfejaaGreat
namespace Go.Proofs.YtkbbmjcfgcfejaaGreat
open Go
theorem seat_enters:Tryz.checked.prog.mayEnter=true:=by as_aux_lemma=>kernel_rfl
theorem seat_lifts:Tryz.checked.prog.liftsFinal=false:=by as_aux_lemma=>kernel_rfl
theorem seat_make:Tryz.checked.prog.make=some .cut:=by as_aux_lemma=>kernel_rfl
end Go.Proofs.YtkbbmjcfgcfejaaGreat
namespace Go.Proofs.YtkbbmjcfgcfejaaGreat.lCF
open Go.ChangeShapes Go.WideShapes Go.ChangeAt Go.RowKit Go.Joins
theorem cellsB:Tryz.prog.cellsOf 5=1:=by kernel_rfl
set_option maxRecDepth 100000 in
theorem lifted (os:Os) (started:os.Started) (H:Type) (enc:TypeId × Value→H) :
 ReturnsInHanded {} Tryz.checked os 3 .any (Rows.fnCallFrameSpec.pre6 enc Tryz.prog Tryz.f3 Rows.fnCallFrameRow.domain false) (Rows.fnCallFrameSpec.post enc Tryz.prog Tryz.f3 false true false false):=by
 refine returnsInHanded_of_change (C:=Tryz.checked) own_knob started (by kernel_rfl) Tryz.func3
  (ChangeSpec.witness6 (enc:=enc) (C:=Tryz.checked) false ⟨#[],#[.slice none 0 0],[]⟩ 8 (by kernel_rfl) (by kernel_rfl) (by kernel_rfl) (by kernel_rfl)) ?_
 intro W base args ds gs before hval0 hW hcnd _
 have hval:∀ (j:Nat) t v,Tryz.f3.params[j]?=some t→args[j]?=some v→Value.okWide Tryz.prog W .any base t v:=hval0
 have hW':=hW
 obtain ⟨p,q,hA0,hV,rfl,hfz,hnd⟩:=hW
 have hA:DataW.TrodAll enc Tryz.prog W 0 (fun _=>true) true Tryz.f3.params.toList args.toList ds p:=hA0
 rw [Tryz.params3] at hA hval
 obtain ⟨v0,vs0,d0,ds0,p0,q0,hargs,rfl,rfl,h0,r0⟩:=trodAll_cons hA
 obtain ⟨rfl,rfl,rfl⟩:=trodAll_nil r0
 obtain rfl:args=#[v0]:=by cases args;simp_all
 obtain ⟨rfl,rfl⟩:=trodVars_none hV
 have k0:=h0
 have lt0:∀ x ∈ p0,x.block < W.heap.size:=by obtain ⟨m,hm⟩:=k0;exact DataW.trod_lt m _ _ _ hm
 obtain ⟨m0,hm0⟩:=h0
 obtain ⟨a0,s0,t0,e0⟩:=okWide_slice Tryz.underlying22 (hval 0 22 v0 rfl rfl)
 have c0:v0.cells.toList=[v0]:=by rw [e0];rfl
 rw [c0] at hm0
 obtain ⟨n0,w0⟩:=bytes_of_trod Tryz.underlying22 Tryz.underlying5 cellsB hm0
 clear hA0 hval0
 refine (fnCallFrame_walk v0 n0 W w0).mono fun e W' ⟨he,bel⟩=>?_
 subst he
 exact ⟨_,rfl,_,_,_,[],_,[],hW',trodAll_mk1 (shut_bool Tryz.underlying4 _),(trodAll_cons_mk (Below.trod laid_out (by kernel_rfl) (of_decide_eq_true (by kernel_rfl)) k0 bel lt0) trodAll_mk0),rfl,bel.frame _,fun h=>by cases h⟩
set_option maxHeartbeats 6400000 in
theorem closed:joinedFacts Tryz.checked.prog 3 Tryz.f3 Rows.fnCallFrameSpec Rows.fnCallFrameRow=true:=by
 simp only [joinedFacts,Bool.and_eq_true,seat_enters,seat_lifts,seat_make,and_true]
 repeat' apply And.intro
 all_goals as_aux_lemma=>kernel_rfl
theorem proved:Rows.FnCallFrameSaid :=
 OpenClaim.holds_of_wide 3 Tryz.f3 rfl rfl rfl rfl rfl rfl rfl ⟨rfl,rfl,rfl,rfl,rfl⟩ rfl rfl rfl rfl rfl (by kernel_rfl) Tryz.func3 closed
  (of_decide_eq_true (by kernel_rfl)) (by unfold Func.isWrapper;first | (rw [if_pos (by decide +kernel)];kernel_rfl) | (rw [if_neg (by decide +kernel)];exact ⟨rfl,rfl⟩))
  (fun os started H enc _=>lifted os started H enc)
#print axioms proved
end Go.Proofs.YtkbbmjcfgcfejaaGreat.lCF
