/- CaseA: texts Case1, Case2, Case3, Case4 in one. -/
import Derived.Test.YtkbbmjcfgcfejaaGreatKData3
import Derived.Test.YtkbbmjcfgcfejaaGreatKHold1
import Derived.Deep.Cut
import Derived.Test.YtkbbmjcfgcfejaaGreatKDHolds2
import Derived.Deep.RegionHeld3
namespace Go.Proofs.YtkbbmjcfgcfejaaGreat
open Go.RowKit
def termM (m:Nat) (t:Int):Nat:=if isTermB t=true then m ||| 2 ^ t.toNat else m
def hasT (m:Nat) (t:Int):Bool:=isTermB t && m.testBit t.toNat
theorem termM_lt {m:Nat} {t:Int} (h:m < 65536):termM m t < 65536:=by
 unfold termM
 split
 · rename_i ht;have:=isTermB_iff.1 ht;exact or_lt m _ h (by omega)
 · exact h
theorem termM_bit (m:Nat) (t:Int) (j:Nat):(termM m t).testBit j=(m.testBit j || (isTermB t && decide (t=(j:Int)))):=by
 unfold termM
 split
 · rename_i ht
   have:=isTermB_iff.1 ht
   rw [testBit_or_pow,ht,Bool.true_and]
   congr 1
   rw [decide_eq_decide];omega
 · rename_i ht
   have ht':isTermB t=false:=by simpa using ht
   rw [ht',Bool.false_and,Bool.or_false]
def factsM (m:Nat) (l:List Fact):Nat:=l.foldl (fun m f=>termM (termM m f.2.1) f.2.2) m
def atomsM (m:Nat) (l:List Atom):Nat:=l.foldl (fun m x=>termM (termM m x.2.1) x.2.2) m
def termsM (a:Asn):Nat:=atomsM (factsM 0 a.1) a.2
theorem factsM_step {m k:Nat} {l:List Fact} (h:k < l.length):factsM m (l.take (k+1))=termM (termM (factsM m (l.take k)) (gd l k).2.1) (gd l k).2.2:=by
 rw [take_gd h,factsM,List.foldl_append];rfl
theorem atomsM_step {m k:Nat} {l:List Atom} (h:k < l.length):atomsM m (l.take (k+1))=termM (termM (atomsM m (l.take k)) (gd l k).2.1) (gd l k).2.2:=by
 rw [take_gd h,atomsM,List.foldl_append];rfl
theorem factsM_lt {l:List Fact}:∀ {m:Nat},m < 65536→factsM m l < 65536:=by
 induction l with
 | nil=>exact fun h=>h
 | cons f l ih=>exact fun h=>ih (termM_lt (termM_lt h))
theorem atomsM_lt {l:List Atom}:∀ {m:Nat},m < 65536→atomsM m l < 65536:=by
 induction l with
 | nil=>exact fun h=>h
 | cons f l ih=>exact fun h=>ih (termM_lt (termM_lt h))
theorem termsM_lt (a:Asn):termsM a < 65536:=atomsM_lt (factsM_lt (by decide))
set_option maxHeartbeats 400000 in
theorem withT_any (m:Nat) (t:Int) (w:World) (hm:m < 65536) :
 Calls Tryz.prog 147 #[.int .u16 m,.int .i64 t] w fun e w'=>e=.returned (.int .u16 (termM m t))∧w=w':=by
 by_cases ha:isTermB t=true
 · have hn:=isTermB_iff.1 ha
   obtain ⟨k,rfl⟩:=Int.eq_ofNat_of_zero_le (show 0≤t by omega)
   have hor:=or_bit m k hm (by omega)
   have HO:=Lib.hid hor
   clear hor
   go_enter Tryz.func147,Tryz.ntmps147
   go_wp2_with (go_at_call 194;refine (isTerm_any _ _).mono ?_;rintro e w' ⟨rfl,rfl⟩)
   go_ret
   refine ⟨?_,rfl⟩
   rw [termM,if_pos ha,Int.toNat_natCast,← HO.out];rfl
 · have ha':isTermB t=false:=by simpa using ha
   go_enter Tryz.func147,Tryz.ntmps147
   go_wp2_with (go_at_call 194;refine (isTerm_any _ _).mono ?_;rintro e w' ⟨rfl,rfl⟩)
   go_ret
   exact ⟨by rw [termM,if_neg ha];rfl,rfl⟩
theorem withT_val {m n:Nat} {t:Int} (w:World) (hm:m < 65536) (h:termM m t=n) :
 Calls Tryz.prog 147 #[.int .u16 m,.int .i64 t] w fun e w'=>e=.returned (.int .u16 n)∧w=w':=by
 subst h;exact withT_any m t w hm
set_option maxHeartbeats 400000 in
theorem hasT_any (m:Nat) (t:Int) (w:World) (hm:m < 65536) :
 Calls Tryz.prog 148 #[.int .u16 m,.int .i64 t] w fun e w'=>e=.returned (.bool (hasT m t))∧w=w':=by
 by_cases ha:isTermB t=true
 · have hn:=isTermB_iff.1 ha
   obtain ⟨k,rfl⟩:=Int.eq_ofNat_of_zero_le (show 0≤t by omega)
   have hfin:=has_bit m k hm
   have HF:=Lib.hid hfin
   clear hfin
   go_enter Tryz.func148,Tryz.ntmps148
   go_wp2_with (go_at_call 194;refine (isTerm_any _ _).mono ?_;rintro e w' ⟨rfl,rfl⟩)
   go_ret
   exact ⟨by simp [HF.out,hasT,ha],rfl⟩
 · have ha':isTermB t=false:=by simpa using ha
   go_enter Tryz.func148,Tryz.ntmps148
   go_wp2_with (go_at_call 194;refine (isTerm_any _ _).mono ?_;rintro e w' ⟨rfl,rfl⟩)
   go_ret
   exact ⟨by simp [ha',hasT],rfl⟩
theorem atomB_le' {x:Atom} (h:atomB x=true):0≤x.2.1∧x.2.1≤8∧0≤x.2.2∧x.2.2≤8:=by
 simp [atomB,isTermB] at h;omega
theorem any_yes' {α:Type} [Inhabited α] {p:α→Bool} {l:List α} {k:Nat} (h:k < l.length) (hp:p (gd l k)=true):l.any p=true:=by
 rw [List.any_eq_true];exact ⟨_,gd_mem h,hp⟩
theorem any_take_no' {α:Type} [Inhabited α] {p:α→Bool} {l:List α} {k:Nat} (h:k < l.length) (ht:(l.take k).any p=false) (hp:p (gd l k)=false):(l.take (k+1)).any p=false:=by
 rw [take_gd h,List.any_append,ht];simp [hp]
theorem any_end' {α:Type} {p:α→Bool} {l:List α} (ht:(l.take l.length).any p=false):l.any p=false:=by rwa [List.take_length] at ht
def RArr (w:World) (b:Nat) (cl:List Int):Prop:=cl.length=9∧b < w.heap.size∧∀ i,i < 9→w.cell? ⟨b,i,none⟩=some (.int .i64 (gi cl i))
theorem RArr.keep {w w':World} {b:Nat} {cl:List Int} (h:RArr w b cl) (hb:Below w.heap.size w w'):RArr w' b cl :=
 ⟨h.1,Nat.lt_of_lt_of_le h.2.1 hb.size,fun i hi=>cell_keep hb (h.2.2 i hi)⟩
def factC (cl:List Int) (f:Fact):Bool:=(gi cl f.2.1.toNat == gi cl f.2.2.toNat) == f.1
def fillC (cl:List Int) (x:Atom):Bool:=(x.1 == 1) || (gi cl x.2.1.toNat != gi cl x.2.2.toNat)
def atC (cl:List Int) (x:Atom):Atom:=(x.1,gi cl x.2.1.toNat,gi cl x.2.2.toNat)
def filledL (cl:List Int) (l:List Atom):List Atom:=(l.filter (fillC cl)).map (atC cl)
set_option maxRecDepth 100000 in
set_option maxHeartbeats 1600000 in
theorem factHoldsC_any (b:Nat) (cl:List Int) (f:Fact) (w:World) (h:RArr w b cl) (hf:factB f=true) :
 Calls Tryz.prog 268 #[.pointer (some ⟨b,0,none⟩),.agg #[.bool f.1,.int .i64 f.2.1,.int .i64 f.2.2]] w fun e w'=>e=.returned (.bool (factC cl f))∧Below w.heap.size w w':=by
 obtain ⟨f1,f2,f3⟩:=f
 obtain ⟨t1,t2,t3,t4⟩:=factB_le hf
 simp only at t1 t2 t3 t4
 obtain ⟨i,rfl⟩:=Int.eq_ofNat_of_zero_le t1
 obtain ⟨j,rfl⟩:=Int.eq_ofNat_of_zero_le t3
 have hi9:(i:Int) < 9:=by omega
 have hj9:(j:Int) < 9:=by omega
 have hci:=h.2.2 i (by omega)
 have hcj:=h.2.2 j (by omega)
 have hzb:=h.2.1
 have hres:factC cl (f1,((i:Int),(j:Int)))=((gi cl i == gi cl j) == f1):=rfl
 have HR:=Lib.hid hres
 clear hres hf h
 go_enter Tryz.func268,Tryz.ntmps268
 go_wp2
 refine wp_region_ext (by kernel_rfl) (by kernel_rfl) ?_
 repeat (go_big_quiet_step ((fail)))
 refine wpQuiet_nil ?_
 intro w5 hb5
 go_wp2
 go_ret
 exact ⟨by rw [HR.out];rfl,bt Bl hb5⟩
set_option maxRecDepth 100000 in
set_option maxHeartbeats 1600000 in
theorem factsHoldC_any {S:Nat→Prop} (b:Nat) (cl:List Int) (v:Value) (l:List Fact) (w:World) (h:RArr w b cl) (hv:RL w S v l) (hf:l.all factB=true) :
 Calls Tryz.prog 249 #[.pointer (some ⟨b,0,none⟩),v] w fun e w'=>e=.returned (.bool (l.all (factC cl)))∧Below w.heap.size w w':=by
 have hm:=hv.len
 unfold maxLen at hm
 obtain ⟨a,c,rfl,_,_,hf1⟩:=hv.factAt
 have F1:=Lib.hid hf1
 have HB:=Lib.hid (all_of hf)
 clear hf1 hv hf
 go_enter Tryz.func249,Tryz.ntmps249
 go_wp2
 go_loopg [9] l.length (fun q i wr=>∃ k:Nat,k+q=l.length∧i=.int .i64 k∧(l.take k).all (factC cl)=true∧Below w.heap.size w wr)
 case atStart=>exact ⟨0,by omega,rfl,by simp,Below.refl _ _⟩
 case round =>
  obtain ⟨k,hk,rfl,ht,hb⟩:=hrel
  have HK:=Lib.hid hk
  have HT:=Lib.hid ht
  clear hk ht
  by_cases hk8:k < l.length
  · obtain ⟨b1,o1,rfl,_,hbl1,hp1,hp2,hp3⟩:=F1.out k hk8
    replace hp1:=cell_keep hb hp1;replace hp2:=cell_keep hb hp2;replace hp3:=cell_keep hb hp3
    have hs:=hb.size
    have i1:(k:Int) < (l.length:Int):=by omega
    have hzb:b1 < wr.heap.size:=by omega
    have hok:=HB.out k hk8
    have HOK:=Lib.hid hok
    clear hok
    cases hp:factC cl (gd l k)
    · have HF:=Lib.hid (all_no hk8 hp)
      have HP:=Lib.hid hp
      clear hp
      go_wp2_with fail
      refine (cb (factHoldsC_any b cl (gd l k) _ (h.keep (bt hb Bl)) HOK.out) HP.out).mono ?_
      rintro e w5 ⟨rfl,hb5⟩
      go_wp2
      go_ret
      exact ⟨by rw [HF.out];rfl,bt (bt hb Bl) hb5⟩
    · have HP:=Lib.hid hp
      clear hp
      go_wp2_with fail
      refine (cb (factHoldsC_any b cl (gd l k) _ (h.keep (bt hb Bl)) HOK.out) HP.out).mono ?_
      rintro e w5 ⟨rfl,hb5⟩
      go_wp2
      go_roundg (gk - 1)
      case rel=>exact ⟨k+1,by have:=HK.out;omega,by go_num,all_take_yes hk8 HT.out HP.out,bt (bt hb Bl) hb5⟩
      case measure=>have:=HK.out;omega
  · obtain rfl:k=l.length:=by have:=HK.out;omega
    have HA:=Lib.hid (all_end HT.out)
    clear HT
    go_wp2
    go_ret
    exact ⟨by rw [HA.out];rfl,hb⟩
set_option maxRecDepth 100000 in
set_option maxHeartbeats 1600000 in
theorem isFilledC_any (b:Nat) (cl:List Int) (x:Atom) (w:World) (h:RArr w b cl) (hx:atomB x=true) :
 Calls Tryz.prog 234 #[.pointer (some ⟨b,0,none⟩),.agg #[.int .i64 x.1,.int .i64 x.2.1,.int .i64 x.2.2]] w fun e w'=>e=.returned (.bool (fillC cl x))∧Below w.heap.size w w':=by
 obtain ⟨x1,x2,x3⟩:=x
 obtain ⟨t1,t2,t3,t4⟩:=atomB_le' hx
 simp only at t1 t2 t3 t4
 obtain ⟨i,rfl⟩:=Int.eq_ofNat_of_zero_le t1
 obtain ⟨j,rfl⟩:=Int.eq_ofNat_of_zero_le t3
 have hi9:(i:Int) < 9:=by omega
 have hj9:(j:Int) < 9:=by omega
 have hci:=h.2.2 i (by omega)
 have hcj:=h.2.2 j (by omega)
 have hzb:=h.2.1
 have hres:fillC cl (x1,((i:Int),(j:Int)))=((x1 == 1) || (gi cl i != gi cl j)):=rfl
 have HR:=Lib.hid hres
 clear hres hx h
 by_cases hk:x1=1
 · have hkb:(x1 == 1)=true:=by simp [hk]
   go_enter Tryz.func234,Tryz.ntmps234
   go_wp2
   refine wp_region_ext (by kernel_rfl) (by kernel_rfl) ?_
   repeat (go_big_quiet_step ((fail)))
   refine wpQuiet_nil ?_
   intro w5 hb5
   go_wp2
   go_ret
   exact ⟨by rw [HR.out,hkb];rfl,bt Bl hb5⟩
 · have hkb:(x1 == 1)=false:=by simp [hk]
   go_enter Tryz.func234,Tryz.ntmps234
   go_wp2
   refine wp_region_ext (by kernel_rfl) (by kernel_rfl) ?_
   repeat (go_big_quiet_step ((fail)))
   refine wpQuiet_nil ?_
   intro w5 hb5
   go_wp2
   go_ret
   exact ⟨by rw [HR.out,hkb];rfl,bt Bl hb5⟩
set_option maxRecDepth 100000 in
set_option maxHeartbeats 1600000 in
theorem beginsAt_any {S:Nat→Prop} (v:Value) (l:List Atom) (c:Int) (w:World) (hv:RL w S v l) :
 Calls Tryz.prog 277 #[v,.int .i64 c] w fun e w'=>e=.returned (.bool (l.any fun x=>x.2.1 == c))∧Below w.heap.size w w':=by
 have hm:=hv.len
 unfold maxLen at hm
 obtain ⟨a,cp,rfl,_,_,hf1⟩:=hv.atomAt
 have F1:=Lib.hid hf1
 clear hf1 hv
 go_enter Tryz.func277,Tryz.ntmps277
 go_wp2
 go_loopg [9] l.length (fun q i wr=>∃ k:Nat,k+q=l.length∧i=.int .i64 k∧((l.take k).any fun x=>x.2.1 == c)=false∧Below w.heap.size w wr)
 case atStart=>exact ⟨0,by omega,rfl,by simp,Below.refl _ _⟩
 case round =>
  obtain ⟨k,hk,rfl,ht,hb⟩:=hrel
  have HK:=Lib.hid hk
  have HT:=Lib.hid ht
  clear hk ht
  by_cases hk8:k < l.length
  · obtain ⟨b1,o1,rfl,_,hbl1,hp1,hp2,hp3⟩:=F1.out k hk8
    replace hp1:=cell_keep hb hp1;replace hp2:=cell_keep hb hp2;replace hp3:=cell_keep hb hp3
    have hs:=hb.size
    have i1:(k:Int) < (l.length:Int):=by omega
    have hzb:b1 < wr.heap.size:=by omega
    by_cases hp:(gd l k).2.1=c
    · have hpb:((gd l k).2.1 == c)=true:=by simp [hp]
      have HF:=Lib.hid (any_yes' (p:=fun x:Atom=>x.2.1 == c) hk8 hpb)
      clear hp
      go_wp2
      go_ret
      exact ⟨by rw [HF.out];rfl,bt hb Bl⟩
    · have hpb:((gd l k).2.1 == c)=false:=by simp [hp]
      have HP:=Lib.hid hpb
      clear hp
      go_wp2
      go_roundg (gk - 1)
      case rel=>exact ⟨k+1,by have:=HK.out;omega,by go_num,any_take_no' (p:=fun x:Atom=>x.2.1 == c) hk8 HT.out HP.out,bt hb Bl⟩
      case measure=>have:=HK.out;omega
  · obtain rfl:k=l.length:=by have:=HK.out;omega
    have HA:=Lib.hid (any_end' HT.out)
    clear HT
    go_wp2
    go_ret
    exact ⟨by rw [HA.out];rfl,hb⟩
end Go.Proofs.YtkbbmjcfgcfejaaGreat
namespace Go.Proofs.YtkbbmjcfgcfejaaGreat
open Go.RowKit
def acl (l:List Atom):List Value:=(l.map fun x=>[Value.int .i64 x.1,.int .i64 x.2.1,.int .i64 x.2.2]).flatten
theorem acl_app (l m:List Atom):acl (l ++ m)=acl l ++ acl m:=by simp [acl]
theorem acl_one (x:Atom):acl [x]=[.int .i64 x.1,.int .i64 x.2.1,.int .i64 x.2.2]:=rfl
theorem acl_nth {l:List Atom} {i:Nat} (h:i < l.length):nth 3 (acl l) i=[.int .i64 (gd l i).1,.int .i64 (gd l i).2.1,.int .i64 (gd l i).2.2]:=by
 rw [acl,nth_flat (by intro c hc;obtain ⟨x,_,rfl⟩:=List.mem_map.1 hc;rfl) (by simpa using h)]
 simp [gd,h]
def AO (w:World) (B:Nat) (v:Value) (l:List Atom):Prop:=w.ownsRow B 118 3 v l.length (acl l)
theorem AO.rl {w:World} {B:Nat} {v:Value} {l:List Atom} (h:AO w B v l):RL w (fun k=>B≤k) v l:=by
 refine (RowE.rl (α:=Atom) (S:=fun _=>False) (.inr h) fun i hi=>?_).more fun k _ hk=>?_
 · rw [show Dat.sz Atom=3 from rfl,acl_nth hi]
   exact ⟨[.int .i64 (gd l i).1],[.int .i64 (gd l i).2.1,.int .i64 (gd l i).2.2],rfl,rfl,⟨[.int .i64 (gd l i).2.1],[.int .i64 (gd l i).2.2],rfl,rfl,rfl⟩⟩
 · rcases hk with hk | hk
   · exact hk.elim
   · exact hk
theorem AO.keep {w w':World} {B:Nat} {v:Value} {l:List Atom} (h:AO w B v l) (hb:Below w.heap.size w w'):AO w' B v l:=own_keep h hb
theorem AO.snoc {w:World} {B:Nat} {v:Value} {l:List Atom} {x:Atom} (h:w.ownsRow B 118 3 v (l.length+1) (acl l ++ [.int .i64 x.1,.int .i64 x.2.1,.int .i64 x.2.2])):AO w B v (l ++ [x]):=by
 unfold AO
 rw [List.length_append,acl_app,acl_one]
 exact h
theorem news3 (w:World) (x y z:Value) (e:TypeId):0 < 1→∃ b o,some (⟨w.heap.size,0,none⟩:Addr)=some ⟨b,o,none⟩∧∀ j u,[x,y,z][j]?=some u→(w.alloc (.cells #[x,y,z] e)).cell? ⟨b,o+j,none⟩=some u:=fun _ =>
 ⟨w.heap.size,0,rfl,fun j u hj=>by
   match j,hj with
   | 0,hj=>simp at hj;subst hj;simp
   | 1,hj=>simp at hj;subst hj;simp
   | 2,hj=>simp at hj;subst hj;simp⟩
theorem news3g (w:World) (g:Nat) (hg:w.heap.size=g) (x y z:Value) (e:TypeId):0 < 1→∃ b o,some (⟨g,0,none⟩:Addr)=some ⟨b,o,none⟩∧∀ j u,[x,y,z][j]?=some u→(w.alloc (.cells #[x,y,z] e)).cell? ⟨b,o+j,none⟩=some u:=by
 subst hg;exact news3 w x y z e
theorem own_empA (w:World) (B:Nat) (hB:B≤w.heap.size):AO (w.alloc (.cells #[] 118)) B (.slice (some ⟨w.heap.size,0,none⟩) 0 0) [] :=
 World.ownsRow_lit (size:=3) w #[] 0 hB (by unfold maxLen;omega) rfl
theorem one3 (x y z:Int):∀ u ∈ [Value.int .i64 x,Value.int .i64 y,Value.int .i64 z],u.oneCell'=true:=fun u hu=>by
 simp at hu
 rcases hu with rfl | rfl | rfl <;> rfl
theorem filledL_yes {cl:List Int} {l:List Atom} {k:Nat} (h:k < l.length) (hf:fillC cl (gd l k)=true):filledL cl (l.take (k+1))=filledL cl (l.take k) ++ [atC cl (gd l k)]:=by
 rw [take_gd h,filledL,List.filter_append,List.map_append]
 simp [hf,filledL]
theorem filledL_no {cl:List Int} {l:List Atom} {k:Nat} (h:k < l.length) (hf:fillC cl (gd l k)=false):filledL cl (l.take (k+1))=filledL cl (l.take k):=by
 rw [take_gd h,filledL,List.filter_append,List.map_append]
 simp [hf,filledL]
theorem filledL_len (cl:List Int) (l:List Atom):(filledL cl l).length≤l.length:=by
 rw [filledL,List.length_map];exact List.length_filter_le _ _
theorem filledL_lenk (cl:List Int) (l:List Atom) (k:Nat):(filledL cl (l.take k)).length≤l.length:=by
 refine Nat.le_trans (filledL_len _ _) ?_
 rw [List.length_take];omega
set_option maxRecDepth 100000 in
set_option maxHeartbeats 3200000 in
theorem filledC_any {S:Nat→Prop} (b:Nat) (cl:List Int) (v:Value) (l:List Atom) (w:World) (h:RArr w b cl) (hv:RL w S v l) (hx:l.all atomB=true) (hl:l.length≤1048576) :
 Calls Tryz.prog 190 #[.pointer (some ⟨b,0,none⟩),v] w fun e w'=>∃ v',e=.returned v'∧AO w' w.heap.size v' (filledL cl l)∧Below w.heap.size w w':=by
 obtain ⟨a,c,rfl,_,_,hf1⟩:=hv.atomAt
 have F1:=Lib.hid hf1
 have HB:=Lib.hid (all_of hx)
 clear hf1 hv hx
 go_enter Tryz.func190,Tryz.ntmps190
 go_wp2
 go_loopg [5,10] l.length (fun q x i wr=>∃ k:Nat,k+q=l.length∧i=.int .i64 k∧AO wr w.heap.size x (filledL cl (l.take k))∧Below w.heap.size w wr)
 case atStart=>exact ⟨0,by omega,rfl,World.ownsRow_nil _ _ _ _,Below.refl _ _⟩
 case round =>
  obtain ⟨k,hk,rfl,ho,hb⟩:=hrel
  have HK:=Lib.hid hk
  clear hk
  by_cases hk8:k < l.length
  · obtain ⟨b1,o1,rfl,_,hbl1,hp1,hp2,hp3⟩:=F1.out k hk8
    replace hp1:=cell_keep hb hp1;replace hp2:=cell_keep hb hp2;replace hp3:=cell_keep hb hp3
    have hs:=hb.size
    have i1:(k:Int) < (l.length:Int):=by omega
    have hzb:b1 < wr.heap.size:=by omega
    have hok:=HB.out k hk8
    have HOK:=Lib.hid hok
    have HO:=Lib.hid ho
    clear hok ho
    cases hp:fillC cl (gd l k)
    · have hN:=filledL_no hk8 hp
      have HP:=Lib.hid (And.intro hp hN)
      clear hp hN
      go_wp2_with fail
      refine (cb (isFilledC_any b cl (gd l k) _ (h.keep (bt hb Bl)) HOK.out) HP.out.1).mono ?_
      rintro e w5 ⟨rfl,hb5⟩
      go_wp2
      go_roundg (gk - 1)
      case rel=>exact ⟨k+1,by have:=HK.out;omega,by go_num,by rw [HP.out.2];exact HO.out.keep (bt Bl hb5),bt (bt hb Bl) hb5⟩
      case measure=>have:=HK.out;omega
    · have hN:=filledL_yes hk8 hp
      have HP:=Lib.hid (And.intro hp hN)
      clear hp hN
      obtain ⟨t1,t2,t3,t4⟩:=atomB_le' HOK.out
      obtain ⟨i,hi⟩:=Int.eq_ofNat_of_zero_le t1
      obtain ⟨j,hj⟩:=Int.eq_ofNat_of_zero_le t3
      have hi9:(i:Int) < 9:=by omega
      have hj9:(j:Int) < 9:=by omega
      have hat:atC cl (gd l k)=((gd l k).1,gi cl i,gi cl j):=by simp only [atC,hi,hj,Int.toNat_natCast]
      have HA:=Lib.hid hat
      have HI:=Lib.hid (And.intro hi hj)
      clear hat t1 t2 t3 t4 hi hj
      go_wp2_with fail
      refine (cb (isFilledC_any b cl (gd l k) _ (h.keep (bt hb Bl)) HOK.out) HP.out.1).mono ?_
      rintro e w5 ⟨rfl,hb5⟩
      have hd0:=cell_keep hb5 (p:=⟨wr.heap.size,0,none⟩) (v:=.int .i64 (gd l k).1) (by simp [go_sem])
      have hd1:=cell_keep hb5 (p:=⟨wr.heap.size,1,none⟩) (v:=.int .i64 (gd l k).2.1) (by simp [go_sem])
      have hd2:=cell_keep hb5 (p:=⟨wr.heap.size,2,none⟩) (v:=.int .i64 (gd l k).2.2) (by simp [go_sem])
      rw [HI.out.1] at hd1
      rw [HI.out.2] at hd2
      have hwr5:Below wr.heap.size wr w5:=bt Bl hb5
      have hb05:=bt hb hwr5
      have hA5:=h.keep hb05
      have hci:=hA5.2.2 i (by omega)
      have hcj:=hA5.2.2 j (by omega)
      have hr:=HO.out.keep hwr5
      unfold AO at hr
      have hln:=filledL_lenk cl l k
      have hzA:=h.2.1
      have hs5:=hb05.size
      clear hb5
      go_wp2
      go_region_held3 (fun w'=>(w'.cell? ⟨wr.heap.size,0,none⟩=some (.int .i64 (gd l k).1)∧w'.cell? ⟨wr.heap.size,1,none⟩=some (.int .i64 i)∧w'.cell? ⟨wr.heap.size,2,none⟩=some (.int .i64 j))∧(w'.cell? ⟨b,i,none⟩=some (.int .i64 (gi cl i))∧w'.cell? ⟨b,j,none⟩=some (.int .i64 (gi cl j))))
       (first | exact ⟨⟨e0,e1,e2⟩,e3,e4⟩ | exact ⟨⟨cell_keep Bl hd0,cell_keep Bl hd1,cell_keep Bl hd2⟩,cell_keep Bl hci,cell_keep Bl hcj⟩)
       (first
         | (refine step_cells (n:=(filledL cl (l.take k)).length) (m:=1) (news:=[.int .i64 (gd l k).1,.int .i64 (gi cl i),.int .i64 (gi cl j)]) (by rfl) (.tmp 17) (.tmp 33) _ (by rfl) (B:=w.heap.size) ti_atom (by rfl) (own_keep hr Bl) (by rfl) (by rfl) (news3 _ _ _ _ _) (one3 _ _ _) (by omega) (by simp;omega) ?_;intro v' w7 hr7 hf7 hl7;have e0:=hf7.cell (fun e=>Nat.lt_irrefl _ (own_lt HO.out e).2) (cell_keep Bl hd0);have e1:=hf7.cell (fun e=>Nat.lt_irrefl _ (own_lt HO.out e).2) (cell_keep Bl hd1);have e2:=hf7.cell (fun e=>Nat.lt_irrefl _ (own_lt HO.out e).2) (cell_keep Bl hd2);have e3:=hf7.cell (fun e=>Nat.not_le.2 hzA (own_lt HO.out e).1) (cell_keep Bl hci);have e4:=hf7.cell (fun e=>Nat.not_le.2 hzA (own_lt HO.out e).1) (cell_keep Bl hcj)))
      all_goals
       have hbb:Below w.heap.size w w7:=below_own (own_keep hr Bl) hf7 (bt hb05 Bl) (by simp;omega)
       go_wp2
       go_roundg (gk - 1)
       case rel=>exact ⟨k+1,by have:=HK.out;omega,by go_num,by rw [HP.out.2,HA.out];exact AO.snoc hr7,hbb⟩
       case measure=>have:=HK.out;omega
  · obtain rfl:k=l.length:=by have:=HK.out;omega
    rw [List.take_length] at ho
    go_wp2
    go_ret
    exact ⟨_,rfl,ho,hb⟩
set_option maxRecDepth 100000 in
set_option maxHeartbeats 3200000 in
theorem filledS_any {S:Nat→Prop} (cv v:Value) (cl:List Int) (l:List Atom) (w:World) (hc:RInts w cv cl) (hc9:cl.length=9) (hv:RL w S v l) (hx:l.all atomB=true) (hl:l.length≤1048576) :
 Calls Tryz.prog 259 #[v,cv] w fun e w'=>∃ v',e=.returned v'∧AO w' w.heap.size v' (filledL cl l)∧Below w.heap.size w w':=by
 obtain ⟨a,c,rfl,_,_,hf1⟩:=hv.atomAt
 have F1:=Lib.hid hf1
 have HB:=Lib.hid (all_of hx)
 obtain ⟨cb,co,cc,rfl,_,_,hcell⟩:=hc.ne (by omega)
 have HC:=Lib.hid hcell
 have HC9:=Lib.hid hc9
 clear hf1 hv hx hcell hc9 hc
 go_enter Tryz.func259,Tryz.ntmps259
 go_wp2
 go_loopg [5,6] l.length (fun q x i wr=>∃ k:Nat,k+q=l.length∧i=.int .i64 k∧AO wr w.heap.size x (filledL cl (l.take k))∧Below w.heap.size w wr)
 case atStart=>exact ⟨0,by omega,rfl,own_empA w _ (Nat.le_refl _),below_alloc _ _⟩
 case round =>
  obtain ⟨k,hk,rfl,ho,hb⟩:=hrel
  have HK:=Lib.hid hk
  clear hk
  by_cases hk8:k < l.length
  · obtain ⟨b1,o1,rfl,_,hbl1,hp1,hp2,hp3⟩:=F1.out k hk8
    replace hp1:=cell_keep hb hp1;replace hp2:=cell_keep hb hp2;replace hp3:=cell_keep hb hp3
    have hs:=hb.size
    have i1:(k:Int) < (l.length:Int):=by omega
    have hzb:b1 < wr.heap.size:=by omega
    have hok:=HB.out k hk8
    have HO:=Lib.hid ho
    obtain ⟨t1,t2,t3,t4⟩:=atomB_le' hok
    obtain ⟨i,hi⟩:=Int.eq_ofNat_of_zero_le t1
    obtain ⟨j,hj⟩:=Int.eq_ofNat_of_zero_le t3
    have hi9:(i:Int) < (cl.length:Int):=by rw [HC9.out];omega
    have hj9:(j:Int) < (cl.length:Int):=by rw [HC9.out];omega
    have hat:atC cl (gd l k)=((gd l k).1,gi cl i,gi cl j):=by simp only [atC,hi,hj,Int.toNat_natCast]
    have hfl:fillC cl (gd l k)=(((gd l k).1 == 1) || (gi cl i != gi cl j)):=by simp only [fillC,hi,hj,Int.toNat_natCast]
    have HA:=Lib.hid hat
    rw [hi] at hp2
    rw [hj] at hp3
    have hci:=cell_keep hb (HC.out i (by omega))
    have hcj:=cell_keep hb (HC.out j (by omega))
    have hzc:cb < wr.heap.size:=World.block_lt_of_cell? wr _ hci
    have hln:=filledL_lenk cl l k
    clear hat t1 t2 t3 t4 hi hj hok ho
    by_cases hk1:(gd l k).1=1
    · have hkb:((gd l k).1 == 1)=true:=by simp [hk1]
      have hp:fillC cl (gd l k)=true:=by rw [hfl,hkb];rfl
      have hN:=filledL_yes hk8 hp
      have HP:=Lib.hid (And.intro hp hN)
      clear hp hN hfl hk1
      go_wp2
      go_region_held3 (fun w'=>(w'.cell? ⟨b1,o1+k * 3,none⟩=some (.int .i64 (gd l k).1)∧w'.cell? ⟨b1,o1+k * 3+1,none⟩=some (.int .i64 i)∧w'.cell? ⟨b1,o1+k * 3+2,none⟩=some (.int .i64 j))∧(w'.cell? ⟨cb,co+i,none⟩=some (.int .i64 (gi cl i))∧w'.cell? ⟨cb,co+j,none⟩=some (.int .i64 (gi cl j))))
       (exact ⟨⟨cell_keep Bl hp1,cell_keep Bl hp2,cell_keep Bl hp3⟩,cell_keep Bl hci,cell_keep Bl hcj⟩)
       (first | fail)
      go_wp2_with (at_builtin;go_must (refine app_cells (n:=(filledL cl (l.take k)).length) (m:=1) (news:=[.int .i64 (gd l k).1,.int .i64 (gi cl i),.int .i64 (gi cl j)]) rfl (.tmp 47) (.tmp 49) _ rfl (B:=w.heap.size) ti_atom rfl (own_keep HO.out Bl) rfl rfl (news3g _ _ (by simp) _ _ _ _) (one3 _ _ _) (by omega) (by simp;omega) ?_;intro v' w7 hr7 hf7 hl7))
      have hbb:Below w.heap.size w w7:=below_own (own_keep HO.out Bl) hf7 (bt hb Bl) (by simp;omega)
      go_roundg (gk - 1)
      case rel=>exact ⟨k+1,by have:=HK.out;omega,by go_num,by rw [HP.out.2,HA.out];exact AO.snoc hr7,hbb⟩
      case measure=>have:=HK.out;omega
    · have hkb:((gd l k).1 == 1)=false:=by simp [hk1]
      clear hk1
      by_cases hn1:gi cl i=gi cl j
      · have hnb:(gi cl i != gi cl j)=false:=by simp [hn1]
        have hp:fillC cl (gd l k)=false:=by rw [hfl,hkb,hnb];rfl
        have hN:=filledL_no hk8 hp
        have HP:=Lib.hid (And.intro hp hN)
        clear hp hN hfl hn1
        go_wp2
        go_region_held3 (fun w'=>(w'.cell? ⟨b1,o1+k * 3,none⟩=some (.int .i64 (gd l k).1)∧w'.cell? ⟨b1,o1+k * 3+1,none⟩=some (.int .i64 i)∧w'.cell? ⟨b1,o1+k * 3+2,none⟩=some (.int .i64 j))∧(w'.cell? ⟨cb,co+i,none⟩=some (.int .i64 (gi cl i))∧w'.cell? ⟨cb,co+j,none⟩=some (.int .i64 (gi cl j))))
         (exact ⟨⟨cell_keep Bl hp1,cell_keep Bl hp2,cell_keep Bl hp3⟩,cell_keep Bl hci,cell_keep Bl hcj⟩)
         (first | fail)
        go_wp2
        go_roundg (gk - 1)
        case rel=>exact ⟨k+1,by have:=HK.out;omega,by go_num,by rw [HP.out.2];exact HO.out.keep Bl,bt hb Bl⟩
        case measure=>have:=HK.out;omega
      · have hnb:(gi cl i != gi cl j)=true:=by simp [hn1]
        have hp:fillC cl (gd l k)=true:=by rw [hfl,hkb,hnb];rfl
        have hN:=filledL_yes hk8 hp
        have HP:=Lib.hid (And.intro hp hN)
        clear hp hN hfl hn1
        go_wp2
        go_region_held3 (fun w'=>(w'.cell? ⟨b1,o1+k * 3,none⟩=some (.int .i64 (gd l k).1)∧w'.cell? ⟨b1,o1+k * 3+1,none⟩=some (.int .i64 i)∧w'.cell? ⟨b1,o1+k * 3+2,none⟩=some (.int .i64 j))∧(w'.cell? ⟨cb,co+i,none⟩=some (.int .i64 (gi cl i))∧w'.cell? ⟨cb,co+j,none⟩=some (.int .i64 (gi cl j))))
         (exact ⟨⟨cell_keep Bl hp1,cell_keep Bl hp2,cell_keep Bl hp3⟩,cell_keep Bl hci,cell_keep Bl hcj⟩)
         (first | fail)
        go_wp2_with (at_builtin;go_must (refine app_cells (n:=(filledL cl (l.take k)).length) (m:=1) (news:=[.int .i64 (gd l k).1,.int .i64 (gi cl i),.int .i64 (gi cl j)]) rfl (.tmp 47) (.tmp 49) _ rfl (B:=w.heap.size) ti_atom rfl (own_keep HO.out Bl) rfl rfl (news3g _ _ (by simp) _ _ _ _) (one3 _ _ _) (by omega) (by simp;omega) ?_;intro v' w7 hr7 hf7 hl7))
        have hbb:Below w.heap.size w w7:=below_own (own_keep HO.out Bl) hf7 (bt hb Bl) (by simp;omega)
        go_roundg (gk - 1)
        case rel=>exact ⟨k+1,by have:=HK.out;omega,by go_num,by rw [HP.out.2,HA.out];exact AO.snoc hr7,hbb⟩
        case measure=>have:=HK.out;omega
  · obtain rfl:k=l.length:=by have:=HK.out;omega
    rw [List.take_length] at ho
    go_wp2
    go_ret
    exact ⟨_,rfl,ho,hb⟩
end Go.Proofs.YtkbbmjcfgcfejaaGreat
namespace Go.Proofs.YtkbbmjcfgcfejaaGreat
open Go.RowKit
set_option maxRecDepth 100000 in
set_option maxHeartbeats 3200000 in
theorem termsIn_any {S1 S2:Nat→Prop} (v1 v2:Value) (a:Asn) (w:World) (h1:RL w S1 v1 a.1) (h2:RL w S2 v2 a.2) :
 Calls Tryz.prog 66 #[.agg #[v1,v2]] w fun e w'=>e=.returned (.int .u16 (termsM a))∧Below w.heap.size w w':=by
 have hm1:=h1.len
 have hm2:=h2.len
 unfold maxLen at hm1 hm2
 obtain ⟨l1,l2⟩:=a
 simp only at h1 h2 hm1 hm2
 obtain ⟨a1,c1,rfl,_,_,hf1⟩:=h1.factAt
 obtain ⟨a2,c2,rfl,_,_,hf2⟩:=h2.atomAt
 have F1:=Lib.hid hf1
 have F2:=Lib.hid hf2
 clear hf1 hf2 h1 h2
 go_enter Tryz.func66,Tryz.ntmps66
 go_wp2
 go_loopg [3,11] l1.length (fun q x i wr=>∃ k:Nat,k+q=l1.length∧i=.int .i64 k∧x=.int .u16 (factsM 0 (l1.take k))∧(wr.cell? ⟨w.heap.size,1,none⟩=some (.slice a2 l2.length c2))∧Below w.heap.size w wr)
 case atStart=>exact ⟨0,by omega,rfl,rfl,by simp,below_alloc _ _⟩
 case round =>
  obtain ⟨k,hk,rfl,rfl,hc1,hb⟩:=hrel
  have HK:=Lib.hid hk
  clear hk
  have hz:w.heap.size < wr.heap.size:=World.block_lt_of_cell? wr _ hc1
  by_cases hk8:k < l1.length
  · obtain ⟨b1,o1,rfl,_,hbl1,hp1,hp2,hp3⟩:=F1.out k hk8
    replace hp1:=cell_keep hb hp1;replace hp2:=cell_keep hb hp2;replace hp3:=cell_keep hb hp3
    have i1:(k:Int) < (l1.length:Int):=by omega
    have hzb:b1 < wr.heap.size:=World.block_lt_of_cell? wr _ hp1
    have hst:=factsM_step (m:=0) hk8
    obtain ⟨m,hm⟩:∃ m,factsM 0 (l1.take k)=m:=⟨_,rfl⟩
    have hml:m < 65536:=by rw [← hm];exact factsM_lt (by decide)
    rw [hm] at hst ⊢
    obtain ⟨n1,hn1⟩:∃ n,termM m (gd l1 k).2.1=n:=⟨_,rfl⟩
    have hnl1:n1 < 65536:=by rw [← hn1];exact termM_lt hml
    obtain ⟨n2,hn2⟩:∃ n,termM n1 (gd l1 k).2.2=n:=⟨_,rfl⟩
    rw [hn1,hn2] at hst
    have HST:=Lib.hid hst
    have HN:=Lib.hid (And.intro hn1 hn2)
    clear hst hn1 hn2 hm
    go_wp2
    refine wp_region_ext (by kernel_rfl) (by kernel_rfl) ?_
    repeat (go_big_quiet_step ((go_at_call 147;first
     | with_reducible exact ext_same (withT_val _ hml HN.out.1)
     | with_reducible exact ext_same (withT_val _ hnl1 HN.out.2))))
    refine wpQuiet_nil ?_
    intro w5 hb5
    go_wp2
    go_roundg (gk - 1)
    case rel=>exact ⟨k+1,by have:=HK.out;omega,by go_num,by rw [HST.out],cell_keep (bt Bl hb5) hc1,bt (bt hb Bl) hb5⟩
    case measure=>have:=HK.out;omega
  · obtain rfl:k=l1.length:=by have:=HK.out;omega
    rw [List.take_length]
    have hml:factsM 0 l1 < 65536:=factsM_lt (by decide)
    have hT:termsM (l1,l2)=atomsM (factsM 0 l1) l2:=rfl
    obtain ⟨M,hM⟩:∃ m,factsM 0 l1=m:=⟨_,rfl⟩
    rw [hM] at hml hT ⊢
    have HT:=Lib.hid hT
    clear hM hT
    have hbe:Below wr.heap.size wr wr:=Below.refl _ _
    obtain ⟨wo,rfl⟩:∃ wo:World,wo=wr:=⟨_,rfl⟩
    go_wp2
    go_loopg [3,26] l2.length (fun q x i wr=>∃ k:Nat,k+q=l2.length∧i=.int .i64 k∧x=.int .u16 (atomsM M (l2.take k))∧Below wo.heap.size wo wr)
    case atStart=>exact ⟨0,by omega,rfl,rfl,hbe⟩
    case round =>
     obtain ⟨k,hk,rfl,rfl,hb'⟩:=hrel
     have HK:=Lib.hid hk
     clear hk
     by_cases hk8:k < l2.length
     · obtain ⟨b1,o1,rfl,_,hbl1,hp1,hp2,hp3⟩:=F2.out k hk8
       replace hp1:=cell_keep (bt hb hb') hp1;replace hp2:=cell_keep (bt hb hb') hp2;replace hp3:=cell_keep (bt hb hb') hp3
       have i1:(k:Int) < (l2.length:Int):=by omega
       have hzb:b1 < wr.heap.size:=World.block_lt_of_cell? wr _ hp1
       have hst:=atomsM_step (m:=M) hk8
       obtain ⟨m,hm⟩:∃ m,atomsM M (l2.take k)=m:=⟨_,rfl⟩
       have hml2:m < 65536:=by rw [← hm];exact atomsM_lt hml
       rw [hm] at hst ⊢
       obtain ⟨n1,hn1⟩:∃ n,termM m (gd l2 k).2.1=n:=⟨_,rfl⟩
       have hnl1:n1 < 65536:=by rw [← hn1];exact termM_lt hml2
       obtain ⟨n2,hn2⟩:∃ n,termM n1 (gd l2 k).2.2=n:=⟨_,rfl⟩
       rw [hn1,hn2] at hst
       have HST:=Lib.hid hst
       have HN:=Lib.hid (And.intro hn1 hn2)
       clear hst hn1 hn2 hm
       go_wp2
       refine wp_region_ext (by kernel_rfl) (by kernel_rfl) ?_
       repeat (go_big_quiet_step ((go_at_call 147;first
        | with_reducible exact ext_same (withT_val _ hml2 HN.out.1)
        | with_reducible exact ext_same (withT_val _ hnl1 HN.out.2))))
       refine wpQuiet_nil ?_
       intro w5 hb5
       go_wp2
       go_roundg (gk - 1)
       case rel=>exact ⟨k+1,by have:=HK.out;omega,by go_num,by rw [HST.out],bt (bt hb' Bl) hb5⟩
       case measure=>have:=HK.out;omega
     · obtain rfl:k=l2.length:=by have:=HK.out;omega
       rw [List.take_length]
       go_wp2
       go_ret
       exact ⟨by rw [HT.out];rfl,bt hb hb'⟩
theorem mk9T (w:World):(Instr.makeSlice 119 (.int .i64 9) (.int .i64 9)).run Tryz.prog w =
 .ok (.slice (some ⟨w.heap.size,0,none⟩) 9 9) (w.alloc (.cells #[.bool false,.bool false,.bool false,.bool false,.bool false,.bool false,.bool false,.bool false,.bool false] 4)):=by kernel_rfl
theorem own9T (w:World) (B:Nat) (hB:B≤w.heap.size) :
 (w.alloc (.cells #[.bool false,.bool false,.bool false,.bool false,.bool false,.bool false,.bool false,.bool false,.bool false] 4)).ownsRow B 4 1 (.slice (some ⟨w.heap.size,0,none⟩) 9 9) 9 (flagsOf 0) :=
 World.ownsRow_lit (size:=1) w _ 9 hB (by unfold maxLen;omega) rfl
theorem termM_nat {m n:Nat} (h:n≤8):termM m (n:Int)=m ||| 2 ^ n:=by
 rw [termM,if_pos (isTermB_iff.2 (by omega)),Int.toNat_natCast]
set_option maxRecDepth 100000 in
set_option maxHeartbeats 3200000 in
theorem l3Terms_any {S1 S2:Nat→Prop} (v1 v2:Value) (a:Asn) (w:World) (h1:RL w S1 v1 a.1) (h2:RL w S2 v2 a.2) (hx1:a.1.all factB=true) (hx2:a.2.all atomB=true) :
 Calls Tryz.prog 75 #[.agg #[v1,v2]] w fun e w'=>∃ v,e=.returned v∧w'.ownsRow w.heap.size 4 1 v 9 (flagsOf (termsM a))∧Below w.heap.size w w':=by
 have hmk:=mk9T
 have hm1:=h1.len
 have hm2:=h2.len
 unfold maxLen at hm1 hm2
 obtain ⟨l1,l2⟩:=a
 simp only at h1 h2 hm1 hm2 hx1 hx2
 obtain ⟨a1,c1,rfl,_,_,hf1⟩:=h1.factAt
 obtain ⟨a2,c2,rfl,_,_,hf2⟩:=h2.atomAt
 have F1:=Lib.hid hf1
 have F2:=Lib.hid hf2
 have B1:=Lib.hid (all_of hx1)
 have B2:=Lib.hid (all_of hx2)
 clear hf1 hf2 h1 h2 hx1 hx2
 have hfl:=own9T (w.alloc (.cells #[.slice a1 l1.length c1,.slice a2 l2.length c2] 26)) w.heap.size (by simp)
 simp only [World.size_alloc] at hfl
 have HFL:=Lib.hid hfl
 clear hfl
 go_enter Tryz.func75,Tryz.ntmps75
 go_wp2
 go_loopg [4] l1.length (fun q i wr=>∃ k:Nat,k+q=l1.length∧i=.int .i64 k∧wr.ownsRow w.heap.size 4 1 (.slice (some ⟨w.heap.size+1,0,none⟩) 9 9) 9 (flagsOf (factsM 0 (l1.take k)))∧(wr.cell? ⟨w.heap.size,0,none⟩=some (.slice a1 l1.length c1)∧wr.cell? ⟨w.heap.size,1,none⟩=some (.slice a2 l2.length c2))∧Below w.heap.size w wr)
 case atStart=>exact ⟨0,by omega,rfl,HFL.out,⟨by simp [go_sem],by simp [go_sem]⟩,Bl⟩
 case round =>
  obtain ⟨k,hk,rfl,ho,⟨hc0,hc1⟩,hb⟩:=hrel
  have HK:=Lib.hid hk
  clear hk
  have hz:w.heap.size < wr.heap.size:=World.block_lt_of_cell? wr _ hc1
  have hzf:w.heap.size+1 < wr.heap.size:=(ho.lt _ rfl).2
  by_cases hk8:k < l1.length
  · obtain ⟨b1,o1,rfl,_,hbl1,hp1,hp2,hp3⟩:=F1.out k hk8
    replace hp1:=cell_keep hb hp1;replace hp2:=cell_keep hb hp2;replace hp3:=cell_keep hb hp3
    have i1:(k:Int) < (l1.length:Int):=by omega
    have hne:¬ b1=w.heap.size+1:=by omega
    have hst:=factsM_step (m:=0) hk8
    obtain ⟨t1,t2,t3,t4⟩:=factB_le (B1.out k hk8)
    obtain ⟨i,hi⟩:=Int.eq_ofNat_of_zero_le t1
    obtain ⟨j,hj⟩:=Int.eq_ofNat_of_zero_le t3
    have hi9:(i:Int) < 9:=by omega
    have hj9:(j:Int) < 9:=by omega
    obtain ⟨m,hm⟩:∃ m,factsM 0 (l1.take k)=m:=⟨_,rfl⟩
    rw [hi,hj,termM_nat (by omega),termM_nat (by omega),hm] at hst
    rw [hm] at ho
    rw [hi] at hp2
    rw [hj] at hp3
    have HST:=Lib.hid hst
    obtain ⟨s1,g1⟩:=ho.stored i (.bool true)
    rw [flags_set m i (by omega)] at s1
    have f1:=grown_fr g1
    have z1:=ho.frozenAt i
    have y1:wr.cell? ⟨w.heap.size+1,i,none⟩=some (.bool (m.testBit i)):=by
     have:=ho.cellAt i (by omega)
     rw [flags_at m i (by omega)] at this
     simpa using this
    have hc0':=f1.cell (p:=⟨w.heap.size,0,none⟩) (fun e=>by have:=Option.some.inj e;simp at this) hc0
    have hc1':=f1.cell (p:=⟨w.heap.size,1,none⟩) (fun e=>by have:=Option.some.inj e;simp at this) hc1
    have hp3':=f1.cell (p:=⟨b1,o1+k * 3+2,none⟩) (fun e=>hne (Option.some.inj e)) hp3
    have hb1:=hb.trans (f1.below hb.size fun k _ e=>by have:=Option.some.inj e;omega)
    have HS1:=Lib.hid (And.intro s1 hb1)
    have HC1:=Lib.hid (And.intro hp3' (And.intro hc0' hc1'))
    clear hst t1 t2 t3 t4 hi hj hm ho s1 g1 f1 hp3' hb1 hc0' hc1'
    go_upto_region 6 with fail
    generalize wr.setCell ⟨w.heap.size+1,i,none⟩ (.bool true)=w6 at HS1 HC1 ⊢
    have s1:=HS1.out.1
    have hb6:=HS1.out.2
    have hp6:=HC1.out.1
    have hd0:=HC1.out.2.1
    have hd1:=HC1.out.2.2
    obtain ⟨s2,g2⟩:=s1.stored j (.bool true)
    rw [flags_set _ j (by omega)] at s2
    have z2:=s1.frozenAt j
    have y2:w6.cell? ⟨w.heap.size+1,j,none⟩=some (.bool ((m ||| 2 ^ i).testBit j)):=by
     have:=s1.cellAt j (by omega)
     rw [flags_at _ j (by omega)] at this
     simpa using this
    have HS:=Lib.hid (And.intro s2 (grown_fr g2))
    clear s1 s2 g2 hc1 z1 y1 hc0 hp1 hp2 hp3
    go_wp2
    go_roundg (gk - 1)
    case rel=>exact ⟨k+1,by have:=HK.out;omega,by go_num,by rw [HST.out];exact HS.out.1,⟨HS.out.2.cell (fun e=>by have:=Option.some.inj e;simp at this) hd0,HS.out.2.cell (fun e=>by have:=Option.some.inj e;simp at this) hd1⟩,hb6.trans (HS.out.2.below hb6.size fun k _ e=>by have:=Option.some.inj e;omega)⟩
    case measure=>have:=HK.out;omega
  · obtain rfl:k=l1.length:=by have:=HK.out;omega
    rw [List.take_length] at ho
    have hT:termsM (l1,l2)=atomsM (factsM 0 l1) l2:=rfl
    obtain ⟨M,hM⟩:∃ m,factsM 0 l1=m:=⟨_,rfl⟩
    rw [hM] at ho hT
    have HT:=Lib.hid hT
    have HO:=Lib.hid ho
    clear hM hT ho
    obtain ⟨wo,rfl⟩:∃ wo:World,wo=wr:=⟨_,rfl⟩
    go_wp2
    go_loopg [5] l2.length (fun q i wr=>∃ k:Nat,k+q=l2.length∧i=.int .i64 k∧wr.ownsRow w.heap.size 4 1 (.slice (some ⟨w.heap.size+1,0,none⟩) 9 9) 9 (flagsOf (atomsM M (l2.take k)))∧wr.cell? ⟨w.heap.size,1,none⟩=some (.slice a2 l2.length c2)∧Below w.heap.size w wr)
    case atStart=>exact ⟨0,by omega,rfl,HO.out,hc1,hb⟩
    case round =>
     clear hc0 hc1 hb hz hzf
     obtain ⟨k,hk,rfl,ho,hc1,hb⟩:=hrel
     have HK:=Lib.hid hk
     clear hk
     have hz:w.heap.size < wr.heap.size:=World.block_lt_of_cell? wr _ hc1
     have hzf:w.heap.size+1 < wr.heap.size:=(ho.lt _ rfl).2
     by_cases hk8:k < l2.length
     · obtain ⟨b1,o1,rfl,_,hbl1,hp1,hp2,hp3⟩:=F2.out k hk8
       replace hp1:=cell_keep hb hp1;replace hp2:=cell_keep hb hp2;replace hp3:=cell_keep hb hp3
       have i1:(k:Int) < (l2.length:Int):=by omega
       have hne:¬ b1=w.heap.size+1:=by omega
       have hst:=atomsM_step (m:=M) hk8
       obtain ⟨t1,t2,t3,t4⟩:=atomB_le' (B2.out k hk8)
       obtain ⟨i,hi⟩:=Int.eq_ofNat_of_zero_le t1
       obtain ⟨j,hj⟩:=Int.eq_ofNat_of_zero_le t3
       have hi9:(i:Int) < 9:=by omega
       have hj9:(j:Int) < 9:=by omega
       obtain ⟨m,hm⟩:∃ m,atomsM M (l2.take k)=m:=⟨_,rfl⟩
       rw [hi,hj,termM_nat (by omega),termM_nat (by omega),hm] at hst
       rw [hm] at ho
       rw [hi] at hp2
       rw [hj] at hp3
       have HST:=Lib.hid hst
       obtain ⟨s1,g1⟩:=ho.stored i (.bool true)
       rw [flags_set m i (by omega)] at s1
       have f1:=grown_fr g1
       have z1:=ho.frozenAt i
       have y1:wr.cell? ⟨w.heap.size+1,i,none⟩=some (.bool (m.testBit i)):=by
        have:=ho.cellAt i (by omega)
        rw [flags_at m i (by omega)] at this
        simpa using this
       have hc1':=f1.cell (p:=⟨w.heap.size,1,none⟩) (fun e=>by have:=Option.some.inj e;simp at this) hc1
       have hp3':=f1.cell (p:=⟨b1,o1+k * 3+2,none⟩) (fun e=>hne (Option.some.inj e)) hp3
       have hb1:=hb.trans (f1.below hb.size fun k _ e=>by have:=Option.some.inj e;omega)
       have HS1:=Lib.hid (And.intro s1 hb1)
       have HC1:=Lib.hid (And.intro hp3' hc1')
       clear hst t1 t2 t3 t4 hi hj hm ho s1 g1 f1 hp3' hb1 hc1'
       go_upto_region 11 with fail
       generalize wr.setCell ⟨w.heap.size+1,i,none⟩ (.bool true)=w6 at HS1 HC1 ⊢
       have s1:=HS1.out.1
       have hb6:=HS1.out.2
       have hp6:=HC1.out.1
       have hd1:=HC1.out.2
       obtain ⟨s2,g2⟩:=s1.stored j (.bool true)
       rw [flags_set _ j (by omega)] at s2
       have z2:=s1.frozenAt j
       have y2:w6.cell? ⟨w.heap.size+1,j,none⟩=some (.bool ((m ||| 2 ^ i).testBit j)):=by
        have:=s1.cellAt j (by omega)
        rw [flags_at _ j (by omega)] at this
        simpa using this
       have HS:=Lib.hid (And.intro s2 (grown_fr g2))
       clear s1 s2 g2 hc1 z1 y1 hp1 hp2 hp3
       go_wp2
       go_roundg (gk - 1)
       case rel=>exact ⟨k+1,by have:=HK.out;omega,by go_num,by rw [HST.out];exact HS.out.1,HS.out.2.cell (fun e=>by have:=Option.some.inj e;simp at this) hd1,hb6.trans (HS.out.2.below hb6.size fun k _ e=>by have:=Option.some.inj e;omega)⟩
       case measure=>have:=HK.out;omega
     · obtain rfl:k=l2.length:=by have:=HK.out;omega
       rw [List.take_length] at ho
       go_wp2
       go_ret
       exact ⟨_,rfl,by rw [HT.out];exact ho,hb⟩
end Go.Proofs.YtkbbmjcfgcfejaaGreat
namespace Go.Proofs.YtkbbmjcfgcfejaaGreat
open Go.RowKit
def okF (cl:List Int) (last:Int) (f:Fact):Bool:=if f.2.1≤last∧f.2.2≤last then factC cl f else true
def inA (cl:List Int) (last:Int) (x:Atom):Bool:=decide (x.2.1≤last) && (decide (x.2.2≤last) && fillC cl x)
def startsO (cl:List Int) (last:Int) (m:Nat):List Atom→Bool
 | []=>true
 | x :: r=>if inA cl last x=true then (if (gi cl x.2.1.toNat == 0 || hasT m (gi cl x.2.1.toNat))=true then false else startsO cl last (termM m (gi cl x.2.1.toNat)) r) else startsO cl last m r
def possC (cl:List Int) (last:Int) (a:Asn):Bool:=a.1.all (okF cl last) && startsO cl last 0 a.2
theorem drop_gd' {α:Type} [Inhabited α] {l:List α} {k:Nat} (h:k < l.length):l.drop k=gd l k :: l.drop (k+1):=by
 rw [List.drop_eq_getElem_cons h,gd_of h]
section
variable {cl:List Int} {last:Int} {m k:Nat} {l:List Atom}
theorem startsO_skip (h:k < l.length) (hi:inA cl last (gd l k)=false):startsO cl last m (l.drop k)=startsO cl last m (l.drop (k+1)):=by
 rw [drop_gd' h,startsO,hi];rfl
theorem startsO_stop (h:k < l.length) (hi:inA cl last (gd l k)=true) (hs:(gi cl (gd l k).2.1.toNat == 0 || hasT m (gi cl (gd l k).2.1.toNat))=true):startsO cl last m (l.drop k)=false:=by
 rw [drop_gd' h,startsO,hi,hs];rfl
theorem startsO_next (h:k < l.length) (hi:inA cl last (gd l k)=true) (hs:(gi cl (gd l k).2.1.toNat == 0 || hasT m (gi cl (gd l k).2.1.toNat))=false):startsO cl last m (l.drop k)=startsO cl last (termM m (gi cl (gd l k).2.1.toNat)) (l.drop (k+1)):=by
 rw [drop_gd' h,startsO,hi,hs];rfl
end
theorem hasT_val {m:Nat} {t:Int} {r:Bool} (w:World) (hm:m < 65536) (h:hasT m t=r) :
 Calls Tryz.prog 148 #[.int .u16 m,.int .i64 t] w fun e w'=>e=.returned (.bool r)∧w=w':=by
 subst h;exact hasT_any m t w hm
set_option maxRecDepth 100000 in
set_option maxHeartbeats 6400000 in
theorem possibleC_any {S1 S2:Nat→Prop} (b:Nat) (cl:List Int) (v1 v2:Value) (a:Asn) (last:Int) (w:World) (h:RArr w b cl) (h1:RL w S1 v1 a.1) (h2:RL w S2 v2 a.2) (hx1:a.1.all factB=true) (hx2:a.2.all atomB=true) :
 Calls Tryz.prog 233 #[.pointer (some ⟨b,0,none⟩),.agg #[v1,v2],.int .i64 last] w fun e w'=>e=.returned (.bool (possC cl last a))∧Below w.heap.size w w':=by
 have hm1:=h1.len
 have hm2:=h2.len
 unfold maxLen at hm1 hm2
 obtain ⟨l1,l2⟩:=a
 simp only at h1 h2 hm1 hm2 hx1 hx2
 obtain ⟨a1,c1,rfl,_,_,hf1⟩:=h1.factAt
 obtain ⟨a2,c2,rfl,_,_,hf2⟩:=h2.atomAt
 have F1:=Lib.hid hf1
 have F2:=Lib.hid hf2
 have B1:=Lib.hid (all_of hx1)
 have B2:=Lib.hid (all_of hx2)
 have HPO:=Lib.hid (show possC cl last (l1,l2)=(l1.all (okF cl last) && startsO cl last 0 l2) from rfl)
 clear hf1 hf2 h1 h2 hx1 hx2
 go_enter Tryz.func233,Tryz.ntmps233
 go_wp2
 go_loopg [15] l1.length (fun q i wr=>∃ k:Nat,k+q=l1.length∧i=.int .i64 k∧(l1.take k).all (okF cl last)=true∧wr.cell? ⟨w.heap.size,1,none⟩=some (.slice a2 l2.length c2)∧Below w.heap.size w wr)
 case atStart=>exact ⟨0,by omega,rfl,by simp,by simp,below_alloc _ _⟩
 case round =>
  obtain ⟨k,hk,rfl,ht,hc1,hb⟩:=hrel
  have HK:=Lib.hid hk
  have HT:=Lib.hid ht
  clear hk ht
  have hz:w.heap.size < wr.heap.size:=World.block_lt_of_cell? wr _ hc1
  by_cases hk8:k < l1.length
  · obtain ⟨b1,o1,rfl,_,hbl1,hp1,hp2,hp3⟩:=F1.out k hk8
    replace hp1:=cell_keep hb hp1;replace hp2:=cell_keep hb hp2;replace hp3:=cell_keep hb hp3
    have i1:(k:Int) < (l1.length:Int):=by omega
    have hzb:b1 < wr.heap.size:=World.block_lt_of_cell? wr _ hp1
    have HOK:=Lib.hid (B1.out k hk8)
    by_cases hA:(gd l1 k).2.1≤last
    · by_cases hB:(gd l1 k).2.2≤last
      · cases hp:factC cl (gd l1 k)
        · have hq:okF cl last (gd l1 k)=false:=by rw [okF,if_pos ⟨hA,hB⟩,hp]
          have HF:=Lib.hid (all_no hk8 hq)
          have HP:=Lib.hid hp
          clear hp hq
          go_wp2_with fail
          refine (cb (factHoldsC_any b cl (gd l1 k) _ (h.keep (bt hb Bl)) HOK.out) HP.out).mono ?_
          rintro e w5 ⟨rfl,hb5⟩
          go_wp2
          go_ret
          exact ⟨by rw [HPO.out,HF.out];rfl,bt (bt hb Bl) hb5⟩
        · have hq:okF cl last (gd l1 k)=true:=by rw [okF,if_pos ⟨hA,hB⟩,hp]
          have HP:=Lib.hid (And.intro hp hq)
          clear hp hq
          go_wp2_with fail
          refine (cb (factHoldsC_any b cl (gd l1 k) _ (h.keep (bt hb Bl)) HOK.out) HP.out.1).mono ?_
          rintro e w5 ⟨rfl,hb5⟩
          go_wp2
          go_roundg (gk - 1)
          case rel=>exact ⟨k+1,by have:=HK.out;omega,by go_num,all_take_yes hk8 HT.out HP.out.2,cell_keep (bt Bl hb5) hc1,bt (bt hb Bl) hb5⟩
          case measure=>have:=HK.out;omega
      · have hq:okF cl last (gd l1 k)=true:=by rw [okF,if_neg (by omega)]
        have HP:=Lib.hid hq
        clear hq
        go_wp2
        go_roundg (gk - 1)
        case rel=>exact ⟨k+1,by have:=HK.out;omega,by go_num,all_take_yes hk8 HT.out HP.out,cell_keep Bl hc1,bt hb Bl⟩
        case measure=>have:=HK.out;omega
    · have hq:okF cl last (gd l1 k)=true:=by rw [okF,if_neg (by omega)]
      have HP:=Lib.hid hq
      clear hq
      go_wp2
      go_roundg (gk - 1)
      case rel=>exact ⟨k+1,by have:=HK.out;omega,by go_num,all_take_yes hk8 HT.out HP.out,cell_keep Bl hc1,bt hb Bl⟩
      case measure=>have:=HK.out;omega
  · obtain rfl:k=l1.length:=by have:=HK.out;omega
    have hall:=all_end HT.out
    have HPS:=Lib.hid (show possC cl last (l1,l2)=startsO cl last 0 (l2.drop 0) by rw [HPO.out,hall];rfl)
    clear hall HT HPO
    have hbe:Below wr.heap.size wr wr:=Below.refl _ _
    obtain ⟨wo,rfl⟩:∃ wo:World,wo=wr:=⟨_,rfl⟩
    have h':=h.keep hb
    go_wp2
    go_loopg [9,39] l2.length (fun q x i wr=>∃ (k m:Nat),k+q=l2.length∧i=.int .i64 k∧x=.int .u16 m∧m < 65536∧possC cl last (l1,l2)=startsO cl last m (l2.drop k)∧Below wo.heap.size wo wr)
    case atStart=>exact ⟨0,0,by omega,rfl,rfl,by omega,HPS.out,hbe⟩
    case round =>
     clear hbe hc1
     obtain ⟨k,m,hk,rfl,rfl,hm6,hps,hb'⟩:=hrel
     have HK:=Lib.hid hk
     have HPS:=Lib.hid hps
     clear hk hps
     by_cases hk8:k < l2.length
     · obtain ⟨b1,o1,rfl,_,hbl1,hp1,hp2,hp3⟩:=F2.out k hk8
       replace hp1:=cell_keep (bt hb hb') hp1;replace hp2:=cell_keep (bt hb hb') hp2;replace hp3:=cell_keep (bt hb hb') hp3
       have i1:(k:Int) < (l2.length:Int):=by omega
       have hzb:b1 < wr.heap.size:=World.block_lt_of_cell? wr _ hp1
       have HOK:=Lib.hid (B2.out k hk8)
       by_cases hA:last < (gd l2 k).2.1
       · have hq:inA cl last (gd l2 k)=false:=by rw [inA,decide_eq_false (by omega)];rfl
         have HN:=Lib.hid (startsO_skip (m:=m) hk8 hq)
         clear hq
         go_wp2
         go_roundg (gk - 1)
         case rel=>exact ⟨k+1,m,by have:=HK.out;omega,by go_num,rfl,hm6,by rw [HPS.out,HN.out],bt hb' Bl⟩
         case measure=>have:=HK.out;omega
       by_cases hB:last < (gd l2 k).2.2
       · have hq:inA cl last (gd l2 k)=false:=by rw [inA,decide_eq_false (p:=(gd l2 k).2.2≤last) (by omega)];simp
         have HN:=Lib.hid (startsO_skip (m:=m) hk8 hq)
         clear hq
         go_wp2
         go_roundg (gk - 1)
         case rel=>exact ⟨k+1,m,by have:=HK.out;omega,by go_num,rfl,hm6,by rw [HPS.out,HN.out],bt hb' Bl⟩
         case measure=>have:=HK.out;omega
       cases hp:fillC cl (gd l2 k)
       · have hq:inA cl last (gd l2 k)=false:=by rw [inA,hp];simp
         have HN:=Lib.hid (startsO_skip (m:=m) hk8 hq)
         have HP:=Lib.hid hp
         clear hq hp
         go_wp2_with fail
         refine (cb (isFilledC_any b cl (gd l2 k) _ (h'.keep (bt hb' Bl)) HOK.out) HP.out).mono ?_
         rintro e w5 ⟨rfl,hb5⟩
         go_wp2
         go_roundg (gk - 1)
         case rel=>exact ⟨k+1,m,by have:=HK.out;omega,by go_num,rfl,hm6,by rw [HPS.out,HN.out],bt (bt hb' Bl) hb5⟩
         case measure=>have:=HK.out;omega
       · have hq:inA cl last (gd l2 k)=true:=by rw [inA,hp,decide_eq_true (by omega),decide_eq_true (by omega)];rfl
         obtain ⟨t1,t2,t3,t4⟩:=atomB_le' HOK.out
         obtain ⟨i,hi⟩:=Int.eq_ofNat_of_zero_le t1
         have hi9:(i:Int) < 9:=by omega
         obtain ⟨E,hE⟩:∃ E,gi cl i=E:=⟨_,rfl⟩
         have hEt:gi cl (gd l2 k).2.1.toNat=E:=by rw [hi,Int.toNat_natCast,hE]
         have HP:=Lib.hid (And.intro hp hi)
         have HE:=Lib.hid hE
         by_cases hE0:E=0
         · have hkb:(E == 0)=true:=by simp [hE0]
           have hs:(gi cl (gd l2 k).2.1.toNat == 0 || hasT m (gi cl (gd l2 k).2.1.toNat))=true:=by rw [hEt,hkb];rfl
           have HN:=Lib.hid (startsO_stop hk8 hq hs)
           clear hs hEt hE hi hp hq t1 t2 t3 t4 hE0
           go_wp2_with fail
           refine (cb (isFilledC_any b cl (gd l2 k) _ (h'.keep (bt hb' Bl)) HOK.out) HP.out.1).mono ?_
           rintro e w5 ⟨rfl,hb5⟩
           have hd1:=cell_keep hb5 (p:=⟨wr.heap.size,1,none⟩) (v:=.int .i64 (gd l2 k).2.1) (by simp [go_sem])
           rw [HP.out.2] at hd1
           have hw5:Below wr.heap.size wr w5:=bt Bl hb5
           have hA5:=h'.keep (bt hb' hw5)
           have hci:=hA5.2.2 i (by omega)
           rw [HE.out] at hci
           have hzz:b < w5.heap.size:=hA5.2.1
           have hzy:wr.heap.size < w5.heap.size:=World.block_lt_of_cell? w5 _ hd1
           clear hb5 hA5
           go_wp2
           refine wp_region_ext (by kernel_rfl) (by kernel_rfl) ?_
           repeat (go_big_quiet_step ((fail)))
           refine wpQuiet_nil ?_
           intro w6 hb6
           go_wp2
           go_ret
           exact ⟨by rw [HPS.out,HN.out];rfl,bt (bt hb hb') (bt hw5 hb6)⟩
         · have hkb:(E == 0)=false:=by simp [hE0]
           cases hh:hasT m E
           · have hs:(gi cl (gd l2 k).2.1.toNat == 0 || hasT m (gi cl (gd l2 k).2.1.toNat))=false:=by rw [hEt,hkb,hh];rfl
             have hn:=startsO_next hk8 hq hs
             rw [hEt] at hn
             have hnl:=termM_lt (t:=E) hm6
             obtain ⟨n,hnn⟩:∃ n,termM m E=n:=⟨_,rfl⟩
             rw [hnn] at hn hnl
             have HN:=Lib.hid hn
             have HH:=Lib.hid (And.intro hh hnn)
             clear hs hEt hE hi hp hq t1 t2 t3 t4 hE0 hh hn hnn
             go_wp2_with fail
             refine (cb (isFilledC_any b cl (gd l2 k) _ (h'.keep (bt hb' Bl)) HOK.out) HP.out.1).mono ?_
             rintro e w5 ⟨rfl,hb5⟩
             have hd1:=cell_keep hb5 (p:=⟨wr.heap.size,1,none⟩) (v:=.int .i64 (gd l2 k).2.1) (by simp [go_sem])
             rw [HP.out.2] at hd1
             have hw5:Below wr.heap.size wr w5:=bt Bl hb5
             have hA5:=h'.keep (bt hb' hw5)
             have hci:=hA5.2.2 i (by omega)
             rw [HE.out] at hci
             have hzz:b < w5.heap.size:=hA5.2.1
             have hzy:wr.heap.size < w5.heap.size:=World.block_lt_of_cell? w5 _ hd1
             clear hb5 hA5
             go_wp2
             refine wp_region_ext (by kernel_rfl) (by kernel_rfl) ?_
             repeat (go_big_quiet_step ((go_at_call 148;with_reducible exact ext_same (hasT_val _ hm6 HH.out.1))))
             refine wpQuiet_nil ?_
             intro w6 hb6
             replace hd1:=cell_keep hb6 hd1
             replace hci:=cell_keep hb6 hci
             have hzz:b < w6.heap.size:=World.block_lt_of_cell? w6 _ hci
             have hzy:wr.heap.size < w6.heap.size:=World.block_lt_of_cell? w6 _ hd1
             go_wp2
             refine wp_region_ext (by kernel_rfl) (by kernel_rfl) ?_
             repeat (go_big_quiet_step ((go_at_call 147;with_reducible exact ext_same (withT_val _ hm6 HH.out.2))))
             refine wpQuiet_nil ?_
             intro w7 hb7
             go_wp2
             go_roundg (gk - 1)
             case rel=>exact ⟨k+1,n,by have:=HK.out;omega,by go_num,rfl,hnl,by rw [HPS.out,HN.out],bt hb' (bt hw5 (bt hb6 hb7))⟩
             case measure=>have:=HK.out;omega
           · have hs:(gi cl (gd l2 k).2.1.toNat == 0 || hasT m (gi cl (gd l2 k).2.1.toNat))=true:=by rw [hEt,hkb,hh];rfl
             have HN:=Lib.hid (startsO_stop hk8 hq hs)
             have HH:=Lib.hid hh
             clear hs hEt hE hi hp hq t1 t2 t3 t4 hE0 hh
             go_wp2_with fail
             refine (cb (isFilledC_any b cl (gd l2 k) _ (h'.keep (bt hb' Bl)) HOK.out) HP.out.1).mono ?_
             rintro e w5 ⟨rfl,hb5⟩
             have hd1:=cell_keep hb5 (p:=⟨wr.heap.size,1,none⟩) (v:=.int .i64 (gd l2 k).2.1) (by simp [go_sem])
             rw [HP.out.2] at hd1
             have hw5:Below wr.heap.size wr w5:=bt Bl hb5
             have hA5:=h'.keep (bt hb' hw5)
             have hci:=hA5.2.2 i (by omega)
             rw [HE.out] at hci
             have hzz:b < w5.heap.size:=hA5.2.1
             have hzy:wr.heap.size < w5.heap.size:=World.block_lt_of_cell? w5 _ hd1
             clear hb5 hA5
             go_wp2
             refine wp_region_ext (by kernel_rfl) (by kernel_rfl) ?_
             repeat (go_big_quiet_step ((go_at_call 148;with_reducible exact ext_same (hasT_val _ hm6 HH.out))))
             refine wpQuiet_nil ?_
             intro w6 hb6
             go_wp2
             go_ret
             exact ⟨by rw [HPS.out,HN.out];rfl,bt (bt hb hb') (bt hw5 hb6)⟩
     · obtain rfl:k=l2.length:=by have:=HK.out;omega
       have HE:=Lib.hid (show possC cl last (l1,l2)=true by rw [HPS.out,List.drop_length];rfl)
       go_wp2
       go_ret
       exact ⟨by rw [HE.out];rfl,bt hb hb'⟩
end Go.Proofs.YtkbbmjcfgcfejaaGreat
