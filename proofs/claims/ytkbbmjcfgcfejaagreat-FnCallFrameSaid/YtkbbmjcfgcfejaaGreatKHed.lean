/- Walks: texts cut at a mark (reference: l8Split, l8Bare, l8Assign). -/
import Derived.Test.YtkbbmjcfgcfejaaGreatKTer
import Derived.Handy
import Derived.Deep.DeepMust
import Derived.Test.YtkbbmjcfgcfejaaGreatKPas
import Derived.Test.YtkbbmjcfgcfejaaGreatKPgr
set_option linter.unusedVariables false
set_option linter.unusedSimpArgs false
namespace Go.Proofs.YtkbbmjcfgcfejaaGreat
open Go.RowKit
def splitO (t mk:List UInt8):Option (List UInt8 × List UInt8):=((List.range (t.length+1 - mk.length)).find? fun i=>decide (piece t i (i+mk.length)=mk)).map fun i=>(t.take i,t.drop (i+mk.length))
def splR (t mk:List UInt8):List UInt8 × List UInt8:=(splitO t mk).getD (t,[])
theorem find_range {p:Nat→Bool}:∀ {n k:Nat},k < n→(∀ j,j < k→p j=false)→p k=true→(List.range n).find? p=some k
 | 0,k,h,_,_=>absurd h (Nat.not_lt_zero k)
 | n+1,k,h,hn,hp=>by
   rw [List.range_succ,List.find?_append]
   by_cases hk:k < n
   · rw [find_range hk hn hp];rfl
   · obtain rfl:k=n:=by omega
     rw [List.find?_eq_none.2 fun j hj=>by rw [hn j (List.mem_range.1 hj)];simp]
     simp [hp]
theorem splitO_hit {t mk:List UInt8} {k:Nat} (hk:k+mk.length≤t.length) (hn:∀ j,j < k→piece t j (j+mk.length) ≠ mk) (h:piece t k (k+mk.length)=mk):splitO t mk=some (t.take k,t.drop (k+mk.length)):=by
 rw [splitO,find_range (k:=k) (by omega) (fun j hj=>decide_eq_false (hn j hj)) (decide_eq_true h)];rfl
theorem splitO_none {t mk:List UInt8} (hn:∀ j,j+mk.length≤t.length→piece t j (j+mk.length) ≠ mk):splitO t mk=none:=by
 rw [splitO,List.find?_eq_none.2 fun j hj=>by
  have:=List.mem_range.1 hj
  simp [hn j (by omega)]]
 rfl
theorem splitR_len (t mk:List UInt8):(splR t mk).1.length≤t.length∧(splR t mk).2.length≤t.length:=by
 rw [splR]
 cases h:splitO t mk with
 | none=>exact ⟨Nat.le_refl _,Nat.zero_le _⟩
 | some p =>
   rw [splitO,Option.map_eq_some_iff] at h
   obtain ⟨i,_,rfl⟩:=h
   exact ⟨by show (t.take i).length≤_;rw [List.length_take];omega,by show (t.drop (i+mk.length)).length≤_;rw [List.length_drop];omega⟩
attribute [local go_sem] btx_nil btx_extract
set_option maxRecDepth 100000 in
set_option maxHeartbeats 3200000 in
theorem split8_any (t mk:List UInt8) (w:World) (hl:t.length≤1048576) (hm:mk.length≤100) :
 Calls Tryz.prog 292 #[.string (btx t),.string (btx mk)] w fun e w'=>e=.returned (.tuple #[.string (btx (splR t mk).1),.string (btx (splR t mk).2),.bool (splitO t mk).isSome])∧Below w.heap.size w w':=by
 obtain ⟨n,hn⟩:∃ n,t.length=n:=⟨_,rfl⟩
 have hsz:(btx t).size=n:=hn
 obtain ⟨m,hmm⟩:∃ m,mk.length=m:=⟨_,rfl⟩
 have hsm:(btx mk).size=m:=hmm
 rw [hn] at hl
 rw [hmm] at hm
 have HN:=Lib.hid hn
 have HM:=Lib.hid hmm
 clear hn hmm
 go_enter Tryz.func292,Tryz.ntmps292
 go_wp2
 go_loopg [7] (n+1) (fun q i wr=>∃ k:Nat,k+q=n+1∧i=.int .i64 k∧(∀ j,j < k→piece t j (j+m) ≠ mk)∧Below w.heap.size w wr)
 case atStart=>exact ⟨0,by omega,rfl,fun j hj=>absurd hj (Nat.not_lt_zero j),Below.refl _ _⟩
 case round =>
  obtain ⟨k,hk,rfl,hne,hb⟩:=hrel
  have HK:=Lib.hid hk
  have HE:=Lib.hid hne
  clear hne hk
  have hk1:(k:Int)≤1048577:=by have:=HK.out;omega
  by_cases hk8:k+m≤n
  · have i1:(k:Int)+(m:Int)≤(n:Int):=by omega
    have i2:(k:Int)≤(k:Int)+(m:Int):=by omega
    have i3:(k:Int)≤(n:Int):=by omega
    have i4:(0:Int)≤(k:Int)+(m:Int):=by omega
    have htn:((k:Int)+(m:Int)).toNat=k+m:=by omega
    have hwr:IntKind.i64.wrap ((k:Int)+(m:Int))=(k:Int)+(m:Int):=(IntKind.wrap_i64 _).trans (by omega)
    by_cases hp:piece t k (k+m)=mk
    · have j1:((btx (piece t k (k+m))).toList == (btx mk).toList)=true:=by rw [btx_leq];exact decide_eq_true hp
      have hfin:=splitO_hit (t:=t) (mk:=mk) (k:=k) (by rw [HM.out,HN.out];exact hk8) (by rw [HM.out];exact HE.out) (by rw [HM.out];exact hp)
      have HF:=Lib.hid (show splitO t mk=some (piece t 0 k,piece t (k+m) n) by rw [hfin,piece_take,piece_drop HN.out,HM.out])
      clear hp hfin
      go_wp2
      refine wp_region_ext (by kernel_rfl) (by kernel_rfl) ?_
      repeat (go_big_quiet_step (fail))
      refine wpQuiet_nil ?_
      intro w2 hb2
      go_wp2
      refine bodyPost_ret (v:=.tuple #[.string (btx (piece t 0 k)),.string (btx (piece t (k+m) n)),.bool true]) (by simp [results,Tryz.results292,go_sem]) rfl ?_
      exact ⟨by rw [splR,HF.out];rfl,bt hb hb2⟩
    · have j1b:((btx (piece t k (k+m))).toList == (btx mk).toList)=false:=by rw [btx_leq];exact decide_eq_false hp
      have HP:=Lib.hid hp
      clear hp
      go_wp2
      go_roundg (gk - 1)
      case rel=>exact ⟨k+1,by have:=HK.out;omega,by go_num,fun j hj=>by
       by_cases e:j=k
       · rw [e];exact HP.out
       · exact HE.out j (by omega),hb⟩
      case measure=>have:=HK.out;omega
  · have i1:¬ (k:Int)+(m:Int)≤(n:Int):=by omega
    have hwr:IntKind.i64.wrap ((k:Int)+(m:Int))=(k:Int)+(m:Int):=(IntKind.wrap_i64 _).trans (by omega)
    have HF:=Lib.hid (splitO_none (t:=t) (mk:=mk) fun j hj=>by rw [HM.out] at hj ⊢;exact HE.out j (by have:=HN.out;omega))
    go_wp2
    refine bodyPost_ret (v:=.tuple #[.string (btx t),.string (btx []),.bool false]) (by simp [results,Tryz.results292,go_sem]) rfl ?_
    exact ⟨by rw [splR,HF.out];rfl,hb⟩
def bareL (x:List UInt8):List UInt8 × Bool:=if 2≤x.length∧gd x 0=91∧gd x (x.length - 1)=93 then (piece x 1 (x.length - 1),true) else (x,false)
attribute [local go_sem] btx_nil btx_extract
set_option maxRecDepth 100000 in
set_option maxHeartbeats 1600000 in
theorem bareS_any (x:List UInt8) (w:World) (hl:x.length≤1048576) :
 Calls Tryz.prog 307 #[.string (btx x)] w fun e w'=>e=.returned (.tuple #[.string (btx (bareL x).1),.bool (bareL x).2])∧w=w':=by
 obtain ⟨n,hn⟩:∃ n,x.length=n:=⟨_,rfl⟩
 have hsz:(btx x).size=n:=hn
 have hbl:bareL x=if 2≤n∧gd x 0=91∧gd x (n - 1)=93 then (piece x 1 (n - 1),true) else (x,false):=by rw [bareL,hn]
 have HB:=Lib.hid hbl
 rw [hn] at hl
 have HN:=Lib.hid hn
 clear hn hbl
 by_cases h2:2≤n
 rotate_left
 · have i1:(n:Int) < 2:=by omega
   have i1d:decide ((n:Int) < 2)=true:=by simp;omega
   have HF:=Lib.hid (show bareL x=(x,false) by rw [HB.out,if_neg (fun h=>h2 h.1)])
   clear h2
   go_enter Tryz.func307,Tryz.ntmps307
   go_wp2
   refine bodyPost_ret (v:=.tuple #[.string (btx x),.bool false]) (by simp [results,Tryz.results307,go_sem]) rfl ?_
   exact ⟨by rw [HF.out],rfl⟩
 have i1d:decide ((n:Int) < 2)=false:=by simp;omega
 have k0:0 < (btx x).size:=by rw [hsz];omega
 have hg0:(btx x)[0]=gd x 0:=by rw [gd_of (show 0 < x.length from k0)];rfl
 have k1:n - 1 < (btx x).size:=by rw [hsz];omega
 have hg1:(btx x)[n - 1]=gd x (n - 1):=by rw [gd_of (show n - 1 < x.length from k1)];rfl
 have b0:(0:Int) < (n:Int):=by omega
 have b1:(0:Int)≤(n:Int) - 1:=by omega
 have b2:(n:Int) - 1 < (n:Int):=by omega
 have b3:(1:Int)≤(n:Int) - 1:=by omega
 have b4:(n:Int) - 1≤(n:Int):=by omega
 have e1:((n:Int) - 1).toNat=n - 1:=by omega
 by_cases h0:gd x 0=91
 rotate_left
 · have i2:(((btx x)[0].toNat:Int) != 91)=true:=by
    rw [hg0];exact bne_iff_ne.2 fun e=>h0 (UInt8.toNat_inj.1 (by have:(91:UInt8).toNat=91:=rfl;omega))
   have HF:=Lib.hid (show bareL x=(x,false) by rw [HB.out,if_neg (fun h=>h0 h.2.1)])
   clear h2 h0 hg0 hg1
   go_enter Tryz.func307,Tryz.ntmps307
   go_wp2
   refine bodyPost_ret (v:=.tuple #[.string (btx x),.bool false]) (by simp [results,Tryz.results307,go_sem]) rfl ?_
   exact ⟨by rw [HF.out],rfl⟩
 have i2:(((btx x)[0].toNat:Int) != 91)=false:=by rw [hg0,h0];rfl
 by_cases h1:gd x (n - 1)=93
 rotate_left
 · have i3:(((btx x)[n - 1].toNat:Int) != 93)=true:=by
    rw [hg1];exact bne_iff_ne.2 fun e=>h1 (UInt8.toNat_inj.1 (by have:(93:UInt8).toNat=93:=rfl;omega))
   have HF:=Lib.hid (show bareL x=(x,false) by rw [HB.out,if_neg (fun h=>h1 h.2.2)])
   clear h2 h0 h1 hg0 hg1
   go_enter Tryz.func307,Tryz.ntmps307
   go_wp2
   refine bodyPost_ret (v:=.tuple #[.string (btx x),.bool false]) (by simp [results,Tryz.results307,go_sem]) rfl ?_
   exact ⟨by rw [HF.out],rfl⟩
 have i3:(((btx x)[n - 1].toNat:Int) != 93)=false:=by rw [hg1,h1];rfl
 have HF:=Lib.hid (show bareL x=(piece x 1 (n - 1),true) by rw [HB.out,if_pos ⟨h2,h0,h1⟩])
 clear h2 h0 h1 hg0 hg1
 go_enter Tryz.func307,Tryz.ntmps307
 go_wp2
 refine bodyPost_ret (v:=.tuple #[.string (btx (piece x 1 (n - 1))),.bool true]) (by simp [results,Tryz.results307,go_sem]) rfl ?_
 exact ⟨by rw [HF.out],rfl⟩
end Go.Proofs.YtkbbmjcfgcfejaaGreat
set_option linter.unusedVariables false
set_option linter.unusedSimpArgs false
namespace Go.Proofs.YtkbbmjcfgcfejaaGreat
open Go.RowKit
def termD (x:List UInt8):Int:=(termO x).getD 0
def assK (l r:List UInt8):Int:=if (bareL r).2=true then 2 else if (bareL l).2=true then 3 else 1
def assA (l:List UInt8):Int:=termD (bareL l).1
set_option maxRecDepth 100000 in
set_option maxHeartbeats 3200000 in
theorem assignS_any (l r:List UInt8) (w:World) (hl:l.length≤1048576) (hr:r.length≤1048576) :
 Calls Tryz.prog 293 #[.string (btx l),.string (btx r)] w fun e w'=>e=.returned (.agg #[.int .i64 (assK l r),.int .i64 (assA l),.int .i64 (assA r),.bool false,.int .i64 0,.int .i64 0,.slice none 0 0,.slice none 0 0,.slice none 0 0,.slice none 0 0])∧Below w.heap.size w w':=by
 obtain ⟨s1,hs1⟩:∃ b,(bareL l).2=b:=⟨_,rfl⟩
 obtain ⟨s2,hs2⟩:∃ b,(bareL r).2=b:=⟨_,rfl⟩
 obtain ⟨x1,hx1⟩:∃ b,(bareL l).1=b:=⟨_,rfl⟩
 obtain ⟨x2,hx2⟩:∃ b,(bareL r).1=b:=⟨_,rfl⟩
 have HE:=Lib.hid (show assK l r=(if s2=true then 2 else if s1=true then 3 else 1)∧assA l=(termO x1).getD 0∧assA r=(termO x2).getD 0 by
  rw [assK,assA,assA,hs1,hs2,hx1,hx2];exact ⟨rfl,rfl,rfl⟩)
 have H1:=Lib.hid (And.intro hx1 hs1)
 have H2:=Lib.hid (And.intro hx2 hs2)
 clear hs1 hs2 hx1 hx2
 cases s1 with
 | true =>
   cases s2 with
   | true =>
     go_enter Tryz.func293,Tryz.ntmps293
     go_wp2_with fail
     refine (bareS_any l _ hl).mono ?_
     rw [H1.out.1,H1.out.2]
     rintro e w1 ⟨rfl,rfl⟩
     go_wp2_with fail
     refine (bareS_any r _ hr).mono ?_
     rw [H2.out.1,H2.out.2]
     rintro e w2 ⟨rfl,rfl⟩
     go_wp2_with fail
     refine (parseTermS_any x1 _).mono ?_
     rintro e w3 ⟨rfl,rfl⟩
     go_wp2_with fail
     refine (parseTermS_any x2 _).mono ?_
     rintro e w4 ⟨rfl,rfl⟩
     go_wp2
     refine bodyPost_ret (v:=.agg #[.int .i64 2,.int .i64 ((termO x1).getD 0),.int .i64 ((termO x2).getD 0),.bool false,.int .i64 0,.int .i64 0,.slice none 0 0,.slice none 0 0,.slice none 0 0,.slice none 0 0]) (by simp [results,Tryz.results293,go_sem]) rfl ?_
     exact ⟨by rw [HE.out.1,HE.out.2.1,HE.out.2.2];rfl,Bl⟩
   | false =>
     go_enter Tryz.func293,Tryz.ntmps293
     go_wp2_with fail
     refine (bareS_any l _ hl).mono ?_
     rw [H1.out.1,H1.out.2]
     rintro e w1 ⟨rfl,rfl⟩
     go_wp2_with fail
     refine (bareS_any r _ hr).mono ?_
     rw [H2.out.1,H2.out.2]
     rintro e w2 ⟨rfl,rfl⟩
     go_wp2_with fail
     refine (parseTermS_any x1 _).mono ?_
     rintro e w3 ⟨rfl,rfl⟩
     go_wp2_with fail
     refine (parseTermS_any x2 _).mono ?_
     rintro e w4 ⟨rfl,rfl⟩
     go_wp2
     refine bodyPost_ret (v:=.agg #[.int .i64 3,.int .i64 ((termO x1).getD 0),.int .i64 ((termO x2).getD 0),.bool false,.int .i64 0,.int .i64 0,.slice none 0 0,.slice none 0 0,.slice none 0 0,.slice none 0 0]) (by simp [results,Tryz.results293,go_sem]) rfl ?_
     exact ⟨by rw [HE.out.1,HE.out.2.1,HE.out.2.2];rfl,Bl⟩
 | false =>
   cases s2 with
   | true =>
     go_enter Tryz.func293,Tryz.ntmps293
     go_wp2_with fail
     refine (bareS_any l _ hl).mono ?_
     rw [H1.out.1,H1.out.2]
     rintro e w1 ⟨rfl,rfl⟩
     go_wp2_with fail
     refine (bareS_any r _ hr).mono ?_
     rw [H2.out.1,H2.out.2]
     rintro e w2 ⟨rfl,rfl⟩
     go_wp2_with fail
     refine (parseTermS_any x1 _).mono ?_
     rintro e w3 ⟨rfl,rfl⟩
     go_wp2_with fail
     refine (parseTermS_any x2 _).mono ?_
     rintro e w4 ⟨rfl,rfl⟩
     go_wp2
     refine bodyPost_ret (v:=.agg #[.int .i64 2,.int .i64 ((termO x1).getD 0),.int .i64 ((termO x2).getD 0),.bool false,.int .i64 0,.int .i64 0,.slice none 0 0,.slice none 0 0,.slice none 0 0,.slice none 0 0]) (by simp [results,Tryz.results293,go_sem]) rfl ?_
     exact ⟨by rw [HE.out.1,HE.out.2.1,HE.out.2.2];rfl,Bl⟩
   | false =>
     go_enter Tryz.func293,Tryz.ntmps293
     go_wp2_with fail
     refine (bareS_any l _ hl).mono ?_
     rw [H1.out.1,H1.out.2]
     rintro e w1 ⟨rfl,rfl⟩
     go_wp2_with fail
     refine (bareS_any r _ hr).mono ?_
     rw [H2.out.1,H2.out.2]
     rintro e w2 ⟨rfl,rfl⟩
     go_wp2_with fail
     refine (parseTermS_any x1 _).mono ?_
     rintro e w3 ⟨rfl,rfl⟩
     go_wp2_with fail
     refine (parseTermS_any x2 _).mono ?_
     rintro e w4 ⟨rfl,rfl⟩
     go_wp2
     refine bodyPost_ret (v:=.agg #[.int .i64 1,.int .i64 ((termO x1).getD 0),.int .i64 ((termO x2).getD 0),.bool false,.int .i64 0,.int .i64 0,.slice none 0 0,.slice none 0 0,.slice none 0 0,.slice none 0 0]) (by simp [results,Tryz.results293,go_sem]) rfl ?_
     exact ⟨by rw [HE.out.1,HE.out.2.1,HE.out.2.2];rfl,Bl⟩
def headR (x:List UInt8):Int × Int × Int × Fact × Asn:=match splitO x [58,61] with
 | some (l,r)=>(assK l r,assA l,assA r,zeroF,([],[]))
 | none=>if (splR x [32]).1=[110,101,119] then (4,termD (splR x [32]).2,0,zeroF,([],[]))
   else if (splR x [32]).1=[102,114,101,101] then (5,termD (splR x [32]).2,0,zeroF,([],[]))
   else if (splR x [32]).1=[105,102] then (6,0,0,(factO (splR x [32]).2).getD zeroF,([],[]))
   else (7,0,0,(factO (splR (splR x [32]).2 [32,119,105,116,104,32]).1).getD zeroF,asnR (splR (splR x [32]).2 [32,119,105,116,104,32]).2)
theorem fr_ten (w:World) (R:Nat) (x0 x1 x2 x3 x4 x5 x6 x7 x8 x9:Value):Fr (fun j=>j=R) w ((((((((((w.setCell ⟨R,0,none⟩ x0).setCell ⟨R,1,none⟩ x1).setCell ⟨R,2,none⟩ x2).setCell ⟨R,3,none⟩ x3).setCell ⟨R,4,none⟩ x4).setCell ⟨R,5,none⟩ x5).setCell ⟨R,6,none⟩ x6).setCell ⟨R,7,none⟩ x7).setCell ⟨R,8,none⟩ x8).setCell ⟨R,9,none⟩ x9):=by
 have h:∀ (w:World) (o:Nat) (v:Value),Fr (fun j=>j=R) w (w.setCell ⟨R,o,none⟩ v):=fun w o v=>fr_set w ⟨R,o,none⟩ v
 exact (((((((((h w 0 x0).trans (h _ 1 x1)).trans (h _ 2 x2)).trans (h _ 3 x3)).trans (h _ 4 x4)).trans (h _ 5 x5)).trans (h _ 6 x6)).trans (h _ 7 x7)).trans (h _ 8 x8)).trans (h _ 9 x9)
theorem btx_colon:(⟨#[58,61]⟩:ByteArray)=btx [58,61]:=rfl
theorem btx_new:(⟨#[110,101,119]⟩:ByteArray)=btx [110,101,119]:=rfl
theorem btx_free:(⟨#[102,114,101,101]⟩:ByteArray)=btx [102,114,101,101]:=rfl
theorem btx_if:(⟨#[105,102]⟩:ByteArray)=btx [105,102]:=rfl
theorem btx_with:(⟨#[32,119,105,116,104,32]⟩:ByteArray)=btx [32,119,105,116,104,32]:=rfl
def HeadRes (h:Int × Int × Int × Fact × Asn) (w:World) (e:Ending) (w':World):Prop :=
 ∃ f1 f2:Value,e=.returned (.agg #[.int .i64 h.1,.int .i64 h.2.1,.int .i64 h.2.2.1,.bool h.2.2.2.1.1,.int .i64 h.2.2.2.1.2.1,.int .i64 h.2.2.2.1.2.2,f1,f2,.slice none 0 0,.slice none 0 0])∧(FE w' w.heap.size f1 h.2.2.2.2.1∧FE w' w.heap.size f2 h.2.2.2.2.2)∧Below w.heap.size w w'
theorem HeadRes.plain {h:Int × Int × Int × Fact × Asn} {w w':World} (k a b:Int) (t:Fact) (e:h=(k,a,b,t,([],[]))) (hb:Below w.heap.size w w'):HeadRes h w (.returned (.agg #[.int .i64 k,.int .i64 a,.int .i64 b,.bool t.1,.int .i64 t.2.1,.int .i64 t.2.2,.slice none 0 0,.slice none 0 0,.slice none 0 0,.slice none 0 0])) w':=by
 subst e
 exact ⟨_,_,rfl,⟨FE.nil _ _ _,FE.nil _ _ _⟩,hb⟩
attribute [local go_sem] btx_colon btx_32 btx_new btx_free btx_if btx_with
set_option maxRecDepth 100000 in
set_option maxHeartbeats 12800000 in
theorem headS_any (x:List UInt8) (w:World) (hl:x.length≤1048576) :
 Calls Tryz.prog 273 #[.string (btx x)] w (HeadRes (headR x) w):=by
 have hR:=heap_alloc_new w (.cells #[.int .i64 0,.int .i64 0,.int .i64 0,.bool false,.int .i64 0,.int .i64 0,.slice none 0 0,.slice none 0 0,.slice none 0 0,.slice none 0 0] 63)
 have hb0:=below_alloc w (.cells #[.int .i64 0,.int .i64 0,.int .i64 0,.bool false,.int .i64 0,.int .i64 0,.slice none 0 0,.slice none 0 0,.slice none 0 0,.slice none 0 0] 63)
 go_enter Tryz.func273,Tryz.ntmps273
 go_wp2_with fail
 refine (split8_any x [58,61] _ hl (by decide)).mono ?_
 obtain ⟨o1,ho1⟩:∃ o,splitO x [58,61]=o:=⟨_,rfl⟩
 rw [splR,ho1]
 rintro e w1 ⟨rfl,hb1⟩
 replace hR:=box_keep hR hb1
 have hW:=bt hb0 hb1
 clear hb1 hb0
 cases o1 with
 | some lr =>
   obtain ⟨l,r⟩:=lr
   have hlr:=splitR_len x [58,61]
   rw [splR,ho1] at hlr
   have HH:=Lib.hid (show headR x=(assK l r,assA l,assA r,zeroF,([],[])) by rw [headR,ho1])
   clear ho1
   go_wp2_with fail
   refine (assignS_any l r _ (Nat.le_trans hlr.1 hl) (Nat.le_trans hlr.2 hl)).mono ?_
   rintro e w2 ⟨rfl,hb2⟩
   replace hR:=box_keep hR hb2
   replace hW:=bt hW hb2
   clear hb2 hlr
   have r0:=cell_of_row _ _ 0 _ _ _ hR
   have r1:=cell_of_row _ _ 1 _ _ _ hR
   have r2:=cell_of_row _ _ 2 _ _ _ hR
   have r3:=cell_of_row _ _ 3 _ _ _ hR
   have r4:=cell_of_row _ _ 4 _ _ _ hR
   have r5:=cell_of_row _ _ 5 _ _ _ hR
   have r6:=cell_of_row _ _ 6 _ _ _ hR
   have r7:=cell_of_row _ _ 7 _ _ _ hR
   have r8:=cell_of_row _ _ 8 _ _ _ hR
   have r9:=cell_of_row _ _ 9 _ _ _ hR
   have z0:=frozen_of_row _ _ 0 _ _ hR
   have z1:=frozen_of_row _ _ 1 _ _ hR
   have z2:=frozen_of_row _ _ 2 _ _ hR
   have z3:=frozen_of_row _ _ 3 _ _ hR
   have z4:=frozen_of_row _ _ 4 _ _ hR
   have z5:=frozen_of_row _ _ 5 _ _ hR
   have z6:=frozen_of_row _ _ 6 _ _ hR
   have z7:=frozen_of_row _ _ 7 _ _ hR
   have z8:=frozen_of_row _ _ 8 _ _ hR
   have z9:=frozen_of_row _ _ 9 _ _ hR
   have hzz:=box_lt hR
   have HB:=Lib.hid (hW.trans ((fr_ten w2 w.heap.size (.int .i64 (assK l r)) (.int .i64 (assA l)) (.int .i64 (assA r)) (.bool false) (.int .i64 0) (.int .i64 0) (.slice none 0 0) (.slice none 0 0) (.slice none 0 0) (.slice none 0 0)).below (B:=w.heap.size) hW.size fun i hi e=>by omega))
   clear hR hW
   go_wp2
   refine bodyPost_ret (v:=.agg #[.int .i64 (assK l r),.int .i64 (assA l),.int .i64 (assA r),.bool false,.int .i64 0,.int .i64 0,.slice none 0 0,.slice none 0 0,.slice none 0 0,.slice none 0 0]) (by simp [results,Tryz.results273,go_sem,r0,r1,r2,r3,r4,r5,r6,r7,r8,r9]) rfl ?_
   exact HeadRes.plain (assK l r) (assA l) (assA r) zeroF HH.out HB.out
 | none =>
   have hlen:=splitR_len x [32]
   obtain ⟨word,hword⟩:∃ y,(splR x [32]).1=y:=⟨_,rfl⟩
   obtain ⟨rst,hrst⟩:∃ y,(splR x [32]).2=y:=⟨_,rfl⟩
   have hh:headR x=if word=[110,101,119] then (4,termD rst,0,zeroF,([],[])) else if word=[102,114,101,101] then (5,termD rst,0,zeroF,([],[])) else if word=[105,102] then (6,0,0,(factO rst).getD zeroF,([],[])) else (7,0,0,(factO (splR rst [32,119,105,116,104,32]).1).getD zeroF,asnR (splR rst [32,119,105,116,104,32]).2):=by
    rw [headR,ho1];simp only [hword,hrst]
   rw [hrst] at hlen
   have hrl:rst.length≤1048576:=Nat.le_trans hlen.2 hl
   have HH:=Lib.hid hh
   have HWD:=Lib.hid (And.intro hword hrst)
   clear ho1 hh hword hrst hlen
   go_wp2_with fail
   refine (split8_any x [32] _ hl (by decide)).mono ?_
   rw [HWD.out.1,HWD.out.2]
   rintro e w2 ⟨rfl,hb2⟩
   replace hR:=box_keep hR hb2
   replace hW:=bt hW hb2
   clear hb2
   go_wp2_with fail
   refine (parseTermS_any rst _).mono ?_
   rintro e w3 ⟨rfl,rfl⟩
   by_cases h1:word=[110,101,119]
   · have j_h1:((btx word).toList == (btx [110,101,119]).toList)=true:=by rw [btx_leq];exact decide_eq_true h1
     have HF:=Lib.hid (HH.out.trans (by rw [if_pos h1]))
     clear h1
     have r0:=cell_of_row _ _ 0 _ _ _ hR
     have r1:=cell_of_row _ _ 1 _ _ _ hR
     have r2:=cell_of_row _ _ 2 _ _ _ hR
     have r3:=cell_of_row _ _ 3 _ _ _ hR
     have r4:=cell_of_row _ _ 4 _ _ _ hR
     have r5:=cell_of_row _ _ 5 _ _ _ hR
     have r6:=cell_of_row _ _ 6 _ _ _ hR
     have r7:=cell_of_row _ _ 7 _ _ _ hR
     have r8:=cell_of_row _ _ 8 _ _ _ hR
     have r9:=cell_of_row _ _ 9 _ _ _ hR
     have z0:=frozen_of_row _ _ 0 _ _ hR
     have z1:=frozen_of_row _ _ 1 _ _ hR
     have z2:=frozen_of_row _ _ 2 _ _ hR
     have z3:=frozen_of_row _ _ 3 _ _ hR
     have z4:=frozen_of_row _ _ 4 _ _ hR
     have z5:=frozen_of_row _ _ 5 _ _ hR
     have z6:=frozen_of_row _ _ 6 _ _ hR
     have z7:=frozen_of_row _ _ 7 _ _ hR
     have z8:=frozen_of_row _ _ 8 _ _ hR
     have z9:=frozen_of_row _ _ 9 _ _ hR
     have hzz:=box_lt hR
     have HB:=Lib.hid (hW.trans ((fr_ten w2 w.heap.size (.int .i64 4) (.int .i64 ((termO rst).getD 0)) (.int .i64 0) (.bool false) (.int .i64 0) (.int .i64 0) (.slice none 0 0) (.slice none 0 0) (.slice none 0 0) (.slice none 0 0)).below (B:=w.heap.size) hW.size fun i hi e=>by omega))
     clear hR hW
     go_wp2
     refine bodyPost_ret (v:=.agg #[.int .i64 4,.int .i64 ((termO rst).getD 0),.int .i64 0,.bool false,.int .i64 0,.int .i64 0,.slice none 0 0,.slice none 0 0,.slice none 0 0,.slice none 0 0]) (by simp [results,Tryz.results273,go_sem,r0,r1,r2,r3,r4,r5,r6,r7,r8,r9]) rfl ?_
     exact HeadRes.plain 4 (termD rst) 0 zeroF HF.out HB.out
   by_cases h2:word=[102,114,101,101]
   · have j_h1:((btx word).toList == (btx [110,101,119]).toList)=false:=by rw [btx_leq];exact decide_eq_false h1
     have j_h2:((btx word).toList == (btx [102,114,101,101]).toList)=true:=by rw [btx_leq];exact decide_eq_true h2
     have HF:=Lib.hid (HH.out.trans (by rw [if_neg h1,if_pos h2]))
     clear h1 h2
     have r0:=cell_of_row _ _ 0 _ _ _ hR
     have r1:=cell_of_row _ _ 1 _ _ _ hR
     have r2:=cell_of_row _ _ 2 _ _ _ hR
     have r3:=cell_of_row _ _ 3 _ _ _ hR
     have r4:=cell_of_row _ _ 4 _ _ _ hR
     have r5:=cell_of_row _ _ 5 _ _ _ hR
     have r6:=cell_of_row _ _ 6 _ _ _ hR
     have r7:=cell_of_row _ _ 7 _ _ _ hR
     have r8:=cell_of_row _ _ 8 _ _ _ hR
     have r9:=cell_of_row _ _ 9 _ _ _ hR
     have z0:=frozen_of_row _ _ 0 _ _ hR
     have z1:=frozen_of_row _ _ 1 _ _ hR
     have z2:=frozen_of_row _ _ 2 _ _ hR
     have z3:=frozen_of_row _ _ 3 _ _ hR
     have z4:=frozen_of_row _ _ 4 _ _ hR
     have z5:=frozen_of_row _ _ 5 _ _ hR
     have z6:=frozen_of_row _ _ 6 _ _ hR
     have z7:=frozen_of_row _ _ 7 _ _ hR
     have z8:=frozen_of_row _ _ 8 _ _ hR
     have z9:=frozen_of_row _ _ 9 _ _ hR
     have hzz:=box_lt hR
     have HB:=Lib.hid (hW.trans ((fr_ten w2 w.heap.size (.int .i64 5) (.int .i64 ((termO rst).getD 0)) (.int .i64 0) (.bool false) (.int .i64 0) (.int .i64 0) (.slice none 0 0) (.slice none 0 0) (.slice none 0 0) (.slice none 0 0)).below (B:=w.heap.size) hW.size fun i hi e=>by omega))
     clear hR hW
     go_wp2
     refine bodyPost_ret (v:=.agg #[.int .i64 5,.int .i64 ((termO rst).getD 0),.int .i64 0,.bool false,.int .i64 0,.int .i64 0,.slice none 0 0,.slice none 0 0,.slice none 0 0,.slice none 0 0]) (by simp [results,Tryz.results273,go_sem,r0,r1,r2,r3,r4,r5,r6,r7,r8,r9]) rfl ?_
     exact HeadRes.plain 5 (termD rst) 0 zeroF HF.out HB.out
   by_cases h3:word=[105,102]
   · have j_h1:((btx word).toList == (btx [110,101,119]).toList)=false:=by rw [btx_leq];exact decide_eq_false h1
     have j_h2:((btx word).toList == (btx [102,114,101,101]).toList)=false:=by rw [btx_leq];exact decide_eq_false h2
     have j_h3:((btx word).toList == (btx [105,102]).toList)=true:=by rw [btx_leq];exact decide_eq_true h3
     have HF:=Lib.hid (HH.out.trans (by rw [if_neg h1,if_neg h2,if_pos h3]))
     clear h1 h2 h3
     go_wp2_with fail
     refine (parseFactS_any rst _ hrl).mono ?_
     obtain ⟨f,hf⟩:∃ f,(factO rst).getD zeroF=f:=⟨_,rfl⟩
     rw [hf]
     rintro e w5 ⟨rfl,hb5⟩
     replace hR:=box_keep hR (bt hb5 (below_alloc w5 (.cells #[.bool f.1,.int .i64 f.2.1,.int .i64 f.2.2] 61)))
     replace hW:=bt hW (bt hb5 (below_alloc w5 (.cells #[.bool f.1,.int .i64 f.2.1,.int .i64 f.2.2] 61)))
     have hBF:=heap_alloc_new w5 (.cells #[.bool f.1,.int .i64 f.2.1,.int .i64 f.2.2] 61)
     have hF2:=Lib.hid (HF.out.trans (by rw [hf]))
     clear hf hb5
     go_upto_region 13 with fail
     generalize w5.alloc (.cells #[.bool f.1,.int .i64 f.2.1,.int .i64 f.2.2] 61)=wF at hR hW hBF ⊢
     have c0:=cell_of_row _ _ 0 _ _ _ hBF
     have c1:=cell_of_row _ _ 1 _ _ _ hBF
     have c2:=cell_of_row _ _ 2 _ _ _ hBF
     have hFl:=box_lt hBF
     have r0:=cell_of_row _ _ 0 _ _ _ hR
     have r1:=cell_of_row _ _ 1 _ _ _ hR
     have r2:=cell_of_row _ _ 2 _ _ _ hR
     have r3:=cell_of_row _ _ 3 _ _ _ hR
     have r4:=cell_of_row _ _ 4 _ _ _ hR
     have r5:=cell_of_row _ _ 5 _ _ _ hR
     have r6:=cell_of_row _ _ 6 _ _ _ hR
     have r7:=cell_of_row _ _ 7 _ _ _ hR
     have r8:=cell_of_row _ _ 8 _ _ _ hR
     have r9:=cell_of_row _ _ 9 _ _ _ hR
     have z0:=frozen_of_row _ _ 0 _ _ hR
     have z1:=frozen_of_row _ _ 1 _ _ hR
     have z2:=frozen_of_row _ _ 2 _ _ hR
     have z3:=frozen_of_row _ _ 3 _ _ hR
     have z4:=frozen_of_row _ _ 4 _ _ hR
     have z5:=frozen_of_row _ _ 5 _ _ hR
     have z6:=frozen_of_row _ _ 6 _ _ hR
     have z7:=frozen_of_row _ _ 7 _ _ hR
     have z8:=frozen_of_row _ _ 8 _ _ hR
     have z9:=frozen_of_row _ _ 9 _ _ hR
     have hzz:=box_lt hR
     have HB:=Lib.hid (hW.trans ((fr_ten wF w.heap.size (.int .i64 6) (.int .i64 0) (.int .i64 0) (.bool f.1) (.int .i64 f.2.1) (.int .i64 f.2.2) (.slice none 0 0) (.slice none 0 0) (.slice none 0 0) (.slice none 0 0)).below (B:=w.heap.size) hW.size fun i hi e=>by omega))
     clear hR hW hBF
     go_wp2
     refine bodyPost_ret (v:=.agg #[.int .i64 6,.int .i64 0,.int .i64 0,.bool f.1,.int .i64 f.2.1,.int .i64 f.2.2,.slice none 0 0,.slice none 0 0,.slice none 0 0,.slice none 0 0]) (by simp [results,Tryz.results273,go_sem,r0,r1,r2,r3,r4,r5,r6,r7,r8,r9]) rfl ?_
     exact HeadRes.plain 6 0 0 f hF2.out HB.out
   have HF:=Lib.hid (HH.out.trans (by rw [if_neg h1,if_neg h2,if_neg h3]))
   have j1b:((btx word).toList == (btx [110,101,119]).toList)=false:=by rw [btx_leq];exact decide_eq_false h1
   have j2b:((btx word).toList == (btx [102,114,101,101]).toList)=false:=by rw [btx_leq];exact decide_eq_false h2
   have j3b:((btx word).toList == (btx [105,102]).toList)=false:=by rw [btx_leq];exact decide_eq_false h3
   have hlen:=splitR_len rst [32,119,105,116,104,32]
   obtain ⟨tx,htx⟩:∃ y,(splR rst [32,119,105,116,104,32]).1=y:=⟨_,rfl⟩
   obtain ⟨ix,hix⟩:∃ y,(splR rst [32,119,105,116,104,32]).2=y:=⟨_,rfl⟩
   rw [htx,hix] at hlen
   have HTI:=Lib.hid (And.intro htx hix)
   clear h1 h2 h3 htx hix
   go_wp2_with fail
   refine (split8_any rst [32,119,105,116,104,32] _ hrl (by decide)).mono ?_
   rw [HTI.out.1,HTI.out.2]
   rintro e w4 ⟨rfl,hb4⟩
   replace hR:=box_keep hR hb4
   replace hW:=bt hW hb4
   clear hb4
   go_wp2_with fail
   refine (parseFactS_any tx _ (Nat.le_trans hlen.1 hrl)).mono ?_
   obtain ⟨f,hf⟩:∃ f,(factO tx).getD zeroF=f:=⟨_,rfl⟩
   rw [hf]
   rintro e w5 ⟨rfl,hb5⟩
   replace hR:=box_keep hR hb5
   replace hW:=bt hW hb5
   have hBF:=heap_alloc_new w5 (.cells #[.bool f.1,.int .i64 f.2.1,.int .i64 f.2.2] 61)
   have HFF:=Lib.hid hf
   have HW5:=Lib.hid (box_lt hR)
   clear hb5 hf
   go_wp2_with fail
   refine (parseAsnS_any ix _ (Nat.le_trans hlen.2 hrl)).mono ?_
   rintro e w6 ⟨y1,y2,rfl,⟨hy1,hy2⟩,hb6⟩
   replace hBF:=box_keep hBF hb6
   have hbb:=bt (below_alloc w5 (.cells #[.bool f.1,.int .i64 f.2.1,.int .i64 f.2.2] 61)) hb6
   replace hR:=box_keep hR hbb
   replace hW:=bt hW hbb
   have hy5:w5.heap.size+1≤w6.heap.size:=by have:=hb6.size;rw [World.size_alloc] at this;exact this
   have hz5:=box_lt (box_keep hR (Below.refl _ _))
   rw [World.size_alloc] at hy1 hy2
   have hw5:w.heap.size+1≤w5.heap.size:=HW5.out
   obtain ⟨s1,s2,s3,rfl⟩:=hy1.forms
   obtain ⟨s4,s5,s6,rfl⟩:=hy2.forms
   go_upto_region 17 with fail
   have hBA:=heap_alloc_new w6 (.cells #[.slice s1 s2 s3,.slice s4 s5 s6] 26)
   have hbA:=below_alloc w6 (.cells #[.slice s1 s2 s3,.slice s4 s5 s6] 26)
   generalize w6.alloc (.cells #[.slice s1 s2 s3,.slice s4 s5 s6] 26)=wF at hBA hbA ⊢
   replace hR:=box_keep hR hbA
   replace hW:=bt hW hbA
   replace hBF:=box_keep hBF hbA
   have d0:=cell_of_row _ _ 0 _ _ _ hBF
   have d1:=cell_of_row _ _ 1 _ _ _ hBF
   have d2:=cell_of_row _ _ 2 _ _ _ hBF
   have a0:=box0 hBA
   have a1:=box1 hBA
   have hAl:=box_lt hBA
   have hFl:=box_lt hBF
   have r0:=cell_of_row _ _ 0 _ _ _ hR
   have r1:=cell_of_row _ _ 1 _ _ _ hR
   have r2:=cell_of_row _ _ 2 _ _ _ hR
   have r3:=cell_of_row _ _ 3 _ _ _ hR
   have r4:=cell_of_row _ _ 4 _ _ _ hR
   have r5:=cell_of_row _ _ 5 _ _ _ hR
   have r6:=cell_of_row _ _ 6 _ _ _ hR
   have r7:=cell_of_row _ _ 7 _ _ _ hR
   have r8:=cell_of_row _ _ 8 _ _ _ hR
   have r9:=cell_of_row _ _ 9 _ _ _ hR
   have z0:=frozen_of_row _ _ 0 _ _ hR
   have z1:=frozen_of_row _ _ 1 _ _ hR
   have z2:=frozen_of_row _ _ 2 _ _ hR
   have z3:=frozen_of_row _ _ 3 _ _ hR
   have z4:=frozen_of_row _ _ 4 _ _ hR
   have z5:=frozen_of_row _ _ 5 _ _ hR
   have z6:=frozen_of_row _ _ 6 _ _ hR
   have z7:=frozen_of_row _ _ 7 _ _ hR
   have z8:=frozen_of_row _ _ 8 _ _ hR
   have z9:=frozen_of_row _ _ 9 _ _ hR
   have hzz:=box_lt hR
   have hFR:=fr_ten wF w.heap.size (.int .i64 7) (.int .i64 0) (.int .i64 0) (.bool f.1) (.int .i64 f.2.1) (.int .i64 f.2.2) (.slice s1 s2 s3) (.slice s4 s5 s6) (.slice none 0 0) (.slice none 0 0)
   have HB:=Lib.hid (And.intro ((hy1.keep hbA).kept hFR (fun k hk e=>by have h1:=hk.1;omega)) (And.intro ((hy2.keep hbA).kept hFR (fun k hk e=>by have h1:=hk.1;omega)) (hW.trans (hFR.below (B:=w.heap.size) hW.size fun i hi e=>by omega))))
   clear hR hW hBF hBA hbA hbb hb6 hFR hy1 hy2
   go_wp2
   refine bodyPost_ret (v:=.agg #[.int .i64 7,.int .i64 0,.int .i64 0,.bool f.1,.int .i64 f.2.1,.int .i64 f.2.2,.slice s1 s2 s3,.slice s4 s5 s6,.slice none 0 0,.slice none 0 0]) (by simp [results,Tryz.results273,go_sem,r0,r1,r2,r3,r4,r5,r6,r7,r8,r9]) rfl ?_
   refine ⟨.slice s1 s2 s3,.slice s4 s5 s6,?_,⟨?_,?_⟩,HB.out.2.2⟩
   · rw [HF.out];simp only [HTI.out.1,HFF.out]
   · rw [HF.out];simp only [HTI.out.2];exact HB.out.1.mono (by omega)
   · rw [HF.out];simp only [HTI.out.2];exact HB.out.2.1.mono (by omega)
end Go.Proofs.YtkbbmjcfgcfejaaGreat
