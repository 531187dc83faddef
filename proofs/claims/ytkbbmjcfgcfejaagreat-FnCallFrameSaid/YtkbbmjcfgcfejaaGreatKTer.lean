/- Walks: the texts of terms, facts and atoms (reference). -/
import Derived.Test.YtkbbmjcfgcfejaaGreatKBtxA
import Derived.Test.YtkbbmjcfgcfejaaGreatKData1
import Derived.Handy
import Derived.Deep.DeepMust
set_option linter.unusedVariables false
set_option linter.unusedSimpArgs false
namespace Go.Proofs.YtkbbmjcfgcfejaaGreat
open Go.RowKit
def letters:List UInt8:=[97,98,99,100,112,113,114,115]
def termT (t:Int):List UInt8:=if t=0 then [110,105,108] else if 1≤t∧t≤8 then [gd letters (t.toNat - 1)] else []
theorem termT_len (t:Int):(termT t).length≤3:=by
 rw [termT];split
 · simp
 · split <;> simp
def termO (x:List UInt8):Option Int:=((List.range 9).find? fun (k:Nat)=>decide (termT (k:Int)=x)).map fun (k:Nat)=>(k:Int)
theorem termO_hit {x:List UInt8} {k:Nat} (h8:k≤8) (hx:termT (k:Int)=x):termO x=some (k:Int):=by
 subst hx
 have:∀ k≤8,termO (termT ((k:Nat):Int))=some ((k:Nat):Int):=by decide
 exact this k h8
theorem termO_none {x:List UInt8} (h:∀ k:Nat,k≤8→termT (k:Int) ≠ x):termO x=none:=by
 rw [termO,List.find?_eq_none.2 fun k hk=>by
  rw [List.mem_range] at hk
  simp [h k (by omega)]]
 rfl
theorem let_cut {k:Nat} (h:k < 8):(⟨#[97,98,99,100,112,113,114,115]⟩:ByteArray).extract k (k+1)=btx (termT ((k:Int)+1)):=by
 have:∀ k < 8,((⟨#[97,98,99,100,112,113,114,115]⟩:ByteArray).extract k (k+1)).data=(btx (termT (((k:Nat):Int)+1))).data:=by decide
 exact ByteArray.ext (this k h)
set_option maxRecDepth 100000 in
set_option maxHeartbeats 1600000 in
theorem termNameS_any (t:Int) (w:World) :
 Calls Tryz.prog 290 #[.int .i64 t] w fun e w'=>e=.returned (.string (btx (termT t)))∧w=w':=by
 cases ht:isTermB t with
 | false =>
   have hn:¬ (0≤t∧t≤8):=fun h=>by rw [isTermB_iff.2 h] at ht;cases ht
   have HT:=Lib.hid (And.intro (show termT t=[] by rw [termT,if_neg (by omega),if_neg (by omega)]) ht)
   clear hn ht
   go_enter Tryz.func290,Tryz.ntmps290
   go_wp2_with fail
   refine (cb (l1Is_any t _) HT.out.2).mono ?_
   rintro e w' ⟨rfl,rfl⟩
   go_wp2
   go_ret
   exact ⟨by rw [HT.out.1];rfl,rfl⟩
 | true =>
   have hr:=isTermB_iff.1 ht
   have HT:=Lib.hid ht
   clear ht
   by_cases h0:t=0
   · subst h0
     go_enter Tryz.func290,Tryz.ntmps290
     go_wp2_with fail
     refine (cb (l1Is_any 0 _) HT.out).mono ?_
     rintro e w' ⟨rfl,rfl⟩
     go_wp2
     go_ret
     exact ⟨rfl,rfl⟩
   · obtain ⟨k,hk⟩:∃ k:Nat,t=(k:Int)+1:=⟨t.toNat - 1,by omega⟩
     subst hk
     have hk8:k < 8:=by omega
     have i0:((k:Int)+1 == 0)=false:=beq_eq_false_iff_ne.2 (by omega)
     have HL:=Lib.hid (let_cut hk8)
     have e1:((k:Int)+1 - 1).toNat=k:=by omega
     have e2:((k:Int)+1).toNat=k+1:=by omega
     have b1:(0:Int)≤(k:Int):=by omega
     have b2:(k:Int)+1≤8:=by omega
     clear h0 hr
     go_enter Tryz.func290,Tryz.ntmps290
     go_wp2_with fail
     refine (cb (l1Is_any _ _) HT.out).mono ?_
     rintro e w' ⟨rfl,rfl⟩
     go_wp2
     go_ret
     exact ⟨by rw [← HL.out];rfl,rfl⟩
set_option maxRecDepth 100000 in
set_option maxHeartbeats 1600000 in
theorem parseTermS_any (x:List UInt8) (w:World) :
 Calls Tryz.prog 271 #[.string (btx x)] w fun e w'=>e=.returned (.tuple #[.int .i64 ((termO x).getD 0),.bool (termO x).isSome])∧w=w':=by
 go_enter Tryz.func271,Tryz.ntmps271
 go_wp2
 go_loopg [4] 9 (fun q i wr=>∃ k:Nat,k+q=9∧i=.int .i64 k∧(∀ j:Nat,j < k→termT (j:Int) ≠ x)∧wr=w)
 case atStart=>exact ⟨0,by omega,rfl,fun j hj=>absurd hj (Nat.not_lt_zero j),rfl⟩
 case round =>
  obtain ⟨k,hk,rfl,hne,rfl⟩:=hrel
  have HK:=Lib.hid hk
  have HN:=Lib.hid hne
  clear hk hne
  by_cases hk8:k < 9
  · have i1:(k:Int)≤8:=by omega
    by_cases hx:termT (k:Int)=x
    · have j1:((btx (termT (k:Int))).toList == (btx x).toList)=true:=by rw [btx_leq];exact decide_eq_true hx
      have HX:=Lib.hid (termO_hit (by omega) hx)
      clear hx
      go_wp2_with fail
      refine (termNameS_any (k:Int) _).mono ?_
      rintro e w' ⟨rfl,rfl⟩
      go_wp2
      refine bodyPost_ret (v:=.tuple #[.int .i64 (k:Int),.bool true]) (by simp [results,Tryz.results271,go_sem]) rfl ?_
      exact ⟨by rw [HX.out];rfl,rfl⟩
    · have j1b:((btx (termT (k:Int))).toList == (btx x).toList)=false:=by rw [btx_leq];exact decide_eq_false hx
      have HX:=Lib.hid hx
      clear hx
      go_wp2_with fail
      refine (termNameS_any (k:Int) _).mono ?_
      rintro e w' ⟨rfl,rfl⟩
      go_wp2
      go_roundg (gk - 1)
      case rel=>exact ⟨k+1,by have:=HK.out;omega,by go_num,fun j hj=>by
       by_cases e:j=k
       · rw [e];exact HX.out
       · exact HN.out j (by omega),rfl⟩
      case measure=>have:=HK.out;omega
  · have i1:¬ (k:Int)≤8:=by omega
    have HX:=Lib.hid (termO_none (x:=x) fun j hj=>HN.out j (by omega))
    go_wp2
    refine bodyPost_ret (v:=.tuple #[.int .i64 0,.bool false]) (by simp [results,Tryz.results271,go_sem]) rfl ?_
    exact ⟨by rw [HX.out];rfl,rfl⟩
def factX (f:Fact):List UInt8:=termT f.2.1 ++ ((if f.1=true then [61] else [33,61]) ++ termT f.2.2)
attribute [local go_sem] btx_app
theorem btx_61:(⟨#[61]⟩:ByteArray)=btx [61]:=rfl
theorem btx_3361:(⟨#[33,61]⟩:ByteArray)=btx [33,61]:=rfl
attribute [local go_sem] btx_61 btx_3361
set_option maxRecDepth 100000 in
set_option maxHeartbeats 1600000 in
theorem l1TextS_any (f:Fact) (w:World) :
 Calls Tryz.prog 291 #[.agg #[.bool f.1,.int .i64 f.2.1,.int .i64 f.2.2]] w fun e w'=>e=.returned (.string (btx (factX f)))∧Below w.heap.size w w':=by
 obtain ⟨q,a,b⟩:=f
 simp only
 have hxl:=termT_len a
 have hyl:=termT_len b
 obtain ⟨m,hm⟩:∃ m,(termT a).length=m:=⟨_,rfl⟩
 obtain ⟨n,hn⟩:∃ n,(termT b).length=n:=⟨_,rfl⟩
 rw [hm] at hxl
 rw [hn] at hyl
 have s1:(btx (termT a)).size=m:=hm
 have s2:(btx (termT b)).size=n:=hn
 have s3:(btx [61]).size=1:=rfl
 have s4:(btx [33,61]).size=2:=rfl
 have s5:(btx (termT a ++ [61])).size=m+1:=by rw [btx_size,List.length_append,hm];rfl
 have s6:(btx (termT a ++ [33,61])).size=m+2:=by rw [btx_size,List.length_append,hm];rfl
 have l1:(9223372036854775807 < m+1)=False:=by simp;omega
 have l2:(9223372036854775807 < m+2)=False:=by simp;omega
 have l3:(9223372036854775807 < m+1+n)=False:=by simp;omega
 have l4:(9223372036854775807 < m+2+n)=False:=by simp;omega
 clear hm hn
 cases q with
 | true =>
   go_enter Tryz.func291,Tryz.ntmps291
   go_wp2
   refine wp_region_ext (by kernel_rfl) (by kernel_rfl) ?_
   repeat (go_big_quiet_step ((go_at_call 290;exact ext_same (termNameS_any _ _))))
   refine wpQuiet_nil ?_
   intro w2 hb2
   go_wp2
   go_ret
   exact ⟨congrArg (fun z=>Ending.returned (.string (btx z))) (by rw [factX];simp),bt (below_alloc _ _) hb2⟩
 | false =>
   go_enter Tryz.func291,Tryz.ntmps291
   go_wp2
   refine wp_region_ext (by kernel_rfl) (by kernel_rfl) ?_
   repeat (go_big_quiet_step ((go_at_call 290;exact ext_same (termNameS_any _ _))))
   refine wpQuiet_nil ?_
   intro w2 hb2
   go_wp2
   go_ret
   exact ⟨congrArg (fun z=>Ending.returned (.string (btx z))) (by rw [factX];simp),bt (below_alloc _ _) hb2⟩
theorem ix_hit {p:UInt8→Bool}:∀ {x:List UInt8} {k:Nat},k < x.length→(∀ j,j < k→p (gd x j)=false)→p (gd x k)=true→x.findIdx? p=some k
 | b :: r,0,_,_,h=>by
   have h':p b=true:=h
   rw [List.findIdx?_cons,h'];rfl
 | b :: r,k+1,hk,hn,h=>by
   have h0:p b=false:=hn 0 (Nat.succ_pos k)
   have:=ix_hit (p:=p) (x:=r) (k:=k) (by simpa using hk) (fun j hj=>hn (j+1) (by omega)) h
   rw [List.findIdx?_cons,h0,this];rfl
theorem ix_none {p:UInt8→Bool} {x:List UInt8} (h:∀ j,j < x.length→p (gd x j)=false):x.findIdx? p=none:=by
 rw [List.findIdx?_eq_none_iff]
 intro b hb
 obtain ⟨i,hi,rfl⟩:=List.getElem_of_mem hb
 have:=h i hi
 rwa [gd_of hi] at this
theorem piece_take (x:List UInt8) (k:Nat):piece x 0 k=x.take k:=by rw [piece,List.drop_zero]
theorem piece_drop {x:List UInt8} {k n:Nat} (h:x.length=n):piece x k n=x.drop k:=by rw [piece,← h,List.take_length]
def factO (x:List UInt8):Option Fact :=
 if x.length≤9 then (x.findIdx? (· == 61)).bind fun i =>
  (termO (x.take (if (decide (0 < i) && gd x (i - 1) == 33)=true then i - 1 else i))).bind fun a=>(termO (x.drop (i+1))).map fun b=>(!(decide (0 < i) && gd x (i - 1) == 33),a,b)
 else none
theorem factO_hit {x:List UInt8} {k:Nat} (h9:x.length≤9) (hk:k < x.length) (hn:∀ j,j < k→gd x j ≠ 61) (h:gd x k=61) {c:Bool} (hc:(decide (0 < k) && gd x (k - 1) == 33)=c) :
 factO x=(termO (x.take (if c=true then k - 1 else k))).bind fun a=>(termO (x.drop (k+1))).map fun b=>(!c,a,b):=by
 rw [factO,if_pos h9,ix_hit hk (fun j hj=>by simpa using hn j hj) (by simpa using h),Option.bind_some,hc]
theorem factO_none {x:List UInt8} (hn:∀ j,j < x.length→gd x j ≠ 61):factO x=none:=by
 rw [factO,ix_none (fun j hj=>by simpa using hn j hj)]
 split <;> rfl
def zeroF:Fact:=(false,0,0)
attribute [local go_sem] btx_extract
set_option maxRecDepth 100000 in
set_option maxHeartbeats 6400000 in
theorem parseFactS_any (x:List UInt8) (w:World) (hl:x.length≤1048576) :
 Calls Tryz.prog 241 #[.string (btx x)] w fun e w'=>e=.returned (.tuple #[.agg #[.bool ((factO x).getD zeroF).1,.int .i64 ((factO x).getD zeroF).2.1,.int .i64 ((factO x).getD zeroF).2.2],.bool (factO x).isSome])∧Below w.heap.size w w':=by
 obtain ⟨n,hn⟩:∃ n,x.length=n:=⟨_,rfl⟩
 have hsz:(btx x).size=n:=hn
 rw [hn] at hl
 have HN:=Lib.hid hn
 clear hn
 by_cases h9:n≤9
 rotate_left
 · have i9:decide ((n:Int)≤9)=false:=by simp;omega
   have n0:(0:Int) < (n:Int):=by omega
   have HF:=Lib.hid (show factO x=none by rw [factO,if_neg (by rw [HN.out];exact h9)])
   clear h9
   go_enter Tryz.func241,Tryz.ntmps241
   go_wp2
   go_loopg [4] 1 (fun q i wr=>i=.int .i64 0∧wr=w.alloc (.cells #[.bool false,.int .i64 0,.int .i64 0] 61))
   case atStart=>exact ⟨rfl,rfl⟩
   case round =>
    obtain ⟨rfl,rfl⟩:=hrel
    go_wp2
    refine bodyPost_ret (v:=.tuple #[.agg #[.bool false,.int .i64 0,.int .i64 0],.bool false]) (by simp [results,Tryz.results241,go_sem]) rfl ?_
    exact ⟨by rw [HF.out];rfl,Bl⟩
 have i9:decide ((n:Int)≤9)=true:=by simp;omega
 go_enter Tryz.func241,Tryz.ntmps241
 go_wp2
 go_loopg [4] n (fun q i wr=>∃ k:Nat,k+q=n∧i=.int .i64 k∧(∀ j:Nat,j < k→gd x j ≠ 61)∧wr=w.alloc (.cells #[.bool false,.int .i64 0,.int .i64 0] 61))
 case atStart=>exact ⟨0,by omega,rfl,fun j hj=>absurd hj (Nat.not_lt_zero j),rfl⟩
 case round =>
  obtain ⟨k,hk,rfl,hne,rfl⟩:=hrel
  have HK:=Lib.hid hk
  have HE:=Lib.hid hne
  clear hk hne
  by_cases hk8:k < n
  · have i1:(k:Int) < (n:Int):=by omega
    have hkt:k < (btx x).size:=by rw [hsz];exact hk8
    have hget:(btx x)[k]=gd x k:=by rw [gd_of (show k < x.length from hkt)];rfl
    by_cases hc:gd x k=61
    · have i4:(((btx x)[k].toNat:Int) != 61)=false:=by rw [hget,hc];rfl
      have hb1:(k:Int)+1≤(n:Int):=by omega
      have hb2:(k:Int)≤(n:Int):=by omega
      by_cases hk0:k=0
      · subst hk0
        have hcc:(decide (0 < 0) && gd x (0 - 1) == 33)=false:=rfl
        obtain ⟨r1,h1⟩:∃ r,termO (piece x 0 (0))=r:=⟨_,rfl⟩
        obtain ⟨r2,h2⟩:∃ r,termO (piece x (0+1) n)=r:=⟨_,rfl⟩
        have hfin:factO x=r1.bind fun a=>r2.map fun b=>(!false,a,b):=by
         rw [factO_hit (by rw [HN.out];exact h9) (by rw [HN.out];exact hk8) HE.out hc hcc,← h1,← h2,piece_take,piece_drop HN.out];rfl
        have H12:=Lib.hid (And.intro h1 h2)
        have HFIN:=Lib.hid hfin
        clear h1 h2 hfin hget hc hcc HE
        cases r1 with
        | none =>
          go_wp2_with fail
          refine (parseTermS_any (piece x 0 (0)) _).mono ?_
          rw [H12.out.1]
          rintro e w' ⟨rfl,rfl⟩
          go_wp2_with fail
          refine (parseTermS_any (piece x (0+1) n) _).mono ?_
          rw [H12.out.2]
          rintro e w' ⟨rfl,rfl⟩
          go_wp2
          refine bodyPost_ret (v:=.tuple #[.agg #[.bool false,.int .i64 0,.int .i64 0],.bool false]) (by simp [results,Tryz.results241,go_sem]) rfl ?_
          exact ⟨by rw [HFIN.out];rfl,Bl⟩
        | some a =>
          cases r2 with
          | none =>
            go_wp2_with fail
            refine (parseTermS_any (piece x 0 (0)) _).mono ?_
            rw [H12.out.1]
            rintro e w' ⟨rfl,rfl⟩
            go_wp2_with fail
            refine (parseTermS_any (piece x (0+1) n) _).mono ?_
            rw [H12.out.2]
            rintro e w' ⟨rfl,rfl⟩
            go_wp2
            refine bodyPost_ret (v:=.tuple #[.agg #[.bool false,.int .i64 0,.int .i64 0],.bool false]) (by simp [results,Tryz.results241,go_sem]) rfl ?_
            exact ⟨by rw [HFIN.out];rfl,Bl⟩
          | some b =>
            go_wp2_with fail
            refine (parseTermS_any (piece x 0 (0)) _).mono ?_
            rw [H12.out.1]
            rintro e w' ⟨rfl,rfl⟩
            go_wp2_with fail
            refine (parseTermS_any (piece x (0+1) n) _).mono ?_
            rw [H12.out.2]
            rintro e w' ⟨rfl,rfl⟩
            go_wp2
            refine bodyPost_ret (v:=.tuple #[.agg #[.bool true,.int .i64 a,.int .i64 b],.bool true]) (by simp [results,Tryz.results241,go_sem]) rfl ?_
            exact ⟨by rw [HFIN.out];rfl,Bl⟩
      · have i7:decide (0 < (k:Int))=true:=by simp;omega
        have hb0:(0:Int)≤(k:Int) - 1:=by omega
        have hb3:(k:Int) - 1 < (n:Int):=by omega
        have hb4:(k:Int) - 1≤(n:Int):=by omega
        have e1:((k:Int) - 1).toNat=k - 1:=by omega
        have hkp:k - 1 < (btx x).size:=by rw [hsz];omega
        have hgp:(btx x)[k - 1]=gd x (k - 1):=by rw [gd_of (show k - 1 < x.length from hkp)];rfl
        by_cases hc3:gd x (k - 1)=33
        · have i8:(((btx x)[k - 1].toNat:Int) == 33)=true:=by rw [hgp,hc3];rfl
          have hcc:(decide (0 < k) && gd x (k - 1) == 33)=true:=by rw [hc3];simp;omega
          clear hc3 hgp
          obtain ⟨r1,h1⟩:∃ r,termO (piece x 0 (k - 1))=r:=⟨_,rfl⟩
          obtain ⟨r2,h2⟩:∃ r,termO (piece x (k+1) n)=r:=⟨_,rfl⟩
          have hfin:factO x=r1.bind fun a=>r2.map fun b=>(!true,a,b):=by
           rw [factO_hit (by rw [HN.out];exact h9) (by rw [HN.out];exact hk8) HE.out hc hcc,← h1,← h2,piece_take,piece_drop HN.out];rfl
          have H12:=Lib.hid (And.intro h1 h2)
          have HFIN:=Lib.hid hfin
          clear h1 h2 hfin hget hc hcc HE
          cases r1 with
          | none =>
            go_wp2_with fail
            refine (parseTermS_any (piece x 0 (k - 1)) _).mono ?_
            rw [H12.out.1]
            rintro e w' ⟨rfl,rfl⟩
            go_wp2_with fail
            refine (parseTermS_any (piece x (k+1) n) _).mono ?_
            rw [H12.out.2]
            rintro e w' ⟨rfl,rfl⟩
            go_wp2
            refine bodyPost_ret (v:=.tuple #[.agg #[.bool false,.int .i64 0,.int .i64 0],.bool false]) (by simp [results,Tryz.results241,go_sem]) rfl ?_
            exact ⟨by rw [HFIN.out];rfl,Bl⟩
          | some a =>
            cases r2 with
            | none =>
              go_wp2_with fail
              refine (parseTermS_any (piece x 0 (k - 1)) _).mono ?_
              rw [H12.out.1]
              rintro e w' ⟨rfl,rfl⟩
              go_wp2_with fail
              refine (parseTermS_any (piece x (k+1) n) _).mono ?_
              rw [H12.out.2]
              rintro e w' ⟨rfl,rfl⟩
              go_wp2
              refine bodyPost_ret (v:=.tuple #[.agg #[.bool false,.int .i64 0,.int .i64 0],.bool false]) (by simp [results,Tryz.results241,go_sem]) rfl ?_
              exact ⟨by rw [HFIN.out];rfl,Bl⟩
            | some b =>
              go_wp2_with fail
              refine (parseTermS_any (piece x 0 (k - 1)) _).mono ?_
              rw [H12.out.1]
              rintro e w' ⟨rfl,rfl⟩
              go_wp2_with fail
              refine (parseTermS_any (piece x (k+1) n) _).mono ?_
              rw [H12.out.2]
              rintro e w' ⟨rfl,rfl⟩
              go_wp2
              refine bodyPost_ret (v:=.tuple #[.agg #[.bool false,.int .i64 a,.int .i64 b],.bool true]) (by simp [results,Tryz.results241,go_sem]) rfl ?_
              exact ⟨by rw [HFIN.out];rfl,Bl⟩
        · have i8:(((btx x)[k - 1].toNat:Int) == 33)=false:=by
           rw [hgp];refine beq_eq_false_iff_ne.2 fun e=>hc3 (UInt8.toNat_inj.1 (by have:(33:UInt8).toNat=33:=rfl;omega))
          have hcc:(decide (0 < k) && gd x (k - 1) == 33)=false:=by rw [beq_eq_false_iff_ne.2 hc3,Bool.and_false]
          clear hc3 hgp
          obtain ⟨r1,h1⟩:∃ r,termO (piece x 0 (k))=r:=⟨_,rfl⟩
          obtain ⟨r2,h2⟩:∃ r,termO (piece x (k+1) n)=r:=⟨_,rfl⟩
          have hfin:factO x=r1.bind fun a=>r2.map fun b=>(!false,a,b):=by
           rw [factO_hit (by rw [HN.out];exact h9) (by rw [HN.out];exact hk8) HE.out hc hcc,← h1,← h2,piece_take,piece_drop HN.out];rfl
          have H12:=Lib.hid (And.intro h1 h2)
          have HFIN:=Lib.hid hfin
          clear h1 h2 hfin hget hc hcc HE
          cases r1 with
          | none =>
            go_wp2_with fail
            refine (parseTermS_any (piece x 0 (k)) _).mono ?_
            rw [H12.out.1]
            rintro e w' ⟨rfl,rfl⟩
            go_wp2_with fail
            refine (parseTermS_any (piece x (k+1) n) _).mono ?_
            rw [H12.out.2]
            rintro e w' ⟨rfl,rfl⟩
            go_wp2
            refine bodyPost_ret (v:=.tuple #[.agg #[.bool false,.int .i64 0,.int .i64 0],.bool false]) (by simp [results,Tryz.results241,go_sem]) rfl ?_
            exact ⟨by rw [HFIN.out];rfl,Bl⟩
          | some a =>
            cases r2 with
            | none =>
              go_wp2_with fail
              refine (parseTermS_any (piece x 0 (k)) _).mono ?_
              rw [H12.out.1]
              rintro e w' ⟨rfl,rfl⟩
              go_wp2_with fail
              refine (parseTermS_any (piece x (k+1) n) _).mono ?_
              rw [H12.out.2]
              rintro e w' ⟨rfl,rfl⟩
              go_wp2
              refine bodyPost_ret (v:=.tuple #[.agg #[.bool false,.int .i64 0,.int .i64 0],.bool false]) (by simp [results,Tryz.results241,go_sem]) rfl ?_
              exact ⟨by rw [HFIN.out];rfl,Bl⟩
            | some b =>
              go_wp2_with fail
              refine (parseTermS_any (piece x 0 (k)) _).mono ?_
              rw [H12.out.1]
              rintro e w' ⟨rfl,rfl⟩
              go_wp2_with fail
              refine (parseTermS_any (piece x (k+1) n) _).mono ?_
              rw [H12.out.2]
              rintro e w' ⟨rfl,rfl⟩
              go_wp2
              refine bodyPost_ret (v:=.tuple #[.agg #[.bool true,.int .i64 a,.int .i64 b],.bool true]) (by simp [results,Tryz.results241,go_sem]) rfl ?_
              exact ⟨by rw [HFIN.out];rfl,Bl⟩
    · have i4:(((btx x)[k].toNat:Int) != 61)=true:=by
       rw [hget];refine bne_iff_ne.2 fun e=>hc (UInt8.toNat_inj.1 (by have:(61:UInt8).toNat=61:=rfl;omega))
      have HX:=Lib.hid hc
      clear hget hc
      go_wp2
      go_roundg (gk - 1)
      case rel=>exact ⟨k+1,by have:=HK.out;omega,by go_num,fun j hj=>by
       by_cases e:j=k
       · rw [e];exact HX.out
       · exact HE.out j (by omega),rfl⟩
      case measure=>have:=HK.out;omega
  · have i1:¬ (k:Int) < (n:Int):=by omega
    have HF:=Lib.hid (factO_none (x:=x) fun j hj=>HE.out j (by have:=HN.out;omega))
    go_wp2
    refine bodyPost_ret (v:=.tuple #[.agg #[.bool false,.int .i64 0,.int .i64 0],.bool false]) (by simp [results,Tryz.results241,go_sem]) rfl ?_
    exact ⟨by rw [HF.out];rfl,Bl⟩
def atomO (x:List UInt8):Option Atom :=
 if x.length≤7 then (x.findIdx? fun b=>b == 62 || b == 126).bind fun i =>
  (termO (x.take i)).bind fun a=>(termO (x.drop (i+1))).map fun b=>(if gd x i=126 then 2 else 1,a,b)
 else none
theorem atomO_hit {x:List UInt8} {k:Nat} (h7:x.length≤7) (hk:k < x.length) (hn:∀ j,j < k→gd x j ≠ 62∧gd x j ≠ 126) (h:gd x k=62∨gd x k=126) {c:Int} (hc:(if gd x k=126 then 2 else 1)=c) :
 atomO x=(termO (x.take k)).bind fun a=>(termO (x.drop (k+1))).map fun b=>(c,a,b):=by
 rw [atomO,if_pos h7,ix_hit hk (fun j hj=>by have:=hn j hj;simp [this.1,this.2]) (by rcases h with h | h <;> simp [h]),Option.bind_some,hc]
theorem atomO_none {x:List UInt8} (hn:∀ j,j < x.length→gd x j ≠ 62∧gd x j ≠ 126):atomO x=none:=by
 rw [atomO,ix_none (fun j hj=>by have:=hn j hj;simp [this.1,this.2])]
 split <;> rfl
def AtomRes (x:List UInt8) (w:World) (e:Ending) (w':World):Prop :=
 ∃ y:Atom,e=.returned (.tuple #[.agg #[.int .i64 y.1,.int .i64 y.2.1,.int .i64 y.2.2],.bool (atomO x).isSome])∧(∀ a,atomO x=some a→y=a)∧Below w.heap.size w w'
theorem AtomRes.no {x:List UInt8} {w w':World} (y:Atom) (h:atomO x=none) (hb:Below w.heap.size w w'):AtomRes x w (.returned (.tuple #[.agg #[.int .i64 y.1,.int .i64 y.2.1,.int .i64 y.2.2],.bool false])) w' :=
 ⟨y,(by rw [h];rfl),(fun a ha=>by rw [h] at ha;cases ha),hb⟩
theorem AtomRes.yes {x:List UInt8} {w w':World} (y:Atom) (h:atomO x=some y) (hb:Below w.heap.size w w'):AtomRes x w (.returned (.tuple #[.agg #[.int .i64 y.1,.int .i64 y.2.1,.int .i64 y.2.2],.bool true])) w' :=
 ⟨y,(by rw [h];rfl),(fun a ha=>by rw [h] at ha;exact Option.some.inj ha),hb⟩
attribute [local go_sem] btx_extract
set_option maxRecDepth 100000 in
set_option maxHeartbeats 6400000 in
theorem parseAtomS_any (x:List UInt8) (w:World) (hl:x.length≤1048576) :
 Calls Tryz.prog 242 #[.string (btx x)] w (AtomRes x w):=by
 obtain ⟨n,hn⟩:∃ n,x.length=n:=⟨_,rfl⟩
 have hsz:(btx x).size=n:=hn
 rw [hn] at hl
 have HN:=Lib.hid hn
 clear hn
 by_cases h9:n≤7
 rotate_left
 · have i9:decide ((n:Int)≤7)=false:=by simp;omega
   have n0:(0:Int) < (n:Int):=by omega
   have HF:=Lib.hid (show atomO x=none by rw [atomO,if_neg (by rw [HN.out];exact h9)])
   clear h9
   go_enter Tryz.func242,Tryz.ntmps242
   go_wp2
   go_loopg [4] 1 (fun q i wr=>i=.int .i64 0∧wr=w.alloc (.cells #[.int .i64 0,.int .i64 0,.int .i64 0] 118))
   case atStart=>exact ⟨rfl,rfl⟩
   case round =>
    obtain ⟨rfl,rfl⟩:=hrel
    go_wp2
    refine bodyPost_ret (v:=.tuple #[.agg #[.int .i64 0,.int .i64 0,.int .i64 0],.bool false]) (by simp [results,Tryz.results242,go_sem]) rfl ?_
    exact AtomRes.no (0,0,0) HF.out Bl
 have i9:decide ((n:Int)≤7)=true:=by simp;omega
 go_enter Tryz.func242,Tryz.ntmps242
 go_wp2
 go_loopg [4] n (fun q i wr=>∃ k:Nat,k+q=n∧i=.int .i64 k∧(∀ j:Nat,j < k→gd x j ≠ 62∧gd x j ≠ 126)∧wr=w.alloc (.cells #[.int .i64 0,.int .i64 0,.int .i64 0] 118))
 case atStart=>exact ⟨0,by omega,rfl,fun j hj=>absurd hj (Nat.not_lt_zero j),rfl⟩
 case round =>
  obtain ⟨k,hk,rfl,hne,rfl⟩:=hrel
  have HK:=Lib.hid hk
  have HE:=Lib.hid hne
  clear hk hne
  by_cases hk8:k < n
  · have i1:(k:Int) < (n:Int):=by omega
    have hb1:(k:Int)+1≤(n:Int):=by omega
    have hb2:(k:Int)≤(n:Int):=by omega
    have hkt:k < (btx x).size:=by rw [hsz];exact hk8
    have hget:(btx x)[k]=gd x k:=by rw [gd_of (show k < x.length from hkt)];rfl
    have hcond:∀ c:UInt8,gd x k ≠ c→(((btx x)[k].toNat:Int) != (c.toNat:Int))=true:=fun c h=>by
     rw [hget];exact bne_iff_ne.2 fun e=>h (UInt8.toNat_inj.1 (by omega))
    have hcond2:∀ c:UInt8,gd x k ≠ c→(((btx x)[k].toNat:Int) == (c.toNat:Int))=false:=fun c h=>by
     rw [hget];exact beq_eq_false_iff_ne.2 fun e=>h (UInt8.toNat_inj.1 (by omega))
    by_cases hc1:gd x k=62
    · have i4:(((btx x)[k].toNat:Int) != 62)=false:=by rw [hget,hc1];rfl
      have i6:(((btx x)[k].toNat:Int) == 126)=false:=by rw [hget,hc1];rfl
      have hor:gd x k=62∨gd x k=126:=.inl hc1
      have hcc:(if gd x k=126 then 2 else 1)=(1:Int):=by rw [hc1];rfl
      clear hc1
      obtain ⟨r1,h1⟩:∃ r,termO (piece x 0 k)=r:=⟨_,rfl⟩
      obtain ⟨r2,h2⟩:∃ r,termO (piece x (k+1) n)=r:=⟨_,rfl⟩
      have hfin:atomO x=r1.bind fun a=>r2.map fun b=>(1,a,b):=by
       rw [atomO_hit (by rw [HN.out];exact h9) (by rw [HN.out];exact hk8) HE.out hor hcc,← h1,← h2,piece_take,piece_drop HN.out]
      have H12:=Lib.hid (And.intro h1 h2)
      have HFIN:=Lib.hid hfin
      clear h1 h2 hfin hget hor hcc HE hcond hcond2
      cases r1 with
      | none =>
        cases r2 with
        | none =>
          go_wp2_with fail
          refine (parseTermS_any (piece x 0 k) _).mono ?_
          rw [H12.out.1]
          rintro e w' ⟨rfl,rfl⟩
          go_wp2_with fail
          refine (parseTermS_any (piece x (k+1) n) _).mono ?_
          rw [H12.out.2]
          rintro e w' ⟨rfl,rfl⟩
          go_wp2
          refine bodyPost_ret (v:=.tuple #[.agg #[.int .i64 1,.int .i64 0,.int .i64 0],.bool false]) (by simp [results,Tryz.results242,go_sem]) rfl ?_
          exact AtomRes.no (1,0,0) HFIN.out Bl
        | some b =>
          go_wp2_with fail
          refine (parseTermS_any (piece x 0 k) _).mono ?_
          rw [H12.out.1]
          rintro e w' ⟨rfl,rfl⟩
          go_wp2_with fail
          refine (parseTermS_any (piece x (k+1) n) _).mono ?_
          rw [H12.out.2]
          rintro e w' ⟨rfl,rfl⟩
          go_wp2
          refine bodyPost_ret (v:=.tuple #[.agg #[.int .i64 1,.int .i64 0,.int .i64 b],.bool false]) (by simp [results,Tryz.results242,go_sem]) rfl ?_
          exact AtomRes.no (1,0,b) HFIN.out Bl
      | some a =>
        cases r2 with
        | none =>
          go_wp2_with fail
          refine (parseTermS_any (piece x 0 k) _).mono ?_
          rw [H12.out.1]
          rintro e w' ⟨rfl,rfl⟩
          go_wp2_with fail
          refine (parseTermS_any (piece x (k+1) n) _).mono ?_
          rw [H12.out.2]
          rintro e w' ⟨rfl,rfl⟩
          go_wp2
          refine bodyPost_ret (v:=.tuple #[.agg #[.int .i64 1,.int .i64 a,.int .i64 0],.bool false]) (by simp [results,Tryz.results242,go_sem]) rfl ?_
          exact AtomRes.no (1,a,0) HFIN.out Bl
        | some b =>
          go_wp2_with fail
          refine (parseTermS_any (piece x 0 k) _).mono ?_
          rw [H12.out.1]
          rintro e w' ⟨rfl,rfl⟩
          go_wp2_with fail
          refine (parseTermS_any (piece x (k+1) n) _).mono ?_
          rw [H12.out.2]
          rintro e w' ⟨rfl,rfl⟩
          go_wp2
          refine bodyPost_ret (v:=.tuple #[.agg #[.int .i64 1,.int .i64 a,.int .i64 b],.bool true]) (by simp [results,Tryz.results242,go_sem]) rfl ?_
          exact AtomRes.yes (1,a,b) HFIN.out Bl
    · by_cases hc2:gd x k=126
      · have i4:(((btx x)[k].toNat:Int) != 62)=true:=hcond 62 hc1
        have i5:(((btx x)[k].toNat:Int) != 126)=false:=by rw [hget,hc2];rfl
        have i6:(((btx x)[k].toNat:Int) == 126)=true:=by rw [hget,hc2];rfl
        have hor:gd x k=62∨gd x k=126:=.inr hc2
        have hcc:(if gd x k=126 then 2 else 1)=(2:Int):=if_pos hc2
        clear hc1 hc2
        obtain ⟨r1,h1⟩:∃ r,termO (piece x 0 k)=r:=⟨_,rfl⟩
        obtain ⟨r2,h2⟩:∃ r,termO (piece x (k+1) n)=r:=⟨_,rfl⟩
        have hfin:atomO x=r1.bind fun a=>r2.map fun b=>(2,a,b):=by
         rw [atomO_hit (by rw [HN.out];exact h9) (by rw [HN.out];exact hk8) HE.out hor hcc,← h1,← h2,piece_take,piece_drop HN.out]
        have H12:=Lib.hid (And.intro h1 h2)
        have HFIN:=Lib.hid hfin
        clear h1 h2 hfin hget hor hcc HE hcond hcond2
        cases r1 with
        | none =>
          cases r2 with
          | none =>
            go_wp2_with fail
            refine (parseTermS_any (piece x 0 k) _).mono ?_
            rw [H12.out.1]
            rintro e w' ⟨rfl,rfl⟩
            go_wp2_with fail
            refine (parseTermS_any (piece x (k+1) n) _).mono ?_
            rw [H12.out.2]
            rintro e w' ⟨rfl,rfl⟩
            go_wp2
            refine bodyPost_ret (v:=.tuple #[.agg #[.int .i64 2,.int .i64 0,.int .i64 0],.bool false]) (by simp [results,Tryz.results242,go_sem]) rfl ?_
            exact AtomRes.no (2,0,0) HFIN.out Bl
          | some b =>
            go_wp2_with fail
            refine (parseTermS_any (piece x 0 k) _).mono ?_
            rw [H12.out.1]
            rintro e w' ⟨rfl,rfl⟩
            go_wp2_with fail
            refine (parseTermS_any (piece x (k+1) n) _).mono ?_
            rw [H12.out.2]
            rintro e w' ⟨rfl,rfl⟩
            go_wp2
            refine bodyPost_ret (v:=.tuple #[.agg #[.int .i64 2,.int .i64 0,.int .i64 b],.bool false]) (by simp [results,Tryz.results242,go_sem]) rfl ?_
            exact AtomRes.no (2,0,b) HFIN.out Bl
        | some a =>
          cases r2 with
          | none =>
            go_wp2_with fail
            refine (parseTermS_any (piece x 0 k) _).mono ?_
            rw [H12.out.1]
            rintro e w' ⟨rfl,rfl⟩
            go_wp2_with fail
            refine (parseTermS_any (piece x (k+1) n) _).mono ?_
            rw [H12.out.2]
            rintro e w' ⟨rfl,rfl⟩
            go_wp2
            refine bodyPost_ret (v:=.tuple #[.agg #[.int .i64 2,.int .i64 a,.int .i64 0],.bool false]) (by simp [results,Tryz.results242,go_sem]) rfl ?_
            exact AtomRes.no (2,a,0) HFIN.out Bl
          | some b =>
            go_wp2_with fail
            refine (parseTermS_any (piece x 0 k) _).mono ?_
            rw [H12.out.1]
            rintro e w' ⟨rfl,rfl⟩
            go_wp2_with fail
            refine (parseTermS_any (piece x (k+1) n) _).mono ?_
            rw [H12.out.2]
            rintro e w' ⟨rfl,rfl⟩
            go_wp2
            refine bodyPost_ret (v:=.tuple #[.agg #[.int .i64 2,.int .i64 a,.int .i64 b],.bool true]) (by simp [results,Tryz.results242,go_sem]) rfl ?_
            exact AtomRes.yes (2,a,b) HFIN.out Bl
      · have i4:(((btx x)[k].toNat:Int) != 62)=true:=hcond 62 hc1
        have i5:(((btx x)[k].toNat:Int) != 126)=true:=hcond 126 hc2
        have HX:=Lib.hid (And.intro hc1 hc2)
        clear hget hc1 hc2 hcond hcond2
        go_wp2
        go_roundg (gk - 1)
        case rel=>exact ⟨k+1,by have:=HK.out;omega,by go_num,fun j hj=>by
         by_cases e:j=k
         · rw [e];exact HX.out
         · exact HE.out j (by omega),rfl⟩
        case measure=>have:=HK.out;omega
  · have i1:¬ (k:Int) < (n:Int):=by omega
    have HF:=Lib.hid (atomO_none (x:=x) fun j hj=>HE.out j (by have:=HN.out;omega))
    go_wp2
    refine bodyPost_ret (v:=.tuple #[.agg #[.int .i64 0,.int .i64 0,.int .i64 0],.bool false]) (by simp [results,Tryz.results242,go_sem]) rfl ?_
    exact AtomRes.no (0,0,0) HF.out Bl
end Go.Proofs.YtkbbmjcfgcfejaaGreat
