/- Walks: the texts of assertions (reference). (Printed by gen_asx.py.) -/
import Derived.Test.YtkbbmjcfgcfejaaGreatKTer
import Derived.Test.YtkbbmjcfgcfejaaGreatKData3
import Derived.Handy
import Derived.Deep.DeepMust
set_option linter.unusedVariables false
set_option linter.unusedSimpArgs false
namespace Go.Proofs.YtkbbmjcfgcfejaaGreat
open Go.RowKit
def joinW (c:List UInt8):List (List UInt8)→List UInt8
 | []=>[]
 | [x]=>x
 | x :: y :: r=>x ++ (c ++ joinW c (y :: r))
theorem joinW_cons (c x:List UInt8) {l:List (List UInt8)} (h:l ≠ []):joinW c (x :: l)=x ++ (c ++ joinW c l):=by
 match l,h with
 | y :: r,_=>rfl
theorem joinW_snoc (c x:List UInt8):∀ {l:List (List UInt8)},l ≠ []→joinW c (l ++ [x])=joinW c l ++ (c ++ x)
 | [y],_=>rfl
 | y :: z :: r,_=>by
   rw [List.cons_append,joinW_cons c y (by simp),joinW_cons c y (by simp),joinW_snoc c x (l:=z :: r) (by simp)];simp
def atomT (x:Atom):List UInt8:=termT x.2.1 ++ ((if x.1=2 then [126] else [62]) ++ termT x.2.2)
def factsT (l:List Fact):List UInt8:=joinW [32,38,32] (l.map factX)
def atomsT (l:List Atom):List UInt8:=joinW [32,42,32] (l.map atomT)
def asnT (a:Asn):List UInt8:=(if a.1=[] then [116,114,117,101] else factsT a.1) ++ (if a.2=[] then [32,124,32,101,109,112] else [32,124,32] ++ atomsT a.2)
theorem factT_len (f:Fact):(factX f).length≤8:=by
 have h1:=termT_len f.2.1
 have h2:=termT_len f.2.2
 rw [factX];split <;> simp <;> omega
theorem atomT_len (x:Atom):(atomT x).length≤7:=by
 have h1:=termT_len x.2.1
 have h2:=termT_len x.2.2
 rw [atomT];split <;> simp <;> omega
theorem factsT_first {l:List Fact} (h:0 < l.length):factsT (l.take 1)=factX (gd l 0):=by
 match l,h with
 | x :: r,_=>rfl
theorem take_ne {α:Type} {l:List α} {k:Nat} (h:k < l.length) (h0:0 < k):l.take k ≠ []:=fun e=>by
 have:=congrArg List.length e
 rw [List.length_take,List.length_nil] at this;omega
theorem factsT_step {l:List Fact} {k:Nat} (h:k < l.length) (h0:0 < k):factsT (l.take (k+1))=factsT (l.take k) ++ ([32,38,32] ++ factX (gd l k)):=by
 rw [factsT,take_gd h,List.map_append,List.map_singleton,joinW_snoc _ _ (by simpa using take_ne h h0)];rfl
theorem atomsT_first {l:List Atom} (h:0 < l.length):atomsT (l.take 1)=atomT (gd l 0):=by
 match l,h with
 | x :: r,_=>rfl
theorem atomsT_step {l:List Atom} {k:Nat} (h:k < l.length) (h0:0 < k):atomsT (l.take (k+1))=atomsT (l.take k) ++ ([32,42,32] ++ atomT (gd l k)):=by
 rw [atomsT,take_gd h,List.map_append,List.map_singleton,joinW_snoc _ _ (by simpa using take_ne h h0)];rfl
theorem joinW_len (c:List UInt8) {q:Nat} (hc:c.length≤3):∀ {l:List (List UInt8)},(∀ x ∈ l,x.length≤8)→(joinW c l).length≤11 * l.length
 | [],_=>by simp [joinW]
 | [x],h=>by have:=h x (by simp);simp [joinW];omega
 | x :: y :: r,h=>by
   have ih:=joinW_len c (q:=q) hc (l:=y :: r) fun z hz=>h z (List.mem_cons_of_mem _ hz)
   have hx:=h x (by simp)
   rw [joinW_cons c x (by simp)];simp at ih ⊢;omega
theorem factsT_len (l:List Fact):(factsT l).length≤11 * l.length:=by
 have:=joinW_len [32,38,32] (q:=0) (by decide) (l:=l.map factX) fun x hx=>by obtain ⟨f,_,rfl⟩:=List.mem_map.1 hx;exact factT_len f
 rwa [List.length_map] at this
theorem atomsT_len (l:List Atom):(atomsT l).length≤11 * l.length:=by
 have:=joinW_len [32,42,32] (q:=0) (by decide) (l:=l.map atomT) fun x hx=>by obtain ⟨f,_,rfl⟩:=List.mem_map.1 hx;have:=atomT_len f;omega
 rwa [List.length_map] at this
def atomsTo (l:List Atom) (k:Nat):List UInt8:=if k=0 then [] else [32,124,32] ++ atomsT (l.take k)
theorem atomsTo_first {l:List Atom} (h:0 < l.length):atomsTo l 1=[32,124,32] ++ atomT (gd l 0):=by
 rw [atomsTo,if_neg (by decide),atomsT_first h]
theorem atomsTo_step {l:List Atom} {k:Nat} (h:k < l.length) (h0:0 < k):atomsTo l (k+1)=atomsTo l k ++ ([32,42,32] ++ atomT (gd l k)):=by
 rw [atomsTo,if_neg (by omega),atomsTo,if_neg (by omega),atomsT_step h h0];simp
theorem atomsTo_len (l:List Atom) (k:Nat):(atomsTo l k).length≤3+11 * k:=by
 rw [atomsTo];split
 · simp
 · have:=atomsT_len (l.take k)
   rw [List.length_take] at this
   rw [List.length_append,show ([32,124,32]:List UInt8).length=3 from rfl]
   have h2:min k l.length≤k:=Nat.min_le_left _ _
   have:11 * min k l.length≤11 * k:=Nat.mul_le_mul_left _ h2
   omega
theorem btx_and:(⟨#[32,38,32]⟩:ByteArray)=btx [32,38,32]:=rfl
theorem btx_bar:(⟨#[32,124,32]⟩:ByteArray)=btx [32,124,32]:=rfl
theorem btx_star:(⟨#[32,42,32]⟩:ByteArray)=btx [32,42,32]:=rfl
theorem btx_emp:(⟨#[32,124,32,101,109,112]⟩:ByteArray)=btx [32,124,32,101,109,112]:=rfl
theorem btx_true:(⟨#[116,114,117,101]⟩:ByteArray)=btx [116,114,117,101]:=rfl
theorem btx_gt:(⟨#[62]⟩:ByteArray)=btx [62]:=rfl
theorem btx_til:(⟨#[126]⟩:ByteArray)=btx [126]:=rfl
attribute [local go_sem] btx_app btx_nil btx_and btx_bar btx_star btx_emp btx_true btx_gt btx_til
set_option maxRecDepth 100000 in
set_option maxHeartbeats 6400000 in
theorem l3TextS_any {S1 S2:Nat→Prop} (v1 v2:Value) (a:Asn) (w:World) (h1:RL w S1 v1 a.1) (h2:RL w S2 v2 a.2) (b1:a.1.length≤1000) (b2:a.2.length≤1000) :
 Calls Tryz.prog 272 #[.agg #[v1,v2]] w fun e w'=>e=.returned (.string (btx (asnT a)))∧Below w.heap.size w w':=by
 obtain ⟨fs,xs⟩:=a
 simp only at h1 h2 b1 b2
 obtain ⟨a1,c1,rfl,_,_,hc1⟩:=h1.factAt
 obtain ⟨a2,c2,rfl,_,_,hc2⟩:=h2.atomAt
 have F1:=Lib.hid hc1
 have F2:=Lib.hid hc2
 clear hc1 hc2 h1 h2
 have hbx:=heap_alloc_new w (.cells #[.slice a1 fs.length c1,.slice a2 xs.length c2] 26)
 have q0:=box0 hbx
 have q1:=box1 hbx
 have hb0:=below_alloc w (.cells #[.slice a1 fs.length c1,.slice a2 xs.length c2] 26)
 clear hbx
 have k1:(btx [32,38,32]).size=3:=rfl
 have k2:(btx [32,124,32]).size=3:=rfl
 have k3:(btx [32,42,32]).size=3:=rfl
 have k4:(btx [32,124,32,101,109,112]).size=6:=rfl
 have k5:(btx [116,114,117,101]).size=4:=rfl
 have k6:(btx [62]).size=1:=rfl
 have k7:(btx [126]).size=1:=rfl
 go_enter Tryz.func272,Tryz.ntmps272
 go_wp2
 go_loopg [3,4] fs.length (fun q x i wr=>∃ k:Nat,k+q=fs.length∧i=.int .i64 k∧x=.string (btx (factsT (fs.take k)))∧Below w.heap.size w wr∧wr.cell? ⟨w.heap.size,0,none⟩=some (.slice a1 fs.length c1)∧wr.cell? ⟨w.heap.size,1,none⟩=some (.slice a2 xs.length c2))
 case atStart=>exact ⟨0,by omega,rfl,rfl,hb0,q0,q1⟩
 case round =>
  clear q0 q1 hb0
  obtain ⟨k,hk,rfl,rfl,hb,q0,q1⟩:=hrel
  have HK:=Lib.hid hk
  clear hk
  have hs:=hb.size
  by_cases hk8:k < fs.length
  · obtain ⟨g1,o1,rfl,_,hbl1,hp1,hp2,hp3⟩:=F1.out k hk8
    replace hp1:=cell_keep hb hp1
    replace hp2:=cell_keep hb hp2
    replace hp3:=cell_keep hb hp3
    have i1:(k:Int) < (fs.length:Int):=by omega
    have hzb:g1 < wr.heap.size:=by omega
    have hlen:=factsT_len (fs.take k)
    have hlen2:(fs.take k).length≤1000:=by rw [List.length_take];omega
    have hlf:=factT_len (gd fs k)
    obtain ⟨t,ht⟩:∃ t,factsT (fs.take k)=t:=⟨_,rfl⟩
    rw [ht] at hlen ⊢
    have HT:=Lib.hid ht
    obtain ⟨m,hm0⟩:∃ m,t.length=m:=⟨_,rfl⟩
    obtain ⟨n,hn0⟩:∃ n,(factX (gd fs k)).length=n:=⟨_,rfl⟩
    have e1:(btx t).size=m:=hm0
    have e2:(btx (factX (gd fs k))).size=n:=hn0
    have e3:(btx (t ++ [32,38,32])).size=m+3:=by rw [btx_size,List.length_append,hm0];rfl
    have s1:(9223372036854775807 < m+3)=False:=by simp;omega
    have s2:(9223372036854775807 < m+n)=False:=by simp;omega
    have s3:(9223372036854775807 < m+3+n)=False:=by simp;omega
    clear hm0 hn0 hlen hlen2 hlf ht
    by_cases h0:0 < k
    · have i0:(0:Int) < (k:Int):=by omega
      have hst:=Lib.hid (factsT_step hk8 h0)
      rw [HT.out] at hst
      go_wp2_with fail
      refine (l1TextS_any (gd fs k) _).mono ?_
      rintro e w2 ⟨rfl,hb2⟩
      replace q0:=cell_keep hb2 q0
      replace q1:=cell_keep hb2 q1
      replace hb:=bt hb hb2
      go_wp2
      go_roundg (gk - 1)
      case rel=>exact ⟨k+1,by have:=HK.out;omega,by go_num,by first | (rw [hst.out];done) | (rw [hst.out];simp;done),hb,q0,q1⟩
      case measure=>have:=HK.out;omega
    · obtain rfl:k=0:=by omega
      obtain rfl:t=[]:=HT.out.symm
      have hst:=Lib.hid (factsT_first hk8)
      rw [Nat.zero_mul,Nat.add_zero] at hp1 hp2 hp3
      go_wp2_with fail
      refine (l1TextS_any (gd fs 0) _).mono ?_
      rintro e w2 ⟨rfl,hb2⟩
      replace q0:=cell_keep hb2 q0
      replace q1:=cell_keep hb2 q1
      replace hb:=bt hb hb2
      go_wp2
      go_roundg (gk - 1)
      case rel=>exact ⟨1,by have:=HK.out;omega,by go_num,by first | (rw [hst.out];done) | (rw [hst.out];simp;done),hb,q0,q1⟩
      case measure=>have:=HK.out;omega
  · obtain rfl:k=fs.length:=by have:=HK.out;omega
    have hfl:=factsT_len fs
    rw [List.take_length]
    by_cases hf0:fs.length=0
    · obtain ⟨F,hF⟩:∃ F:List UInt8,([116,114,117,101]:List UInt8)=F:=⟨_,rfl⟩
      obtain ⟨mf,hmf⟩:∃ m,F.length=m:=⟨_,rfl⟩
      have hmfb:mf≤11004:=by rw [← hmf,← hF];decide
      have HF:=Lib.hid hF
      have f1:(btx F).size=mf:=hmf
      have f2:(9223372036854775807 < mf+6)=False:=by simp;omega
      clear hF hfl
      have HFE:=Lib.hid (show (if fs=[] then [116,114,117,101] else factsT fs)=F by rw [if_pos (List.length_eq_zero_iff.1 hf0)];exact HF.out)
      have d1:((fs.length:Int) == 0)=true:=beq_iff_eq.2 (by omega)
      clear hf0
      by_cases ha0:xs.length=0
      · have d2:((xs.length:Int) == 0)=true:=beq_iff_eq.2 (by omega)
        have HA:=Lib.hid (List.length_eq_zero_iff.1 ha0)
        clear ha0
        go_wp2
        go_ret
        exact ⟨by rw [asnT,HFE.out,HA.out,if_pos rfl,← HF.out];rfl,hb⟩
      · have d2:((xs.length:Int) == 0)=false:=beq_eq_false_iff_ne.2 (by omega)
        have HA:=Lib.hid ha0
        clear ha0
        go_wp2
        go_loopg [3,5] xs.length (fun q x i wr=>∃ k:Nat,k+q=xs.length∧i=.int .i64 k∧x=.string (btx (F ++ atomsTo xs k))∧Below w.heap.size w wr∧wr.cell? ⟨w.heap.size,1,none⟩=some (.slice a2 xs.length c2))
        case atStart=>exact ⟨0,by omega,rfl,by rw [atomsTo,if_pos rfl,List.append_nil,← HF.out];rfl,hb,q1⟩
        case round =>
         clear q0 q1 hb hs HK
         obtain ⟨k,hk,rfl,rfl,hb,q1⟩:=hrel
         have HK:=Lib.hid hk
         clear hk
         have hs:=hb.size
         by_cases hk8:k < xs.length
         · obtain ⟨g1,o1,rfl,_,hbl1,hp1,hp2,hp3⟩:=F2.out k hk8
           replace hp1:=cell_keep hb hp1
           replace hp2:=cell_keep hb hp2
           replace hp3:=cell_keep hb hp3
           have i1:(k:Int) < (xs.length:Int):=by omega
           have hzb:g1 < wr.heap.size:=by omega
           have hlen:=atomsTo_len xs k
           have ht1:=termT_len (gd xs k).2.1
           have ht2:=termT_len (gd xs k).2.2
           obtain ⟨t,ht⟩:∃ t,F ++ atomsTo xs k=t:=⟨_,rfl⟩
           obtain ⟨m,hm0⟩:∃ m,t.length=m:=⟨_,rfl⟩
           have hmb:m≤11004+3+11 * k:=by rw [← hm0,← ht,List.length_append,hmf];omega
           obtain ⟨n1,hn1⟩:∃ n,(termT (gd xs k).2.1).length=n:=⟨_,rfl⟩
           obtain ⟨n2,hn2⟩:∃ n,(termT (gd xs k).2.2).length=n:=⟨_,rfl⟩
           rw [ht]
           have HT:=Lib.hid ht
           have e1:(btx t).size=m:=hm0
           have e2:(btx (termT (gd xs k).2.1)).size=n1:=hn1
           have e3:(btx (termT (gd xs k).2.2)).size=n2:=hn2
           have s1:(9223372036854775807 < m+3)=False:=by simp;omega
           have s2:(9223372036854775807 < m+3+n1)=False:=by simp;omega
           have s3:(9223372036854775807 < m+3+n1+1)=False:=by simp;omega
           have s4:(9223372036854775807 < m+3+n1+1+n2)=False:=by simp;omega
           by_cases h0:0 < k
           · have i0:((k:Int) == 0)=false:=beq_eq_false_iff_ne.2 (by omega)
             by_cases hsg:(gd xs k).1=2
             · have d3:((gd xs k).1 == 2)=true:=beq_iff_eq.2 hsg
               have z1:(btx (t ++ [32,42,32])).size=m+3:=by rw [btx_size,List.length_append,hm0];rfl
               have z2:(btx (t ++ ([32,42,32] ++ termT (gd xs k).2.1))).size=m+3+n1:=by rw [btx_size,List.length_append,List.length_append,hm0,hn1];exact (Nat.add_assoc _ _ _).symm
               have z2b:(btx (t ++ (32 :: 42 :: 32 :: termT (gd xs k).2.1))).size=m+3+n1:=z2
               have z3:(btx (t ++ ([32,42,32] ++ (termT (gd xs k).2.1 ++ [126])))).size=m+3+n1+1:=by simp only [btx_size,List.length_append,hm0,hn1,List.length_cons,List.length_nil];omega
               have z3b:(btx (t ++ (32 :: 42 :: 32 :: (termT (gd xs k).2.1 ++ [126])))).size=m+3+n1+1:=z3
               have hst:=Lib.hid (show F ++ atomsTo xs (k+1)=t ++ ([32,42,32] ++ (termT (gd xs k).2.1 ++ ([126] ++ termT (gd xs k).2.2))) by
                rw [← HT.out,atomsTo_step hk8 h0,atomT,if_pos hsg];simp)
               have hq1:w.heap.size < wr.heap.size:=World.block_lt_of_cell? wr _ q1
               clear hm0 hn1 hn2 hlen ht1 ht2 ht hmb
               go_wp2
               refine wp_region_ext (by kernel_rfl) (by kernel_rfl) ?_
               repeat (go_big_quiet_step ((go_at_call 290;exact ext_same (termNameS_any _ _))))
               refine wpQuiet_nil ?_
               intro w2 hb2
               replace q1:=cell_keep hb2 q1
               replace hb:=bt hb hb2
               go_wp2
               go_roundg (gk - 1)
               case rel=>exact ⟨k+1,by have:=HK.out;omega,by go_num,by first | (rw [hst.out];done) | (rw [hst.out];simp;done),hb,q1⟩
               case measure=>have:=HK.out;omega
             · have d3:((gd xs k).1 == 2)=false:=beq_eq_false_iff_ne.2 hsg
               have z1:(btx (t ++ [32,42,32])).size=m+3:=by rw [btx_size,List.length_append,hm0];rfl
               have z2:(btx (t ++ ([32,42,32] ++ termT (gd xs k).2.1))).size=m+3+n1:=by rw [btx_size,List.length_append,List.length_append,hm0,hn1];exact (Nat.add_assoc _ _ _).symm
               have z2b:(btx (t ++ (32 :: 42 :: 32 :: termT (gd xs k).2.1))).size=m+3+n1:=z2
               have z3:(btx (t ++ ([32,42,32] ++ (termT (gd xs k).2.1 ++ [62])))).size=m+3+n1+1:=by simp only [btx_size,List.length_append,hm0,hn1,List.length_cons,List.length_nil];omega
               have z3b:(btx (t ++ (32 :: 42 :: 32 :: (termT (gd xs k).2.1 ++ [62])))).size=m+3+n1+1:=z3
               have hst:=Lib.hid (show F ++ atomsTo xs (k+1)=t ++ ([32,42,32] ++ (termT (gd xs k).2.1 ++ ([62] ++ termT (gd xs k).2.2))) by
                rw [← HT.out,atomsTo_step hk8 h0,atomT,if_neg hsg];simp)
               have hq1:w.heap.size < wr.heap.size:=World.block_lt_of_cell? wr _ q1
               clear hm0 hn1 hn2 hlen ht1 ht2 ht hmb
               go_wp2
               refine wp_region_ext (by kernel_rfl) (by kernel_rfl) ?_
               repeat (go_big_quiet_step ((go_at_call 290;exact ext_same (termNameS_any _ _))))
               refine wpQuiet_nil ?_
               intro w2 hb2
               replace q1:=cell_keep hb2 q1
               replace hb:=bt hb hb2
               go_wp2
               go_roundg (gk - 1)
               case rel=>exact ⟨k+1,by have:=HK.out;omega,by go_num,by first | (rw [hst.out];done) | (rw [hst.out];simp;done),hb,q1⟩
               case measure=>have:=HK.out;omega
           · obtain rfl:k=0:=by omega
             rw [Nat.zero_mul,Nat.add_zero] at hp1 hp2 hp3
             by_cases hsg:(gd xs 0).1=2
             · have d3:((gd xs 0).1 == 2)=true:=beq_iff_eq.2 hsg
               have z1:(btx (t ++ [32,124,32])).size=m+3:=by rw [btx_size,List.length_append,hm0];rfl
               have z2:(btx (t ++ ([32,124,32] ++ termT (gd xs 0).2.1))).size=m+3+n1:=by rw [btx_size,List.length_append,List.length_append,hm0,hn1];exact (Nat.add_assoc _ _ _).symm
               have z2b:(btx (t ++ (32 :: 124 :: 32 :: termT (gd xs 0).2.1))).size=m+3+n1:=z2
               have z3:(btx (t ++ ([32,124,32] ++ (termT (gd xs 0).2.1 ++ [126])))).size=m+3+n1+1:=by simp only [btx_size,List.length_append,hm0,hn1,List.length_cons,List.length_nil];omega
               have z3b:(btx (t ++ (32 :: 124 :: 32 :: (termT (gd xs 0).2.1 ++ [126])))).size=m+3+n1+1:=z3
               have hst:=Lib.hid (show F ++ atomsTo xs 1=t ++ ([32,124,32] ++ (termT (gd xs 0).2.1 ++ ([126] ++ termT (gd xs 0).2.2))) by
                rw [← HT.out,atomsTo_first hk8,atomsTo,if_pos rfl,atomT,if_pos hsg];simp)
               have hq1:w.heap.size < wr.heap.size:=World.block_lt_of_cell? wr _ q1
               clear hm0 hn1 hn2 hlen ht1 ht2 ht hmb
               go_wp2
               refine wp_region_ext (by kernel_rfl) (by kernel_rfl) ?_
               repeat (go_big_quiet_step ((go_at_call 290;exact ext_same (termNameS_any _ _))))
               refine wpQuiet_nil ?_
               intro w2 hb2
               replace q1:=cell_keep hb2 q1
               replace hb:=bt hb hb2
               go_wp2
               go_roundg (gk - 1)
               case rel=>exact ⟨1,by have:=HK.out;omega,by go_num,by first | (rw [hst.out];done) | (rw [hst.out];simp;done),hb,q1⟩
               case measure=>have:=HK.out;omega
             · have d3:((gd xs 0).1 == 2)=false:=beq_eq_false_iff_ne.2 hsg
               have z1:(btx (t ++ [32,124,32])).size=m+3:=by rw [btx_size,List.length_append,hm0];rfl
               have z2:(btx (t ++ ([32,124,32] ++ termT (gd xs 0).2.1))).size=m+3+n1:=by rw [btx_size,List.length_append,List.length_append,hm0,hn1];exact (Nat.add_assoc _ _ _).symm
               have z2b:(btx (t ++ (32 :: 124 :: 32 :: termT (gd xs 0).2.1))).size=m+3+n1:=z2
               have z3:(btx (t ++ ([32,124,32] ++ (termT (gd xs 0).2.1 ++ [62])))).size=m+3+n1+1:=by simp only [btx_size,List.length_append,hm0,hn1,List.length_cons,List.length_nil];omega
               have z3b:(btx (t ++ (32 :: 124 :: 32 :: (termT (gd xs 0).2.1 ++ [62])))).size=m+3+n1+1:=z3
               have hst:=Lib.hid (show F ++ atomsTo xs 1=t ++ ([32,124,32] ++ (termT (gd xs 0).2.1 ++ ([62] ++ termT (gd xs 0).2.2))) by
                rw [← HT.out,atomsTo_first hk8,atomsTo,if_pos rfl,atomT,if_neg hsg];simp)
               have hq1:w.heap.size < wr.heap.size:=World.block_lt_of_cell? wr _ q1
               clear hm0 hn1 hn2 hlen ht1 ht2 ht hmb
               go_wp2
               refine wp_region_ext (by kernel_rfl) (by kernel_rfl) ?_
               repeat (go_big_quiet_step ((go_at_call 290;exact ext_same (termNameS_any _ _))))
               refine wpQuiet_nil ?_
               intro w2 hb2
               replace q1:=cell_keep hb2 q1
               replace hb:=bt hb hb2
               go_wp2
               go_roundg (gk - 1)
               case rel=>exact ⟨1,by have:=HK.out;omega,by go_num,by first | (rw [hst.out];done) | (rw [hst.out];simp;done),hb,q1⟩
               case measure=>have:=HK.out;omega
         · obtain rfl:k=xs.length:=by have:=HK.out;omega
           go_wp2
           go_ret
           exact ⟨congrArg (fun z=>Ending.returned (.string (btx z))) (show F ++ atomsTo xs xs.length=asnT (fs,xs) by rw [asnT,HFE.out,if_neg (fun e=>HA.out (by rw [show xs=[] from e];rfl)),atomsTo,if_neg HA.out,List.take_length]),hb⟩
    · obtain ⟨F,hF⟩:∃ F:List UInt8,factsT fs=F:=⟨_,rfl⟩
      obtain ⟨mf,hmf⟩:∃ m,F.length=m:=⟨_,rfl⟩
      have hmfb:mf≤11004:=by rw [← hmf,← hF];omega
      have HF:=Lib.hid hF
      have f1:(btx F).size=mf:=hmf
      have f2:(9223372036854775807 < mf+6)=False:=by simp;omega
      clear hF hfl
      have HFE:=Lib.hid (show (if fs=[] then [116,114,117,101] else factsT fs)=F by rw [if_neg (fun e=>hf0 (by rw [e];rfl))];exact HF.out)
      have d1:((fs.length:Int) == 0)=false:=beq_eq_false_iff_ne.2 (by omega)
      rw [HF.out]
      clear hf0
      by_cases ha0:xs.length=0
      · have d2:((xs.length:Int) == 0)=true:=beq_iff_eq.2 (by omega)
        have HA:=Lib.hid (List.length_eq_zero_iff.1 ha0)
        clear ha0
        go_wp2
        go_ret
        exact ⟨by rw [asnT,HFE.out,HA.out,if_pos rfl];rfl,hb⟩
      · have d2:((xs.length:Int) == 0)=false:=beq_eq_false_iff_ne.2 (by omega)
        have HA:=Lib.hid ha0
        clear ha0
        go_wp2
        go_loopg [3,5] xs.length (fun q x i wr=>∃ k:Nat,k+q=xs.length∧i=.int .i64 k∧x=.string (btx (F ++ atomsTo xs k))∧Below w.heap.size w wr∧wr.cell? ⟨w.heap.size,1,none⟩=some (.slice a2 xs.length c2))
        case atStart=>exact ⟨0,by omega,rfl,by rw [atomsTo,if_pos rfl,List.append_nil],hb,q1⟩
        case round =>
         clear q0 q1 hb hs HK
         obtain ⟨k,hk,rfl,rfl,hb,q1⟩:=hrel
         have HK:=Lib.hid hk
         clear hk
         have hs:=hb.size
         by_cases hk8:k < xs.length
         · obtain ⟨g1,o1,rfl,_,hbl1,hp1,hp2,hp3⟩:=F2.out k hk8
           replace hp1:=cell_keep hb hp1
           replace hp2:=cell_keep hb hp2
           replace hp3:=cell_keep hb hp3
           have i1:(k:Int) < (xs.length:Int):=by omega
           have hzb:g1 < wr.heap.size:=by omega
           have hlen:=atomsTo_len xs k
           have ht1:=termT_len (gd xs k).2.1
           have ht2:=termT_len (gd xs k).2.2
           obtain ⟨t,ht⟩:∃ t,F ++ atomsTo xs k=t:=⟨_,rfl⟩
           obtain ⟨m,hm0⟩:∃ m,t.length=m:=⟨_,rfl⟩
           have hmb:m≤11004+3+11 * k:=by rw [← hm0,← ht,List.length_append,hmf];omega
           obtain ⟨n1,hn1⟩:∃ n,(termT (gd xs k).2.1).length=n:=⟨_,rfl⟩
           obtain ⟨n2,hn2⟩:∃ n,(termT (gd xs k).2.2).length=n:=⟨_,rfl⟩
           rw [ht]
           have HT:=Lib.hid ht
           have e1:(btx t).size=m:=hm0
           have e2:(btx (termT (gd xs k).2.1)).size=n1:=hn1
           have e3:(btx (termT (gd xs k).2.2)).size=n2:=hn2
           have s1:(9223372036854775807 < m+3)=False:=by simp;omega
           have s2:(9223372036854775807 < m+3+n1)=False:=by simp;omega
           have s3:(9223372036854775807 < m+3+n1+1)=False:=by simp;omega
           have s4:(9223372036854775807 < m+3+n1+1+n2)=False:=by simp;omega
           by_cases h0:0 < k
           · have i0:((k:Int) == 0)=false:=beq_eq_false_iff_ne.2 (by omega)
             by_cases hsg:(gd xs k).1=2
             · have d3:((gd xs k).1 == 2)=true:=beq_iff_eq.2 hsg
               have z1:(btx (t ++ [32,42,32])).size=m+3:=by rw [btx_size,List.length_append,hm0];rfl
               have z2:(btx (t ++ ([32,42,32] ++ termT (gd xs k).2.1))).size=m+3+n1:=by rw [btx_size,List.length_append,List.length_append,hm0,hn1];exact (Nat.add_assoc _ _ _).symm
               have z2b:(btx (t ++ (32 :: 42 :: 32 :: termT (gd xs k).2.1))).size=m+3+n1:=z2
               have z3:(btx (t ++ ([32,42,32] ++ (termT (gd xs k).2.1 ++ [126])))).size=m+3+n1+1:=by simp only [btx_size,List.length_append,hm0,hn1,List.length_cons,List.length_nil];omega
               have z3b:(btx (t ++ (32 :: 42 :: 32 :: (termT (gd xs k).2.1 ++ [126])))).size=m+3+n1+1:=z3
               have hst:=Lib.hid (show F ++ atomsTo xs (k+1)=t ++ ([32,42,32] ++ (termT (gd xs k).2.1 ++ ([126] ++ termT (gd xs k).2.2))) by
                rw [← HT.out,atomsTo_step hk8 h0,atomT,if_pos hsg];simp)
               have hq1:w.heap.size < wr.heap.size:=World.block_lt_of_cell? wr _ q1
               clear hm0 hn1 hn2 hlen ht1 ht2 ht hmb
               go_wp2
               refine wp_region_ext (by kernel_rfl) (by kernel_rfl) ?_
               repeat (go_big_quiet_step ((go_at_call 290;exact ext_same (termNameS_any _ _))))
               refine wpQuiet_nil ?_
               intro w2 hb2
               replace q1:=cell_keep hb2 q1
               replace hb:=bt hb hb2
               go_wp2
               go_roundg (gk - 1)
               case rel=>exact ⟨k+1,by have:=HK.out;omega,by go_num,by first | (rw [hst.out];done) | (rw [hst.out];simp;done),hb,q1⟩
               case measure=>have:=HK.out;omega
             · have d3:((gd xs k).1 == 2)=false:=beq_eq_false_iff_ne.2 hsg
               have z1:(btx (t ++ [32,42,32])).size=m+3:=by rw [btx_size,List.length_append,hm0];rfl
               have z2:(btx (t ++ ([32,42,32] ++ termT (gd xs k).2.1))).size=m+3+n1:=by rw [btx_size,List.length_append,List.length_append,hm0,hn1];exact (Nat.add_assoc _ _ _).symm
               have z2b:(btx (t ++ (32 :: 42 :: 32 :: termT (gd xs k).2.1))).size=m+3+n1:=z2
               have z3:(btx (t ++ ([32,42,32] ++ (termT (gd xs k).2.1 ++ [62])))).size=m+3+n1+1:=by simp only [btx_size,List.length_append,hm0,hn1,List.length_cons,List.length_nil];omega
               have z3b:(btx (t ++ (32 :: 42 :: 32 :: (termT (gd xs k).2.1 ++ [62])))).size=m+3+n1+1:=z3
               have hst:=Lib.hid (show F ++ atomsTo xs (k+1)=t ++ ([32,42,32] ++ (termT (gd xs k).2.1 ++ ([62] ++ termT (gd xs k).2.2))) by
                rw [← HT.out,atomsTo_step hk8 h0,atomT,if_neg hsg];simp)
               have hq1:w.heap.size < wr.heap.size:=World.block_lt_of_cell? wr _ q1
               clear hm0 hn1 hn2 hlen ht1 ht2 ht hmb
               go_wp2
               refine wp_region_ext (by kernel_rfl) (by kernel_rfl) ?_
               repeat (go_big_quiet_step ((go_at_call 290;exact ext_same (termNameS_any _ _))))
               refine wpQuiet_nil ?_
               intro w2 hb2
               replace q1:=cell_keep hb2 q1
               replace hb:=bt hb hb2
               go_wp2
               go_roundg (gk - 1)
               case rel=>exact ⟨k+1,by have:=HK.out;omega,by go_num,by first | (rw [hst.out];done) | (rw [hst.out];simp;done),hb,q1⟩
               case measure=>have:=HK.out;omega
           · obtain rfl:k=0:=by omega
             rw [Nat.zero_mul,Nat.add_zero] at hp1 hp2 hp3
             by_cases hsg:(gd xs 0).1=2
             · have d3:((gd xs 0).1 == 2)=true:=beq_iff_eq.2 hsg
               have z1:(btx (t ++ [32,124,32])).size=m+3:=by rw [btx_size,List.length_append,hm0];rfl
               have z2:(btx (t ++ ([32,124,32] ++ termT (gd xs 0).2.1))).size=m+3+n1:=by rw [btx_size,List.length_append,List.length_append,hm0,hn1];exact (Nat.add_assoc _ _ _).symm
               have z2b:(btx (t ++ (32 :: 124 :: 32 :: termT (gd xs 0).2.1))).size=m+3+n1:=z2
               have z3:(btx (t ++ ([32,124,32] ++ (termT (gd xs 0).2.1 ++ [126])))).size=m+3+n1+1:=by simp only [btx_size,List.length_append,hm0,hn1,List.length_cons,List.length_nil];omega
               have z3b:(btx (t ++ (32 :: 124 :: 32 :: (termT (gd xs 0).2.1 ++ [126])))).size=m+3+n1+1:=z3
               have hst:=Lib.hid (show F ++ atomsTo xs 1=t ++ ([32,124,32] ++ (termT (gd xs 0).2.1 ++ ([126] ++ termT (gd xs 0).2.2))) by
                rw [← HT.out,atomsTo_first hk8,atomsTo,if_pos rfl,atomT,if_pos hsg];simp)
               have hq1:w.heap.size < wr.heap.size:=World.block_lt_of_cell? wr _ q1
               clear hm0 hn1 hn2 hlen ht1 ht2 ht hmb
               go_wp2
               refine wp_region_ext (by kernel_rfl) (by kernel_rfl) ?_
               repeat (go_big_quiet_step ((go_at_call 290;exact ext_same (termNameS_any _ _))))
               refine wpQuiet_nil ?_
               intro w2 hb2
               replace q1:=cell_keep hb2 q1
               replace hb:=bt hb hb2
               go_wp2
               go_roundg (gk - 1)
               case rel=>exact ⟨1,by have:=HK.out;omega,by go_num,by first | (rw [hst.out];done) | (rw [hst.out];simp;done),hb,q1⟩
               case measure=>have:=HK.out;omega
             · have d3:((gd xs 0).1 == 2)=false:=beq_eq_false_iff_ne.2 hsg
               have z1:(btx (t ++ [32,124,32])).size=m+3:=by rw [btx_size,List.length_append,hm0];rfl
               have z2:(btx (t ++ ([32,124,32] ++ termT (gd xs 0).2.1))).size=m+3+n1:=by rw [btx_size,List.length_append,List.length_append,hm0,hn1];exact (Nat.add_assoc _ _ _).symm
               have z2b:(btx (t ++ (32 :: 124 :: 32 :: termT (gd xs 0).2.1))).size=m+3+n1:=z2
               have z3:(btx (t ++ ([32,124,32] ++ (termT (gd xs 0).2.1 ++ [62])))).size=m+3+n1+1:=by simp only [btx_size,List.length_append,hm0,hn1,List.length_cons,List.length_nil];omega
               have z3b:(btx (t ++ (32 :: 124 :: 32 :: (termT (gd xs 0).2.1 ++ [62])))).size=m+3+n1+1:=z3
               have hst:=Lib.hid (show F ++ atomsTo xs 1=t ++ ([32,124,32] ++ (termT (gd xs 0).2.1 ++ ([62] ++ termT (gd xs 0).2.2))) by
                rw [← HT.out,atomsTo_first hk8,atomsTo,if_pos rfl,atomT,if_neg hsg];simp)
               have hq1:w.heap.size < wr.heap.size:=World.block_lt_of_cell? wr _ q1
               clear hm0 hn1 hn2 hlen ht1 ht2 ht hmb
               go_wp2
               refine wp_region_ext (by kernel_rfl) (by kernel_rfl) ?_
               repeat (go_big_quiet_step ((go_at_call 290;exact ext_same (termNameS_any _ _))))
               refine wpQuiet_nil ?_
               intro w2 hb2
               replace q1:=cell_keep hb2 q1
               replace hb:=bt hb hb2
               go_wp2
               go_roundg (gk - 1)
               case rel=>exact ⟨1,by have:=HK.out;omega,by go_num,by first | (rw [hst.out];done) | (rw [hst.out];simp;done),hb,q1⟩
               case measure=>have:=HK.out;omega
         · obtain rfl:k=xs.length:=by have:=HK.out;omega
           go_wp2
           go_ret
           exact ⟨congrArg (fun z=>Ending.returned (.string (btx z))) (show F ++ atomsTo xs xs.length=asnT (fs,xs) by rw [asnT,HFE.out,if_neg (fun e=>HA.out (by rw [show xs=[] from e];rfl)),atomsTo,if_neg HA.out,List.take_length]),hb⟩
theorem asnB_len {a:Asn} (h:asnB a=true):a.1.length≤1000∧a.2.length≤1000:=by
 simp only [asnB,factsB,Bool.and_eq_true,decide_eq_true_eq] at h
 omega
def fmtA (a:Asn):List UInt8:=if asnB a=true then asnT a else []
attribute [local go_sem] btx_nil
set_option maxRecDepth 100000 in
set_option maxHeartbeats 3200000 in
theorem formatAS_any {S1 S2:Nat→Prop} (v1 v2:Value) (a:Asn) (w:World) (h1:RL w S1 v1 a.1) (h2:RL w S2 v2 a.2) :
 Calls Tryz.prog 243 #[.agg #[v1,v2]] w fun e w'=>e=.returned (.string (btx (fmtA a)))∧Below w.heap.size w w':=by
 obtain ⟨a1,c1,rfl⟩:=h1.form
 obtain ⟨a2,c2,rfl⟩:=h2.form
 cases hv:asnB a with
 | false =>
   have HV:=Lib.hid hv
   clear hv
   go_enter Tryz.func243,Tryz.ntmps243
   go_wp2_with fail
   refine (cb (asnValidS_any _ _ a _ (h1.keep Bl) (h2.keep Bl)) HV.out).mono ?_
   rintro e w2 ⟨rfl,hb⟩
   go_wp2
   go_ret
   exact ⟨by rw [fmtA,HV.out];rfl,bt Bl hb⟩
 | true =>
   have HV:=Lib.hid hv
   have hl:=asnB_len hv
   clear hv
   go_enter Tryz.func243,Tryz.ntmps243
   go_wp2_with fail
   refine (cb (asnValidS_any _ _ a _ (h1.keep Bl) (h2.keep Bl)) HV.out).mono ?_
   rintro e w2 ⟨rfl,hb⟩
   have x1:=cell_keep hb (p:=⟨w.heap.size,0,none⟩) (v:=.slice a1 a.1.length c1) (by simp)
   have x2:=cell_keep hb (p:=⟨w.heap.size,1,none⟩) (v:=.slice a2 a.2.length c2) (by simp)
   have hW:Below w.heap.size w w2:=bt Bl hb
   clear hb
   go_wp2_with fail
   refine (l3TextS_any _ _ a _ (h1.keep hW) (h2.keep hW) hl.1 hl.2).mono ?_
   rintro e w3 ⟨rfl,hb⟩
   go_wp2
   go_ret
   exact ⟨by rw [fmtA,HV.out];rfl,bt hW hb⟩
end Go.Proofs.YtkbbmjcfgcfejaaGreat
