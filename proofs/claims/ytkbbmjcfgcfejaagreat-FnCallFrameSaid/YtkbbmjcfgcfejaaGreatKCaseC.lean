/- CaseB: texts Case5, Case6, Case7, Case8 in one. -/
import Derived.Test.YtkbbmjcfgcfejaaGreatKCaseA
import Derived.Test.YtkbbmjcfgcfejaaGreatKCmd9
import Derived.Deep.RegionHeld3
import Derived.Deep.MidRow
import Derived.Laws.IdiomCopy
import Derived.Test.YtkbbmjcfgcfejaaGreatKDHolds2
import Derived.Laws.StructEq
namespace Go.Proofs.YtkbbmjcfgcfejaaGreat
open Go.RowKit
def stepC (M:Nat) (cl:List Int) (t:Nat):Bool:=if M.testBit t=true then (decide (0≤gi cl t) && (decide (gi cl t≤(t:Int)) && (gi cl (gi cl t).toNat == gi cl t))) else gi cl t == -1
def shapeC (M:Nat) (cl:List Int):Bool:=(cl.length == 9) && (List.range 9).all (stepC M cl)
def readC (m:Nat) (a:Asn) (cl:List Int):Bool:=shapeC (termM (termsM a) 0 ||| m) cl && possC cl 8 a
theorem range_all_no {p:Nat→Bool} {k n:Nat} (hk:k < n) (h:p k=false):(List.range n).all p=false:=by
 rw [List.all_eq_false];exact ⟨k,List.mem_range.2 hk,by simp [h]⟩
theorem range_all_yes {p:Nat→Bool} {k:Nat} (h1:(List.range k).all p=true) (h:p k=true):(List.range (k+1)).all p=true:=by
 rw [List.range_succ,List.all_append,h1];simp [h]
theorem sizeC:(Tryz.prog.info? 161).map (·.size)=some 9:=by kernel_rfl
end Go.Proofs.YtkbbmjcfgcfejaaGreat
namespace Go.Proofs.YtkbbmjcfgcfejaaGreat
open Go.RowKit
def fitsF (cl:List Int) (f:Fact):Bool:=!(decide (0≤gi cl f.2.1.toNat) && (decide (0≤gi cl f.2.2.toNat) && ((gi cl f.2.1.toNat == gi cl f.2.2.toNat) != f.1)))
def apartP (l:List Atom) (i:Nat):Bool:=((gd l i).2.1 != 0) && (List.range i).all fun k=>(gd l k).2.1 != (gd l i).2.1
def apartB (l:List Atom):Bool:=(List.range l.length).all (apartP l)
set_option maxRecDepth 100000 in
set_option maxHeartbeats 3200000 in
theorem l5Fits_any {S:Nat→Prop} (v cv:Value) (l:List Fact) (cl:List Int) (w:World) (h:RL w S v l) (hc:RInts w cv cl) (hf:l.all factB=true) (hc9:cl.length=9) :
 Calls Tryz.prog 256 #[v,cv] w fun e w'=>e=.returned (.bool (l.all (fitsF cl)))∧Below w.heap.size w w':=by
 have hm:=h.len
 unfold maxLen at hm
 obtain ⟨a,c,rfl,_,_,hf1⟩:=h.factAt
 have F1:=Lib.hid hf1
 have HB:=Lib.hid (all_of hf)
 obtain ⟨cb,co,cc,rfl,_,_,hcell⟩:=hc.ne (by omega)
 have HC:=Lib.hid hcell
 have HC9:=Lib.hid hc9
 clear hf1 h hf hcell hc hc9
 go_enter Tryz.func256,Tryz.ntmps256
 go_wp2
 go_loopg [5] l.length (fun q i wr=>∃ k:Nat,k+q=l.length∧i=.int .i64 k∧(l.take k).all (fitsF cl)=true∧Below w.heap.size w wr)
 case atStart=>exact ⟨0,by omega,rfl,by simp,Below.refl _ _⟩
 case round =>
  obtain ⟨k,hk,rfl,ht,hb⟩:=hrel
  have HK:=Lib.hid hk
  have HT:=Lib.hid ht
  clear hk ht
  by_cases hk8:k < l.length
  · obtain ⟨b1,o1,rfl,_,hbl1,hp1,hp2,hp3⟩:=F1.out k hk8
    replace hp1:=cell_keep hb hp1;replace hp2:=cell_keep hb hp2;replace hp3:=cell_keep hb hp3
    have hs:=hb.size
    have i1:(k:Int) < (l.length:Int):=by omega
    have hzb:b1 < wr.heap.size:=by omega
    obtain ⟨t1,t2,t3,t4⟩:=factB_le (HB.out k hk8)
    obtain ⟨i,hi⟩:=Int.eq_ofNat_of_zero_le t1
    obtain ⟨j,hj⟩:=Int.eq_ofNat_of_zero_le t3
    have hi9:(i:Int) < (cl.length:Int):=by rw [HC9.out];omega
    have hj9:(j:Int) < (cl.length:Int):=by rw [HC9.out];omega
    rw [hi] at hp2
    rw [hj] at hp3
    have hci:=cell_keep hb (HC.out i (by omega))
    have hcj:=cell_keep hb (HC.out j (by omega))
    obtain ⟨X,hX⟩:∃ X,gi cl i=X:=⟨_,rfl⟩
    obtain ⟨Y,hY⟩:∃ Y,gi cl j=Y:=⟨_,rfl⟩
    obtain ⟨fb,hfb⟩:∃ b,(gd l k).1=b:=⟨_,rfl⟩
    have hft:fitsF cl (gd l k)=!(decide (0≤X) && (decide (0≤Y) && ((X == Y) != fb))):=by rw [fitsF,hi,hj,Int.toNat_natCast,Int.toNat_natCast,hX,hY,hfb]
    rw [hX] at hci
    rw [hY] at hcj
    rw [hfb] at hp1
    clear hi hj hX hY hfb t1 t2 t3 t4
    by_cases hx0:0≤X
    rotate_left
    · have HP:=Lib.hid (show fitsF cl (gd l k)=true by rw [hft,decide_eq_false hx0];rfl)
      clear hft
      go_wp2
      go_roundg (gk - 1)
      case rel=>exact ⟨k+1,by have:=HK.out;omega,by go_num,all_take_yes hk8 HT.out HP.out,hb⟩
      case measure=>have:=HK.out;omega
    by_cases hy0:0≤Y
    rotate_left
    · have HP:=Lib.hid (show fitsF cl (gd l k)=true by rw [hft,decide_eq_false hy0];simp)
      clear hft
      go_wp2
      go_roundg (gk - 1)
      case rel=>exact ⟨k+1,by have:=HK.out;omega,by go_num,all_take_yes hk8 HT.out HP.out,hb⟩
      case measure=>have:=HK.out;omega
    rw [decide_eq_true hx0,decide_eq_true hy0] at hft
    obtain ⟨eb,heb⟩:∃ b,(X == Y)=b:=⟨_,rfl⟩
    rw [heb] at hft
    cases eb with
    | true =>
      cases fb with
      | true =>
        have HP:=Lib.hid (show fitsF cl (gd l k)=true by rw [hft];rfl)
        clear hft
        go_wp2
        go_roundg (gk - 1)
        case rel=>exact ⟨k+1,by have:=HK.out;omega,by go_num,all_take_yes hk8 HT.out HP.out,hb⟩
        case measure=>have:=HK.out;omega
      | false =>
        have HF:=Lib.hid (all_no hk8 (show fitsF cl (gd l k)=false by rw [hft];rfl))
        clear hft
        go_wp2
        go_ret
        exact ⟨by rw [HF.out];rfl,hb⟩
    | false =>
      cases fb with
      | true =>
        have HF:=Lib.hid (all_no hk8 (show fitsF cl (gd l k)=false by rw [hft];rfl))
        clear hft
        go_wp2
        go_ret
        exact ⟨by rw [HF.out];rfl,hb⟩
      | false =>
        have HP:=Lib.hid (show fitsF cl (gd l k)=true by rw [hft];rfl)
        clear hft
        go_wp2
        go_roundg (gk - 1)
        case rel=>exact ⟨k+1,by have:=HK.out;omega,by go_num,all_take_yes hk8 HT.out HP.out,hb⟩
        case measure=>have:=HK.out;omega
  · obtain rfl:k=l.length:=by have:=HK.out;omega
    have HA:=Lib.hid (all_end HT.out)
    clear HT
    go_wp2
    go_ret
    exact ⟨by rw [HA.out];rfl,hb⟩
set_option maxRecDepth 100000 in
set_option maxHeartbeats 1600000 in
theorem l5Begins_any {S:Nat→Prop} (v:Value) (l:List Atom) (c:Int) (w:World) (hv:RL w S v l) :
 Calls Tryz.prog 309 #[v,.int .i64 c] w fun e w'=>e=.returned (.bool (l.any fun x=>x.2.1 == c))∧Below w.heap.size w w':=by
 have hm:=hv.len
 unfold maxLen at hm
 obtain ⟨a,cp,rfl,_,_,hf1⟩:=hv.atomAt
 have F1:=Lib.hid hf1
 clear hf1 hv
 go_enter Tryz.func309,Tryz.ntmps309
 go_wp2
 go_loopg [5] l.length (fun q i wr=>∃ k:Nat,k+q=l.length∧i=.int .i64 k∧((l.take k).any fun x=>x.2.1 == c)=false∧Below w.heap.size w wr)
 case atStart=>exact ⟨0,by omega,rfl,by simp,Below.refl _ _⟩
 case round =>
  obtain ⟨k,hk,rfl,ht,hb⟩:=hrel
  have HK:=Lib.hid hk
  have HT:=Lib.hid ht
  clear hk ht
  by_cases hk8:k < l.length
  · obtain ⟨b1,o1,rfl,_,hbl1,hp1,hp2,hp3⟩:=F1.out k hk8
    replace hp1:=cell_keep hb hp1;replace hp2:=cell_keep hb hp2;replace hp3:=cell_keep hb hp3
    have i1:(k:Int) < (l.length:Int):=by omega
    by_cases hp:(gd l k).2.1=c
    · have hpb:((gd l k).2.1 == c)=true:=by simp [hp]
      have HF:=Lib.hid (any_yes' (p:=fun x:Atom=>x.2.1 == c) hk8 hpb)
      clear hp
      go_wp2
      go_ret
      exact ⟨by rw [HF.out];rfl,hb⟩
    · have hpb:((gd l k).2.1 == c)=false:=by simp [hp]
      have HP:=Lib.hid hpb
      clear hp
      go_wp2
      go_roundg (gk - 1)
      case rel=>exact ⟨k+1,by have:=HK.out;omega,by go_num,any_take_no' (p:=fun x:Atom=>x.2.1 == c) hk8 HT.out HP.out,hb⟩
      case measure=>have:=HK.out;omega
  · obtain rfl:k=l.length:=by have:=HK.out;omega
    have HA:=Lib.hid (any_end' HT.out)
    clear HT
    go_wp2
    go_ret
    exact ⟨by rw [HA.out];rfl,hb⟩
set_option maxRecDepth 100000 in
set_option maxHeartbeats 1600000 in
theorem l5Apart_any {S:Nat→Prop} (v:Value) (l:List Atom) (w:World) (hv:RL w S v l) :
 Calls Tryz.prog 258 #[v] w fun e w'=>e=.returned (.bool (apartB l))∧Below w.heap.size w w':=by
 have hm:=hv.len
 unfold maxLen at hm
 obtain ⟨a,cp,rfl,_,_,hf1⟩:=hv.atomAt
 have F1:=Lib.hid hf1
 clear hf1 hv
 go_enter Tryz.func258,Tryz.ntmps258
 go_wp2
 go_loopg [3] l.length (fun q i wr=>∃ k:Nat,k+q=l.length∧i=.int .i64 k∧(List.range k).all (apartP l)=true∧Below w.heap.size w wr)
 case atStart=>exact ⟨0,by omega,rfl,rfl,Below.refl _ _⟩
 case round =>
  obtain ⟨k,hk,rfl,ht,hb⟩:=hrel
  have HK:=Lib.hid hk
  have HT:=Lib.hid ht
  clear hk ht
  by_cases hk8:k < l.length
  · obtain ⟨b1,o1,rfl,_,hbl1,hp1,hp2,hp3⟩:=F1.out k hk8
    have F2:=Lib.hid (fun j (hj:j < l.length)=>F1.out j hj)
    replace hp2:=cell_keep hb hp2
    have i1:(k:Int) < (l.length:Int):=by omega
    by_cases hp:(gd l k).2.1=0
    · have hpb:((gd l k).2.1 == 0)=true:=by simp [hp]
      have HF:=Lib.hid (show apartB l=false by rw [apartB,range_all_no hk8 (show apartP l k=false by rw [apartP,hp];rfl)])
      clear hp hp1 hp3
      go_wp2
      go_ret
      exact ⟨by rw [HF.out];rfl,hb⟩
    · have hpb:((gd l k).2.1 == 0)=false:=by simp [hp]
      have hpn:((gd l k).2.1 != 0)=true:=by simp [hp]
      have HPN:=Lib.hid hpn
      obtain ⟨gO,hgO⟩:∃ g,g=gk:=⟨_,rfl⟩
      have HGO:=Lib.hid hgO
      obtain ⟨wo,rfl⟩:∃ wo:World,wo=wr:=⟨_,rfl⟩
      clear hp hp1 hp3 hgO hpn
      go_wp2
      go_loopg [4] k (fun q i wr=>∃ j:Nat,j+q=k∧i=.int .i64 j∧((List.range j).all fun n=>(gd l n).2.1 != (gd l k).2.1)=true∧Below w.heap.size w wr)
      case atStart=>exact ⟨0,by omega,rfl,rfl,hb⟩
      case round =>
       clear hb hp2
       obtain ⟨j,hj,rfl,hall,hb⟩:=hrel
       have HJ:=Lib.hid hj
       have HALL:=Lib.hid hall
       clear hj hall
       obtain ⟨b2,o2,he,_,_,_,hq2,_⟩:=F1.out k hk8
       obtain ⟨rfl,rfl⟩:b1=b2∧o1=o2:=by simpa using he
       clear he
       replace hq2:=cell_keep hb hq2
       have hzb:b1 < wr.heap.size:=World.block_lt_of_cell? wr _ hq2
       by_cases hj8:j < k
       · obtain ⟨b3,o3,he,_,_,_,hr2,_⟩:=F1.out j (by omega)
         obtain ⟨rfl,rfl⟩:b1=b3∧o1=o3:=by simpa using he
         clear he
         replace hr2:=cell_keep hb hr2
         have j1:(j:Int) < (l.length:Int):=by omega
         have j2:(j:Int) < (k:Int):=by omega
         by_cases hn:(gd l j).2.1=(gd l k).2.1
         · have hnb:((gd l j).2.1 == (gd l k).2.1)=true:=by simp [hn]
           have HF:=Lib.hid (show apartB l=false by rw [apartB,range_all_no hk8 (show apartP l k=false by rw [apartP,range_all_no (p:=fun n=>(gd l n).2.1 != (gd l k).2.1) hj8 (by simp [hn])];simp)])
           clear hn
           go_wp2
           refine wp_region_ext (by kernel_rfl) (by kernel_rfl) ?_
           repeat (go_big_quiet_step ((fail)))
           refine wpQuiet_nil ?_
           intro w5 hb5
           go_wp2
           go_ret
           exact ⟨by rw [HF.out];rfl,bt hb hb5⟩
         · have hnb:((gd l j).2.1 == (gd l k).2.1)=false:=by simp [hn]
           have HN:=Lib.hid (range_all_yes (p:=fun n=>(gd l n).2.1 != (gd l k).2.1) HALL.out (by simp [hn]))
           clear hn
           go_wp2
           refine wp_region_ext (by kernel_rfl) (by kernel_rfl) ?_
           repeat (go_big_quiet_step ((fail)))
           refine wpQuiet_nil ?_
           intro w5 hb5
           go_wp2
           go_roundg (gk - 1)
           case rel=>exact ⟨j+1,by have:=HJ.out;omega,by go_num,HN.out,bt hb hb5⟩
           case measure=>have:=HJ.out;omega
       · obtain rfl:j=k:=by have:=HJ.out;omega
         have HN:=Lib.hid (range_all_yes HT.out (show apartP l j=true by rw [apartP,HPN.out,HALL.out];rfl))
         clear HALL
         go_wp2
         go_roundg (gO - 1)
         case rel=>exact ⟨j+1,by have:=HK.out;have:=HGO.out;omega,by go_num,HN.out,hb⟩
         case measure=>have:=HK.out;have:=HGO.out;omega
  · obtain rfl:k=l.length:=by have:=HK.out;omega
    have HA:=Lib.hid (show apartB l=true from HT.out)
    clear HT
    go_wp2
    go_ret
    exact ⟨by rw [HA.out];rfl,hb⟩
end Go.Proofs.YtkbbmjcfgcfejaaGreat
namespace Go.Proofs.YtkbbmjcfgcfejaaGreat
open Go.RowKit
set_option maxRecDepth 100000 in
set_option maxHeartbeats 3200000 in
theorem l6Both_any {S1 S2 S3 S4:Nat→Prop} (v1 v2 u1 u2:Value) (a b:Asn) (w:World) (h1:RL w S1 v1 a.1) (h2:RL w S2 v2 a.2) (k1:RL w S3 u1 b.1) (k2:RL w S4 u2 b.2) (ha:asnB a=true) (hb0:asnB b=true) :
 Calls Tryz.prog 222 #[.agg #[v1,v2],.agg #[u1,u2]] w fun e w'=>∃ v,e=.returned v∧w'.ownsRow w.heap.size 4 1 v 9 (flagsOf (termsM (a.1 ++ b.1,a.2 ++ b.2)))∧Below w.heap.size w w':=by
 have hfa:(a.1.all factB=true∧a.2.all atomB=true)∧(b.1.all factB=true∧b.2.all atomB=true):=by
  simp only [asnB,factsB,Bool.and_eq_true] at ha hb0
  exact ⟨⟨ha.1.2,ha.2.2⟩,⟨hb0.1.2,hb0.2.2⟩⟩
 have hl:(a.1.length≤12∧a.2.length≤6)∧(b.1.length≤12∧b.2.length≤6):=by
  simp only [asnB,factsB,Bool.and_eq_true,decide_eq_true_eq] at ha hb0
  exact ⟨⟨ha.1.1,ha.2.1⟩,⟨hb0.1.1,hb0.2.1⟩⟩
 obtain ⟨a1,a2⟩:=a
 obtain ⟨b1,b2⟩:=b
 simp only at h1 h2 k1 k2 hfa hl
 obtain ⟨⟨n1,n2⟩,⟨n3,n4⟩⟩:=hl
 have hx1:(a1 ++ b1).all factB=true:=by rw [List.all_append,hfa.1.1,hfa.2.1];rfl
 have hx2:(a2 ++ b2).all atomB=true:=by rw [List.all_append,hfa.1.2,hfa.2.2];rfl
 have HX:=Lib.hid (And.intro hx1 hx2)
 obtain ⟨p1,c1,rfl⟩:=h1.form
 obtain ⟨p2,c2,rfl⟩:=h2.form
 obtain ⟨p3,c3,rfl⟩:=k1.form
 obtain ⟨p4,c4,rfl⟩:=k2.form
 clear hfa hx1 hx2 ha hb0
 go_enter Tryz.func222,Tryz.ntmps222
 go_wp2
 generalize hw0:((w.alloc (.cells #[.slice p1 a1.length c1,.slice p2 a2.length c2] 26)).alloc (.cells #[.slice p3 b1.length c3,.slice p4 b2.length c4] 26))=w0
 have hc0:w0.cell? ⟨w.heap.size,0,none⟩=some (.slice p1 a1.length c1):=by rw [← hw0];simp [go_sem]
 have hc1:w0.cell? ⟨w.heap.size,1,none⟩=some (.slice p2 a2.length c2):=by rw [← hw0];simp [go_sem]
 have hd0:w0.cell? ⟨w.heap.size+1,0,none⟩=some (.slice p3 b1.length c3):=by rw [← hw0];simp [go_sem]
 have hd1:w0.cell? ⟨w.heap.size+1,1,none⟩=some (.slice p4 b2.length c4):=by rw [← hw0];simp [go_sem]
 have hW:Below w.heap.size w w0:=by rw [← hw0];exact ba (below_alloc _ _) _
 clear hw0
 have q1:=h1.keep hW
 have q2:=h2.keep hW
 have q3:=k1.keep hW
 have q4:=k2.keep hW
 clear h1 h2 k1 k2
 go_region_held3 (fun w'=>(w'.cell? ⟨w.heap.size,0,none⟩=some (.slice p1 a1.length c1)∧w'.cell? ⟨w.heap.size,1,none⟩=some (.slice p2 a2.length c2))∧(w'.cell? ⟨w.heap.size+1,0,none⟩=some (.slice p3 b1.length c3)∧w'.cell? ⟨w.heap.size+1,1,none⟩=some (.slice p4 b2.length c4)))
  (exact ⟨⟨(by repeat (first | with_reducible exact hc0 | (with_reducible refine (fr_set _ _ _).cell (by first | (simp;done) | (simp;omega) | omega) ?_) | exact cell_keep Bl hc0)),(by repeat (first | with_reducible exact hc1 | (with_reducible refine (fr_set _ _ _).cell (by first | (simp;done) | (simp;omega) | omega) ?_) | exact cell_keep Bl hc1))⟩,⟨(by repeat (first | with_reducible exact hd0 | (with_reducible refine (fr_set _ _ _).cell (by first | (simp;done) | (simp;omega) | omega) ?_) | exact cell_keep Bl hd0)),(by repeat (first | with_reducible exact hd1 | (with_reducible refine (fr_set _ _ _).cell (by first | (simp;done) | (simp;omega) | omega) ?_) | exact cell_keep Bl hd1))⟩⟩)
  (first
    | (go_at_call 75;go_must (refine (l3Terms_any _ _ (a1 ++ b1,a2 ++ b2) _ (rl6.keep (Below.trans hb68 Bl)) (rl8.keep Bl) HX.out.1 HX.out.2).mono ?_;rintro e w9 ⟨v9,rfl,hown,hb9'⟩;have hb9:Below w0.heap.size w0 w9:=bt (bt hb8 Bl) hb9'))
    | (refine step_appE0 (l:=a1) (by rfl) (.tmp 5) (.tmp 7) _ (by rfl) ti_fact (by rfl) (by rfl) (q1.keep Bl) (by omega) ?_;intro B1 hB1 v5 w5 y1 r1 t1 hb5';have hle1:w0.heap.size≤B1:=(by rw [hB1];exact Below.size (w:=w0) (B:=w0.heap.size) Bl);have hle5:B1≤w5.heap.size:=(by rw [hB1];exact hb5'.size);have HB1:=Lib.hid hB1;clear hB1;have hb5:Below w0.heap.size w0 w5:=Below.trans Bl (hb5'.mono hle1))
    | (refine step_appE (l:=b1) (n:=a1.length) (by rfl) (.tmp 8) (.tmp 10) _ (by rfl) (B:=B1) ti_fact (by rfl) (r1.keep Bl) (by rfl) (q3.keep Bl) (by omega) (Nat.le_trans hle5 (Below.size (w:=w5) (B:=w5.heap.size) Bl)) ?_;intro v6 w6 y2 r2 _ t2 hb6';have hb6:Below w0.heap.size w0 w6:=Below.trans Bl (hb6'.mono hle1);have rl6:=rowE_app r2 r1.len t1 t2;obtain ⟨d6,m6,k6,rfl⟩:=rl6.forms)
    | (refine step_appE0 (l:=a2) (by rfl) (.tmp 12) (.tmp 14) _ (by rfl) ti_atom (by rfl) (by rfl) (q2.keep Bl) (by omega) ?_;intro B2 hB2 v7 w7 y3 r3 t3 hb7';have hle2:w0.heap.size≤B2:=(by rw [hB2];exact Below.size (w:=w0) (B:=w0.heap.size) Bl);have hle26:w6.heap.size≤B2:=(by rw [hB2];exact Below.size (w:=w6) (B:=w6.heap.size) Bl);have hle7:B2≤w7.heap.size:=(by rw [hB2];exact hb7'.size);have HB2:=Lib.hid hB2;clear hB2;have hb7:Below w0.heap.size w0 w7:=Below.trans Bl (hb7'.mono hle2);have hb67:Below w6.heap.size w6 w7:=Below.trans Bl (hb7'.mono hle26))
    | (refine step_appE (l:=b2) (n:=a2.length) (by rfl) (.tmp 15) (.tmp 17) _ (by rfl) (B:=B2) ti_atom (by rfl) (r3.keep Bl) (by rfl) (q4.keep Bl) (by omega) (Nat.le_trans hle7 (Below.size (w:=w7) (B:=w7.heap.size) Bl)) ?_;intro v8 w8 y4 r4 _ t4 hb8';have hb8:Below w0.heap.size w0 w8:=Below.trans Bl (hb8'.mono hle2);have hb68:Below w6.heap.size w6 w8:=Below.trans Bl (hb8'.mono hle26);have rl8:=rowE_app r4 r3.len t3 t4;obtain ⟨d8,m8,k8,rfl⟩:=rl8.forms;clear q1 q2 q3 q4))
 all_goals
  have HO:=Lib.hid (And.intro (own_mono hown (Nat.le_trans hW.size (Below.size (w:=w0) (B:=w0.heap.size) (bt hb8 Bl)))) (bt hW hb9))
  clear hown hb9 hb9'
  go_wp2
  go_ret
  exact ⟨_,rfl,HO.out.1,HO.out.2⟩
end Go.Proofs.YtkbbmjcfgcfejaaGreat
namespace Go.Proofs.YtkbbmjcfgcfejaaGreat
open Go.RowKit
def useList (left:List Atom) (B:Int) (closed:Bool) (at_:Int):List Int→Bool
 | []=>false
 | i :: r=>if (gd left i.toNat).2.1=at_ then (if (gd left i.toNat).2.2=B then r.isEmpty else (if ((gd left i.toNat).1 == 2 && !closed)=true then false else useList left B closed (gd left i.toNat).2.2 r)) else false
def clsdB (left:List Atom) (B:Int):Bool:=(B == 0) || left.any fun y=>y.2.1 == B
def allowB (left:List Atom) (x:Atom) (uses:List Int):Bool :=
 if x.1=1 then (uses.length == 1) && decide (gd left (gi uses 0).toNat=x) else useList left x.2.2 (clsdB left x.2.2) x.2.1 uses
end Go.Proofs.YtkbbmjcfgcfejaaGreat
namespace Go.Proofs.YtkbbmjcfgcfejaaGreat
open Go.RowKit
def boolsN (n m:Nat):List Value:=(List.range n).map fun k=>.bool (m.testBit k)
theorem bools_at {n m k:Nat} (h:k < n):(boolsN n m)[k]?=some (.bool (m.testBit k)):=by simp [boolsN,h]
theorem bools_len (n m:Nat):(boolsN n m).length=n:=by simp [boolsN]
theorem bools_set {n m k:Nat} (_h:k < n):(boolsN n m).set k (.bool true)=boolsN n (m ||| 2 ^ k):=by
 apply List.ext_getElem?
 intro i
 rw [List.getElem?_set]
 by_cases hi:i < n
 · rw [bools_at hi,bools_at hi,testBit_or_pow]
   by_cases hk:k=i
   · subst hk;simp [boolsN,hi]
   · simp [hk]
 · have h1:(boolsN n m)[i]?=none:=by simp [boolsN];omega
   have h2:(boolsN n (m ||| 2 ^ k))[i]?=none:=by simp [boolsN];omega
   rw [h1,h2]
   by_cases hk:k=i
   · subst hk;omega
   · simp [hk]
end Go.Proofs.YtkbbmjcfgcfejaaGreat
namespace Go.Proofs.YtkbbmjcfgcfejaaGreat
open Go.RowKit
def cntM (n m:Nat):Nat:=((List.range n).filter fun k=>m.testBit k).length
theorem cntM_set {n m k:Nat} (hk:k < n) (hb:m.testBit k=false):cntM n (m ||| 2 ^ k)=cntM n m+1:=by
 induction n with
 | zero=>omega
 | succ n ih =>
   unfold cntM
   rw [List.range_succ,List.filter_append,List.filter_append,List.length_append,List.length_append]
   by_cases e:k=n
   · subst e
     have h1:((List.range k).filter fun j=>(m ||| 2 ^ k).testBit j)=(List.range k).filter fun j=>m.testBit j:=by
      refine List.filter_congr fun j hj=>?_
      have:=List.mem_range.1 hj
      rw [testBit_or_pow];simp;intro h;omega
     rw [h1]
     have h2:(m ||| 2 ^ k).testBit k=true:=by rw [testBit_or_pow];simp
     simp [hb]
   · have:=ih (by omega)
     unfold cntM at this
     have h2:(m ||| 2 ^ k).testBit n=m.testBit n:=by rw [testBit_or_pow];simp [e]
     have h3:([n].filter fun j=>(m ||| 2 ^ k).testBit j)=[n].filter fun j=>m.testBit j:=by simp only [List.filter_cons,h2,List.filter_nil]
     rw [h3]
     omega
theorem cntM_all (n m:Nat):(cntM n m == n)=(List.range n).all fun k=>m.testBit k:=by
 rw [Bool.eq_iff_iff,beq_iff_eq,List.all_eq_true]
 unfold cntM
 conv=>lhs;rhs;rw [← List.length_range (n:=n)]
 rw [List.length_filter_eq_length_iff]
end Go.Proofs.YtkbbmjcfgcfejaaGreat
namespace Go.Proofs.YtkbbmjcfgcfejaaGreat
open Go.RowKit
def occT (t:Int) (j:Nat):Bool:=isTermB t && decide (t=(j:Int))
theorem factsM_bit (j:Nat):∀ (l:List Fact) (m:Nat),(factsM m l).testBit j=(m.testBit j || l.any fun f=>occT f.2.1 j || occT f.2.2 j)
 | [],m=>by simp [factsM]
 | f :: l,m=>by
   show (factsM (termM (termM m f.2.1) f.2.2) l).testBit j=_
   rw [factsM_bit j l,termM_bit,termM_bit,List.any_cons,← occT,← occT,Bool.or_assoc,Bool.or_assoc,← Bool.or_assoc (occT f.2.1 j)]
theorem atomsM_bit (j:Nat):∀ (l:List Atom) (m:Nat),(atomsM m l).testBit j=(m.testBit j || l.any fun f=>occT f.2.1 j || occT f.2.2 j)
 | [],m=>by simp [atomsM]
 | f :: l,m=>by
   show (atomsM (termM (termM m f.2.1) f.2.2) l).testBit j=_
   rw [atomsM_bit j l,termM_bit,termM_bit,List.any_cons,← occT,← occT,Bool.or_assoc,Bool.or_assoc,← Bool.or_assoc (occT f.2.1 j)]
theorem termsM_bit (a:Asn) (j:Nat):(termsM a).testBit j=((a.1.any fun f=>occT f.2.1 j || occT f.2.2 j) || a.2.any fun f=>occT f.2.1 j || occT f.2.2 j):=by
 rw [termsM,atomsM_bit,factsM_bit,Nat.zero_testBit,Bool.false_or]
theorem both_bit (a b:Asn) (j:Nat):(termsM (a.1 ++ b.1,a.2 ++ b.2)).testBit j=((termsM a).testBit j || (termsM b).testBit j):=by
 rw [termsM_bit,termsM_bit,termsM_bit]
 simp only [List.any_append]
 cases a.1.any fun f=>occT f.2.1 j || occT f.2.2 j <;> cases b.1.any fun f=>occT f.2.1 j || occT f.2.2 j <;> cases a.2.any fun f=>occT f.2.1 j || occT f.2.2 j <;> cases b.2.any fun f=>occT f.2.1 j || occT f.2.2 j <;> rfl
theorem occ_self {t:Int} (h:isTermB t=true):occT t t.toNat=true:=by
 have:=isTermB_iff.1 h
 simp [occT,h];omega
theorem fact_bits {a:Asn} (ha:asnB a=true) {f:Fact} (hf:f ∈ a.1):(isTermB f.2.1=true∧(termsM a).testBit f.2.1.toNat=true)∧(isTermB f.2.2=true∧(termsM a).testBit f.2.2.toNat=true):=by
 simp only [asnB,factsB,Bool.and_eq_true,List.all_eq_true] at ha
 have h1:=ha.1.2 f hf
 simp only [factB,Bool.and_eq_true] at h1
 refine ⟨⟨h1.1,?_⟩,⟨h1.2,?_⟩⟩
 · rw [termsM_bit,Bool.or_eq_true];left;rw [List.any_eq_true];exact ⟨f,hf,by rw [occ_self h1.1];rfl⟩
 · rw [termsM_bit,Bool.or_eq_true];left;rw [List.any_eq_true];exact ⟨f,hf,by rw [occ_self h1.2,Bool.or_true]⟩
theorem atom_bits {a:Asn} (ha:asnB a=true) {f:Atom} (hf:f ∈ a.2):(isTermB f.2.1=true∧(termsM a).testBit f.2.1.toNat=true)∧(isTermB f.2.2=true∧(termsM a).testBit f.2.2.toNat=true):=by
 simp only [asnB,factsB,Bool.and_eq_true,List.all_eq_true] at ha
 have h1:=ha.2.2 f hf
 simp only [atomB,Bool.and_eq_true] at h1
 refine ⟨⟨h1.2.1,?_⟩,⟨h1.2.2,?_⟩⟩
 · rw [termsM_bit,Bool.or_eq_true];right;rw [List.any_eq_true];exact ⟨f,hf,by rw [occ_self h1.2.1];rfl⟩
 · rw [termsM_bit,Bool.or_eq_true];right;rw [List.any_eq_true];exact ⟨f,hf,by rw [occ_self h1.2.2,Bool.or_true]⟩
def stB (m:Nat):List Atom→Bool
 | []=>true
 | y :: r=>if (y.2.1 == 0 || hasT m y.2.1)=true then false else stB (termM m y.2.1) r
theorem starts_st {cl:List Int}:∀ (l:List Atom) (m:Nat),l.all atomB=true→startsO cl 8 m l=stB m (filledL cl l)
 | [],m,_=>rfl
 | x :: l,m,h=>by
   rw [List.all_cons,Bool.and_eq_true] at h
   obtain ⟨t1,t2,t3,t4⟩:=atomB_le' h.1
   have hi:inA cl 8 x=fillC cl x:=by rw [inA,decide_eq_true t2,decide_eq_true t4];rfl
   rw [startsO,hi]
   unfold filledL
   rw [List.filter_cons]
   cases hf:fillC cl x with
   | false=>simp only [Bool.false_eq_true,if_false];exact starts_st l m h.2
   | true =>
     simp only [if_true,List.map_cons,stB]
     show _=if ((atC cl x).2.1 == 0 || hasT m (atC cl x).2.1)=true then false else stB (termM m (atC cl x).2.1) (filledL cl l)
     rw [← starts_st l _ h.2];rfl
theorem hasT_term {m:Nat} {t z:Int} (hz:isTermB z=true):hasT (termM m t) z=(hasT m z || decide (t=z)):=by
 have:=isTermB_iff.1 hz
 rw [hasT,hasT,hz,Bool.true_and,Bool.true_and,termM_bit]
 congr 1
 by_cases e:t=z
 · subst e;rw [hz,Bool.true_and];simp;omega
 · rw [decide_eq_false (show ¬ t=((z.toNat:Nat):Int) by omega),decide_eq_false e,Bool.and_false]
theorem stB_iff:∀ (l:List Atom) (m:Nat),(∀ y ∈ l,isTermB y.2.1=true)→(stB m l=true ↔ (∀ y ∈ l,y.2.1 ≠ 0∧hasT m y.2.1=false)∧l.Pairwise fun y z=>y.2.1 ≠ z.2.1)
 | [],m,_=>by simp [stB]
 | y :: r,m,h=>by
   have hr:=stB_iff r (termM m y.2.1) fun z hz=>h z (List.mem_cons_of_mem _ hz)
   rw [stB,List.pairwise_cons]
   by_cases hc:(y.2.1 == 0 || hasT m y.2.1)=true
   · rw [if_pos hc]
     constructor
     · intro e;cases e
     · rintro ⟨h1,_⟩
       have:=h1 y List.mem_cons_self
       rw [this.2,Bool.or_false,beq_iff_eq] at hc
       exact absurd hc this.1
   · rw [if_neg hc,hr]
     simp only [Bool.or_eq_true,beq_iff_eq,not_or,Bool.not_eq_true] at hc
     constructor
     · rintro ⟨h1,h2⟩
       have h3:∀ z ∈ r,z.2.1 ≠ 0∧hasT m z.2.1=false∧y.2.1 ≠ z.2.1:=fun z hz=>by
        have:=h1 z hz
        rw [hasT_term (h z (List.mem_cons_of_mem _ hz)),Bool.or_eq_false_iff,decide_eq_false_iff_not] at this
        exact ⟨this.1,this.2.1,this.2.2⟩
       refine ⟨fun z hz=>?_,⟨fun z hz=>(h3 z hz).2.2,h2⟩⟩
       rcases List.mem_cons.1 hz with rfl | hz
       · exact hc
       · exact ⟨(h3 z hz).1,(h3 z hz).2.1⟩
     · rintro ⟨h1,h2,h3⟩
       refine ⟨fun z hz=>?_,h3⟩
       have h4:=h1 z (List.mem_cons_of_mem _ hz)
       refine ⟨h4.1,?_⟩
       rw [hasT_term (h z (List.mem_cons_of_mem _ hz)),h4.2,Bool.false_or,decide_eq_false_iff_not]
       exact h2 z hz
theorem apartB_iff (l:List Atom):apartB l=true ↔ (∀ y ∈ l,y.2.1 ≠ 0)∧l.Pairwise fun y z=>y.2.1 ≠ z.2.1:=by
 rw [apartB,List.all_eq_true,List.pairwise_iff_getElem]
 constructor
 · intro h
   refine ⟨fun y hy=>?_,fun i j hi hj hij=>?_⟩
   · obtain ⟨i,hi,rfl⟩:=List.mem_iff_getElem.1 hy
     have:=h i (List.mem_range.2 hi)
     simp only [apartP,Bool.and_eq_true,bne_iff_ne,gd_of hi] at this
     exact this.1
   · have:=h j (List.mem_range.2 hj)
     simp only [apartP,Bool.and_eq_true,List.all_eq_true,bne_iff_ne,gd_of hj] at this
     have h2:=this.2 i (List.mem_range.2 hij)
     rwa [gd_of hi] at h2
 · rintro ⟨h1,h2⟩ i hi
   have hi':=List.mem_range.1 hi
   simp only [apartP,Bool.and_eq_true,List.all_eq_true,bne_iff_ne,gd_of hi']
   refine ⟨h1 _ (List.getElem_mem hi'),fun k hk=>?_⟩
   have hk':=List.mem_range.1 hk
   rw [gd_of (by omega)]
   exact h2 k i (by omega) hi' hk'
theorem starts_apart {cl:List Int} {l:List Atom} (hl:l.all atomB=true) (hc:∀ x ∈ l,isTermB (gi cl x.2.1.toNat)=true):startsO cl 8 0 l=apartB (filledL cl l):=by
 rw [starts_st l 0 hl,Bool.eq_iff_iff,apartB_iff,stB_iff _ _ fun y hy=>?_]
 · have h0:∀ t,hasT 0 t=false:=fun t=>by simp [hasT]
   simp only [h0,and_true]
 · obtain ⟨x,hx,rfl⟩:=List.mem_map.1 hy
   exact hc x (List.mem_filter.1 hx).1
theorem step_bit {M:Nat} {cl:List Int} {t:Nat} (h:shapeC M cl=true) (ht:t≤8) (hb:M.testBit t=true):0≤gi cl t∧gi cl t≤(t:Int):=by
 simp only [shapeC,Bool.and_eq_true,List.all_eq_true] at h
 have:=h.2 t (List.mem_range.2 (by omega))
 rw [stepC,if_pos hb] at this
 simp only [Bool.and_eq_true,decide_eq_true_eq] at this
 exact ⟨this.1,this.2.1⟩
theorem facts_eq {a b:Asn} {cl:List Int} (hb:asnB b=true) (hr:readC (termsM b) a cl=true):b.1.all (fitsF cl)=b.1.all (factC cl):=by
 simp only [readC,Bool.and_eq_true] at hr
 rw [Bool.eq_iff_iff,List.all_eq_true,List.all_eq_true]
 have key:∀ f ∈ b.1,fitsF cl f=factC cl f:=fun f hf=>by
  obtain ⟨⟨p1,p2⟩,⟨q1,q2⟩⟩:=fact_bits hb hf
  have e1:=isTermB_iff.1 p1
  have e2:=isTermB_iff.1 q1
  have s:∀ j,(termsM b).testBit j=true→(termM (termsM a) 0 ||| termsM b).testBit j=true:=fun j hj=>by rw [Nat.testBit_or,hj,Bool.or_true]
  have c1:=step_bit hr.1 (t:=f.2.1.toNat) (by omega) (s _ p2)
  have c2:=step_bit hr.1 (t:=f.2.2.toNat) (by omega) (s _ q2)
  rw [fitsF,decide_eq_true c1.1,decide_eq_true c2.1,factC]
  cases gi cl f.2.1.toNat == gi cl f.2.2.toNat <;> cases f.1 <;> rfl
 constructor
 · intro h f hf;rw [← key f hf];exact h f hf
 · intro h f hf;rw [key f hf];exact h f hf
end Go.Proofs.YtkbbmjcfgcfejaaGreat
namespace Go.Proofs.YtkbbmjcfgcfejaaGreat
open Go.RowKit
theorem bools_zero (n:Nat):List.replicate n (Value.bool false)=boolsN n 0:=by
 apply List.ext_getElem?
 intro i
 by_cases h:i < n
 · rw [bools_at h,List.getElem?_replicate,if_pos h,Nat.zero_testBit]
 · simp [boolsN,h]
theorem info_bool9:(Tryz.prog.info? 4).map (fun i=>(i.zero,i.size,i.bytes))=some (some (.bool false),1,1):=by kernel_rfl
end Go.Proofs.YtkbbmjcfgcfejaaGreat
