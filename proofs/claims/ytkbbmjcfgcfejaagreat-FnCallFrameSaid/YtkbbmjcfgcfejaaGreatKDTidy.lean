/- Walks: the first fact that says what a variable is (l10Known, firstSubstitution). -/
import Derived.Test.YtkbbmjcfgcfejaaGreatKFrm
import Derived.Laws.StructEq
import Derived.Deep.Cut
import Derived.Handy
import Derived.BigQuiet
import Derived.Deep.RegionLaw
import Derived.Test.YtkbbmjcfgcfejaaGreatKList1
import Derived.Test.YtkbbmjcfgcfejaaGreatKReplI
import Derived.Deep.QuietTactic
import Derived.Test.YtkbbmjcfgcfejaaGreatKImpA
import Derived.Test.YtkbbmjcfgcfejaaGreatKCmd8
import Derived.Test.YtkbbmjcfgcfejaaGreatKCmd9
import Derived.Test.YtkbbmjcfgcfejaaGreatKCmdA
import Derived.Deep.DeepMust
import Derived.Deep.DeepCutAuto
import Derived.Deep.CutBlock
import Derived.Test.YtkbbmjcfgcfejaaGreatKChains
import Derived.Test.YtkbbmjcfgcfejaaGreatKMut1
set_option linter.unusedVariables false
set_option linter.unusedSimpArgs false
namespace Go.Proofs.YtkbbmjcfgcfejaaGreat
open Go.RowKit
end Go.Proofs.YtkbbmjcfgcfejaaGreat
set_option linter.unusedVariables false
set_option linter.unusedSimpArgs false
namespace Go.Proofs.YtkbbmjcfgcfejaaGreat
open Go.RowKit
end Go.Proofs.YtkbbmjcfgcfejaaGreat
set_option linter.unusedVariables false
set_option linter.unusedSimpArgs false
namespace Go.Proofs.YtkbbmjcfgcfejaaGreat
open Go.RowKit
end Go.Proofs.YtkbbmjcfgcfejaaGreat
set_option linter.unusedVariables false
set_option linter.unusedSimpArgs false
namespace Go.Proofs.YtkbbmjcfgcfejaaGreat
open Go.RowKit
end Go.Proofs.YtkbbmjcfgcfejaaGreat
set_option linter.unusedVariables false
set_option linter.unusedSimpArgs false
namespace Go.Proofs.YtkbbmjcfgcfejaaGreat
open Go.RowKit
end Go.Proofs.YtkbbmjcfgcfejaaGreat
set_option linter.unusedVariables false
namespace Go.Proofs.YtkbbmjcfgcfejaaGreat
open Go.RowKit
def atB (a:Asn) (k t:Int) (i:Nat):Bool:=((gd a.2 i).1 == k) && impB a (true,(gd a.2 i).2.1,t)
def atomAt (a:Asn) (k t:Int):Option Nat:=(List.range a.2.length).find? (atB a k t)
abbrev VRes:Type:=Int × List Asn
def chg1 (m:Nat) (k a:Int):Nat:=if k=1∨k=2∨k=4 then termM m a else m
def chgM:(d:Nat)→Nat→List (Cm d)→Nat
 | 0,m,_=>m
 | d+1,m,l=>l.foldl (fun m c=>chgM d (chgM d (chg1 m (Cm.kind c) (Cm.a c)) (Cm.body c)) (Cm.els c)) m
def fldsB (k a b:Int):Bool:=((decide (k=1) || decide (k=2)) && (progB a && isTermB b)) ||
 ((decide (k=3) && (isTermB a && isTermB b)) ||
   ((decide (k=4) && (progB a && decide (b=0))) || (decide (k=5) && (isTermB a && decide (b=0)))))
theorem basic_flds {d:Nat} {c:Cm (d+1)} (h:basicB c=true):fldsB c.kind c.a c.b=true:=by
 rw [basicB,Bool.and_eq_true,Bool.and_eq_true,Bool.and_eq_true,Bool.and_eq_true] at h
 exact h.2.2.2.2
end Go.Proofs.YtkbbmjcfgcfejaaGreat
set_option linter.unusedVariables false
set_option linter.unusedSimpArgs false
namespace Go.Proofs.YtkbbmjcfgcfejaaGreat
open Go.RowKit
theorem chgM_step {d m k:Nat} {l:List (Cm (d+1))} (h:k < l.length):chgM (d+1) m (l.take (k+1))=chgM d (chgM d (chg1 (chgM (d+1) m (l.take k)) (gd l k).kind (gd l k).a) (gd l k).body) (gd l k).els:=by
 show (l.take (k+1)).foldl _ m=_
 rw [take_gd h,List.foldl_append];rfl
theorem fr_from {S:Nat→Prop} {w w1 w2:World} (hf:Fr S w1 w2) (hb:Below w.heap.size w w1):Fr S w w2:=((Below.fr hb).mono fun _ _ h=>h.elim).trans hf
set_option maxRecDepth 100000 in
set_option maxHeartbeats 6400000 in
theorem l8Changed_any:∀ (d:Nat) {S:Nat→Prop} (g cap:Nat) (v:Value) (l:List (Cm d)) (m B:Nat) (D:Int) (w:World) (_h:RL w S v l) (_ho:w.ownsRow B 4 1 (.slice (some ⟨g,0,none⟩) 9 cap) 9 (flagsOf m)) (_hs:∀ k,S k→¬ k=g) (_hsh:shpB d l D=true),
 Calls Tryz.prog 161 #[.slice (some ⟨g,0,none⟩) 9 cap,v] w fun e w'=>e=.returned (.slice (some ⟨g,0,none⟩) 9 cap)∧w'.ownsRow B 4 1 (.slice (some ⟨g,0,none⟩) 9 cap) 9 (flagsOf (chgM d m l))∧Fr (fun k=>k=g) w w':=by
 intro d
 induction d with
 | zero =>
   intro S g cap v l m B D w h ho hs hsh
   obtain rfl:=h.cm0
   obtain ⟨a,c,rfl⟩:=h.form
   have HO:=Lib.hid ho
   clear h ho hs hsh
   go_enter Tryz.func161,Tryz.ntmps161
   go_wp2
   go_loopg [0,5] 1 (fun q f i wr=>f=.slice (some ⟨g,0,none⟩) 9 cap∧i=.int .i64 0∧wr=w)
   case atStart=>exact ⟨rfl,rfl,rfl⟩
   case round =>
    obtain ⟨rfl,rfl,rfl⟩:=hrel
    go_wp2
    go_ret
    exact ⟨rfl,HO.out,Fr.refl _ _⟩
 | succ d ih =>
   intro S g cap v l m B D w h ho hs hsh
   obtain ⟨a,vcap,rfl,_,_,hc⟩:=h.cmAt
   have hlm:=h.len
   unfold maxLen at hlm
   have F:=Lib.hid hc
   have IH:=Lib.hid (fun (S:Nat→Prop) (v:Value) (l:List (Cm d)) (m:Nat) (w:World) (h:RL w S v l) (ho:w.ownsRow B 4 1 (.slice (some ⟨g,0,none⟩) 9 cap) 9 (flagsOf m)) (hs:∀ k,S k→¬ k=g) (hsh:shpB d l (D - 1)=true)=>ih (S:=S) g cap v l m B (D - 1) w h ho hs hsh)
   have HSH:=Lib.hid (And.intro hs (shape_succ hsh))
   have HO:=Lib.hid ho
   have hgw:=(own_lt ho (k:=g) rfl).2
   clear h hc ih hs hsh ho
   go_enter Tryz.func161,Tryz.ntmps161
   go_wp2
   go_loopg [0,5] l.length (fun q f i wr=>∃ k:Nat,k+q=l.length∧f=.slice (some ⟨g,0,none⟩) 9 cap∧i=.int .i64 (k:Int)∧wr.ownsRow B 4 1 (.slice (some ⟨g,0,none⟩) 9 cap) 9 (flagsOf (chgM (d+1) m (l.take k)))∧Fr (fun k=>k=g) w wr)
   case atStart=>exact ⟨0,by omega,rfl,rfl,HO.out,Fr.refl _ _⟩
   case round =>
    obtain ⟨k,hk,rfl,rfl,hown,hfr⟩:=hrel
    have HK:=Lib.hid hk
    have hzs:=hfr.size
    clear hk
    by_cases hk8:k < l.length
    · obtain ⟨b,o,f1,f2,x,y,rfl,hSb,hbl,hcc,_,g3,g4⟩:=F.out k hk8
      obtain ⟨xa,xn,rfl⟩:=g3.form
      obtain ⟨ya,yn,rfl⟩:=g4.form
      obtain ⟨c,hck⟩:∃ c,gd l k=c:=⟨_,rfl⟩
      have hst:=chgM_step (m:=m) hk8
      obtain ⟨hhead,hsb,hse⟩:=HSH.out.2 c (hck ▸ gd_mem hk8)
      rw [hck] at hcc g3 g4 hst
      have hbg:¬ b=g:=HSH.out.1 b hSb
      have hkept:∀ {i:Nat} {u:Value},(cmCells c.kind c.a c.b c.test f1 f2 (.slice xa c.body.length xn) (.slice ya c.els.length yn))[i]?=some u→wr.cell? ⟨b,o+k * 10+i,none⟩=some u:=fun hi=>hfr.cell (by simpa using hbg) (hcc _ _ hi)
      obtain ⟨M0,hM0⟩:∃ M0,chgM (d+1) m (l.take k)=M0:=⟨_,rfl⟩
      rw [hM0] at hst hown
      obtain ⟨M1,hM1⟩:∃ M1,chg1 M0 c.kind c.a=M1:=⟨_,rfl⟩
      rw [hM1] at hst
      have p0:wr.cell? ⟨b,o+k * 10,none⟩=some (.int .i64 c.kind):=hkept (i:=0) rfl
      have p1:wr.cell? ⟨b,o+k * 10+1,none⟩=some (.int .i64 c.a):=hkept (i:=1) rfl
      have p8:=hkept (i:=8) rfl
      have p9:=hkept (i:=9) rfl
      have i1:(k:Int) < (l.length:Int):=by omega
      have hzb:b < wr.heap.size:=by omega
      have far:∀ j,j < w.heap.size→S j→¬ (fun j=>j=g) j:=fun j _ hj e=>HSH.out.1 j hj e
      have HG:=Lib.hid (And.intro (And.intro (g3.kept hfr far) (g4.kept hfr far)) (And.intro (And.intro hsb hse) (And.intro hst hhead)))
      have HFR:=Lib.hid hfr
      have HM1:=Lib.hid hM1
      have HW:=Lib.hid hown
      clear hst hhead hsb hse hkept g3 g4 hcc hck hM0 hM1 hfr far hown
      go_upto_block 2 with fail
      go_cut [] (fun wx=>wx.ownsRow B 4 1 (.slice (some ⟨g,0,none⟩) 9 cap) 9 (flagsOf M1)∧Fr (fun k=>k=g) wr wx)
      case first =>
       by_cases hch:c.kind=1∨c.kind=2∨c.kind=4
       · have hb:=basic_flds (headOk_basic HG.out.2.2.2 (by omega) (by omega))
         have ha:1≤c.a∧c.a≤4:=by
          simp only [fldsB,Bool.and_eq_true,Bool.or_eq_true,decide_eq_true_eq,progB_iff,isTermB_iff] at hb
          omega
         obtain ⟨A,hA⟩:=Int.eq_ofNat_of_zero_le (show 0≤c.a by omega)
         rw [hA] at p1
         have hA9:(A:Int) < 9:=by omega
         have hm:M1=M0 ||| 2 ^ A:=by rw [← HM1.out,chg1,if_pos hch,hA,termM_nat (by omega)]
         obtain ⟨s1,g1⟩:=HW.out.stored A (.bool true)
         rw [flags_set M0 A (by omega),← hm] at s1
         have z1:=HW.out.frozenAt A
         have y1:wr.cell? ⟨g,A,none⟩=some (.bool (M0.testBit A)):=by
          have:=HW.out.cellAt A (by omega)
          rw [flags_at M0 A (by omega)] at this
          simpa using this
         have HS:=Lib.hid (And.intro s1 ((grown_fr g1).mono (S':=fun k=>k=g) fun k _ e=>Option.some.inj e))
         clear s1 g1 hm hb ha hA
         rcases hch with h | h | h
         · have y1:(c.kind == 1)=true:=by rw [h];rfl
           clear h
           go_wp2
           go_meet
           case rel=>exact HS.out
         · have y1:(c.kind == 1)=false:=by rw [h];rfl
           have y2:(c.kind == 2)=true:=by rw [h];rfl
           clear h
           go_wp2
           go_meet
           case rel=>exact HS.out
         · have y1:(c.kind == 1)=false:=by rw [h];rfl
           have y2:(c.kind == 2)=false:=by rw [h];rfl
           have y4:(c.kind == 4)=true:=by rw [h];rfl
           clear h
           go_wp2
           go_meet
           case rel=>exact HS.out
       · have y1:(c.kind == 1)=false:=by rw [beq_eq_false_iff_ne];exact fun e=>hch (.inl e)
         have y2:(c.kind == 2)=false:=by rw [beq_eq_false_iff_ne];exact fun e=>hch (.inr (.inl e))
         have y4:(c.kind == 4)=false:=by rw [beq_eq_false_iff_ne];exact fun e=>hch (.inr (.inr e))
         have HS:=Lib.hid (show M1=M0 by rw [← HM1.out,chg1,if_neg hch])
         clear hch
         go_wp2
         go_meet
         case rel=>exact ⟨by rw [HS.out];exact HW.out,Fr.refl _ _⟩
      case rest =>
       obtain ⟨ho,hf⟩:=hcut
       have hzc:=hf.size
       have hbg2:¬ (fun k=>k=g) b:=hbg
       replace p8:=hf.cell (p:=⟨b,o+k * 10+8,none⟩) hbg2 p8
       replace p9:=hf.cell (p:=⟨b,o+k * 10+9,none⟩) hbg2 p9
       have hzb:b < wc.heap.size:=by omega
       have far:∀ j,j < wr.heap.size→S j→¬ (fun j=>j=g) j:=fun j _ hj e=>HSH.out.1 j hj e
       have HQ:=Lib.hid (And.intro (And.intro (HG.out.1.1.kept hf far) (HG.out.1.2.kept hf far)) (And.intro ho (HFR.out.trans hf)))
       clear ho hf p0 p1 far
       go_upto_region 9 with fail
       go_region_held3 (fun w'=>w'.cell? ⟨b,o+k * 10+8,none⟩=some (.slice xa c.body.length xn)∧w'.cell? ⟨b,o+k * 10+9,none⟩=some (.slice ya c.els.length yn))
        (first | exact ⟨hf6.cell (p:=⟨b,o+k * 10+8,none⟩) hbg2 p8,hf6.cell (p:=⟨b,o+k * 10+9,none⟩) hbg2 p9⟩ | exact ⟨p8,p9⟩ | exact ⟨hf5.cell (p:=⟨b,o+k * 10+8,none⟩) hbg2 p8,hf5.cell (p:=⟨b,o+k * 10+9,none⟩) hbg2 p9⟩ | exact ⟨(by repeat (first | with_reducible exact p8 | (with_reducible refine (fr_set _ _ _).cell (by first | (simp;done) | (simp;omega) | omega) ?_) | exact cell_keep Bl p8)),(by repeat (first | with_reducible exact p9 | (with_reducible refine (fr_set _ _ _).cell (by first | (simp;done) | (simp;omega) | omega) ?_) | exact cell_keep Bl p9))⟩)
        (first
          | (have _h:=hf5;go_at_call 161;go_must (refine (IH.out S _ c.els _ _ ((HQ.out.1.2.kept hf5 (fun j _ hj e=>HSH.out.1 j hj e)).keep Bl) (own_keep ho5 Bl) HSH.out.1 HG.out.2.1.2).mono ?_;rintro e w6 ⟨rfl,ho6,hf6'⟩;have hf6:Fr (fun k=>k=g) wc w6:=hf5.trans (fr_from hf6' Bl)))
          | (go_at_call 161;go_must (refine (IH.out S _ c.body _ _ (HQ.out.1.1.keep Bl) (own_keep HQ.out.2.1 Bl) HSH.out.1 HG.out.2.1.1).mono ?_;rintro e w5 ⟨rfl,ho5,hf5'⟩;have hf5:Fr (fun k=>k=g) wc w5:=fr_from hf5' Bl)))
       have HN:=Lib.hid (And.intro ho6 (HQ.out.2.2.trans hf6))
       clear ho6 hf6 hf6' ho5 hf5 hf5' p8 p9
       go_wp2
       go_roundg (gk - 1)
       case rel=>exact ⟨k+1,by have:=HK.out;omega,rfl,by go_num,by rw [HG.out.2.2.1];exact HN.out.1,HN.out.2⟩
       case measure=>have:=HK.out;omega
    · obtain rfl:k=l.length:=by have:=HK.out;omega
      rw [List.take_length] at hown
      go_wp2
      go_ret
      exact ⟨rfl,hown,hfr⟩
def chgL {d:Nat} (l:List (Cm d)):List Int:=if progOkB l=true then sel (fun n=>(chgM d 0 l).testBit n) 0 9 else []
theorem chgL_len {d:Nat} (l:List (Cm d)):(chgL l).length≤9:=by
 rw [chgL];split
 · exact sel_len _ _ _
 · simp
theorem own_rlI {w:World} {B e n:Nat} {v:Value} {l:List Int} (h:w.ownsRow B e 1 v n (ints l)):RL w (fun k=>B≤k) v l:=(own_ints h).1.rl.more fun k _ hk=>(own_lt h hk).1
set_option maxRecDepth 100000 in
set_option maxHeartbeats 3200000 in
theorem changedS_any (d:Nat) {S:Nat→Prop} (v:Value) (l:List (Cm d)) (w:World) (h:RL w S v l) (hs:szC d l≤1000000000000000000) (hd:d≤100) :
 Calls Tryz.prog 87 #[v] w fun e w'=>∃ u,e=.returned u∧RL w' (fun k=>w.heap.size≤k) u (chgL l)∧Below w.heap.size w w':=by
 obtain ⟨a,cap,rfl⟩:=h.form
 have hmk:=mk9T
 obtain ⟨V,hV⟩:∃ V,progOkB l=V:=⟨_,rfl⟩
 have HV:=Lib.hid hV
 have H:=Lib.hid (h.more (S':=fun k=>k < w.heap.size) fun k hk _=>hk)
 clear hV h
 go_enter Tryz.func87,Tryz.ntmps87
 go_wp2_with fail
 refine (cb (progValidS_any d _ l _ H.out hs hd) HV.out).mono ?_
 rintro e w1 ⟨rfl,hb1⟩
 have H1:=Lib.hid (And.intro (H.out.keep hb1) hb1)
 have hz:=hb1.size
 have HZ:=Lib.hid hz
 clear hb1 hz
 cases V with
 | false =>
   have HR:=Lib.hid (show chgL l=[] by rw [chgL,HV.out,if_neg (by decide)])
   have HO:=Lib.hid (own_rlI (own_empty w1 w.heap.size 3 HZ.out))
   go_wp2
   go_returns
   exact ⟨_,rfl,by rw [HR.out];exact HO.out,ba H1.out.2 _⟩
 | true =>
   have HR:=Lib.hid (show chgL l=sel (fun n=>(chgM d 0 l).testBit n) 0 9 by rw [chgL,HV.out,if_pos rfl])
   have hsh:=(progOk_iff HV.out).1
   have hb2:=below_alloc w1 (.cells #[.bool false,.bool false,.bool false,.bool false,.bool false,.bool false,.bool false,.bool false,.bool false] 4)
   have HC:=Lib.hid (l8Changed_any d w1.heap.size 9 _ l 0 w1.heap.size 4 _ (H1.out.1.keep hb2) (own9T w1 w1.heap.size (Nat.le_refl _)) (fun k hk e=>by have h1:k < w.heap.size:=hk;have:=HZ.out;omega) hsh)
   have HB2:=Lib.hid (bt H1.out.2 hb2)
   clear hsh hb2
   go_wp2_with fail
   refine HC.out.mono ?_
   rintro e w2 ⟨rfl,ho2,hf2⟩
   have HF2:=Lib.hid (HB2.out.trans (hf2.below (by simp;have:=HZ.out;omega) fun k hk e=>by have e2:k=w1.heap.size:=e;have:=HZ.out;omega))
   go_wp2_with fail
   refine (l3List_any _ _ _ _ ho2).mono ?_
   rintro e w3 ⟨u,rfl,ho3,hb3⟩
   have HU:=Lib.hid (And.intro (own_rlI ho3) (And.intro hb3 HF2.out.size))
   obtain ⟨ua,uc,rfl,_⟩:=own_form ho3
   clear ho2 hf2 ho3 hb3
   go_wp2
   go_returns
   exact ⟨_,rfl,by rw [HR.out];exact HU.out.1.more fun k _ hk=>Nat.le_trans HU.out.2.2 hk,bt HF2.out HU.out.2.1⟩
end Go.Proofs.YtkbbmjcfgcfejaaGreat
set_option linter.unusedVariables false
set_option linter.unusedSimpArgs false
namespace Go.Proofs.YtkbbmjcfgcfejaaGreat
open Go.RowKit
theorem chgs_bad {l:List Int} {k:Nat} (hk:k < l.length) (h:stepP l k=false):chgsB l=false:=by
 rw [chgsB,List.all_eq_false]
 exact ⟨k,List.mem_range.2 hk,by rw [h];decide⟩
theorem chgs_all {l:List Int} (h:∀ i,i < l.length→stepP l i=true):chgsB l=true:=by
 rw [chgsB,List.all_eq_true]
 exact fun i hi=>h i (List.mem_range.1 hi)
theorem prv_succ (l:List Int) (k:Nat):prvI l (k+1)=gi l k:=by rw [prvI,if_neg (by omega)];rfl
def BoxK (w:World) (b:Nat) (p1 p2 q1 q2 ch:Value):Prop:=w.heap[b]?=some (.cells #[p1,p2,q1,q2,ch] 29 (0,0))
section
variable {w w':World} {b:Nat} {p1 p2 q1 q2 ch:Value}
theorem BoxK.keep (h:BoxK w b p1 p2 q1 q2 ch) (hb:Below w.heap.size w w'):BoxK w' b p1 p2 q1 q2 ch:=box_keep h hb
theorem BoxK.cells (h:BoxK w b p1 p2 q1 q2 ch):w.cell? ⟨b,0,none⟩=some p1∧w.cell? ⟨b,1,none⟩=some p2∧w.cell? ⟨b,2,none⟩=some q1∧w.cell? ⟨b,3,none⟩=some q2∧w.cell? ⟨b,4,none⟩=some ch :=
 ⟨cell_of_row w b 0 _ _ _ h,cell_of_row w b 1 _ _ _ h,cell_of_row w b 2 _ _ _ h,cell_of_row w b 3 _ _ _ h,cell_of_row w b 4 _ _ _ h⟩
theorem BoxK.lt (h:BoxK w b p1 p2 q1 q2 ch):b < w.heap.size:=box_lt h
theorem boxK_new (w:World) (p1 p2 q1 q2 ch:Value):BoxK (w.alloc (.cells #[p1,p2,q1,q2,ch] 29)) w.heap.size p1 p2 q1 q2 ch:=heap_alloc_new _ _
end
structure RCon (w:World) (S:Nat→Prop) (p1 p2 q1 q2 ch:Value) (k:Con):Prop where
 pre1:RL w S p1 k.1.1
 pre2:RL w S p2 k.1.2
 post1:RL w S q1 k.2.1.1
 post2:RL w S q2 k.2.1.2
 chg:RL w S ch k.2.2
theorem RCon.keep {w w':World} {S:Nat→Prop} {p1 p2 q1 q2 ch:Value} {k:Con} (h:RCon w S p1 p2 q1 q2 ch k) (hb:Below w.heap.size w w'):RCon w' S p1 p2 q1 q2 ch k :=
 ⟨h.pre1.keep hb,h.pre2.keep hb,h.post1.keep hb,h.post2.keep hb,h.chg.keep hb⟩
theorem isProg_any (n:Int) (w:World):Calls Tryz.prog 146 #[.int .i64 n] w fun e w'=>e=.returned (.bool (progB n))∧w=w':=by
 have hl:progB n=(decide (1≤n) && decide (n≤4)):=rfl
 have HL:=Lib.hid hl
 clear hl
 by_cases h1:1≤n
 · by_cases h2:n≤4
   · have HD:=Lib.hid (show progB n=true by rw [HL.out,decide_eq_true h1,decide_eq_true h2];rfl)
     go_enter Tryz.func146,Tryz.ntmps146
     go_wp2
     go_ret
     exact ⟨by rw [HD.out];rfl,rfl⟩
   · have HD:=Lib.hid (show progB n=false by rw [HL.out,decide_eq_false h2];simp)
     go_enter Tryz.func146,Tryz.ntmps146
     go_wp2
     go_ret
     exact ⟨by rw [HD.out];rfl,rfl⟩
 · have HD:=Lib.hid (show progB n=false by rw [HL.out,decide_eq_false h1];simp)
   go_enter Tryz.func146,Tryz.ntmps146
   go_wp2
   go_ret
   exact ⟨by rw [HD.out];rfl,rfl⟩
theorem isProg_val {n:Int} {b:Bool} (w:World) (h:progB n=b):Calls Tryz.prog 146 #[.int .i64 n] w fun e w'=>e=.returned (.bool b)∧w=w':=h ▸ isProg_any n w
set_option maxRecDepth 100000 in
set_option maxHeartbeats 3200000 in
theorem conValidI_any {S:Nat→Prop} (p1 p2 q1 q2 ch:Value) (k:Con) (w:World) (h:RCon w S p1 p2 q1 q2 ch k) :
 Calls Tryz.prog 65 #[.agg #[p1,p2,q1,q2,ch]] w fun e w'=>e=.returned (.bool (conB k))∧Below w.heap.size w w':=by
 obtain ⟨⟨a1,a2⟩,⟨b1,b2⟩,l⟩:=k
 have hk0:conB ((a1,a2),(b1,b2),l)=(asnB (a1,a2) && (asnB (b1,b2) && chgsB l)):=rfl
 rw [hk0]
 clear hk0
 obtain ⟨x1,y1,rfl⟩:=h.pre1.form
 obtain ⟨x2,y2,rfl⟩:=h.pre2.form
 obtain ⟨x3,y3,rfl⟩:=h.post1.form
 obtain ⟨x4,y4,rfl⟩:=h.post2.form
 obtain ⟨x5,y5,rfl⟩:=h.chg.form
 have hb0:=below_alloc w (.cells #[.slice x1 a1.length y1,.slice x2 a2.length y2,.slice x3 b1.length y3,.slice x4 b2.length y4,.slice x5 l.length y5] 29)
 have hK:=boxK_new w (.slice x1 a1.length y1) (.slice x2 a2.length y2) (.slice x3 b1.length y3) (.slice x4 b2.length y4) (.slice x5 l.length y5)
 have H0:=Lib.hid (And.intro hK (And.intro (h.keep hb0) hb0))
 clear hK hb0 h
 obtain ⟨A,hA⟩:∃ A,asnB (a1,a2)=A:=⟨_,rfl⟩
 obtain ⟨B,hB⟩:∃ B,asnB (b1,b2)=B:=⟨_,rfl⟩
 rw [hA,hB]
 have HAB:=Lib.hid (And.intro hA hB)
 clear hA hB
 go_enter Tryz.func65,Tryz.ntmps65
 go_wp2_with fail
 refine (cb (asnValidI_any _ _ (a1,a2) _ H0.out.2.1.pre1 H0.out.2.1.pre2) HAB.out.1).mono ?_
 rintro e w1 ⟨rfl,hb1⟩
 have H1:=Lib.hid (And.intro (H0.out.1.keep hb1) (And.intro (H0.out.2.1.keep hb1) (bt H0.out.2.2 hb1)))
 clear hb1
 cases A with
 | false =>
   go_wp2
   go_returns
   exact ⟨rfl,H1.out.2.2⟩
 | true =>
 obtain ⟨k0,k1,k2,k3,k4⟩:=H1.out.1.cells
 have kl:=H1.out.1.lt
 go_wp2_with fail
 refine (cb (asnValidI_any _ _ (b1,b2) _ H1.out.2.1.post1 H1.out.2.1.post2) HAB.out.2).mono ?_
 rintro e w2 ⟨rfl,hb2⟩
 have H2:=Lib.hid (And.intro (H1.out.1.keep hb2) (And.intro (H1.out.2.1.keep hb2) (bt H1.out.2.2 hb2)))
 clear hb2 k0 k1 k2 k3 k4 kl
 cases B with
 | false =>
   go_wp2
   go_returns
   exact ⟨rfl,H2.out.2.2⟩
 | true =>
 obtain ⟨k0,k1,k2,k3,k4⟩:=H2.out.1.cells
 have kl:=H2.out.1.lt
 have hlm:=H2.out.2.1.chg.len
 unfold maxLen at hlm
 have HC:=Lib.hid H2.out.2.1.chg.ints.cells
 go_wp2
 clear k0 k1 k2 k3 k4 kl
 go_loopg [3,19] l.length (fun q z i wr=>∃ j:Nat,j+q=l.length∧i=.int .i64 j∧z=.int .i64 (prvI l j)∧(∀ i,i < j→stepP l i=true)∧wr=w2)
 case atStart=>exact ⟨0,by omega,rfl,rfl,fun i hi=>absurd hi (by omega),rfl⟩
 case round =>
  obtain ⟨j,hj,rfl,rfl,hst,rfl⟩:=hrel
  have HJ:=Lib.hid (And.intro hj hst)
  clear hj hst
  by_cases hj8:j < l.length
  · have hji:(j:Int) < (l.length:Int):=by omega
    obtain ⟨xa,xc,hxe,hcell⟩:=HC.out
    simp only [Value.slice.injEq] at hxe
    obtain ⟨rfl,_,rfl⟩:=hxe
    obtain ⟨b,o,rfl,hzb,hck⟩:=hcell j hj8
    obtain ⟨x,hx⟩:∃ x,gi l j=x:=⟨_,rfl⟩
    obtain ⟨z,hz⟩:∃ z,prvI l j=z:=⟨_,rfl⟩
    rw [hx] at hck
    rw [hz]
    have hsp:stepP l j=(progB x && decide (z < x)):=by rw [stepP,hx,hz]
    have hns:prvI l (j+1)=x:=by rw [prv_succ,hx]
    obtain ⟨P,hP⟩:∃ P,progB x=P:=⟨_,rfl⟩
    rw [hP] at hsp
    have HP:=Lib.hid (And.intro hP (And.intro hsp hns))
    clear hcell hx hz hsp hns hP
    cases P with
    | false =>
      go_wp2_with (first | (go_at_call 146;refine (isProg_val _ HP.out.1).mono ?_;rintro e w' ⟨rfl,rfl⟩))
      go_returns
      exact ⟨by rw [chgs_bad hj8 (by rw [HP.out.2.1];rfl)];rfl,H2.out.2.2⟩
    | true =>
      by_cases hzx:x≤z
      · go_wp2_with (first | (go_at_call 146;refine (isProg_val _ HP.out.1).mono ?_;rintro e w' ⟨rfl,rfl⟩))
        go_returns
        exact ⟨by rw [chgs_bad hj8 (by rw [HP.out.2.1,decide_eq_false (by omega)];rfl)];rfl,H2.out.2.2⟩
      · go_wp2_with (first | (go_at_call 146;refine (isProg_val _ HP.out.1).mono ?_;rintro e w' ⟨rfl,rfl⟩))
        go_roundg (gk - 1)
        case rel=>exact ⟨j+1,by have:=HJ.out;omega,by go_num,by rw [HP.out.2.2],fun i hi=>(Nat.lt_succ_iff_lt_or_eq.1 hi).elim (HJ.out.2 i) (fun e=>by rw [e,HP.out.2.1,decide_eq_true (by omega)];rfl),rfl⟩
        case measure=>have:=HJ.out;omega
  · obtain rfl:j=l.length:=by have:=HJ.out;omega
    go_wp2
    go_returns
    exact ⟨by rw [chgs_all HJ.out.2];rfl,H2.out.2.2⟩
end Go.Proofs.YtkbbmjcfgcfejaaGreat
set_option linter.unusedVariables false
set_option linter.unusedSimpArgs false
namespace Go.Proofs.YtkbbmjcfgcfejaaGreat
open Go.RowKit
theorem lit_ints_at {w:World} {g:Nat} (h:w.heap.size=g) (l:List Int) (hl:l.length≤1048576):RInts (w.alloc (.cells (ints l).toArray 3)) (.slice (some ⟨g,0,none⟩) l.length l.length) l:=h ▸ lit_ints w l hl
set_option maxRecDepth 100000 in
set_option maxHeartbeats 3200000 in
theorem l10Keep_any (g q:Nat) (w:World) (hr:Rdr w g q) (hq:q≤1000000) :
 Calls Tryz.prog 63 #[.pointer (some ⟨g,0,none⟩)] w fun e w'=>∃ (v:Value) (l:List Int),e=.returned v∧l.length≤2∧w'.ownsRow w.heap.size 3 1 v l.length (ints l)∧Rdr w' g (q+3)∧Fr (fun j=>j=g) w w':=by
 have hgl:=hr.lt
 go_enter Tryz.func63,Tryz.ntmps63
 go_wp2_with fail
 refine (num_any g q _ [0,1,0,2] _ ((hr.keep (below_alloc w (.cells #[] 3))).keep (below_alloc _ _)) (lit_ints_at (g:=w.heap.size+1) (by simp) [0,1,0,2] (by decide)) (by omega) (by decide) (by decide) (fun k hk e=>by simp [Value.ownBlock] at hk;omega)).mono ?_
 rintro e w1 ⟨x,hx,rfl,hr1,hf1⟩
 have hx8:0≤x∧x≤2:=by simp at hx;omega
 obtain ⟨n,rfl⟩:=Int.eq_ofNat_of_zero_le hx8.1
 have hn2:n≤2:=by omega
 have hown:w1.ownsRow w.heap.size 3 1 (.slice (some ⟨w.heap.size,0,none⟩) 0 0) 0 (ints []):=own_kept (own_keep (own_empty w w.heap.size 3 (Nat.le_refl _)) (below_alloc _ _)) hf1 fun k hk e=>by simp [Value.ownBlock] at hk;omega
 have H1:=Lib.hid (And.intro hown (And.intro hr1 (((Below.fr (bt (below_alloc w (.cells #[] 3)) (below_alloc _ _))).mono fun _ _ h=>h.elim).trans hf1)))
 clear hx hx8 hown hr1 hf1 hr
 go_wp2
 go_loopg [3,4] n (fun m v i wr=>∃ (l:List Int) (q':Nat),i=.int .i64 (m:Int)∧l.length+m≤2∧q'+m≤q+3∧wr.ownsRow w.heap.size 3 1 v l.length (ints l)∧Rdr wr g q'∧Fr (fun j=>j=g) w wr)
 case atStart=>exact ⟨[],q+1,rfl,by simp;omega,by omega,H1.out⟩
 case round =>
  clear H1
  obtain ⟨l,q',rfl,hl,hq',hown,hr,hf⟩:=hrel
  have HL:=Lib.hid (And.intro hl hq')
  have hgl2:=hr.lt
  have hz:=hf.size
  obtain ⟨va,vc,rfl,_⟩:=own_form hown
  by_cases h0:gk=0
  · subst h0
    have HO:=Lib.hid (And.intro hown (And.intro hr hf))
    clear hown hr hf hl hq'
    go_wp2
    go_ret
    exact ⟨_,l,rfl,by have:=HL.out.1;omega,HO.out.1,HO.out.2.1.more (by have:=HL.out.2;omega),HO.out.2.2⟩
  · have hpos:(0:Int) < (gk:Int):=by omega
    have hg2:(gk:Int)≤2:=by omega
    have HO:=Lib.hid (And.intro hown hf)
    clear hown hf hl hq'
    go_wp2_with fail
    refine (num_any g q' _ [5,6,1,8,9,-1] _ (hr.keep (below_alloc _ _)) (lit_ints _ [5,6,1,8,9,-1] (by decide)) (by have:=HL.out.2;omega) (by decide) (by decide) (fun k hk e=>by simp [Value.ownBlock] at hk;omega)).mono ?_
    rintro e w2 ⟨y,hy,rfl,hr2,hf2⟩
    have ho2:=own_kept (own_keep HO.out.1 (below_alloc wr _)) hf2 fun k hk e=>by have:=(own_lt HO.out.1 hk).1;omega
    have hF2:=(HO.out.2.thenB (below_alloc wr _)).trans hf2
    have hz2:=hF2.size
    have HN:=Lib.hid (own_keep ho2 (below_alloc w2 (.cells #[.int .i64 y] 3)))
    have HR2:=Lib.hid (And.intro (hr2.keep (below_alloc w2 (.cells #[.int .i64 y] 3))) (hF2.thenB (below_alloc w2 (.cells #[.int .i64 y] 3))))
    have hll:l.length < 1099511627776:=by have:=HL.out.1;omega
    clear hy hr2 hf2 ho2 hF2 hr
    go_wp2_with (at_builtin;refine app_int _ rfl _ _ rfl w.heap.size _ _ rfl HN.out ⟨w2.heap.size,0,none⟩ _ rfl (cell_new1 _ _ _) hll (by simp;omega) ?_;intro v' w3 hown3 hf3)
    have H3:=Lib.hid (And.intro hown3 (And.intro (HR2.out.1.kept hf3 fun k hk e=>by have:=(own_lt HN.out e).1;omega) (HR2.out.2.then hf3 fun i hi e=>by have:=(own_lt HN.out e).1;omega)))
    obtain ⟨a3,c3,rfl,_⟩:=own_form hown3
    clear hown3 hf3
    go_wp2
    go_roundg (gk - 1)
    case rel=>exact ⟨l ++ [y],q'+1,by rw [show ((gk - 1:Nat):Int)=(gk:Int) - 1 by omega],by have:=HL.out.1;simp;omega,by have:=HL.out.2;omega,H3.out⟩
    case measure=>omega
end Go.Proofs.YtkbbmjcfgcfejaaGreat
