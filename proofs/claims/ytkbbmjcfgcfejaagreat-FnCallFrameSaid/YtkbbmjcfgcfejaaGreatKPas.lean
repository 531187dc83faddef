/- Walks: the reference reads assertions (spec.ParseAssertion). (Printed by gen_pas.py.) -/
import Derived.Test.YtkbbmjcfgcfejaaGreatKAsx
import Derived.Test.YtkbbmjcfgcfejaaGreatKAppF
import Derived.Deep.Cut
import Derived.Deep.CutBlock
import Derived.Deep.CutRange
import Derived.Handy
import Derived.Deep.DeepMust
set_option linter.unusedVariables false
set_option linter.unusedSimpArgs false
namespace Go.Proofs.YtkbbmjcfgcfejaaGreat
open Go.RowKit
def trueW:List UInt8:=[116,114,117,101]
def empW:List UInt8:=[101,109,112]
def stepA (s:Bool) (a:Asn) (x:List UInt8):Option Asn :=
 match s with
 | true=>match atomO x with
   | some y=>some (a.1,a.2 ++ [y])
   | none=>if x=trueW∨x=empW then some a else none
 | false=>match factO x with
   | some f=>some (a.1 ++ [f],a.2)
   | none=>if x=trueW∨x=empW then some a else none
def secA (ws:List (List UInt8)):Nat→Bool
 | 0=>false
 | k+1=>secA ws k || (decide (2 * k+1 < ws.length) && decide (gd ws (2 * k+1)=[124]))
def asnK (ws:List (List UInt8)):Nat→Option Asn
 | 0=>some ([],[])
 | k+1=>(asnK ws k).bind fun a=>stepA (secA ws k) a (gd ws (2 * k))
def asnO (x:List UInt8):Option Asn:=if x.length≤300 then (asnK (wordsL x) (((wordsL x).length+1) / 2)).bind fun a=>if fmtA a=x∧x ≠ [] then some a else none else none
def asnR (x:List UInt8):Asn:=(asnO x).getD ([],[])
theorem stepA_fact {a:Asn} {x:List UInt8} {f:Fact} (h:factO x=some f):stepA false a x=some (a.1 ++ [f],a.2):=by rw [stepA];simp only [h]
theorem stepA_atom {a:Asn} {x:List UInt8} {y:Atom} (h:atomO x=some y):stepA true a x=some (a.1,a.2 ++ [y]):=by rw [stepA];simp only [h]
theorem stepA_skip {s:Bool} {a:Asn} {x:List UInt8} (hf:s=false→factO x=none) (ha:s=true→atomO x=none) (h:x=trueW∨x=empW):stepA s a x=some a:=by
 cases s with
 | true=>rw [stepA];simp only [ha rfl,if_pos h]
 | false=>rw [stepA];simp only [hf rfl,if_pos h]
theorem stepA_stop {s:Bool} {a:Asn} {x:List UInt8} (hf:s=false→factO x=none) (ha:s=true→atomO x=none) (h:¬ (x=trueW∨x=empW)):stepA s a x=none:=by
 cases s with
 | true=>rw [stepA];simp only [ha rfl,if_neg h]
 | false=>rw [stepA];simp only [hf rfl,if_neg h]
theorem asnK_stop {ws:List (List UInt8)} {k:Nat} (h:asnK ws k=none):∀ d,asnK ws (k+d)=none
 | 0=>h
 | d+1=>by rw [← Nat.add_assoc,asnK,asnK_stop h d];rfl
theorem asnO_stop {x:List UInt8} {ws:List (List UInt8)} (hw:wordsL x=ws) {k:Nat} (hk:k≤(ws.length+1) / 2) (h:asnK ws k=none):asnO x=none:=by
 obtain ⟨d,hd⟩:=Nat.exists_eq_add_of_le hk
 rw [asnO,hw,hd,asnK_stop h d]
 split <;> rfl
theorem asnO_end {x:List UInt8} {ws:List (List UInt8)} (hw:wordsL x=ws) (hl:x.length≤300) {a:Asn} (h:asnK ws ((ws.length+1) / 2)=some a):asnO x=if fmtA a=x∧x ≠ [] then some a else none:=by
 rw [asnO,if_pos hl,hw,h];rfl
theorem asnO_valid {x:List UInt8} {a:Asn} (h:asnO x=some a):asnB a=true∧asnT a=x:=by
 rw [asnO] at h
 split at h
 · cases hk:asnK (wordsL x) (((wordsL x).length+1) / 2) with
   | none=>rw [hk] at h;cases h
   | some b =>
     rw [hk,Option.bind_some] at h
     split at h
     · rename_i hx
       obtain rfl:=Option.some.inj h
       obtain ⟨h1,h2⟩:=hx
       rw [fmtA] at h1
       split at h1
       · rename_i hv;exact ⟨hv,h1⟩
       · exact absurd h1.symm h2
     · cases h
 · cases h
theorem btx_116:(⟨#[116,114,117,101]⟩:ByteArray)=btx trueW:=rfl
theorem btx_101:(⟨#[101,109,112]⟩:ByteArray)=btx empW:=rfl
theorem btx_124:(⟨#[124]⟩:ByteArray)=btx [124]:=rfl
theorem strs_form {w:World} {B:Nat} {v:Value} {l:List (List UInt8)} (h:w.ownsRow B 9 1 v l.length (strs l)) :
 ∃ a c,v=.slice a l.length c∧∀ i,i < l.length→∃ g,a=some ⟨g,0,none⟩∧B≤g∧g < w.heap.size∧w.cell? ⟨g,i,none⟩=some (.string (btx (gd l i))):=by
 by_cases h0:0 < l.length
 · obtain ⟨g,cap,rfl,h1,h2,h3⟩:=strs_at h h0
   exact ⟨_,cap,rfl,fun i hi=>⟨g,rfl,h1,h2,h3 i hi⟩⟩
 · obtain ⟨va,vc,rfl,_⟩:=own_form h
   exact ⟨va,vc,rfl,fun i hi=>absurd hi (by omega)⟩
attribute [local go_sem] btx_nil btx_116 btx_101 btx_124
set_option maxRecDepth 100000 in
set_option maxHeartbeats 12800000 in
theorem parseAsnS_any (x:List UInt8) (w:World) (hl:x.length≤1048576) :
 Calls Tryz.prog 201 #[.string (btx x)] w fun e w'=>∃ y1 y2,e=.returned (.tuple #[.agg #[y1,y2],.bool (asnO x).isSome])∧(FE w' w.heap.size y1 (asnR x).1∧FE w' w.heap.size y2 (asnR x).2)∧Below w.heap.size w w':=by
 have NIL:∀ (w':World),asnO x=none→Below w.heap.size w w'→∃ y1 y2,(Ending.returned (.tuple #[.agg #[.slice none 0 0,.slice none 0 0],.bool false]))=.returned (.tuple #[.agg #[y1,y2],.bool (asnO x).isSome])∧(FE w' w.heap.size y1 (asnR x).1∧FE w' w.heap.size y2 (asnR x).2)∧Below w.heap.size w w':=by
  intro w' hn hb
  rw [asnR,hn]
  exact ⟨_,_,rfl,⟨FE.nil _ _ _,FE.nil _ _ _⟩,hb⟩
 have HNIL:=Lib.hid NIL
 clear NIL
 have hR0:=heap_alloc_new w (.cells #[.slice none 0 0,.slice none 0 0] 26)
 have hb0:=below_alloc w (.cells #[.slice none 0 0,.slice none 0 0] 26)
 obtain ⟨nx,hnx⟩:∃ n,x.length=n:=⟨_,rfl⟩
 have hsz:(btx x).size=nx:=hnx
 have HX:=Lib.hid hnx
 go_enter Tryz.func201,Tryz.ntmps201
 go_wp2_with fail
 refine (wordsS_any x _ hl).mono ?_
 rintro e w1 ⟨v,rfl,hrow,hb1⟩
 obtain ⟨va,vc,rfl,hcell⟩:=strs_form hrow
 replace hR0:=box_keep hR0 hb1
 replace hb0:=bt hb0 hb1
 have hfew:=words_few x
 have hsub:∀ y ∈ wordsL x,y.length≤1048576:=fun y hy=>Nat.le_trans (words_short hy) hl
 obtain ⟨ws,hws⟩:∃ ws,wordsL x=ws:=⟨_,rfl⟩
 rw [hws] at hcell hfew hsub ⊢
 rw [hnx] at hfew hl
 have HWS:=Lib.hid hws
 obtain ⟨m,hm⟩:∃ m,ws.length=m:=⟨_,rfl⟩
 have HM:=Lib.hid hm
 rw [hm] at hcell hfew ⊢
 have HC:=Lib.hid hcell
 have HSUB:=Lib.hid hsub
 clear hrow hb1 hws hm hcell hsub hnx
 go_upto_region 4 with fail
 have hboxP:=heap_alloc_new w1 (.cells #[.slice none 0 0,.slice none 0 0] 26)
 have hbP:=below_alloc w1 (.cells #[.slice none 0 0,.slice none 0 0] 26)
 have hzP:(w1.alloc (.cells #[.slice none 0 0,.slice none 0 0] 26)).heap.size=w1.heap.size+1:=by simp
 generalize w1.alloc (.cells #[.slice none 0 0,.slice none 0 0] 26)=wP at hboxP hbP hzP ⊢
 obtain ⟨P,hP⟩:∃ P,w1.heap.size=P:=⟨_,rfl⟩
 have HRB:=Lib.hid (And.intro (box_keep hR0 hbP) (And.intro (bt hb0 hbP) (show w.heap.size < P by rw [← hP];exact box_lt hR0)))
 have HCP:=Lib.hid (fun (i:Nat) (hi:i < m)=>show ∃ g,va=some ⟨g,0,none⟩∧g < P∧wP.cell? ⟨g,i,none⟩=some (.string (btx (gd ws i))) by
  obtain ⟨g,e1,_,e2,e3⟩:=HC.out i hi
  exact ⟨g,e1,by rw [← hP];exact e2,cell_keep hbP e3⟩)
 rw [hP] at hzP hboxP ⊢
 by_cases h300:nx≤300
 rotate_left
 · have i8:decide (300 < (nx:Int))=true:=by simp;omega
   have HP:=Lib.hid (show asnO x=none by rw [asnO,if_neg (by rw [HX.out];exact h300)])
   have r0:=box0 HRB.out.1
   have r1:=box1 HRB.out.1
   have rz0:=boxz HRB.out.1 0
   have rz1:=boxz HRB.out.1 1
   have hzz:=box_lt HRB.out.1
   clear h300 hboxP hbP hzP hR0 hb0
   go_wp2
   refine bodyPost_ret (v:=.tuple #[.agg #[.slice none 0 0,.slice none 0 0],.bool false]) (by simp [results,Tryz.results201,go_sem,r0,r1]) rfl ?_
   exact HNIL.out _ HP.out (HRB.out.2.1.trans Bl)
 have i8:decide (300 < (nx:Int))=false:=by simp;omega
 have HBP:=Lib.hid hboxP
 have HZP:=Lib.hid hzP
 have H300:=Lib.hid (And.intro h300 hfew)
 clear hR0 hb0 hP hboxP hbP hzP HC h300 hfew
 go_wp2
 obtain ⟨K,hK⟩:∃ K,(m+1) / 2=K:=⟨_,rfl⟩
 have HKK:=Lib.hid hK
 clear hK
 go_loopg [6,7] K (fun q s i wr=>∃ (k j:Nat) (a:Asn) (fv av:Value),k+q=K∧j=2 * k∧i=.int .i64 j∧s=.bool (secA ws k)∧asnK ws k=some a∧(a.1.length≤k∧a.2.length≤k)∧wr.heap[P]?=some (.cells #[fv,av] 26 (0,0))∧(FE wr (P+1) fv a.1∧FE wr (P+1) av a.2)∧Fr (fun y=>y=P) wP wr)
 case atStart=>exact ⟨0,0,([],[]),_,_,by omega,rfl,rfl,rfl,rfl,⟨Nat.le_refl _,Nat.le_refl _⟩,HBP.out,⟨FE.nil _ _ _,FE.nil _ _ _⟩,Fr.refl _ _⟩
 case round =>
  obtain ⟨k,j,a,fv,av,hk,hj,rfl,hsv,hka,hal,hbox,⟨hfe,hae⟩,hf⟩:=hrel
  have HK:=Lib.hid hk
  have HJ:=Lib.hid hj
  have HKA:=Lib.hid hka
  have HAL:=Lib.hid hal
  obtain ⟨fa,fc,rfl⟩:=hfe.form
  obtain ⟨aa,ac,rfl⟩:=hae.form
  obtain ⟨sec,hsec⟩:∃ b,secA ws k=b:=⟨_,rfl⟩
  rw [hsec] at hsv
  subst hsv
  have HSEC:=Lib.hid hsec
  have hzw:P+1≤wr.heap.size:=by have:=hf.size;have:=HZP.out;omega
  have hPl:=box_lt hbox
  clear hk hj hka hal hsec
  by_cases hj8:j < m
  · have i1:(j:Int) < (m:Int):=by omega
    obtain ⟨g,rfl,hgP,hp⟩:=HCP.out j hj8
    replace hp:=hf.cell (by show ¬ g=P;omega) hp
    obtain ⟨u,hu⟩:∃ u,gd ws j=u:=⟨_,rfl⟩
    have hul:=HSUB.out (gd ws j) (gd_mem (by rw [HM.out];exact hj8))
    rw [hu] at hp hul
    have HU:=Lib.hid hu
    clear hu
    have hgw:g < wr.heap.size:=by omega
    go_wp2_with fail
    refine (parseFactS_any u _ hul).mono ?_
    rintro e w2 ⟨rfl,hb2⟩
    obtain ⟨of,hof⟩:∃ o,factO u=o:=⟨_,rfl⟩
    rw [hof]
    have HOF:=Lib.hid hof
    replace hp:=cell_keep hb2 hp
    have hg2:g < w2.heap.size:=by have:=hb2.size;omega
    obtain ⟨f,hf0⟩:∃ f:Fact,of.getD zeroF=f:=⟨_,rfl⟩
    rw [hf0]
    have HF0:=Lib.hid hf0
    clear hof hf0
    replace hp:=cell_keep (below_alloc w2 (.cells #[.bool f.1,.int .i64 f.2.1,.int .i64 f.2.2] 61)) hp
    go_wp2_with fail
    refine (parseAtomS_any u _ hul).mono ?_
    rintro e w3 ⟨y,rfl,hy,hb3⟩
    have hFb:=box_keep (heap_alloc_new w2 (.cells #[.bool f.1,.int .i64 f.2.1,.int .i64 f.2.2] 61)) hb3
    have hbx3:=bt (bt hb2 (below_alloc w2 (.cells #[.bool f.1,.int .i64 f.2.1,.int .i64 f.2.2] 61))) hb3
    replace hp:=cell_keep hb3 hp
    obtain ⟨oa,hoa⟩:∃ o,atomO u=o:=⟨_,rfl⟩
    rw [hoa] at hy ⊢
    have HOA:=Lib.hid (And.intro hoa hy)
    have hFl:=box_lt hFb
    have hwF:wr.heap.size≤w2.heap.size:=hb2.size
    clear hb2 hb3 hy hoa
    go_upto_block 2 with fail
    have hXb:=heap_alloc_new w3 (.cells #[.int .i64 y.1,.int .i64 y.2.1,.int .i64 y.2.2] 118)
    have hbq:=below_alloc w3 (.cells #[.int .i64 y.1,.int .i64 y.2.1,.int .i64 y.2.2] 118)
    generalize w3.alloc (.cells #[.int .i64 y.1,.int .i64 y.2.1,.int .i64 y.2.2] 118)=wQ at hXb hbq ⊢
    have hbQ:=bt hbx3 hbq
    replace hFb:=box_keep hFb hbq
    replace hp:=cell_keep hbq hp
    replace hbox:=box_keep hbox hbQ
    replace hfe:=hfe.keep hbQ
    replace hae:=hae.keep hbQ
    replace hf:=hf.thenB hbQ
    obtain ⟨FB,hFB⟩:∃ n,w2.heap.size=n:=⟨_,rfl⟩
    obtain ⟨XB,hXB⟩:∃ n,w3.heap.size=n:=⟨_,rfl⟩
    rw [hFB] at hFb hFl hwF ⊢
    rw [hXB] at hXb hFl ⊢
    have hXl:=box_lt hXb
    have hPF:P < FB:=by omega
    clear hbx3 hbq hbQ hFB hXB hPl hzw
    have HS:=Lib.hid (And.intro hbox (And.intro hfe (And.intro hae hf)))
    go_cut [] from 19 to 93 (fun wc=>∃ (a':Asn) (fv' av':Value),stepA sec a u=some a'∧(a'.1.length≤k+1∧a'.2.length≤k+1)∧wc.heap[P]?=some (.cells #[fv',av'] 26 (0,0))∧(FE wc (P+1) fv' a'.1∧FE wc (P+1) av' a'.2)∧Fr (fun y=>y=P) wP wc)
    case first =>
     cases sec with
     | false =>
       cases of with
       | some f' =>
         have hff:f=f':=by have:=HF0.out;simpa using this.symm
         subst hff
         have c0:=cell_of_row _ _ 0 _ _ _ hFb
         have c1:=cell_of_row _ _ 1 _ _ _ hFb
         have c2:=cell_of_row _ _ 2 _ _ _ hFb
         have d0:=box0 hbox
         have d1:=box1 hbox
         have dz:=boxz hbox 0
         have hll:a.1.length≤1000:=by have:=HAL.out;have:=HK.out;have:=HKK.out;have:=H300.out;omega
         clear hf
         go_wp2_with (at_builtin;go_must (refine app_F rfl (.tmp 48) (.tmp 50) _ rfl ti_fact rfl (hfe.keep (below_alloc _ _)) rfl (lit_fact _ _ _ _ _) (by simp;omega) (by simp;omega) ?_;intro v' w7 h7 hf7;obtain ⟨a7,n7,c7,rfl⟩:=h7.forms;have box7:=box_kept (box_keep hbox (below_alloc wQ (.cells #[.bool f.1,.int .i64 f.2.1,.int .i64 f.2.2] 61))) hf7 (tf_lt (Nat.lt_succ_self P));have e0:=box0 box7;have e1:=box1 box7;have ez:=boxz box7 0;have el:=box_lt box7))
         have o7:=(hae.keep (below_alloc wQ (.cells #[.bool f.1,.int .i64 f.2.1,.int .i64 f.2.2] 61))).tf hf7 (by decide)
         have hF8:=((HS.out.2.2.2.thenB (below_alloc wQ (.cells #[.bool f.1,.int .i64 f.2.1,.int .i64 f.2.2] 61))).then hf7 (fun i hi e=>absurd e.1 (by have:=HZP.out;omega))).then (fr_set w7 ⟨P,0,none⟩ (.slice a7 n7 c7)) (fun i _ e=>e)
         have H8:=Lib.hid (And.intro (box_set0 box7 (.slice a7 n7 c7)) (And.intro (h7.setB (p:=⟨P,0,none⟩) (u:=.slice a7 n7 c7) (tf_lt (Nat.lt_succ_self P))) (And.intro (o7.setB (p:=⟨P,0,none⟩) (u:=.slice a7 n7 c7) (tf_lt (Nat.lt_succ_self P))) hF8)))
         clear h7 hf7 o7 hF8 box7
         go_wp2
         go_meet
         case rel=>exact ⟨(a.1 ++ [f],a.2),_,_,stepA_fact HOF.out,⟨by have:=HAL.out;simp;omega,by have:=HAL.out;simp;omega⟩,H8.out.1,⟨H8.out.2.1,H8.out.2.2.1⟩,H8.out.2.2.2⟩
       | none =>
         by_cases ht:u=trueW
         · have j1:((btx u).toList == (btx trueW).toList)=true:=by rw [btx_leq];exact decide_eq_true ht
           have HST:=Lib.hid (stepA_skip (s:=false) (a:=a) (fun _=>HOF.out) (fun e=>by cases e) (.inl ht))
           clear ht hf
           go_wp2
           go_meet
           case rel=>exact ⟨a,_,_,HST.out,⟨by have:=HAL.out;omega,by have:=HAL.out;omega⟩,HS.out.1,⟨HS.out.2.1,HS.out.2.2.1⟩,HS.out.2.2.2⟩
         · by_cases he:u=empW
           · have j1b:((btx u).toList == (btx trueW).toList)=false:=by rw [btx_leq];exact decide_eq_false ht
             have j2:((btx u).toList == (btx empW).toList)=true:=by rw [btx_leq];exact decide_eq_true he
             have HST:=Lib.hid (stepA_skip (s:=false) (a:=a) (fun _=>HOF.out) (fun e=>by cases e) (.inr he))
             clear ht he hf
             go_wp2
             go_meet
             case rel=>exact ⟨a,_,_,HST.out,⟨by have:=HAL.out;omega,by have:=HAL.out;omega⟩,HS.out.1,⟨HS.out.2.1,HS.out.2.2.1⟩,HS.out.2.2.2⟩
           · have j1b:((btx u).toList == (btx trueW).toList)=false:=by rw [btx_leq];exact decide_eq_false ht
             have j2b:((btx u).toList == (btx empW).toList)=false:=by rw [btx_leq];exact decide_eq_false he
             have HST:=Lib.hid (stepA_stop (s:=false) (a:=a) (fun _=>HOF.out) (fun e=>by cases e) (fun h=>h.elim ht he))
             have HP:=Lib.hid (asnO_stop HWS.out (k:=k+1) (by have:=HK.out;have:=HKK.out;have:=HM.out;have:=HJ.out;omega) (by rw [asnK,HKA.out,Option.bind_some,HSEC.out,← HJ.out,HU.out];exact HST.out))
             have hR7:=box_kept HRB.out.1 hf (fun e=>by have:=HRB.out.2.2;omega)
             have hW7:=HRB.out.2.1.trans (hf.below HRB.out.2.1.size fun i hi e=>by have:=HRB.out.2.2;omega)
             have r0:=box0 hR7
             have r1:=box1 hR7
             have rz0:=boxz hR7 0
             have rz1:=boxz hR7 1
             have hzz:=box_lt hR7
             have HW7:=Lib.hid hW7
             clear ht he hf hR7 hW7 hbox hfe hae
             go_wp2
             refine bodyPost_ret (v:=.tuple #[.agg #[.slice none 0 0,.slice none 0 0],.bool false]) (by simp [results,Tryz.results201,go_sem,r0,r1]) rfl ?_
             exact HNIL.out _ HP.out (HW7.out.trans Bl)
     | true =>
       cases oa with
       | some y' =>
         have hyy:y=y':=HOA.out.2 y' rfl
         subst hyy
         have c0:=cell_of_row _ _ 0 _ _ _ hXb
         have c1:=cell_of_row _ _ 1 _ _ _ hXb
         have c2:=cell_of_row _ _ 2 _ _ _ hXb
         have d0:=box0 hbox
         have d1:=box1 hbox
         have dz:=boxz hbox 1
         have hll:a.2.length≤1000:=by have:=HAL.out;have:=HK.out;have:=HKK.out;have:=H300.out;omega
         clear hf
         go_wp2_with (at_builtin;go_must (refine app_F rfl (.tmp 59) (.tmp 61) _ rfl ti_atom rfl (hae.keep (below_alloc _ _)) rfl (lit_atom _ _ _ _ _) (by simp;omega) (by simp;omega) ?_;intro v' w7 h7 hf7;obtain ⟨a7,n7,c7,rfl⟩:=h7.forms;have box7:=box_kept (box_keep hbox (below_alloc wQ (.cells #[.int .i64 y.1,.int .i64 y.2.1,.int .i64 y.2.2] 118))) hf7 (tf_lt (Nat.lt_succ_self P));have e0:=box0 box7;have e1:=box1 box7;have ez:=boxz box7 1;have el:=box_lt box7))
         have o7:=(hfe.keep (below_alloc wQ (.cells #[.int .i64 y.1,.int .i64 y.2.1,.int .i64 y.2.2] 118))).tf hf7 (by decide)
         have hF8:=((HS.out.2.2.2.thenB (below_alloc wQ (.cells #[.int .i64 y.1,.int .i64 y.2.1,.int .i64 y.2.2] 118))).then hf7 (fun i hi e=>absurd e.1 (by have:=HZP.out;omega))).then (fr_set w7 ⟨P,1,none⟩ (.slice a7 n7 c7)) (fun i _ e=>e)
         have H8:=Lib.hid (And.intro (box_set1 box7 (.slice a7 n7 c7)) (And.intro (h7.setB (p:=⟨P,1,none⟩) (u:=.slice a7 n7 c7) (tf_lt (Nat.lt_succ_self P))) (And.intro (o7.setB (p:=⟨P,1,none⟩) (u:=.slice a7 n7 c7) (tf_lt (Nat.lt_succ_self P))) hF8)))
         clear h7 hf7 o7 hF8 box7
         go_wp2
         go_meet
         case rel=>exact ⟨(a.1,a.2 ++ [y]),_,_,stepA_atom HOA.out.1,⟨by have:=HAL.out;simp;omega,by have:=HAL.out;simp;omega⟩,H8.out.1,⟨H8.out.2.2.1,H8.out.2.1⟩,H8.out.2.2.2⟩
       | none =>
         by_cases ht:u=trueW
         · have j1:((btx u).toList == (btx trueW).toList)=true:=by rw [btx_leq];exact decide_eq_true ht
           have HST:=Lib.hid (stepA_skip (s:=true) (a:=a) (fun e=>by cases e) (fun _=>HOA.out.1) (.inl ht))
           clear ht hf
           go_wp2
           go_meet
           case rel=>exact ⟨a,_,_,HST.out,⟨by have:=HAL.out;omega,by have:=HAL.out;omega⟩,HS.out.1,⟨HS.out.2.1,HS.out.2.2.1⟩,HS.out.2.2.2⟩
         · by_cases he:u=empW
           · have j1b:((btx u).toList == (btx trueW).toList)=false:=by rw [btx_leq];exact decide_eq_false ht
             have j2:((btx u).toList == (btx empW).toList)=true:=by rw [btx_leq];exact decide_eq_true he
             have HST:=Lib.hid (stepA_skip (s:=true) (a:=a) (fun e=>by cases e) (fun _=>HOA.out.1) (.inr he))
             clear ht he hf
             go_wp2
             go_meet
             case rel=>exact ⟨a,_,_,HST.out,⟨by have:=HAL.out;omega,by have:=HAL.out;omega⟩,HS.out.1,⟨HS.out.2.1,HS.out.2.2.1⟩,HS.out.2.2.2⟩
           · have j1b:((btx u).toList == (btx trueW).toList)=false:=by rw [btx_leq];exact decide_eq_false ht
             have j2b:((btx u).toList == (btx empW).toList)=false:=by rw [btx_leq];exact decide_eq_false he
             have HST:=Lib.hid (stepA_stop (s:=true) (a:=a) (fun e=>by cases e) (fun _=>HOA.out.1) (fun h=>h.elim ht he))
             have HP:=Lib.hid (asnO_stop HWS.out (k:=k+1) (by have:=HK.out;have:=HKK.out;have:=HM.out;have:=HJ.out;omega) (by rw [asnK,HKA.out,Option.bind_some,HSEC.out,← HJ.out,HU.out];exact HST.out))
             have hR7:=box_kept HRB.out.1 hf (fun e=>by have:=HRB.out.2.2;omega)
             have hW7:=HRB.out.2.1.trans (hf.below HRB.out.2.1.size fun i hi e=>by have:=HRB.out.2.2;omega)
             have r0:=box0 hR7
             have r1:=box1 hR7
             have rz0:=boxz hR7 0
             have rz1:=boxz hR7 1
             have hzz:=box_lt hR7
             have HW7:=Lib.hid hW7
             clear ht he hf hR7 hW7 hbox hfe hae
             go_wp2
             refine bodyPost_ret (v:=.tuple #[.agg #[.slice none 0 0,.slice none 0 0],.bool false]) (by simp [results,Tryz.results201,go_sem,r0,r1]) rfl ?_
             exact HNIL.out _ HP.out (HW7.out.trans Bl)
    case rest =>
     have HKL:=Lib.hid (show k < K by have:=HJ.out;have:=HKK.out;omega)
     obtain ⟨a',fv',av',hst,hal',hbox',⟨hfe',hae'⟩,hf'⟩:=hcut
     have hka':asnK ws (k+1)=some a':=by rw [asnK,HKA.out,Option.bind_some,HSEC.out,← HJ.out,HU.out];exact hst
     have HA':=Lib.hid (And.intro hka' (And.intro hal' (And.intro hbox' (And.intro (And.intro hfe' hae') hf'))))
     have hsk:secA ws (k+1)=(sec || (decide (j+1 < m) && decide (gd ws (j+1)=[124]))):=by rw [secA,HSEC.out,← HJ.out,HM.out]
     have HSK:=Lib.hid hsk
     have hj2:(j:Int)≤1000:=by have:=H300.out;omega
     clear hst hka' hal' hbox' hfe' hae' hsk hbox hfe hae hp hf HS
     cases sec with
     | true =>
       go_wp2
       go_roundg (gk - 1)
       case rel=>exact ⟨k+1,j+2,a',fv',av',by have:=HK.out;have:=HKL.out;omega,by have:=HJ.out;omega,by go_num,by rw [HSK.out];rfl,HA'.out.1,HA'.out.2.1,HA'.out.2.2.1,HA'.out.2.2.2.1,HA'.out.2.2.2.2⟩
       case measure=>have:=HK.out;have:=HKL.out;omega
     | false =>
       by_cases hj1:j+1 < m
       · have i2:(j:Int)+1 < (m:Int):=by omega
         have i3:decide ((j:Int)+1 < (m:Int))=true:=by simp;omega
         obtain ⟨g',hg',hgP',hp'⟩:=HCP.out (j+1) hj1
         obtain rfl:g=g':=by injection hg' with hg';injection hg'
         replace hp':=hf'.cell (by show ¬ g=P;omega) hp'
         have hgc:g < wc.heap.size:=World.block_lt_of_cell? wc _ hp'
         obtain ⟨u2,hu2⟩:∃ u,gd ws (j+1)=u:=⟨_,rfl⟩
         rw [hu2] at hp'
         have HU2:=Lib.hid hu2
         clear hu2 hg'
         by_cases hb:u2=[124]
         · have j1:((btx u2).toList == (btx [124]).toList)=true:=by rw [btx_leq];exact decide_eq_true hb
           have HSV:=Lib.hid (show secA ws (k+1)=true by rw [HSK.out,HU2.out,decide_eq_true hj1,decide_eq_true hb];rfl)
           clear hb hf'
           go_wp2
           go_roundg (gk - 1)
           case rel=>exact ⟨k+1,j+2,a',fv',av',by have:=HK.out;have:=HKL.out;omega,by have:=HJ.out;omega,by go_num,by rw [HSV.out],HA'.out.1,HA'.out.2.1,HA'.out.2.2.1,HA'.out.2.2.2.1,HA'.out.2.2.2.2⟩
           case measure=>have:=HK.out;have:=HKL.out;omega
         · have j1b:((btx u2).toList == (btx [124]).toList)=false:=by rw [btx_leq];exact decide_eq_false hb
           have HSV:=Lib.hid (show secA ws (k+1)=false by rw [HSK.out,HU2.out,decide_eq_false hb,Bool.and_false];rfl)
           clear hb hf'
           go_wp2
           go_roundg (gk - 1)
           case rel=>exact ⟨k+1,j+2,a',fv',av',by have:=HK.out;have:=HKL.out;omega,by have:=HJ.out;omega,by go_num,by rw [HSV.out],HA'.out.1,HA'.out.2.1,HA'.out.2.2.1,HA'.out.2.2.2.1,HA'.out.2.2.2.2⟩
           case measure=>have:=HK.out;have:=HKL.out;omega
       · have i3:decide ((j:Int)+1 < (m:Int))=false:=by simp;omega
         have HSV:=Lib.hid (show secA ws (k+1)=false by rw [HSK.out,decide_eq_false hj1,Bool.false_and];rfl)
         clear hf'
         go_wp2
         go_roundg (gk - 1)
         case rel=>exact ⟨k+1,j+2,a',fv',av',by have:=HK.out;have:=HKL.out;omega,by have:=HJ.out;omega,by go_num,by rw [HSV.out],HA'.out.1,HA'.out.2.1,HA'.out.2.2.1,HA'.out.2.2.2.1,HA'.out.2.2.2.2⟩
         case measure=>have:=HK.out;have:=HKL.out;omega
  · have i1:¬ (j:Int) < (m:Int):=by omega
    have hkK:k=K:=by have:=HK.out;have:=HKK.out;have:=HJ.out;omega
    have hend:=asnO_end HWS.out (by rw [HX.out];exact H300.out.1) (by rw [HM.out,HKK.out,← hkK];exact HKA.out)
    have HEND:=Lib.hid hend
    have hR7:=box_kept HRB.out.1 hf (fun e=>by have:=HRB.out.2.2;omega)
    have hW7:=HRB.out.2.1.trans (hf.below HRB.out.2.1.size fun i hi e=>by have:=HRB.out.2.2;omega)
    have d0:=box0 hbox
    have d1:=box1 hbox
    have hbx:=hbox
    clear hend hkK
    go_wp2_with fail
    refine (formatAS_any _ _ a _ hfe.rl hae.rl).mono ?_
    rintro e w9 ⟨rfl,hb9⟩
    have hR9:=box_keep hR7 hb9
    have r0:=box0 hR9
    have r1:=box1 hR9
    have rz0:=boxz hR9 0
    have rz1:=boxz hR9 1
    have hzz:=box_lt hR9
    have e0:=cell_keep hb9 d0
    have e1:=cell_keep hb9 d1
    have hW9:=bt hW7 hb9
    have hf9:=hfe.keep hb9
    have ha9:=hae.keep hb9
    have hPR:P+1 > w.heap.size:=by have:=HRB.out.2.2;omega
    clear hR7 hW7 hf hbox hbx hfe hae hb9 d0 d1
    by_cases hq:fmtA a=x
    · have j1:((btx (fmtA a)).toList == (btx x).toList)=true:=by rw [btx_leq];exact decide_eq_true hq
      by_cases hx0:x=[]
      · have j2:((btx x).toList == (btx []).toList)=true:=by rw [btx_leq];exact decide_eq_true hx0
        have HP:=Lib.hid (show asnO x=none by rw [HEND.out,if_neg (fun h=>h.2 hx0)])
        have HW9:=Lib.hid hW9
        clear hq hx0 hR9 hW9 hf9 ha9
        go_wp2
        refine bodyPost_ret (v:=.tuple #[.agg #[.slice none 0 0,.slice none 0 0],.bool false]) (by simp [results,Tryz.results201,go_sem,r0,r1]) rfl ?_
        exact HNIL.out _ HP.out (HW9.out.trans Bl)
      · have j2b:((btx x).toList == (btx []).toList)=false:=by rw [btx_leq];exact decide_eq_false hx0
        have HP:=Lib.hid (show asnO x=some a by rw [HEND.out,if_pos ⟨hq,hx0⟩])
        have hFF:Fr (fun i=>i=w.heap.size) w9 ((w9.setCell ⟨w.heap.size,0,none⟩ (.slice fa a.1.length fc)).setCell ⟨w.heap.size,1,none⟩ (.slice aa a.2.length ac)):=(fr_set w9 ⟨w.heap.size,0,none⟩ (.slice fa a.1.length fc)).then (fr_set _ ⟨w.heap.size,1,none⟩ (.slice aa a.2.length ac)) fun _ _ e=>e
        have HE:=Lib.hid (And.intro ((hf9.kept hFF (fun k hk e=>by have h1:=hk.1;omega)).mono (B':=w.heap.size) (by omega)) (And.intro ((ha9.kept hFF (fun k hk e=>by have h1:=hk.1;omega)).mono (B':=w.heap.size) (by omega)) (hW9.trans (hFF.below hW9.size fun k hk e=>by omega))))
        clear hq hx0 hR9 hW9 hf9 ha9 hFF
        go_wp2
        refine bodyPost_ret (v:=.tuple #[.agg #[.slice fa a.1.length fc,.slice aa a.2.length ac],.bool true]) (by simp [results,Tryz.results201,go_sem,r0,r1]) rfl ?_
        exact ⟨_,_,by rw [HP.out];rfl,by rw [asnR,HP.out];exact ⟨HE.out.1,HE.out.2.1⟩,HE.out.2.2⟩
    · have j1b:((btx (fmtA a)).toList == (btx x).toList)=false:=by rw [btx_leq];exact decide_eq_false hq
      have HP:=Lib.hid (show asnO x=none by rw [HEND.out,if_neg (fun h=>hq h.1)])
      have HW9:=Lib.hid hW9
      clear hq hR9 hW9 hf9 ha9
      go_wp2
      refine bodyPost_ret (v:=.tuple #[.agg #[.slice none 0 0,.slice none 0 0],.bool false]) (by simp [results,Tryz.results201,go_sem,r0,r1]) rfl ?_
      exact HNIL.out _ HP.out (HW9.out.trans Bl)
end Go.Proofs.YtkbbmjcfgcfejaaGreat
