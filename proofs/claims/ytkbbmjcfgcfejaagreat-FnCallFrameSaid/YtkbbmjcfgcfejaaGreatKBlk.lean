/- Walks: the lines of a program are read (reference: l8Block). -/
import Derived.Test.YtkbbmjcfgcfejaaGreatKCmdA
import Derived.Test.YtkbbmjcfgcfejaaGreatKCmd5
import Derived.Handy
import Derived.Deep.DeepMust
import Derived.Deep.Cut
import Derived.Deep.CutBlock
import Derived.Deep.CutRange
set_option linter.unusedVariables false
set_option linter.unusedSimpArgs false
namespace Go.Proofs.YtkbbmjcfgcfejaaGreat
open Go.RowKit
def BoxS {n:Nat} (w:World) (C lo:Nat) (c:Cm (n+1)):Prop :=
 ∃ (a1 a2 a3 a4:Option Addr) (c1 c2 c3 c4:Nat),w.heap[C]?=some (.cells #[.int .i64 c.kind,.int .i64 c.a,.int .i64 c.b,.bool c.test.1,.int .i64 c.test.2.1,.int .i64 c.test.2.2,.slice a1 c.inv.1.length c1,.slice a2 c.inv.2.length c2,.slice a3 c.body.length c3,.slice a4 c.els.length c4] 63 (0,0)) ∧
   (RL w (fun k=>lo≤k∧k ≠ C) (.slice a1 c.inv.1.length c1) c.inv.1∧RL w (fun k=>lo≤k∧k ≠ C) (.slice a2 c.inv.2.length c2) c.inv.2)∧(RL w (fun k=>lo≤k∧k ≠ C) (.slice a3 c.body.length c3) c.body∧RL w (fun k=>lo≤k∧k ≠ C) (.slice a4 c.els.length c4) c.els)
theorem BoxS.setBody {n:Nat} {w:World} {C lo:Nat} {c:Cm (n+1)} (h:BoxS w C lo c) {a:Option Addr} {k:Nat} {x:List (Cm n)} (hx:RL w (fun j=>lo≤j∧j ≠ C) (.slice a x.length k) x) :
 BoxS (w.setCell ⟨C,8,none⟩ (.slice a x.length k)) C lo (Cm.mk c.kind c.a c.b c.test c.inv x c.els):=by
 obtain ⟨a1,a2,a3,a4,c1,c2,c3,c4,hb,⟨r1,r2⟩,r3,r4⟩:=h
 have hF:=fr_set w ⟨C,8,none⟩ (.slice a x.length k)
 have hs:∀ j,j < w.heap.size→lo≤j∧j ≠ C→¬ j=C:=fun j _ h=>h.2
 exact ⟨a1,a2,a,a4,c1,c2,k,c4,row_set hb 8 (.slice a x.length k),⟨r1.kept hF hs,r2.kept hF hs⟩,hx.kept hF hs,r4.kept hF hs⟩
theorem BoxS.setEls {n:Nat} {w:World} {C lo:Nat} {c:Cm (n+1)} (h:BoxS w C lo c) {a:Option Addr} {k:Nat} {x:List (Cm n)} (hx:RL w (fun j=>lo≤j∧j ≠ C) (.slice a x.length k) x) :
 BoxS (w.setCell ⟨C,9,none⟩ (.slice a x.length k)) C lo (Cm.mk c.kind c.a c.b c.test c.inv c.body x):=by
 obtain ⟨a1,a2,a3,a4,c1,c2,c3,c4,hb,⟨r1,r2⟩,r3,r4⟩:=h
 have hF:=fr_set w ⟨C,9,none⟩ (.slice a x.length k)
 have hs:∀ j,j < w.heap.size→lo≤j∧j ≠ C→¬ j=C:=fun j _ h=>h.2
 exact ⟨a1,a2,a3,a,c1,c2,c3,k,row_set hb 9 (.slice a x.length k),⟨r1.kept hF hs,r2.kept hF hs⟩,r3.kept hF hs,hx.kept hF hs⟩
theorem BoxS.keep {n:Nat} {w w':World} {C lo:Nat} {c:Cm (n+1)} (h:BoxS w C lo c) (hf:Below w.heap.size w w'):BoxS w' C lo c:=by
 obtain ⟨a1,a2,a3,a4,c1,c2,c3,c4,hb,⟨r1,r2⟩,r3,r4⟩:=h
 exact ⟨a1,a2,a3,a4,c1,c2,c3,c4,box_keep hb hf,⟨r1.keep hf,r2.keep hf⟩,r3.keep hf,r4.keep hf⟩
theorem goesOn_no {L:List (List UInt8)} {p:Int} (h:¬ goesOn L p=true):¬ 0≤p∨(0≤p∧¬ p+1 < L.length)∨(0≤p∧p+1 < L.length∧gd L p.toNat=endW)∨(0≤p∧p+1 < L.length∧gd L p.toNat ≠ endW∧gd L p.toNat=elseW):=by
 simp only [goesOn,Bool.and_eq_true,decide_eq_true_eq,Bool.not_eq_true',decide_eq_false_iff_not,not_and] at h
 by_cases h1:0≤p
 · by_cases h2:p+1 < L.length
   · by_cases h3:gd L p.toNat=endW
     · exact .inr (.inr (.inl ⟨h1,h2,h3⟩))
     · exact .inr (.inr (.inr ⟨h1,h2,h3,Classical.not_not.1 (h h1 h2 h3)⟩))
   · exact .inr (.inl ⟨h1,h2⟩)
 · exact .inl h1
theorem seqF_stop {e:Nat} {L:List (List UInt8)} {sub:Int→Option (Blk e)} {p:Int} (h:¬ goesOn L p=true):∀ n,seqF L sub n p=([],p)
 | 0=>rfl
 | n+1=>by rw [seqF,if_neg h]
theorem cmdF_plain {e:Nat} {L:List (List UInt8)} {sub:Int→Option (Blk e)} {p:Int} {h:Int × Int × Int × Fact × Asn} (e1:headR (gd L p.toNat)=h) (e2:isBlk h=false):cmdF L sub p=some (mkH h [] [],p+1):=by
 subst e1
 show (if isBlk (headR (gd L p.toNat))=true then _ else _)=_
 rw [if_neg (by rw [e2];decide)]
theorem cmdF_none {e:Nat} {L:List (List UInt8)} {sub:Int→Option (Blk e)} {p:Int} {h:Int × Int × Int × Fact × Asn} (e1:headR (gd L p.toNat)=h) (e2:isBlk h=true) (e3:sub (p+1)=none):cmdF L sub p=none:=by
 subst e1
 show (if isBlk (headR (gd L p.toNat))=true then _ else _)=_
 rw [if_pos e2,e3]
theorem cmdF_one {e:Nat} {L:List (List UInt8)} {sub:Int→Option (Blk e)} {p:Int} {h:Int × Int × Int × Fact × Asn} {r:Blk e} (e1:headR (gd L p.toNat)=h) (e2:isBlk h=true) (e3:sub (p+1)=some r) (e4:elseAt L r.2=false):cmdF L sub p=some (mkH h r.1 [],upB r.2):=by
 subst e1
 show (if isBlk (headR (gd L p.toNat))=true then _ else _)=_
 rw [if_pos e2,e3]
 show (if elseAt L r.2=true then _ else _)=_
 rw [if_neg (by rw [e4];decide)]
theorem cmdF_two {e:Nat} {L:List (List UInt8)} {sub:Int→Option (Blk e)} {p:Int} {h:Int × Int × Int × Fact × Asn} {r s:Blk e} (e1:headR (gd L p.toNat)=h) (e2:isBlk h=true) (e3:sub (p+1)=some r) (e4:elseAt L r.2=true) (e5:sub (r.2+1)=some s):cmdF L sub p=some (mkH h r.1 s.1,upB s.2):=by
 subst e1
 show (if isBlk (headR (gd L p.toNat))=true then _ else _)=_
 rw [if_pos e2,e3]
 show (if elseAt L r.2=true then _ else _)=_
 rw [if_pos e4,e5]
theorem seqF_step {e:Nat} {L:List (List UInt8)} {sub:Int→Option (Blk e)} {p:Int} {x:Cm (e+1) × Int} (h:goesOn L p=true) (hc:cmdF L sub p=some x) (m:Nat):seqF L sub (m+1) p=(x.1 :: (seqF L sub m x.2).1,(seqF L sub m x.2).2):=by
 rw [seqF,if_pos h,hc]
theorem seqF_none {e:Nat} {L:List (List UInt8)} {sub:Int→Option (Blk e)} {p:Int} (h:goesOn L p=true) (hc:cmdF L sub p=none) (m:Nat):seqF L sub (m+1) p=([],-1):=by
 rw [seqF,if_pos h,hc]
theorem elseAt_no {L:List (List UInt8)} {p:Int} (h:¬ (0≤p∧p < L.length)):elseAt L p=false:=by
 rw [elseAt]
 by_cases h1:0≤p
 · rw [decide_eq_false (show ¬ p < L.length from fun h2=>h ⟨h1,h2⟩)];simp
 · rw [decide_eq_false h1];rfl
theorem elseAt_nat {L:List (List UInt8)} {k:Nat} (h:k < L.length):elseAt L (k:Int)=decide (gd L k=elseW):=by
 rw [elseAt,decide_eq_true (show (0:Int)≤(k:Int) by omega),decide_eq_true (show (k:Int) < (L.length:Int) by omega)];rfl
theorem head_at {x:List UInt8} {h:Int × Int × Int × Fact × Asn} (hh:headR x=h) (hl:x.length≤1048576) (w:World):Calls Tryz.prog 273 #[.string (btx x)] w (HeadRes h w):=by
 subst hh;exact headS_any x w hl
theorem btl_end:(⟨#[101,110,100]⟩:ByteArray)=btx [101,110,100]:=rfl
theorem btl_else:(⟨#[101,108,115,101]⟩:ByteArray)=btx [101,108,115,101]:=rfl
attribute [local go_sem] btl_end btl_else
def SubC {e:Nat} (sub:Int→Option (Blk e)) (p:Int) (w:World) (E:Ending) (w':World):Prop :=
 ∃ (u:Value) (r:Blk e),sub p=some r∧E=.returned (.tuple #[u,.int .i64 r.2])∧UC w' w.heap.size u r.1∧Below w.heap.size w w'
set_option maxRecDepth 100000 in
set_option maxHeartbeats 12800000 in
theorem l8Block_step {e dd:Nat} (L:List (List UInt8)) (Dp:Int) (sub:Int→Option (Blk e)) (hdd:dd≤100) (hD0:0≤Dp∧Dp≤100) (hsub:subOk L dd sub) (hn:Dp < 1→∀ p,sub p=none)
 (hL:0 < L.length∧L.length≤1048577) (hls:∀ x ∈ L,x.length≤1048576) {B0:Nat} (v:Value)
 (hcall:¬ Dp < 1→∀ (p:Int) (w:World),-1≤p→p≤L.length→w.ownsRow B0 9 1 v L.length (strs L)→Calls Tryz.prog 244 #[v,.int .i64 p,.int .i64 (Dp - 1)] w (SubC sub p w))
 (p:Int) (w:World) (hp:-1≤p∧p≤L.length) (hown:w.ownsRow B0 9 1 v L.length (strs L)) :
 Calls Tryz.prog 244 #[v,.int .i64 p,.int .i64 Dp] w fun E w'=>∃ u:Value,E=.returned (.tuple #[u,.int .i64 (seqF L sub (L.length+1) p).2])∧UC w' w.heap.size u (seqF L sub (L.length+1) p).1∧Below w.heap.size w w':=by
 obtain ⟨g,cap,rfl,_,hgl,hcell⟩:=strs_at hown hL.1
 have hown0:=World.ownsRow_lit (base:=w.heap.size) (size:=10) w #[] 0 (Nat.le_refl _) (by decide) (by simp) (e:=63)
 have hu0:UC (w.alloc (.cells #[] 63)) w.heap.size (.slice (some ⟨w.heap.size,0,none⟩) 0 0) ([]:List (Cm (e+1))):=⟨[],hown0,fun k hk=>absurd hk (Nat.not_lt_zero k)⟩
 have HU0:=Lib.hid hu0
 have HCELL:=Lib.hid hcell
 have HOWN:=Lib.hid hown
 have HCALL:=Lib.hid hcall
 have HN:=Lib.hid hn
 have HSUB:=Lib.hid hsub
 have HLS:=Lib.hid hls
 have hL1:=hL.1
 have hL2:=hL.2
 have d1:=hD0.1
 have d2:=hD0.2
 have p1:=hp.1
 have p2:=hp.2
 obtain ⟨T,hT⟩:∃ T,seqF L sub (L.length+1) p=T:=⟨_,rfl⟩
 rw [hT]
 have HT:=Lib.hid hT
 clear hown0 hu0 hcell hown hcall hn hsub hls hL hD0 hp hT
 go_enter Tryz.func244,Tryz.ntmps244
 go_wp2
 go_loopg [1,8] (L.length+1) (fun q at' out wr=>∃ (P:Int) (acc:List (Cm (e+1))),at'=.int .i64 P∧(-1≤P∧P≤L.length+dd+1)∧(P < 0∨(L.length:Int)+1≤P+q)∧UC wr w.heap.size out acc∧acc.length+q=L.length+1∧(acc ++ (seqF L sub q P).1=T.1∧(seqF L sub q P).2=T.2)∧Below w.heap.size w wr)
 case atStart=>exact ⟨p,[],rfl,⟨by omega,by omega⟩,by by_cases h:p < 0 <;> omega,HU0.out,by simp,⟨by rw [HT.out];rfl,by rw [HT.out]⟩,Bl⟩
 case round =>
  obtain ⟨P,acc,rfl,hP,hPq,huc,hal,hres,hb⟩:=hrel
  obtain ⟨va,vc,rfl⟩:=huc.form
  have hs:=hb.size
  have P1:=hP.1
  have P2:=hP.2
  have HQ:=Lib.hid (And.intro hPq hal)
  have HRES:=Lib.hid hres
  have HUC:=Lib.hid huc
  clear hP hPq hal hres huc
  by_cases hg:goesOn L P=true
  · have hg1:=goesOn_iff hg
    obtain ⟨k,rfl⟩:∃ k:Nat,P=(k:Int):=⟨P.toNat,by omega⟩
    obtain ⟨m,rfl⟩:∃ m,gk=m+1:=⟨gk - 1,by have:=HQ.out;omega⟩
    have hk1:k+1 < L.length:=by omega
    have hkl:k < L.length:=by omega
    have hne:gd L k ≠ endW∧gd L k ≠ elseW:=by
     simp only [goesOn,Bool.and_eq_true,Bool.not_eq_true',decide_eq_false_iff_not] at hg
     exact hg.2.2
    have j1:((btx (gd L k)).toList == (btx [101,110,100]).toList)=false:=by rw [btx_leq];exact decide_eq_false hne.1
    have j2:((btx (gd L k)).toList == (btx [101,108,115,101]).toList)=false:=by rw [btx_leq];exact decide_eq_false hne.2
    have i2:(k:Int)+1 < (L.length:Int):=by omega
    have c0:=cell_keep hb (HCELL.out k hkl)
    have hgz:g < wr.heap.size:=by omega
    obtain ⟨h,hh⟩:∃ h,headR (gd L k)=h:=⟨_,rfl⟩
    have HH:=Lib.hid hh
    have HGO:=Lib.hid hg
    clear hne hg hg1 hh
    go_wp2_with fail
    refine (head_at HH.out (HLS.out _ (gd_mem hkl)) _).mono ?_
    rintro E w2 ⟨f1,f2,rfl,⟨hf1,hf2⟩,hb2⟩
    obtain ⟨s1,u1,rfl⟩:=hf1.form
    obtain ⟨s2,u2,rfl⟩:=hf2.form
    have hbA:=below_alloc w2 (.cells #[.int .i64 h.1,.int .i64 h.2.1,.int .i64 h.2.2.1,.bool h.2.2.2.1.1,.int .i64 h.2.2.2.1.2.1,.int .i64 h.2.2.2.1.2.2,.slice s1 h.2.2.2.2.1.length u1,.slice s2 h.2.2.2.2.2.length u2,.slice none 0 0,.slice none 0 0] 63)
    have hC0:=heap_alloc_new w2 (.cells #[.int .i64 h.1,.int .i64 h.2.1,.int .i64 h.2.2.1,.bool h.2.2.2.1.1,.int .i64 h.2.2.2.1.2.1,.int .i64 h.2.2.2.1.2.2,.slice s1 h.2.2.2.2.1.length u1,.slice s2 h.2.2.2.2.2.length u2,.slice none 0 0,.slice none 0 0] 63)
    have hzw:=hb2.size
    have hB0:BoxS (w2.alloc (.cells #[.int .i64 h.1,.int .i64 h.2.1,.int .i64 h.2.2.1,.bool h.2.2.2.1.1,.int .i64 h.2.2.2.1.2.1,.int .i64 h.2.2.2.1.2.2,.slice s1 h.2.2.2.2.1.length u1,.slice s2 h.2.2.2.2.2.length u2,.slice none 0 0,.slice none 0 0] 63)) w2.heap.size wr.heap.size (mkH (d:=e) h [] []) :=
     ⟨s1,s2,none,none,u1,u2,0,0,hC0,⟨((hf1.rl).more fun j hj hh=>⟨hh,by omega⟩).keep hbA,((hf2.rl).more fun j hj hh=>⟨hh,by omega⟩).keep hbA⟩,rl_nil _ _,rl_nil _ _⟩
    have HB0:=Lib.hid hB0
    have HBL:=Lib.hid (And.intro hb2 (hb2.trans (hbA.mono hzw)))
    clear hf1 hf2 hB0 hC0 hbA hb2
    go_upto_region 5 with fail
    go_cut [52] from 45 to 51 (fun s wc=>s=.bool (isBlk h)∧wc=(w2.alloc (.cells #[.int .i64 h.1,.int .i64 h.2.1,.int .i64 h.2.2.1,.bool h.2.2.2.1.1,.int .i64 h.2.2.2.1.2.1,.int .i64 h.2.2.2.1.2.2,.slice s1 h.2.2.2.2.1.length u1,.slice s2 h.2.2.2.2.2.length u2,.slice none 0 0,.slice none 0 0] 63)))
    case first =>
     by_cases z6:h.1=6
     · have y6:(h.1 == 6)=true:=by simp [z6]
       have Z:=Lib.hid z6
       clear z6
       go_wp2
       go_meet
       case rel=>exact ⟨by rw [isBlk,decide_eq_true Z.out];rfl,rfl⟩
     · have y6:(h.1 == 6)=false:=by simp [z6]
       have Z:=Lib.hid z6
       clear z6
       go_wp2
       go_meet
       case rel=>exact ⟨by rw [isBlk,decide_eq_false Z.out];simp;rfl,rfl⟩
    case rest =>
     obtain ⟨rfl,rfl⟩:=hcut
     obtain ⟨C,hCe⟩:∃ C,w2.heap.size=C:=⟨_,rfl⟩
     have HCE:=Lib.hid hCe
     have HB1:=Lib.hid (show BoxS (w2.alloc (.cells #[.int .i64 h.1,.int .i64 h.2.1,.int .i64 h.2.2.1,.bool h.2.2.2.1.1,.int .i64 h.2.2.2.1.2.1,.int .i64 h.2.2.2.1.2.2,.slice s1 h.2.2.2.2.1.length u1,.slice s2 h.2.2.2.2.2.length u2,.slice none 0 0,.slice none 0 0] 63)) C wr.heap.size (mkH (d:=e) h [] []) by rw [← hCe];exact HB0.out)
     have hzW:(w2.alloc (.cells #[.int .i64 h.1,.int .i64 h.2.1,.int .i64 h.2.2.1,.bool h.2.2.2.1.1,.int .i64 h.2.2.2.1.2.1,.int .i64 h.2.2.2.1.2.2,.slice s1 h.2.2.2.2.1.length u1,.slice s2 h.2.2.2.2.2.length u2,.slice none 0 0,.slice none 0 0] 63)).heap.size=C+1:=by simp [hCe]
     have HZW:=Lib.hid hzW
     have hCw:w.heap.size≤C:=by omega
     have hwrC:wr.heap.size≤C:=by omega
     have HOWN1:=Lib.hid (own_keep (own_keep HOWN.out hb) HBL.out.2)
     rw [hCe]
     clear hCe hzW
     obtain ⟨W1,hW1⟩:∃ W,(w2.alloc (.cells #[.int .i64 h.1,.int .i64 h.2.1,.int .i64 h.2.2.1,.bool h.2.2.2.1.1,.int .i64 h.2.2.2.1.2.1,.int .i64 h.2.2.2.1.2.2,.slice s1 h.2.2.2.2.1.length u1,.slice s2 h.2.2.2.2.2.length u2,.slice none 0 0,.slice none 0 0] 63))=W:=⟨_,rfl⟩
     rw [hW1] at HB1 HZW HBL HOWN1 ⊢
     have hCz:C+1=W1.heap.size:=HZW.out.symm
     clear HB0 hW1
     go_upto_if 52 with fail
     go_cut [1] from 15 to 101 (fun at' wc=>∃ (x y:List (Cm e)) (P2:Int),at'=.int .i64 P2∧BoxS wc C wr.heap.size (mkH h x y)∧cmdF L sub k=some (mkH h x y,P2)∧(-1≤P2∧(P2 < 0∨(k:Int)+1≤P2)∧P2≤L.length+dd+1)∧Fr (fun j=>j=C) W1 wc)
     case first =>
      cases hk:isBlk h with
      | false =>
        have HK:=Lib.hid (cmdF_plain (sub:=sub) (p:=(k:Int)) HH.out hk)
        clear hk
        go_wp2
        go_meet
        case rel=>exact ⟨[],[],(k:Int)+1,by go_num,HB1.out,HK.out,cmdF_ok HSUB.out HGO.out HK.out,Fr.refl _ _⟩
      | true =>
        have HK:=Lib.hid hk
        clear hk
        by_cases hD:Dp < 1
        · have HX:=Lib.hid (show T.1=acc∧T.2=-1 by
           have h:=HRES.out
           rw [seqF_none HGO.out (cmdF_none HH.out HK.out (HN.out hD _))] at h
           exact ⟨by rw [← h.1];simp,h.2.symm⟩)
          go_wp2
          refine bodyPost_ret (v:=.tuple #[.slice va acc.length vc,.int .i64 (-1)]) (by simp [results,Tryz.results244,go_sem]) rfl ?_
          exact ⟨_,by rw [HX.out.2],by rw [HX.out.1];exact HUC.out.keep HBL.out.2,hb.trans (HBL.out.2.mono hs)⟩
        · have HDN:=Lib.hid hD
          go_wp2_with fail
          refine (HCALL.out HDN.out ((k:Int)+1) _ (by omega) (by omega) HOWN1.out).mono ?_
          rintro E w3 ⟨u,⟨rb,rp⟩,hsr,rfl,huc3,hb3⟩
          obtain ⟨ba,bc,rfl⟩:=huc3.form
          have hz3:=hb3.size
          have hzw1:=HZW.out
          have hB3:=HB1.out.keep hb3
          obtain ⟨a1,a2,a3,a4,c1,c2,c3,c4,hbx,_,_⟩:=hB3
          have q8:=cell_of_row _ _ 8 _ _ _ hbx
          have z8:=frozen_of_row _ _ 8 _ _ hbx
          have hCl:=box_lt hbx
          have hB4:=(HB1.out.keep hb3).setBody (x:=rb) (a:=ba) (k:=bc) (huc3.rl.more fun j _ hj=>by have h1:W1.heap.size≤j:=hj;have h2:=HZW.out;exact ⟨by omega,by omega⟩)
          have HB4:=Lib.hid hB4
          have hso:=HSUB.out ((k:Int)+1) (rb,rp) (by omega) hsr
          have hrp1:-1≤rp:=hso.1 (by omega)
          have hrp2:rp≤L.length+dd:=hso.2.2
          have hF4:=fr_set w3 ⟨C,8,none⟩ (.slice ba rb.length bc)
          have HF4:=Lib.hid (And.intro ((((Below.fr hb3).mono (S':=fun j=>j=C) fun _ _ h=>h.elim)).trans hF4) hsr)
          have HOWN3:=Lib.hid (own_kept (own_keep HOWN1.out hb3) hF4 (fun i hi e=>by
           have e2:i=C:=e
           have h1:=(own_lt HOWN.out hi).2
           omega))
          have HC3:=Lib.hid (fun (i:Nat) (hi:i < L.length)=>hF4.cell (p:=⟨g,i,none⟩) (by show ¬ g=C;omega) (cell_keep ((hb.trans (HBL.out.2.mono hs)).trans (hb3.mono (by omega))) (HCELL.out i hi)))
          clear hbx hB4 huc3 hb3 hF4 hso hsr
          go_upto_region 11 with fail
          go_cut [81] from 67 to 80 (fun s wc=>s=.bool (elseAt L rp)∧wc=w3.setCell ⟨C,8,none⟩ (.slice ba rb.length bc))
          case first =>
           by_cases q0:0≤rp
           · by_cases q1:rp < L.length
             · obtain ⟨k2,rfl⟩:∃ k2:Nat,rp=(k2:Int):=⟨rp.toNat,by omega⟩
               have hk2:k2 < L.length:=by omega
               have c2:=HC3.out k2 hk2
               have hgz3:g < (w3.setCell ⟨C,8,none⟩ (.slice ba rb.length bc)).heap.size:=by simp;omega
               obtain ⟨bb,hbb⟩:∃ b,decide (gd L k2=elseW)=b:=⟨_,rfl⟩
               have j3:((btx (gd L k2)).toList == (btx [101,108,115,101]).toList)=bb:=by rw [btx_leq];exact hbb
               have HX:=Lib.hid (show elseAt L (k2:Int)=bb by rw [elseAt_nat hk2,hbb])
               clear hbb
               go_wp2
               go_meet
               case rel=>exact ⟨by rw [HX.out],rfl⟩
             · have HX:=Lib.hid (elseAt_no (L:=L) (fun h=>q1 h.2))
               go_wp2
               go_meet
               case rel=>exact ⟨by rw [HX.out],rfl⟩
           · have HX:=Lib.hid (elseAt_no (L:=L) (fun h=>q0 h.1))
             go_wp2
             go_meet
             case rel=>exact ⟨by rw [HX.out],rfl⟩
          case rest =>
           obtain ⟨rfl,rfl⟩:=hcut
           cases he:elseAt L rp with
           | false =>
             have HKo:=Lib.hid (cmdF_one (sub:=sub) (p:=(k:Int)) (r:=(rb,rp)) HH.out HK.out HF4.out.2 he)
             clear he
             by_cases q0:0≤rp
             · have HU:=Lib.hid (show upB rp=rp+1 from if_pos q0)
               go_wp2
               go_meet
               case rel=>exact ⟨rb,[],upB rp,by rw [HU.out],HB4.out,HKo.out,cmdF_ok HSUB.out HGO.out HKo.out,HF4.out.1⟩
             · have HU:=Lib.hid (show upB rp=rp from if_neg q0)
               go_wp2
               go_meet
               case rel=>exact ⟨rb,[],upB rp,by rw [HU.out],HB4.out,HKo.out,cmdF_ok HSUB.out HGO.out HKo.out,HF4.out.1⟩
           | true =>
             have hel:=elseAt_iff he
             have HEL:=Lib.hid he
             have e1:=hel.1
             have e2:=hel.2
             have hz4:(w3.setCell ⟨C,8,none⟩ (.slice ba rb.length bc)).heap.size=w3.heap.size:=by simp
             clear he hel
             go_wp2_with fail
             refine (HCALL.out HDN.out (rp+1) _ (by omega) (by omega) HOWN3.out).mono ?_
             rintro E w5 ⟨u,⟨sb,sp⟩,hss,rfl,huc5,hb5⟩
             obtain ⟨ea,ec,rfl⟩:=huc5.form
             have hz5:=hb5.size
             rw [hz4] at hz5
             obtain ⟨a1,a2,a3,a4,c1,c2,c3,c4,hbx,_,_⟩:=HB4.out.keep hb5
             have q9:=cell_of_row _ _ 9 _ _ _ hbx
             have z9:=frozen_of_row _ _ 9 _ _ hbx
             have hCl5:=box_lt hbx
             have hB6:=(HB4.out.keep hb5).setEls (x:=sb) (a:=ea) (k:=ec) (huc5.rl.more fun j _ hj=>by have h1:(w3.setCell ⟨C,8,none⟩ (.slice ba rb.length bc)).heap.size≤j:=hj;rw [hz4] at h1;have h2:=HZW.out;exact ⟨by omega,by omega⟩)
             have HKo:=Lib.hid (cmdF_two (sub:=sub) (p:=(k:Int)) (r:=(rb,rp)) (s:=(sb,sp)) HH.out HK.out HF4.out.2 HEL.out hss)
             have hso:=HSUB.out (rp+1) (sb,sp) (by omega) hss
             have hsp1:-1≤sp:=hso.1 (by omega)
             have hsp2:sp≤L.length+dd:=hso.2.2
             have HB6:=Lib.hid (And.intro hB6 ((HF4.out.1.trans ((Below.fr hb5).mono (S':=fun j=>j=C) fun _ _ h=>h.elim)).trans (fr_set w5 ⟨C,9,none⟩ (.slice ea sb.length ec))))
             clear hbx hB6 huc5 hb5 hso hss hz4
             by_cases q0:0≤sp
             · have HU:=Lib.hid (show upB sp=sp+1 from if_pos q0)
               go_wp2
               go_meet
               case rel=>exact ⟨rb,sb,upB sp,by rw [HU.out],HB6.out.1,HKo.out,cmdF_ok HSUB.out HGO.out HKo.out,HB6.out.2⟩
             · have HU:=Lib.hid (show upB sp=sp from if_neg q0)
               go_wp2
               go_meet
               case rel=>exact ⟨rb,sb,upB sp,by rw [HU.out],HB6.out.1,HKo.out,cmdF_ok HSUB.out HGO.out HKo.out,HB6.out.2⟩
     case rest =>
      obtain ⟨x,y,P2,rfl,hbc,hcmd,hbd,hG⟩:=hcut
      obtain ⟨c,hc⟩:∃ c,mkH (d:=e) h x y=c:=⟨_,rfl⟩
      rw [hc] at hbc hcmd
      have HSTEP:=Lib.hid (seqF_step HGO.out hcmd m)
      have HBD:=Lib.hid hbd
      have q1:=hbd.1
      have q2:=hbd.2.2
      have hGw:=((Below.fr HBL.out.2).mono (S':=fun j=>j=C) (fun _ _ h=>h.elim)).trans hG
      have huc:=HUC.out.kept hGw (fun i _ h2 e=>by have e2:i=C:=e;omega)
      obtain ⟨ys,hy,_⟩:=HUC.out
      have HOB:=Lib.hid (fun (j:Nat) (e:some j=(Value.slice va acc.length vc).ownBlock)=>(own_lt hy e).2)
      obtain ⟨xs,hrow,hxs⟩:=huc
      have hzc:=hG.size
      have hzw1:=HZW.out
      have hbw:Below w.heap.size w wc:=(hb.trans (HBL.out.2.mono hs)).trans (hG.below (B:=w.heap.size) (by omega) (fun i hi e=>by have e2:i=C:=e;omega))
      obtain ⟨a1,a2,a3,a4,c1,c2,c3,c4,hbx,⟨k1,k2⟩,k3,k4⟩:=hbc
      have hCl:=box_lt hbx
      have hL3:acc.length≤1048578:=by have:=HQ.out.2;omega
      have hbA:=below_alloc wc (.cells #[.int .i64 c.kind,.int .i64 c.a,.int .i64 c.b,.bool c.test.1,.int .i64 c.test.2.1,.int .i64 c.test.2.2,.slice a1 c.inv.1.length c1,.slice a2 c.inv.2.length c2,.slice a3 c.body.length c3,.slice a4 c.els.length c4] 63)
      have hS:∀ j,j < wc.heap.size→wr.heap.size≤j∧j ≠ C→w.heap.size≤j∧¬ some j=(Value.slice va acc.length vc).ownBlock:=fun j _ h=>⟨by omega,fun e=>by have h1:=HOB.out j e;omega⟩
      have hx:=rd_cm_mk (c:=c) (w:=wc.alloc (.cells #[.int .i64 c.kind,.int .i64 c.a,.int .i64 c.b,.bool c.test.1,.int .i64 c.test.2.1,.int .i64 c.test.2.2,.slice a1 c.inv.1.length c1,.slice a2 c.inv.2.length c2,.slice a3 c.body.length c3,.slice a4 c.els.length c4] 63)) ((k1.more hS).keep hbA) ((k2.more hS).keep hbA) ((k3.more hS).keep hbA) ((k4.more hS).keep hbA)
      have HX:=Lib.hid (And.intro hx (fun (k:Nat) (hk:k < acc.length)=>Dat.kept (hxs k hk) (Below.fr hbA) fun _ _ _ h=>h))
      have HRW:=Lib.hid hrow
      have HFG:=Lib.hid hbw
      have hwz:=hbw.size
      have r0:=cell_of_row _ _ 0 _ _ _ hbx;have r1:=cell_of_row _ _ 1 _ _ _ hbx;have r2:=cell_of_row _ _ 2 _ _ _ hbx;have r3:=cell_of_row _ _ 3 _ _ _ hbx;have r4:=cell_of_row _ _ 4 _ _ _ hbx;have r5:=cell_of_row _ _ 5 _ _ _ hbx;have r6:=cell_of_row _ _ 6 _ _ _ hbx;have r7:=cell_of_row _ _ 7 _ _ _ hbx;have r8:=cell_of_row _ _ 8 _ _ _ hbx;have r9:=cell_of_row _ _ 9 _ _ _ hbx
      clear hx hxs hbx k1 k2 k3 k4 hG hGw hbA hy hS hrow hcmd hbd hbw hc
      go_wp2_with (at_builtin;go_must (refine app_C rfl (.tmp 98) (.tmp 100) rfl rfl (own_keep HRW.out (below_alloc _ _)) rfl (by rfl) (news_cm wc c.kind c.a c.b c.test (.slice a1 c.inv.1.length c1) (.slice a2 c.inv.2.length c2) (.slice a3 c.body.length c3) (.slice a4 c.els.length c4) 63) (one_cm _ _ _ _ _ _ _ _ _ _ _ _ _ _ _ _) (by omega) (by simp;omega) ?_;intro v' w7 hr7 hf7 hl7;obtain ⟨za,zc,rfl⟩:=own_formG hr7))
      have hob:=own_keep HRW.out (below_alloc wc (.cells #[.int .i64 c.kind,.int .i64 c.a,.int .i64 c.b,.bool c.test.1,.int .i64 c.test.2.1,.int .i64 c.test.2.2,.slice a1 c.inv.1.length c1,.slice a2 c.inv.2.length c2,.slice a3 c.body.length c3,.slice a4 c.els.length c4] 63))
      have huc7:=UC.snoc (x:=c) hob HX.out.2 hr7 hf7 hl7 HX.out.1
      have hF7:=(HFG.out.trans ((below_alloc wc (.cells #[.int .i64 c.kind,.int .i64 c.a,.int .i64 c.b,.bool c.test.1,.int .i64 c.test.2.1,.int .i64 c.test.2.2,.slice a1 c.inv.1.length c1,.slice a2 c.inv.2.length c2,.slice a3 c.body.length c3,.slice a4 c.els.length c4] 63)).mono hwz)).trans (hf7.below (B:=w.heap.size) (by simp;omega) (fun i hi e=>absurd (own_lt HRW.out e).1 (by omega)))
      have H7:=Lib.hid (And.intro huc7 hF7)
      clear hr7 hf7 hl7 huc7 hF7 hob
      go_wp2
      go_roundg m
      case rel=>exact ⟨P2,acc ++ [c],rfl,⟨q1,q2⟩,by have:=HBD.out.2.1;have:=HQ.out.1;omega,H7.out.1,by rw [List.length_append,List.length_singleton];have:=HQ.out.2;omega,by
       have h:=HRES.out
       rw [HSTEP.out] at h
       exact ⟨by rw [← h.1];simp,h.2⟩,H7.out.2⟩
      case measure=>omega
  · have HE:=Lib.hid (show T.1=acc∧T.2=P by
     have h:=HRES.out
     rw [seqF_stop hg] at h
     exact ⟨by rw [← h.1];simp,h.2.symm⟩)
    have HFIN:=Lib.hid (show UC wr w.heap.size (.slice va acc.length vc) T.1 by rw [HE.out.1];exact HUC.out)
    rcases goesOn_no hg with h1 | ⟨h1,h2⟩ | ⟨h1,h2,h3⟩ | ⟨h1,h2,h3,h4⟩
    · clear hg
      go_wp2
      refine bodyPost_ret (v:=.tuple #[.slice va acc.length vc,.int .i64 P]) (by simp [results,Tryz.results244,go_sem]) rfl ?_
      exact ⟨_,by rw [HE.out.2],HFIN.out,hb⟩
    · clear hg
      go_wp2
      refine bodyPost_ret (v:=.tuple #[.slice va acc.length vc,.int .i64 P]) (by simp [results,Tryz.results244,go_sem]) rfl ?_
      exact ⟨_,by rw [HE.out.2],HFIN.out,hb⟩
    all_goals
     obtain ⟨k,rfl⟩:∃ k:Nat,P=(k:Int):=⟨P.toNat,by omega⟩
     have hkl:k < L.length:=by omega
     have c0:=cell_keep hb (HCELL.out k hkl)
     have hgz:g < wr.heap.size:=by omega
    · have j1:((btx (gd L k)).toList == (btx [101,110,100]).toList)=true:=by rw [btx_leq];exact decide_eq_true h3
      clear hg h3
      go_wp2
      refine bodyPost_ret (v:=.tuple #[.slice va acc.length vc,.int .i64 (k:Int)]) (by simp [results,Tryz.results244,go_sem]) rfl ?_
      exact ⟨_,by rw [HE.out.2],HFIN.out,hb⟩
    · have j1:((btx (gd L k)).toList == (btx [101,110,100]).toList)=false:=by rw [btx_leq];exact decide_eq_false h3
      have j2:((btx (gd L k)).toList == (btx [101,108,115,101]).toList)=true:=by rw [btx_leq];exact decide_eq_true h4
      clear hg h3 h4
      go_wp2
      refine bodyPost_ret (v:=.tuple #[.slice va acc.length vc,.int .i64 (k:Int)]) (by simp [results,Tryz.results244,go_sem]) rfl ?_
      exact ⟨_,by rw [HE.out.2],HFIN.out,hb⟩
theorem l8Block_any (L:List (List UInt8)) (hL:0 < L.length∧L.length≤1048577) (hls:∀ x ∈ L,x.length≤1048576) {B0:Nat} (v:Value):∀ (d:Nat) (p:Int) (w:World) (_hd:d≤90) (_hp:-1≤p∧p≤L.length) (_hown:w.ownsRow B0 9 1 v L.length (strs L)),
 Calls Tryz.prog 244 #[v,.int .i64 p,.int .i64 (d:Int)] w fun E w'=>∃ u:Value,E=.returned (.tuple #[u,.int .i64 (blockF L d p).2])∧UC w' w.heap.size u (blockF L d p).1∧Below w.heap.size w w'
 | 0,p,w,hd,hp,hown=>l8Block_step (dd:=0) L 0 (fun _=>(none:Option (Blk 0))) (by decide) (by decide) (fun p r _ h=>by cases h) (fun _ _=>rfl) hL hls v (fun h=>absurd (by decide) h) p w hp hown
 | d+1,p,w,hd,hp,hown=>l8Block_step (dd:=d+1) L ((d+1:Nat):Int) (fun q=>some (blockF L d q)) (by omega) (by omega) (fun p r hp h=>by
    obtain rfl:=Option.some.inj h
    have:=block_ok L d p hp
    exact ⟨this.1,this.2.1,by have:=this.2.2.1;omega⟩) (fun h=>absurd h (by omega)) hL hls v (fun _ q w1 h1 h2 h3=>by
    have e:((d+1:Nat):Int) - 1=(d:Int):=by omega
    rw [e]
    refine (l8Block_any L hL hls v d q w1 (by omega) ⟨h1,h2⟩ h3).mono ?_
    rintro E w' ⟨u,hE,hu,hb⟩
    exact ⟨u,blockF L d q,rfl,hE,hu,hb⟩) p w hp hown
end Go.Proofs.YtkbbmjcfgcfejaaGreat
