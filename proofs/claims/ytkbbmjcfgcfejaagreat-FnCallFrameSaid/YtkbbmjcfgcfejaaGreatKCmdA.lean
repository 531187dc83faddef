/- Walks: the texts of programs (reference: l8Text, FormatProgram). (Printed by gen_text.py.) -/
import Derived.Test.YtkbbmjcfgcfejaaGreatKCmd9
import Derived.Handy
import Derived.Deep.DeepMust
import Derived.Deep.Cut
import Derived.Deep.CutBlock
import Derived.Deep.CutRange
set_option linter.unusedVariables false
set_option linter.unusedSimpArgs false
namespace Go.Proofs.YtkbbmjcfgcfejaaGreat
open Go.RowKit
theorem flatMap_step {α β:Type} [Inhabited α] {l:List α} {f:α→List β} {k:Nat} (h:k < l.length):(l.take (k+1)).flatMap f=(l.take k).flatMap f ++ f (gd l k):=by
 rw [take_gd h,List.flatMap_append];simp
theorem flatMap_part {α β:Type} {l:List α} {f:α→List β} (k:Nat):((l.take k).flatMap f).length≤(l.flatMap f).length:=by
 have:(l.take k).flatMap f ++ (l.drop k).flatMap f=l.flatMap f:=by rw [← List.flatMap_append,List.take_append_drop]
 rw [← this,List.length_append];omega
def TxtB (d:Nat) (w:World) (v:Value) (t:List UInt8):Prop:=∃ (S:Nat→Prop) (m:List (Cm d)) (D:Int),RL w S v m∧shpB d m D=true∧szC d m≤1000∧progT d m=t
attribute [local go_sem] btx_app btx_nil btl_10 btl_101_108_115_101_10 btl_101_110_100_10
set_option maxRecDepth 100000 in
set_option maxHeartbeats 6400000 in
theorem l8Text_any:∀ (d:Nat) {S:Nat→Prop} (v:Value) (l:List (Cm d)) (D:Int) (w:World) (_h:RL w S v l) (_hsh:shpB d l D=true) (_hs:szC d l≤1000),
 Calls Tryz.prog 274 #[v] w fun e w'=>e=.returned (.string (btx (progT d l)))∧Below w.heap.size w w':=by
 intro d
 induction d with
 | zero =>
   intro S v l D w h _ _
   obtain rfl:=h.cm0
   obtain ⟨a,c,rfl⟩:=h.form
   clear h
   go_enter Tryz.func274,Tryz.ntmps274
   go_wp2
   go_loopg [3,4] 1 (fun q o i wr=>o=.string (btx [])∧i=.int .i64 0∧wr=w)
   case atStart=>exact ⟨rfl,rfl,rfl⟩
   case round =>
    obtain ⟨rfl,rfl,rfl⟩:=hrel
    go_wp2
    go_ret
    exact ⟨rfl,Bl⟩
 | succ d ih =>
   intro S v l D w h hsh hsz
   obtain ⟨a,cap,rfl,_,_,hc⟩:=h.cmAt
   have hlm:=h.len
   unfold maxLen at hlm
   have F:=Lib.hid hc
   have IH:=Lib.hid (fun (S:Nat→Prop) (v:Value) (l:List (Cm d)) (D:Int) (w:World) (h:RL w S v l) (h1:shpB d l D=true) (h2:szC d l≤1000)=>ih (S:=S) v l D w h h1 h2)
   have hpl:=progT_len (d+1) l D hsh
   have HSH:=Lib.hid (And.intro (shape_succ hsh) (And.intro hsz (show (progT (d+1) l).length≤22200000 by omega)))
   clear h hc ih hsh hsz hpl
   go_enter Tryz.func274,Tryz.ntmps274
   go_wp2
   go_loopg [3,4] l.length (fun q o i wr=>∃ (k:Nat) (t:List UInt8),k+q=l.length∧i=.int .i64 k∧o=.string (btx t)∧t=(l.take k).flatMap (cmdT (progT d))∧Below w.heap.size w wr)
   case atStart=>exact ⟨0,[],by omega,rfl,rfl,rfl,Bl⟩
   case round =>
    obtain ⟨k,t,hk,rfl,rfl,ht,hb⟩:=hrel
    have HK:=Lib.hid hk
    have HT:=Lib.hid ht
    have hs:=hb.size
    clear hk ht
    by_cases hk8:k < l.length
    · obtain ⟨b,o,f1,f2,x,y,rfl,_,hbl,hcc,⟨g1,g2⟩,g3,g4⟩:=F.out k hk8
      obtain ⟨fa1,fn1,rfl⟩:=g1.form
      obtain ⟨fa2,fn2,rfl⟩:=g2.form
      obtain ⟨xa,xn,rfl⟩:=g3.form
      obtain ⟨ya,yn,rfl⟩:=g4.form
      have le:=g4.len
      unfold maxLen at le
      obtain ⟨c,hck⟩:∃ c,gd l k=c:=⟨_,rfl⟩
      have hcl:c ∈ l:=by rw [← hck];exact gd_mem hk8
      have hst:(l.take (k+1)).flatMap (cmdT (progT d))=t ++ cmdT (progT d) c:=by rw [flatMap_step hk8,← HT.out,hck]
      have hlt:(t ++ cmdT (progT d) c).length≤22200000:=by
       rw [← hst];exact Nat.le_trans (flatMap_part _) HSH.out.2.2
      rw [hck] at hcc g1 g2 g3 g4 le
      obtain ⟨k1,k2,k3⟩:=HSH.out.1 c hcl
      have hsm:=size_mem hcl
      have hsb:szC d c.body≤1000∧szC d c.els≤1000:=by have:=HSH.out.2.1;omega
      have pb:=progT_len d c.body _ k2
      have pe:=progT_len d c.els _ k3
      have pl:=lineT_len k1
      have TXT:=Lib.hid (fun (W:World) (v:Value) (u:List UInt8) (h:TxtB d W v u)=>(show Calls Tryz.prog 274 #[v] W fun e w'=>e=.returned (.string (btx u))∧Below W.heap.size W w' from by
       obtain ⟨S,m,D,h1,h2,h3,h4⟩:=h
       rw [← h4]
       exact IH.out S v m D _ h1 h2 h3))
      have hcc':∀ j u,(cmCells c.kind c.a c.b c.test (.slice fa1 c.inv.1.length fn1) (.slice fa2 c.inv.2.length fn2) (.slice xa c.body.length xn) (.slice ya c.els.length yn))[j]?=some u→wr.cell? ⟨b,o+k * 10+j,none⟩=some u:=fun j u hj=>cell_keep hb (hcc j u hj)
      have p0:wr.cell? ⟨b,o+k * 10,none⟩=some (.int .i64 c.kind):=hcc' 0 _ rfl
      have p1:=hcc' 1 _ rfl
      have p2:=hcc' 2 _ rfl
      have p3:=hcc' 3 _ rfl
      have p4:=hcc' 4 _ rfl
      have p5:=hcc' 5 _ rfl
      have p6:=hcc' 6 _ rfl
      have p7:=hcc' 7 _ rfl
      have p8:=hcc' 8 _ rfl
      have p9:=hcc' 9 _ rfl
      have hbA:=below_alloc wr (.cells #[.int .i64 c.kind,.int .i64 c.a,.int .i64 c.b,.bool c.test.1,.int .i64 c.test.2.1,.int .i64 c.test.2.2,.slice fa1 c.inv.1.length fn1,.slice fa2 c.inv.2.length fn2,.slice xa c.body.length xn,.slice ya c.els.length yn] 63)
      have hC:=heap_alloc_new wr (.cells #[.int .i64 c.kind,.int .i64 c.a,.int .i64 c.b,.bool c.test.1,.int .i64 c.test.2.1,.int .i64 c.test.2.2,.slice fa1 c.inv.1.length fn1,.slice fa2 c.inv.2.length fn2,.slice xa c.body.length xn,.slice ya c.els.length yn] 63)
      have i1:(k:Int) < (l.length:Int):=by omega
      have hzb:b < wr.heap.size:=by omega
      have HG:=Lib.hid (And.intro (And.intro ((g1.keep hb).keep hbA) ((g2.keep hb).keep hbA)) (And.intro ((g3.keep hb).keep hbA) ((g4.keep hb).keep hbA)))
      have HC:=Lib.hid (And.intro hC hbA)
      have HP:=Lib.hid (And.intro (And.intro k1 k2) (And.intro k3 hsb))
      obtain ⟨m0,hm0⟩:∃ m,t.length=m:=⟨_,rfl⟩
      obtain ⟨n1,hn1⟩:∃ n,(lineT c).length=n:=⟨_,rfl⟩
      obtain ⟨n2,hn2⟩:∃ n,(progT d c.body).length=n:=⟨_,rfl⟩
      obtain ⟨n3,hn3⟩:∃ n,(progT d c.els).length=n:=⟨_,rfl⟩
      have hb0:m0≤22200000:=by rw [List.length_append] at hlt;omega
      have hb1:n1≤22100:=by omega
      have hb2:n2≤22200000:=by omega
      have hb3:n3≤22200000:=by omega
      have HST:=Lib.hid hst
      have HN:=Lib.hid (And.intro (And.intro hm0 hn1) (And.intro hn2 hn3))
      clear hcc hcc' hck g1 g2 g3 g4 hC hbA k1 k2 k3 hsb pb pe pl hlt hst hcl hsm hm0 hn1 hn2 hn3
      go_upto_region 6 with fail
      go_cut [3] from 12 to 44 (fun o wc=>o=.string (btx (t ++ (lineT c ++ (10 :: progT d c.body))))∧Below (wr.alloc (.cells #[.int .i64 c.kind,.int .i64 c.a,.int .i64 c.b,.bool c.test.1,.int .i64 c.test.2.1,.int .i64 c.test.2.2,.slice fa1 c.inv.1.length fn1,.slice fa2 c.inv.2.length fn2,.slice xa c.body.length xn,.slice ya c.els.length yn] 63)).heap.size (wr.alloc (.cells #[.int .i64 c.kind,.int .i64 c.a,.int .i64 c.b,.bool c.test.1,.int .i64 c.test.2.1,.int .i64 c.test.2.2,.slice fa1 c.inv.1.length fn1,.slice fa2 c.inv.2.length fn2,.slice xa c.body.length xn,.slice ya c.els.length yn] 63)) wc)
      case first =>
       obtain ⟨⟨hm0,hn1⟩,hn2,hn3⟩:=HN.out
       have s0:(btx (t)).size=m0:=hm0
       have s1:(btx (lineT c)).size=n1:=hn1
       have s2:(btx (t ++ (lineT c))).size=m0+n1:=by simp only [btx_size,List.length_append,hm0,hn1,hn2,List.length_cons,List.length_nil] <;> omega
       have sc1:(9223372036854775807 < m0+n1)=False:=by simp;omega
       have s3:(btx ([10])).size=1:=rfl
       have s4:(btx (t ++ (lineT c ++ ([10])))).size=m0+n1+1:=by simp only [btx_size,List.length_append,hm0,hn1,hn2,List.length_cons,List.length_nil] <;> omega
       have sc2:(9223372036854775807 < m0+n1+1)=False:=by simp;omega
       have s5:(btx (progT d c.body)).size=n2:=hn2
       have s6:(btx (t ++ (lineT c ++ ([10] ++ (progT d c.body))))).size=m0+n1+1+n2:=by simp only [btx_size,List.length_append,hm0,hn1,hn2,List.length_cons,List.length_nil] <;> omega
       have s7:(btx (t ++ (lineT c ++ (10 :: (progT d c.body))))).size=m0+n1+1+n2:=by simp only [btx_size,List.length_append,hm0,hn1,hn2,List.length_cons,List.length_nil] <;> omega
       have sc3:(9223372036854775807 < m0+n1+1+n2)=False:=by simp;omega
       clear hm0 hn1 hn2 hn3
       refine wp_region_ext (by kernel_rfl) (by kernel_rfl) ?_
       repeat (go_big_quiet_step (first
        | (go_at_call 294;exact ext_c (l8Line_any c _ _ _ _ _ (HG.out.1.1.keep (ext_below _ _)) (HG.out.1.2.keep (ext_below _ _)) ⟨_,_,_,rfl⟩ ⟨_,_,_,rfl⟩ HP.out.1.1))
        | (go_at_call 274;exact ext_c (TXT.out _ _ _ ⟨_,c.body,_,HG.out.2.1.keep (ext_below _ _),HP.out.1.2,HP.out.2.2.1,rfl⟩))))
       refine wpQuiet_nil ?_
       intro w6 hb6
       go_wp2
       go_meet
       case rel=>exact ⟨rfl,hb6⟩
      case rest =>
       obtain ⟨rfl,hB⟩:=hcut
       have hC2:=box_keep HC.out.1 hB
       have hCL:=box_lt hC2
       have q0:=cell_of_row _ _ 0 _ _ _ hC2
       have q9:=cell_of_row _ _ 9 _ _ _ hC2
       have HC2:=Lib.hid hC2
       have HBB:=Lib.hid (bt HC.out.2 hB)
       obtain ⟨⟨hm0,hn1⟩,hn2,hn3⟩:=HN.out
       clear hC2
       by_cases he:c.els.length=0
       · have HE:=Lib.hid (List.eq_nil_of_length_eq_zero he)
         have HST2:=Lib.hid (show (l.take (k+1)).flatMap (cmdT (progT d))=t ++ (lineT c ++ (10 :: progT d c.body)) ++ (if c.kind=6∨c.kind=7 then [101,110,100,10] else []) by rw [HST.out,cmdT,if_pos HE.out];simp)
         by_cases z6:c.kind=6
         · have Z6:=Lib.hid z6
           have y6:(c.kind == 6)=true:=by simp [z6]
           have s0:(btx (t)).size=m0:=hm0
           have s1:(btx (lineT c)).size=n1:=hn1
           have s2:(btx (t ++ (lineT c))).size=m0+n1:=by simp only [btx_size,List.length_append,hm0,hn1,hn2,List.length_cons,List.length_nil] <;> omega
           have sc1:(9223372036854775807 < m0+n1)=False:=by simp;omega
           have s3:(btx ([10])).size=1:=rfl
           have s4:(btx (t ++ (lineT c ++ ([10])))).size=m0+n1+1:=by simp only [btx_size,List.length_append,hm0,hn1,hn2,List.length_cons,List.length_nil] <;> omega
           have sc2:(9223372036854775807 < m0+n1+1)=False:=by simp;omega
           have s5:(btx (progT d c.body)).size=n2:=hn2
           have s6:(btx (t ++ (lineT c ++ ([10] ++ (progT d c.body))))).size=m0+n1+1+n2:=by simp only [btx_size,List.length_append,hm0,hn1,hn2,List.length_cons,List.length_nil] <;> omega
           have s7:(btx (t ++ (lineT c ++ (10 :: (progT d c.body))))).size=m0+n1+1+n2:=by simp only [btx_size,List.length_append,hm0,hn1,hn2,List.length_cons,List.length_nil] <;> omega
           have sc3:(9223372036854775807 < m0+n1+1+n2)=False:=by simp;omega
           have s8:(btx ([101,110,100,10])).size=4:=rfl
           have s9:(btx (t ++ (lineT c ++ ([10] ++ (progT d c.body ++ ([101,110,100,10])))))).size=m0+n1+1+n2+4:=by simp only [btx_size,List.length_append,hm0,hn1,hn2,List.length_cons,List.length_nil] <;> omega
           have s10:(btx (t ++ (lineT c ++ (10 :: (progT d c.body ++ ([101,110,100,10])))))).size=m0+n1+1+n2+4:=by simp only [btx_size,List.length_append,hm0,hn1,hn2,List.length_cons,List.length_nil] <;> omega
           have sc4:(9223372036854775807 < m0+n1+1+n2+4)=False:=by simp;omega
           clear z6 hm0 hn1 hn2 hn3
           go_wp2
           go_roundg (gk - 1)
           case rel=>exact ⟨k+1,_,by have:=HK.out;omega,by go_num,rfl,by rw [HST2.out,if_pos (Or.inl Z6.out)];simp,hb.trans ((HBB.out).mono hs)⟩
           case measure=>have:=HK.out;omega
         have Z6:=Lib.hid z6
         have y6:(c.kind == 6)=false:=by simp [z6]
         clear z6
         by_cases z7:c.kind=7
         · have Z7:=Lib.hid z7
           have y7:(c.kind == 7)=true:=by simp [z7]
           have s0:(btx (t)).size=m0:=hm0
           have s1:(btx (lineT c)).size=n1:=hn1
           have s2:(btx (t ++ (lineT c))).size=m0+n1:=by simp only [btx_size,List.length_append,hm0,hn1,hn2,List.length_cons,List.length_nil] <;> omega
           have sc1:(9223372036854775807 < m0+n1)=False:=by simp;omega
           have s3:(btx ([10])).size=1:=rfl
           have s4:(btx (t ++ (lineT c ++ ([10])))).size=m0+n1+1:=by simp only [btx_size,List.length_append,hm0,hn1,hn2,List.length_cons,List.length_nil] <;> omega
           have sc2:(9223372036854775807 < m0+n1+1)=False:=by simp;omega
           have s5:(btx (progT d c.body)).size=n2:=hn2
           have s6:(btx (t ++ (lineT c ++ ([10] ++ (progT d c.body))))).size=m0+n1+1+n2:=by simp only [btx_size,List.length_append,hm0,hn1,hn2,List.length_cons,List.length_nil] <;> omega
           have s7:(btx (t ++ (lineT c ++ (10 :: (progT d c.body))))).size=m0+n1+1+n2:=by simp only [btx_size,List.length_append,hm0,hn1,hn2,List.length_cons,List.length_nil] <;> omega
           have sc3:(9223372036854775807 < m0+n1+1+n2)=False:=by simp;omega
           have s8:(btx ([101,110,100,10])).size=4:=rfl
           have s9:(btx (t ++ (lineT c ++ ([10] ++ (progT d c.body ++ ([101,110,100,10])))))).size=m0+n1+1+n2+4:=by simp only [btx_size,List.length_append,hm0,hn1,hn2,List.length_cons,List.length_nil] <;> omega
           have s10:(btx (t ++ (lineT c ++ (10 :: (progT d c.body ++ ([101,110,100,10])))))).size=m0+n1+1+n2+4:=by simp only [btx_size,List.length_append,hm0,hn1,hn2,List.length_cons,List.length_nil] <;> omega
           have sc4:(9223372036854775807 < m0+n1+1+n2+4)=False:=by simp;omega
           clear z7 hm0 hn1 hn2 hn3
           go_wp2
           go_roundg (gk - 1)
           case rel=>exact ⟨k+1,_,by have:=HK.out;omega,by go_num,rfl,by rw [HST2.out,if_pos (Or.inr Z7.out)];simp,hb.trans ((HBB.out).mono hs)⟩
           case measure=>have:=HK.out;omega
         have Z7:=Lib.hid z7
         have y7:(c.kind == 7)=false:=by simp [z7]
         clear z7
         clear hm0 hn1 hn2 hn3
         go_wp2
         go_roundg (gk - 1)
         case rel=>exact ⟨k+1,_,by have:=HK.out;omega,by go_num,rfl,by rw [HST2.out,if_neg (fun h=>h.elim Z6.out Z7.out)];simp,hb.trans ((HBB.out).mono hs)⟩
         case measure=>have:=HK.out;omega
       · have HE:=Lib.hid (show ¬ c.els=[] from fun e=>he (by rw [e];rfl))
         have HST2:=Lib.hid (show (l.take (k+1)).flatMap (cmdT (progT d))=t ++ (lineT c ++ (10 :: (progT d c.body ++ (101 :: 108 :: 115 :: 101 :: 10 :: progT d c.els)))) ++ (if c.kind=6∨c.kind=7 then [101,110,100,10] else []) by rw [HST.out,cmdT,if_neg HE.out];simp)
         have s0:(btx (t)).size=m0:=hm0
         have s1:(btx (lineT c)).size=n1:=hn1
         have s2:(btx (t ++ (lineT c))).size=m0+n1:=by simp only [btx_size,List.length_append,hm0,hn1,hn2,hn3,List.length_cons,List.length_nil] <;> omega
         have sc1:(9223372036854775807 < m0+n1)=False:=by simp;omega
         have s3:(btx ([10])).size=1:=rfl
         have s4:(btx (t ++ (lineT c ++ ([10])))).size=m0+n1+1:=by simp only [btx_size,List.length_append,hm0,hn1,hn2,hn3,List.length_cons,List.length_nil] <;> omega
         have sc2:(9223372036854775807 < m0+n1+1)=False:=by simp;omega
         have s5:(btx (progT d c.body)).size=n2:=hn2
         have s6:(btx (t ++ (lineT c ++ ([10] ++ (progT d c.body))))).size=m0+n1+1+n2:=by simp only [btx_size,List.length_append,hm0,hn1,hn2,hn3,List.length_cons,List.length_nil] <;> omega
         have s7:(btx (t ++ (lineT c ++ (10 :: (progT d c.body))))).size=m0+n1+1+n2:=by simp only [btx_size,List.length_append,hm0,hn1,hn2,hn3,List.length_cons,List.length_nil] <;> omega
         have sc3:(9223372036854775807 < m0+n1+1+n2)=False:=by simp;omega
         have s8:(btx ([101,108,115,101,10])).size=5:=rfl
         have s9:(btx (t ++ (lineT c ++ ([10] ++ (progT d c.body ++ ([101,108,115,101,10])))))).size=m0+n1+1+n2+5:=by simp only [btx_size,List.length_append,hm0,hn1,hn2,hn3,List.length_cons,List.length_nil] <;> omega
         have s10:(btx (t ++ (lineT c ++ (10 :: (progT d c.body ++ ([101,108,115,101,10])))))).size=m0+n1+1+n2+5:=by simp only [btx_size,List.length_append,hm0,hn1,hn2,hn3,List.length_cons,List.length_nil] <;> omega
         have sc4:(9223372036854775807 < m0+n1+1+n2+5)=False:=by simp;omega
         have s11:(btx (progT d c.els)).size=n3:=hn3
         have s12:(btx (t ++ (lineT c ++ ([10] ++ (progT d c.body ++ ([101,108,115,101,10] ++ (progT d c.els))))))).size=m0+n1+1+n2+5+n3:=by simp only [btx_size,List.length_append,hm0,hn1,hn2,hn3,List.length_cons,List.length_nil] <;> omega
         have s13:(btx (t ++ (lineT c ++ (10 :: (progT d c.body ++ (101 :: 108 :: 115 :: 101 :: 10 :: (progT d c.els))))))).size=m0+n1+1+n2+5+n3:=by simp only [btx_size,List.length_append,hm0,hn1,hn2,hn3,List.length_cons,List.length_nil] <;> omega
         have sc5:(9223372036854775807 < m0+n1+1+n2+5+n3)=False:=by simp;omega
         clear hm0 hn1 hn2 hn3
         go_wp2_with fail
         refine (TXT.out _ _ _ ⟨_,c.els,_,HG.out.2.2.keep hB,HP.out.2.1,HP.out.2.2.2,rfl⟩).mono ?_
         rintro e w7 ⟨rfl,hb7⟩
         have hC3:=box_keep HC2.out hb7
         have r0:=cell_of_row _ _ 0 _ _ _ hC3
         have hCL3:=box_lt hC3
         have HB7:=Lib.hid (bt HBB.out hb7)
         obtain ⟨⟨hm0,hn1⟩,hn2,hn3⟩:=HN.out
         clear hC3 q0 q9
         by_cases z6:c.kind=6
         · have Z6:=Lib.hid z6
           have y6:(c.kind == 6)=true:=by simp [z6]
           have s0:(btx (t)).size=m0:=hm0
           have s1:(btx (lineT c)).size=n1:=hn1
           have s2:(btx (t ++ (lineT c))).size=m0+n1:=by simp only [btx_size,List.length_append,hm0,hn1,hn2,hn3,List.length_cons,List.length_nil] <;> omega
           have sc1:(9223372036854775807 < m0+n1)=False:=by simp;omega
           have s3:(btx ([10])).size=1:=rfl
           have s4:(btx (t ++ (lineT c ++ ([10])))).size=m0+n1+1:=by simp only [btx_size,List.length_append,hm0,hn1,hn2,hn3,List.length_cons,List.length_nil] <;> omega
           have sc2:(9223372036854775807 < m0+n1+1)=False:=by simp;omega
           have s5:(btx (progT d c.body)).size=n2:=hn2
           have s6:(btx (t ++ (lineT c ++ ([10] ++ (progT d c.body))))).size=m0+n1+1+n2:=by simp only [btx_size,List.length_append,hm0,hn1,hn2,hn3,List.length_cons,List.length_nil] <;> omega
           have s7:(btx (t ++ (lineT c ++ (10 :: (progT d c.body))))).size=m0+n1+1+n2:=by simp only [btx_size,List.length_append,hm0,hn1,hn2,hn3,List.length_cons,List.length_nil] <;> omega
           have sc3:(9223372036854775807 < m0+n1+1+n2)=False:=by simp;omega
           have s8:(btx ([101,108,115,101,10])).size=5:=rfl
           have s9:(btx (t ++ (lineT c ++ ([10] ++ (progT d c.body ++ ([101,108,115,101,10])))))).size=m0+n1+1+n2+5:=by simp only [btx_size,List.length_append,hm0,hn1,hn2,hn3,List.length_cons,List.length_nil] <;> omega
           have s10:(btx (t ++ (lineT c ++ (10 :: (progT d c.body ++ ([101,108,115,101,10])))))).size=m0+n1+1+n2+5:=by simp only [btx_size,List.length_append,hm0,hn1,hn2,hn3,List.length_cons,List.length_nil] <;> omega
           have sc4:(9223372036854775807 < m0+n1+1+n2+5)=False:=by simp;omega
           have s11:(btx (progT d c.els)).size=n3:=hn3
           have s12:(btx (t ++ (lineT c ++ ([10] ++ (progT d c.body ++ ([101,108,115,101,10] ++ (progT d c.els))))))).size=m0+n1+1+n2+5+n3:=by simp only [btx_size,List.length_append,hm0,hn1,hn2,hn3,List.length_cons,List.length_nil] <;> omega
           have s13:(btx (t ++ (lineT c ++ (10 :: (progT d c.body ++ (101 :: 108 :: 115 :: 101 :: 10 :: (progT d c.els))))))).size=m0+n1+1+n2+5+n3:=by simp only [btx_size,List.length_append,hm0,hn1,hn2,hn3,List.length_cons,List.length_nil] <;> omega
           have sc5:(9223372036854775807 < m0+n1+1+n2+5+n3)=False:=by simp;omega
           have s14:(btx ([101,110,100,10])).size=4:=rfl
           have s15:(btx (t ++ (lineT c ++ ([10] ++ (progT d c.body ++ ([101,108,115,101,10] ++ (progT d c.els ++ ([101,110,100,10])))))))).size=m0+n1+1+n2+5+n3+4:=by simp only [btx_size,List.length_append,hm0,hn1,hn2,hn3,List.length_cons,List.length_nil] <;> omega
           have s16:(btx (t ++ (lineT c ++ (10 :: (progT d c.body ++ (101 :: 108 :: 115 :: 101 :: 10 :: (progT d c.els ++ ([101,110,100,10])))))))).size=m0+n1+1+n2+5+n3+4:=by simp only [btx_size,List.length_append,hm0,hn1,hn2,hn3,List.length_cons,List.length_nil] <;> omega
           have sc6:(9223372036854775807 < m0+n1+1+n2+5+n3+4)=False:=by simp;omega
           clear z6 hm0 hn1 hn2 hn3
           go_wp2
           go_roundg (gk - 1)
           case rel=>exact ⟨k+1,_,by have:=HK.out;omega,by go_num,rfl,by rw [HST2.out,if_pos (Or.inl Z6.out)];simp,hb.trans ((HB7.out).mono hs)⟩
           case measure=>have:=HK.out;omega
         have Z6:=Lib.hid z6
         have y6:(c.kind == 6)=false:=by simp [z6]
         clear z6
         by_cases z7:c.kind=7
         · have Z7:=Lib.hid z7
           have y7:(c.kind == 7)=true:=by simp [z7]
           have s0:(btx (t)).size=m0:=hm0
           have s1:(btx (lineT c)).size=n1:=hn1
           have s2:(btx (t ++ (lineT c))).size=m0+n1:=by simp only [btx_size,List.length_append,hm0,hn1,hn2,hn3,List.length_cons,List.length_nil] <;> omega
           have sc1:(9223372036854775807 < m0+n1)=False:=by simp;omega
           have s3:(btx ([10])).size=1:=rfl
           have s4:(btx (t ++ (lineT c ++ ([10])))).size=m0+n1+1:=by simp only [btx_size,List.length_append,hm0,hn1,hn2,hn3,List.length_cons,List.length_nil] <;> omega
           have sc2:(9223372036854775807 < m0+n1+1)=False:=by simp;omega
           have s5:(btx (progT d c.body)).size=n2:=hn2
           have s6:(btx (t ++ (lineT c ++ ([10] ++ (progT d c.body))))).size=m0+n1+1+n2:=by simp only [btx_size,List.length_append,hm0,hn1,hn2,hn3,List.length_cons,List.length_nil] <;> omega
           have s7:(btx (t ++ (lineT c ++ (10 :: (progT d c.body))))).size=m0+n1+1+n2:=by simp only [btx_size,List.length_append,hm0,hn1,hn2,hn3,List.length_cons,List.length_nil] <;> omega
           have sc3:(9223372036854775807 < m0+n1+1+n2)=False:=by simp;omega
           have s8:(btx ([101,108,115,101,10])).size=5:=rfl
           have s9:(btx (t ++ (lineT c ++ ([10] ++ (progT d c.body ++ ([101,108,115,101,10])))))).size=m0+n1+1+n2+5:=by simp only [btx_size,List.length_append,hm0,hn1,hn2,hn3,List.length_cons,List.length_nil] <;> omega
           have s10:(btx (t ++ (lineT c ++ (10 :: (progT d c.body ++ ([101,108,115,101,10])))))).size=m0+n1+1+n2+5:=by simp only [btx_size,List.length_append,hm0,hn1,hn2,hn3,List.length_cons,List.length_nil] <;> omega
           have sc4:(9223372036854775807 < m0+n1+1+n2+5)=False:=by simp;omega
           have s11:(btx (progT d c.els)).size=n3:=hn3
           have s12:(btx (t ++ (lineT c ++ ([10] ++ (progT d c.body ++ ([101,108,115,101,10] ++ (progT d c.els))))))).size=m0+n1+1+n2+5+n3:=by simp only [btx_size,List.length_append,hm0,hn1,hn2,hn3,List.length_cons,List.length_nil] <;> omega
           have s13:(btx (t ++ (lineT c ++ (10 :: (progT d c.body ++ (101 :: 108 :: 115 :: 101 :: 10 :: (progT d c.els))))))).size=m0+n1+1+n2+5+n3:=by simp only [btx_size,List.length_append,hm0,hn1,hn2,hn3,List.length_cons,List.length_nil] <;> omega
           have sc5:(9223372036854775807 < m0+n1+1+n2+5+n3)=False:=by simp;omega
           have s14:(btx ([101,110,100,10])).size=4:=rfl
           have s15:(btx (t ++ (lineT c ++ ([10] ++ (progT d c.body ++ ([101,108,115,101,10] ++ (progT d c.els ++ ([101,110,100,10])))))))).size=m0+n1+1+n2+5+n3+4:=by simp only [btx_size,List.length_append,hm0,hn1,hn2,hn3,List.length_cons,List.length_nil] <;> omega
           have s16:(btx (t ++ (lineT c ++ (10 :: (progT d c.body ++ (101 :: 108 :: 115 :: 101 :: 10 :: (progT d c.els ++ ([101,110,100,10])))))))).size=m0+n1+1+n2+5+n3+4:=by simp only [btx_size,List.length_append,hm0,hn1,hn2,hn3,List.length_cons,List.length_nil] <;> omega
           have sc6:(9223372036854775807 < m0+n1+1+n2+5+n3+4)=False:=by simp;omega
           clear z7 hm0 hn1 hn2 hn3
           go_wp2
           go_roundg (gk - 1)
           case rel=>exact ⟨k+1,_,by have:=HK.out;omega,by go_num,rfl,by rw [HST2.out,if_pos (Or.inr Z7.out)];simp,hb.trans ((HB7.out).mono hs)⟩
           case measure=>have:=HK.out;omega
         have Z7:=Lib.hid z7
         have y7:(c.kind == 7)=false:=by simp [z7]
         clear z7
         clear hm0 hn1 hn2 hn3
         go_wp2
         go_roundg (gk - 1)
         case rel=>exact ⟨k+1,_,by have:=HK.out;omega,by go_num,rfl,by rw [HST2.out,if_neg (fun h=>h.elim Z6.out Z7.out)];simp,hb.trans ((HB7.out).mono hs)⟩
         case measure=>have:=HK.out;omega
    · have hkn:k=l.length:=by have:=HK.out;omega
      have HX:=Lib.hid (show t=progT (d+1) l by rw [HT.out,hkn,List.take_length];rfl)
      clear hkn
      go_wp2
      go_ret
      exact ⟨by rw [HX.out];rfl,hb⟩
def fmtP (d:Nat) (l:List (Cm d)):List UInt8:=if progOkB l=true then progT d l else []
theorem progOk_iff {d:Nat} {l:List (Cm d)} (h:progOkB l=true):shpB d l 4=true∧szC d l≤16:=by
 simp only [progOkB,Bool.and_eq_true,decide_eq_true_eq] at h
 rw [shape_count d l 4 h.1] at h
 exact h
attribute [local go_sem] btx_nil
set_option maxRecDepth 100000 in
set_option maxHeartbeats 1600000 in
theorem formatPS_any (d:Nat) {S:Nat→Prop} (v:Value) (l:List (Cm d)) (w:World) (h:RL w S v l) (hs:szC d l≤1000000000000000000) (hd:d≤100) :
 Calls Tryz.prog 246 #[v] w fun e w'=>e=.returned (.string (btx (fmtP d l)))∧Below w.heap.size w w':=by
 obtain ⟨a,cap,rfl⟩:=h.form
 have HR:=Lib.hid h
 clear h
 cases hv:progOkB l with
 | false =>
   have HV:=Lib.hid hv
   clear hv
   go_enter Tryz.func246,Tryz.ntmps246
   go_wp2_with fail
   refine (cb (progValidS_any d _ l _ HR.out hs hd) HV.out).mono ?_
   rintro e w2 ⟨rfl,hb⟩
   go_wp2
   go_ret
   exact ⟨by rw [fmtP,if_neg (by rw [HV.out];decide)];rfl,hb⟩
 | true =>
   have HV:=Lib.hid hv
   clear hv
   go_enter Tryz.func246,Tryz.ntmps246
   go_wp2_with fail
   refine (cb (progValidS_any d _ l _ HR.out hs hd) HV.out).mono ?_
   rintro e w2 ⟨rfl,hb⟩
   go_wp2_with fail
   refine (l8Text_any d _ l 4 _ (HR.out.keep hb) (progOk_iff HV.out).1 (by have:=(progOk_iff HV.out).2;omega)).mono ?_
   rintro e w3 ⟨rfl,hb3⟩
   go_wp2
   go_ret
   exact ⟨by rw [fmtP,if_pos HV.out];rfl,bt hb hb3⟩
end Go.Proofs.YtkbbmjcfgcfejaaGreat
