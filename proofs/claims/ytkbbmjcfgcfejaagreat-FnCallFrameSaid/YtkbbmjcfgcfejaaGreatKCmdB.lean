/- Walks: programs are read out of texts (reference: ParseProgram). -/
import Derived.Test.YtkbbmjcfgcfejaaGreatKBlk
import Derived.Handy
import Derived.Deep.DeepMust
import Derived.Test.YtkbbmjcfgcfejaaGreatKDHolds2
import Derived.Deep.Cut
import Derived.Deep.CutBlock
import Derived.Deep.CutRange
set_option linter.unusedVariables false
set_option linter.unusedSimpArgs false
namespace Go.Proofs.YtkbbmjcfgcfejaaGreat
open Go.RowKit
def rstL (L:List (List UInt8)) (p:Int):Nat:=if p < 0 then 0 else ((L.length:Int) - p).toNat
def subSz {e:Nat} (L:List (List UInt8)) (sub:Int→Option (Blk e)):Prop:=∀ (p:Int) (r:Blk e),0≤p→sub p=some r→szC e r.1+rstL L r.2≤rstL L p
theorem rest_up {L:List (List UInt8)} {p:Int}:rstL L (upB p)≤rstL L p:=by
 have h:=upB_le (p:=p)
 rw [rstL,rstL]
 by_cases h0:0≤p
 · rw [h.2.2 h0,if_neg (by omega),if_neg (by omega)];omega
 · rw [h.2.1 (by omega)];exact Nat.le_refl _
theorem rest_next {L:List (List UInt8)} {p:Int} (h:0≤p):rstL L (p+1)≤rstL L p:=by
 rw [rstL,rstL];split <;> split <;> omega
theorem rest_go {L:List (List UInt8)} {p:Int} (h:goesOn L p=true):1+rstL L (p+1)≤rstL L p:=by
 have:=goesOn_iff h
 rw [rstL,rstL];split <;> split <;> omega
theorem sz_one {e:Nat} (c:Cm (e+1)) (l:List (Cm (e+1))):szC (e+1) (c :: l)=1+szC e c.body+szC e c.els+szC (e+1) l:=rfl
theorem sz_nil:∀ e:Nat,szC e ([]:List (Cm e))=0
 | 0=>rfl
 | _+1=>rfl
theorem cmdF_sz {e:Nat} {L:List (List UInt8)} {sub:Int→Option (Blk e)} (hs:subSz L sub) {p:Int} (hp:goesOn L p=true) {x:Cm (e+1) × Int} (h:cmdF L sub p=some x) :
 1+szC e x.1.body+szC e x.1.els+rstL L x.2≤rstL L p:=by
 have hp1:=goesOn_iff hp
 have hg:=rest_go hp
 cases hb:isBlk (headR (gd L p.toNat)) with
 | false =>
   rw [cmdF_plain rfl hb] at h
   obtain rfl:=Option.some.inj h
   show 1+szC e ([]:List (Cm e))+szC e ([]:List (Cm e))+rstL L (p+1)≤_
   rw [sz_nil];omega
 | true =>
   cases h1:sub (p+1) with
   | none=>rw [cmdF_none rfl hb h1] at h;cases h
   | some r =>
     have a1:=hs _ _ (by omega) h1
     cases he:elseAt L r.2 with
     | false =>
       rw [cmdF_one rfl hb h1 he] at h
       obtain rfl:=Option.some.inj h
       show 1+szC e r.1+szC e ([]:List (Cm e))+rstL L (upB r.2)≤_
       have:=rest_up (L:=L) (p:=r.2)
       rw [sz_nil];omega
     | true =>
       have he1:=elseAt_iff he
       cases h2:sub (r.2+1) with
       | none =>
         have hx:cmdF L sub p=none:=by
          show (if isBlk (headR (gd L p.toNat))=true then _ else _)=_
          rw [if_pos hb,h1]
          show (if elseAt L r.2=true then _ else _)=_
          rw [if_pos he,h2]
         rw [hx] at h;cases h
       | some s =>
         rw [cmdF_two rfl hb h1 he h2] at h
         obtain rfl:=Option.some.inj h
         have a2:=hs _ _ (by omega) h2
         have a3:=rest_next (L:=L) he1.1
         have:=rest_up (L:=L) (p:=s.2)
         show 1+szC e r.1+szC e s.1+rstL L (upB s.2)≤_
         omega
theorem seqF_sz {e:Nat} {L:List (List UInt8)} {sub:Int→Option (Blk e)} (hs:subSz L sub):∀ (n:Nat) (p:Int),szC (e+1) (seqF L sub n p).1+rstL L (seqF L sub n p).2≤rstL L p
 | 0,p=>by
   show szC (e+1) ([]:List (Cm (e+1)))+rstL L p≤_
   rw [sz_nil];omega
 | n+1,p=>by
   by_cases hg:goesOn L p=true
   · cases h:cmdF L sub p with
     | none =>
       rw [seqF_none hg h]
       show szC (e+1) ([]:List (Cm (e+1)))+rstL L (-1)≤_
       rw [sz_nil,show rstL L (-1)=0 from rfl];omega
     | some x =>
       rw [seqF_step hg h]
       have a1:=cmdF_sz hs hg h
       have a2:=seqF_sz hs n x.2
       show szC (e+1) (x.1 :: (seqF L sub n x.2).1)+rstL L (seqF L sub n x.2).2≤_
       rw [sz_one];omega
   · rw [seqF_stop hg]
     show szC (e+1) ([]:List (Cm (e+1)))+rstL L p≤_
     rw [sz_nil];omega
theorem block_sz (L:List (List UInt8)):∀ (d:Nat) (p:Int),szC (d+1) (blockF L d p).1+rstL L (blockF L d p).2≤rstL L p
 | 0,p=>seqF_sz (fun p r _ h=>by cases h) _ p
 | d+1,p=>seqF_sz (fun p r _ h=>by
    obtain rfl:=Option.some.inj h
    exact block_sz L d p) _ p
def blk0 (x:List UInt8):List (Cm 5):=(blockF (cutL 10 x) 4 0).1
def progO (x:List UInt8):Option (List (Cm 5)):=if x.length≤4000 then (if fmtP 5 (blk0 x)=x∧progOkB (blk0 x)=true then some (blk0 x) else none) else none
def progR (x:List UInt8):List (Cm 5):=(progO x).getD []
theorem progO_ok {x:List UInt8} {l:List (Cm 5)} (h:progO x=some l):progOkB l=true∧progT 5 l=x:=by
 rw [progO] at h
 split at h
 · split at h
   · rename_i h1
     obtain rfl:=Option.some.inj h
     refine ⟨h1.2,?_⟩
     have:=h1.1
     rwa [fmtP,if_pos h1.2] at this
   · cases h
 · cases h
theorem few_shape:∀ (d:Nat) (l:List (Cm d)) (D:Int),shpB d l D=true→szC d l≤2000→FewC d l
 | 0,_,_,_,_=>trivial
 | d+1,l,D,h,hs=>by
   have hh:=shape_succ h
   refine ⟨?_,fun c hc=>?_⟩
   · have:∀ m:List (Cm (d+1)),m.length≤szC (d+1) m:=by
      intro m
      induction m with
      | nil=>exact Nat.zero_le _
      | cons c r ih=>rw [sz_one,List.length_cons];omega
     exact Nat.le_trans (this l) hs
   · obtain ⟨h1,h2,h3⟩:=hh c hc
     have hm:=size_mem hc
     refine ⟨?_,few_shape d _ _ h2 (by omega),few_shape d _ _ h3 (by omega)⟩
     have hn:∀ a:Asn,noinvB a=true→asSz a:=fun a h=>by
      simp only [noinvB,Bool.and_eq_true,decide_eq_true_eq] at h
      exact ⟨by omega,by omega⟩
     rw [headOk] at h1
     split at h1
     · simp only [Bool.and_eq_true] at h1;exact hn _ h1.2.2.2
     · split at h1
       · simp only [Bool.and_eq_true] at h1
         have:=asnB_len h1.2.2.2.1
         exact ⟨by omega,by omega⟩
       · simp only [basicB,Bool.and_eq_true] at h1;exact hn _ h1.2.1
theorem cut_len (c:UInt8) (x:List UInt8):0 < (cutL c x).length∧(cutL c x).length≤x.length+1:=by
 have h0:=List.length_pos_iff.2 (cutL_ne c x)
 refine ⟨h0,?_⟩
 clear h0
 induction x with
 | nil=>rw [cutL];simp
 | cons b r ih =>
   rw [cutL];split
   · simp only [List.length_cons];omega
   · cases h:cutL c r with
     | nil=>exact absurd h (cutL_ne c r)
     | cons y z =>
       rw [h] at ih
       simp only [consH,List.length_cons] at ih ⊢;omega
set_option maxRecDepth 100000 in
set_option maxHeartbeats 3200000 in
theorem parseProgS_any (x:List UInt8) (w:World) (hl:x.length≤1048576) :
 Calls Tryz.prog 202 #[.string (btx x)] w fun e w'=>∃ u,e=.returned (.tuple #[u,.bool (progO x).isSome])∧UC w' w.heap.size u (progR x)∧Below w.heap.size w w':=by
 have NIL:∀ (W:World),progO x=none→Below w.heap.size w W→UC (W.alloc (.cells #[] 63)) w.heap.size (.slice (some ⟨W.heap.size,0,none⟩) 0 0) (progR x)∧Below w.heap.size w (W.alloc (.cells #[] 63)):=by
  intro W hn hb
  rw [progR,hn]
  exact ⟨⟨[],World.ownsRow_lit (base:=w.heap.size) (size:=10) W #[] 0 hb.size (by decide) (by simp) (e:=63),fun k hk=>absurd hk (Nat.not_lt_zero k)⟩,bt hb (below_alloc _ _)⟩
 have HNIL:=Lib.hid NIL
 clear NIL
 have hsz:(btx x).size=x.length:=rfl
 by_cases hx:x.length≤4000
 · obtain ⟨n,hn⟩:∃ n,x.length=n:=⟨_,rfl⟩
   have hc:=cut_len 10 x
   have hcs:∀ y ∈ cutL 10 x,y.length≤1048576:=fun y hy=>Nat.le_trans (cut_short hy) hl
   rw [hn] at hsz hx hc
   have HC:=Lib.hid (And.intro hc hcs)
   have hbs:=block_sz (cutL 10 x) 4 0
   have hr0:rstL (cutL 10 x) 0=(cutL 10 x).length:=by rw [rstL];simp
   have HSZ:=Lib.hid (show szC 5 (blk0 x)≤1000000000000000000 by rw [hr0] at hbs;show szC (4+1) (blockF (cutL 10 x) 4 0).1≤_;omega)
   have HX:=Lib.hid (show progO x=if fmtP 5 (blk0 x)=x∧progOkB (blk0 x)=true then some (blk0 x) else none by rw [progO,if_pos (by omega)])
   clear hc hcs hbs hr0 hn
   go_enter Tryz.func202,Tryz.ntmps202
   go_wp2_with fail
   refine (cutS_any x 10 _ hl).mono ?_
   rintro e w2 ⟨vl,rfl,hown,hb2⟩
   go_wp2_with fail
   refine (l8Block_any (cutL 10 x) ⟨HC.out.1.1,by have:=HC.out.1.2;omega⟩ HC.out.2 _ 4 0 _ (by decide) ⟨by decide,by omega⟩ hown).mono ?_
   rintro e w3 ⟨u,rfl,huc,hb3⟩
   obtain ⟨ua,ucp,rfl⟩:=huc.form
   have HUC:=Lib.hid huc
   have HB:=Lib.hid (bt hb2 hb3)
   have HZ:=Lib.hid hb2.size
   clear huc hown hb2 hb3
   go_wp2_with fail
   refine (formatPS_any 5 _ (blk0 x) _ HUC.out.rl HSZ.out (by decide)).mono ?_
   rintro e w4 ⟨rfl,hb4⟩
   have HB4:=Lib.hid (bt HB.out hb4)
   by_cases hf:fmtP 5 (blk0 x)=x
   · have j1:((btx (fmtP 5 (blk0 x))).toList == (btx x).toList)=true:=by rw [btx_leq];exact decide_eq_true hf
     have HF:=Lib.hid hf
     clear hf
     go_wp2_with fail
     cases hv:progOkB (blk0 x) with
     | false =>
       have HV:=Lib.hid hv
       clear hv
       refine (cb (progValidS_any 5 _ (blk0 x) _ (HUC.out.rl.keep hb4) HSZ.out (by decide)) HV.out).mono ?_
       rintro e w5 ⟨rfl,hb5⟩
       have HN:=Lib.hid (show progO x=none by rw [HX.out,if_neg (by rw [HV.out];simp)])
       go_wp2
       refine bodyPost_ret (v:=.tuple #[.slice (some ⟨w5.heap.size,0,none⟩) 0 0,.bool false]) (by simp [results,Tryz.results202,go_sem]) rfl ?_
       exact ⟨_,by rw [HN.out];rfl,HNIL.out _ HN.out (bt HB4.out hb5)⟩
     | true =>
       have HV:=Lib.hid hv
       clear hv
       refine (cb (progValidS_any 5 _ (blk0 x) _ (HUC.out.rl.keep hb4) HSZ.out (by decide)) HV.out).mono ?_
       rintro e w5 ⟨rfl,hb5⟩
       have HN:=Lib.hid (show progO x=some (blk0 x) by rw [HX.out,if_pos ⟨HF.out,HV.out⟩])
       go_wp2
       refine bodyPost_ret (v:=.tuple #[.slice ua (blk0 x).length ucp,.bool true]) (by simp [results,Tryz.results202,go_sem];rfl) rfl ?_
       exact ⟨_,by rw [HN.out];rfl,by rw [progR,HN.out];exact ((HUC.out.keep hb4).keep hb5).mono HZ.out,bt HB4.out hb5⟩
   · have j1:((btx (fmtP 5 (blk0 x))).toList == (btx x).toList)=false:=by rw [btx_leq];exact decide_eq_false hf
     have HN:=Lib.hid (show progO x=none by rw [HX.out,if_neg (fun h=>hf h.1)])
     clear hf
     go_wp2
     refine bodyPost_ret (v:=.tuple #[.slice (some ⟨w4.heap.size,0,none⟩) 0 0,.bool false]) (by simp [results,Tryz.results202,go_sem]) rfl ?_
     exact ⟨_,by rw [HN.out];rfl,HNIL.out _ HN.out HB4.out⟩
 · have HN:=Lib.hid (show progO x=none by rw [progO,if_neg hx])
   go_enter Tryz.func202,Tryz.ntmps202
   go_wp2
   refine bodyPost_ret (v:=.tuple #[.slice (some ⟨w.heap.size,0,none⟩) 0 0,.bool false]) (by simp [results,Tryz.results202,go_sem]) rfl ?_
   exact ⟨_,by rw [HN.out];rfl,HNIL.out _ HN.out (Below.refl _ _)⟩
end Go.Proofs.YtkbbmjcfgcfejaaGreat
set_option linter.unusedVariables false
set_option linter.unusedSimpArgs false
namespace Go.Proofs.YtkbbmjcfgcfejaaGreat
open Go.RowKit
def bndC:Nat→Nat
 | 0=>0
 | d+1=>2000 * (1+bndC d+bndC d)
theorem few_bnd:∀ (d:Nat) (l:List (Cm d)),FewC d l→szC d l≤bndC d
 | 0,_,_=>Nat.le_refl _
 | d+1,l,h=>by
   have h1:=sum_const (l:=l) (f:=fun c:Cm (d+1)=>1+szC d c.body+szC d c.els) (b:=1+bndC d+bndC d) fun c hc=>by
    have h1:=few_bnd d c.body (h.2 c hc).2.1
    have h2:=few_bnd d c.els (h.2 c hc).2.2
    omega
   exact Nat.le_trans h1 (Nat.mul_le_mul_right _ h.1)
theorem few_size {d:Nat} {l:List (Cm d)} (h:FewC d l) (hd:d≤5):szC d l≤900000000000000000:=by
 have h1:=few_bnd d l h
 have h2:∀ d≤5,bndC d≤900000000000000000:=by decide
 exact Nat.le_trans h1 (h2 d hd)
def ProgRes (g q:Nat) (w:World) (e:Ending) (w':World):Prop :=
 ∃ (d:Nat) (v:Value) (l:List (Cm d)),e=.returned v∧d≤5∧RL w' (fun k=>w.heap.size≤k) v l∧FewC d l∧Rdr w' g q∧Fr (fun j=>j=g) w w'
theorem rl_cell {d:Nat} {w:World} {S:Nat→Prop} {c:Cm (d+1)} {f1 f2 x y:Value} {g:Nat} (hg:w.heap.size=g) (hS:S g)
 (h1:RL w S f1 c.inv.1) (h2:RL w S f2 c.inv.2) (h3:RL w S x c.body) (h4:RL w S y c.els) :
 RL (w.alloc (.cells #[.int .i64 c.kind,.int .i64 c.a,.int .i64 c.b,.bool c.test.1,.int .i64 c.test.2.1,.int .i64 c.test.2.2,f1,f2,x,y] 63)) S (.slice (some ⟨g,0,none⟩) 1 1) [c]:=by
 subst hg
 have hb:=below_alloc w (.cells #[.int .i64 c.kind,.int .i64 c.a,.int .i64 c.b,.bool c.test.1,.int .i64 c.test.2.1,.int .i64 c.test.2.2,f1,f2,x,y] 63)
 refine .inr ⟨w.heap.size,0,1,rfl,Nat.le_refl _,by unfold maxLen;omega,fun _=>⟨hS,by simp⟩,fun i hi=>?_⟩
 obtain rfl:i=0:=by simpa using hi
 refine ⟨_,rd_cm_mk (c:=c) (h1.keep hb) (h2.keep hb) (h3.keep hb) (h4.keep hb),fun j u hj=>?_⟩
 have:=news_cm w c.kind c.a c.b c.test f1 f2 x y 63 j u hj
 simpa using this
set_option maxRecDepth 100000 in
set_option maxHeartbeats 3200000 in
theorem l8Program_any (g q:Nat) (w:World) (hr:Rdr w g q) (hq:q≤800000) :
 Calls Tryz.prog 252 #[.pointer (some ⟨g,0,none⟩)] w (ProgRes g (q+11600) w):=by
 have hgl:=hr.lt
 have HLIT:=Lib.hid (lit_ints w [1,2,3,1] (by decide))
 have hz1:(w.alloc (.cells (ints [1,2,3,1]).toArray 3)).heap.size=w.heap.size+1:=by simp
 go_enter Tryz.func252,Tryz.ntmps252
 go_wp2_with fail
 refine (num_any g q _ [1,2,3,1] _ (hr.keep (below_alloc _ _)) HLIT.out (by omega) (by decide) (by decide) (fun k hk e=>by simp [Value.ownBlock] at hk;omega)).mono ?_
 rintro e w1 ⟨N0,hN,rfl,hr1,hf1⟩
 obtain ⟨n,hNe,hn2⟩:∃ n:Nat,N0=(n:Int)+1∧n≤2:=by
  simp only [List.mem_cons,List.not_mem_nil,or_false] at hN
  rcases hN with rfl | rfl | rfl | rfl
  · exact ⟨0,rfl,by omega⟩
  · exact ⟨1,rfl,by omega⟩
  · exact ⟨2,rfl,by omega⟩
  · exact ⟨0,rfl,by omega⟩
 subst hNe
 have hF1:Fr (fun j=>j=g) w w1:=((Below.fr (below_alloc w (.cells (ints [1,2,3,1]).toArray 3))).mono (S':=fun j=>j=g) fun _ _ h=>h.elim).trans hf1
 have hQ:Fq (n+1)≤11557:=by
  have:∀ n≤2,Fq (n+1)≤11557:=by decide
  exact this n hn2
 have hz2:=hF1.size
 have HF1:=Lib.hid hF1
 have HQ:=Lib.hid hQ
 clear hN hr hf1 hF1 hz1
 go_wp2_with fail
 refine (l8Draw_any n ((n:Int)+1) g (q+1) _ rfl (by omega) hr1 (by have:=HQ.out;omega)).mono ?_
 rintro e w2 ⟨v,l,rfl,huc,hll,hfw,hr2,hf2⟩
 obtain ⟨va,vc,rfl⟩:=huc.form
 have hz3:=hf2.size
 have HF2:=Lib.hid (HF1.out.trans hf2)
 have HFW:=Lib.hid hfw
 have HUC:=Lib.hid (huc.rl.more fun k _ hk=>show w.heap.size≤k by have h1:w1.heap.size≤k:=hk;omega)
 have HR2:=Lib.hid (hr2.more (q':=q+11600) (by have:=HQ.out;omega))
 have hl0:=hll.1
 have hl3:=hll.2
 clear huc hll hfw hr2 hf2 hr1
 go_wp2_with fail
 refine (progValidS_any (n+1) _ l _ HUC.out (by have:=few_size HFW.out (by omega);omega) (by omega)).mono ?_
 rintro e w3 ⟨rfl,hb3⟩
 cases hv:progOkB l with
 | true =>
   clear hv
   go_wp2
   go_ret
   exact ⟨n+1,_,l,rfl,by omega,HUC.out.keep hb3,HFW.out,HR2.out.keep hb3,HF2.out.thenB hb3⟩
 | false =>
   obtain ⟨a,cap,he,_,_,hc⟩:=HUC.out.cmAt
   obtain ⟨b,o,f1,f2,x,y,rfl,hsb,hbl,hcc,⟨g1,g2⟩,g3,g4⟩:=hc 0 hl0
   obtain ⟨rfl,rfl⟩:va=some ⟨b,o,none⟩∧vc=cap:=by
    injection he with e1 e2 e3
    exact ⟨e1,e3⟩
   obtain ⟨fa1,fn1,rfl⟩:=g1.form
   obtain ⟨fa2,fn2,rfl⟩:=g2.form
   obtain ⟨xa,xn,rfl⟩:=g3.form
   obtain ⟨ya,yn,rfl⟩:=g4.form
   have hgm:=gd_mem hl0
   obtain ⟨c,hck⟩:∃ c,gd l 0=c:=⟨_,rfl⟩
   rw [hck] at hcc g1 g2 g3 g4 hgm
   have hcc':∀ j u,(cmCells c.kind c.a c.b c.test (.slice fa1 c.inv.1.length fn1) (.slice fa2 c.inv.2.length fn2) (.slice xa c.body.length xn) (.slice ya c.els.length yn))[j]?=some u→w3.cell? ⟨b,o+j,none⟩=some u:=fun j u hj=>cell_keep hb3 (by
    have:=hcc j u hj
    rwa [Nat.zero_mul,Nat.add_zero] at this)
   have p0:w3.cell? ⟨b,o,none⟩=some (.int .i64 c.kind):=hcc' 0 _ rfl
   have p1:=hcc' 1 _ rfl
   have p2:=hcc' 2 _ rfl
   have p3:=hcc' 3 _ rfl
   have p4:=hcc' 4 _ rfl
   have p5:=hcc' 5 _ rfl
   have p6:=hcc' 6 _ rfl
   have p7:=hcc' 7 _ rfl
   have p8:=hcc' 8 _ rfl
   have p9:=hcc' 9 _ rfl
   have hz4:=hb3.size
   have hzb:b < w3.heap.size:=by omega
   have HG:=Lib.hid (And.intro (And.intro (g1.keep hb3) (g2.keep hb3)) (And.intro (g3.keep hb3) (g4.keep hb3)))
   have HFC:=Lib.hid (HFW.out.2 c hgm)
   clear hv hcc hcc' hck g1 g2 g3 g4 hc he hgm
   go_wp2
   go_ret
   exact ⟨n+1,_,[c],rfl,by omega,rl_cell rfl (show w.heap.size≤w3.heap.size by omega) HG.out.1.1 HG.out.1.2 HG.out.2.1 HG.out.2.2,⟨by simp,fun z hz=>by rw [List.mem_singleton.1 hz];exact HFC.out⟩,(HR2.out.keep hb3).keep (below_alloc _ _),(HF2.out.thenB hb3).thenB (below_alloc _ _)⟩
def code9:List (List UInt8):=[[119,104,105,108,101,32,97,33,61,110,105,108,32,119,105,116,104,32,116,114,117,101,32,124,32,97,126,110,105,108,10,99,58,61,91,97,93,10,102,114,101,101,32,97,10,97,58,61,99,10,101,110,100,10],[99,58,61,110,105,108,10,119,104,105,108,101,32,97,33,61,110,105,108,32,119,105,116,104,32,116,114,117,101,32,124,32,97,126,110,105,108,32,42,32,99,126,110,105,108,10,100,58,61,91,97,93,10,91,97,93,58,61,99,10,99,58,61,97,10,97,58,61,100,10,101,110,100,10],[105,102,32,97,33,61,110,105,108,10,99,58,61,91,97,93,10,91,97,93,58,61,98,10,98,58,61,97,10,97,58,61,99,10,101,110,100,10],[110,101,119,32,99,10,91,99,93,58,61,97,10,97,58,61,99,10],[99,58,61,97,10,119,104,105,108,101,32,99,33,61,110,105,108,32,119,105,116,104,32,116,114,117,101,32,124,32,97,126,99,32,42,32,99,126,110,105,108,10,99,58,61,91,99,93,10,101,110,100,10],[102,114,101,101,32,97,10,91,97,93,58,61,110,105,108,10],[97,58,61,98,10,98,58,61,99,10,110,101,119,32,100,10,102,114,101,101,32,100,10]]
theorem code9_lit (w:World):RStrs (w.alloc (.cells #[.string ⟨#[119,104,105,108,101,32,97,33,61,110,105,108,32,119,105,116,104,32,116,114,117,101,32,124,32,97,126,110,105,108,10,99,58,61,91,97,93,10,102,114,101,101,32,97,10,97,58,61,99,10,101,110,100,10]⟩,.string ⟨#[99,58,61,110,105,108,10,119,104,105,108,101,32,97,33,61,110,105,108,32,119,105,116,104,32,116,114,117,101,32,124,32,97,126,110,105,108,32,42,32,99,126,110,105,108,10,100,58,61,91,97,93,10,91,97,93,58,61,99,10,99,58,61,97,10,97,58,61,100,10,101,110,100,10]⟩,.string ⟨#[105,102,32,97,33,61,110,105,108,10,99,58,61,91,97,93,10,91,97,93,58,61,98,10,98,58,61,97,10,97,58,61,99,10,101,110,100,10]⟩,.string ⟨#[110,101,119,32,99,10,91,99,93,58,61,97,10,97,58,61,99,10]⟩,.string ⟨#[99,58,61,97,10,119,104,105,108,101,32,99,33,61,110,105,108,32,119,105,116,104,32,116,114,117,101,32,124,32,97,126,99,32,42,32,99,126,110,105,108,10,99,58,61,91,99,93,10,101,110,100,10]⟩,.string ⟨#[102,114,101,101,32,97,10,91,97,93,58,61,110,105,108,10]⟩,.string ⟨#[97,58,61,98,10,98,58,61,99,10,110,101,119,32,100,10,102,114,101,101,32,100,10]⟩] 9)) w.heap.size code9:=fun i hi=>by
 rw [World.cell?_alloc_mark]
 match i,hi with
 | 0,_=>rfl
 | 1,_=>rfl
 | 2,_=>rfl
 | 3,_=>rfl
 | 4,_=>rfl
 | 5,_=>rfl
 | 6,_=>rfl
theorem code9_len:∀ x ∈ code9,x.length≤1048576:=by decide
set_option maxRecDepth 100000 in
set_option maxHeartbeats 3200000 in
theorem l9Code_any (g q:Nat) (w:World) (hr:Rdr w g q) (hq:q≤700000) :
 Calls Tryz.prog 209 #[.pointer (some ⟨g,0,none⟩)] w (ProgRes g (q+11700) w):=by
 have hgl:=hr.lt
 have HLIT:=Lib.hid (code9_lit w)
 have hF0:Fr (fun j=>j=g) w (w.alloc (.cells #[.string ⟨#[119,104,105,108,101,32,97,33,61,110,105,108,32,119,105,116,104,32,116,114,117,101,32,124,32,97,126,110,105,108,10,99,58,61,91,97,93,10,102,114,101,101,32,97,10,97,58,61,99,10,101,110,100,10]⟩,.string ⟨#[99,58,61,110,105,108,10,119,104,105,108,101,32,97,33,61,110,105,108,32,119,105,116,104,32,116,114,117,101,32,124,32,97,126,110,105,108,32,42,32,99,126,110,105,108,10,100,58,61,91,97,93,10,91,97,93,58,61,99,10,99,58,61,97,10,97,58,61,100,10,101,110,100,10]⟩,.string ⟨#[105,102,32,97,33,61,110,105,108,10,99,58,61,91,97,93,10,91,97,93,58,61,98,10,98,58,61,97,10,97,58,61,99,10,101,110,100,10]⟩,.string ⟨#[110,101,119,32,99,10,91,99,93,58,61,97,10,97,58,61,99,10]⟩,.string ⟨#[99,58,61,97,10,119,104,105,108,101,32,99,33,61,110,105,108,32,119,105,116,104,32,116,114,117,101,32,124,32,97,126,99,32,42,32,99,126,110,105,108,10,99,58,61,91,99,93,10,101,110,100,10]⟩,.string ⟨#[102,114,101,101,32,97,10,91,97,93,58,61,110,105,108,10]⟩,.string ⟨#[97,58,61,98,10,98,58,61,99,10,110,101,119,32,100,10,102,114,101,101,32,100,10]⟩] 9)):=(Below.fr (below_alloc w _)).mono (S':=fun j=>j=g) fun _ _ h=>h.elim
 have HF0:=Lib.hid hF0
 clear hF0
 go_enter Tryz.func209,Tryz.ntmps209
 go_wp2_with fail
 refine (of_any g q _ 7 7 code9 _ (hr.keep (below_alloc _ _)) (by omega) rfl (by decide) (by decide) (by omega) HLIT.out).mono ?_
 rintro e w1 ⟨t,ht,rfl,hr1,hf1⟩
 have HF1:=Lib.hid (HF0.out.trans hf1)
 have hz1:=HF1.out.size
 have HT:=Lib.hid (code9_len t ht)
 clear hr hf1 ht
 go_wp2_with fail
 refine (parseProgS_any t _ HT.out).mono ?_
 rintro e w2 ⟨u,rfl,huc,hb2⟩
 obtain ⟨ua,ucp,rfl⟩:=huc.form
 have hz2:=hb2.size
 have HF2:=Lib.hid (HF1.out.thenB hb2)
 have hr2:=hr1.keep hb2
 have HUC:=Lib.hid (huc.rl.more fun k _ hk=>show w.heap.size≤k by have h1:w1.heap.size≤k:=hk;omega)
 clear hr1 huc hb2
 cases hp:progO t with
 | none =>
   have hs0:(none:Option (List (Cm 5))).isSome=false:=rfl
   have HP:=Lib.hid hp
   clear hp
   go_wp2_with fail
   refine (l8Program_any g (q+1) _ hr2 (by omega)).mono ?_
   rintro e w3 ⟨d,v,l,rfl,hd,hl,hfw,hr3,hf3⟩
   obtain ⟨va,vc,rfl⟩:=hl.form
   have HL:=Lib.hid (And.intro (hl.more fun k _ hk=>show w.heap.size≤k by have h1:w2.heap.size≤k:=hk;omega) (And.intro hfw (HF2.out.trans hf3)))
   clear hl hfw hf3
   go_wp2
   go_ret
   exact ⟨d,_,l,rfl,hd,HL.out.1,HL.out.2.1,hr3.more (by omega),HL.out.2.2⟩
 | some l =>
   have hs0:(some l).isSome=true:=rfl
   have HP:=Lib.hid hp
   have hpr:progR t=l:=by rw [progR,hp];rfl
   rw [hpr] at HUC ⊢
   clear hp hpr
   go_wp2_with fail
   refine (pick_any g (q+1) 3 _ hr2 (by omega) (by decide) (by decide)).mono ?_
   rintro e w3 ⟨k,rfl,hk,hr3,hf3⟩
   have HL:=Lib.hid (And.intro (HUC.out.kept hf3 (fun j _ hj e=>by have e2:j=g:=e;have h1:w.heap.size≤j:=hj;omega)) (HF2.out.trans hf3))
   have HFW:=Lib.hid (show FewC 5 l from by
    have h1:=progOk_iff (progO_ok HP.out).1
    exact few_shape 5 l 4 h1.1 (by omega))
   clear hf3
   by_cases hk0:0 < k
   · have i1:(0:Int) < (k:Int):=by omega
     go_wp2
     go_ret
     exact ⟨5,_,l,rfl,by omega,HL.out.1,HFW.out,hr3.more (by omega),HL.out.2⟩
   · have i1:¬ (0:Int) < (k:Int):=by omega
     go_wp2_with fail
     refine (l8Program_any g (q+1+1) _ hr3 (by omega)).mono ?_
     rintro e w4 ⟨d,v,m,rfl,hd,hl,hfw,hr4,hf4⟩
     obtain ⟨va,vc,rfl⟩:=hl.form
     have hz3:=HL.out.2.size
     have HM:=Lib.hid (And.intro (hl.more fun k _ hk=>show w.heap.size≤k by have h1:w3.heap.size≤k:=hk;omega) (And.intro hfw (HL.out.2.trans hf4)))
     clear hl hfw hf4
     go_wp2
     go_ret
     exact ⟨d,_,m,rfl,hd,HM.out.1,HM.out.2.1,hr4.more (by omega),HM.out.2.2⟩
end Go.Proofs.YtkbbmjcfgcfejaaGreat
