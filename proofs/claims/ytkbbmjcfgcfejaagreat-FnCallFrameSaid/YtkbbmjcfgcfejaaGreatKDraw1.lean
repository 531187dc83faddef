/- Base3: texts L1, L2, L3, Frame, Ext in one. -/
import Derived.Test.YtkbbmjcfgcfejaaGreatKBase1
import Derived.Test.YtkbbmjcfgcfejaaGreatRows
import Derived.ProofKit
import Derived.OpenShut
import Derived.ShutString
import Derived.ChangeOld
import Derived.Lib.SmallJoins
import Derived.Handy
import Derived.Deep.DeepMust
import Derived.Laws.BitsAllLaws
import Derived.Deep.RegionHeld3
namespace Go.Proofs.YtkbbmjcfgcfejaaGreat
open Go.RowKit
end Go.Proofs.YtkbbmjcfgcfejaaGreat
namespace Go.Proofs.YtkbbmjcfgcfejaaGreat
open Go.RowKit
def mks (k0:Int) (n:Nat):List Int:=(List.range n).map fun (i:Nat)=>k0+i
theorem own_form {w:World} {B e n:Nat} {v:Value} {xs:List Value} (h:w.ownsRow B e 1 v n xs):∃ a cap,v=.slice a n cap∧(∀ i,i < n→∃ g,a=some ⟨g,0,none⟩):=by
 rcases h.2 with ⟨rfl,rfl⟩ | ⟨g,cap,cur,rfl,_⟩
 · exact ⟨none,0,rfl,fun i hi=>by omega⟩
 · exact ⟨_,cap,rfl,fun _ _=>⟨g,rfl⟩⟩
end Go.Proofs.YtkbbmjcfgcfejaaGreat
namespace Go.Proofs.YtkbbmjcfgcfejaaGreat
open Go.RowKit
end Go.Proofs.YtkbbmjcfgcfejaaGreat
namespace Go.Proofs.YtkbbmjcfgcfejaaGreat
open Go.ChangeShapes Go.WideShapes Go.ChangeAt Go.RowKit Go.Joins
theorem own_knob:ownKnob Tryz.prog.godebug=none:=by kernel_rfl
theorem laid_out:laidOutB Tryz.prog=true:=by kernel_rfl
end Go.Proofs.YtkbbmjcfgcfejaaGreat
namespace Go.Proofs.YtkbbmjcfgcfejaaGreat
open Go.RowKit
theorem ext_below (w:World) (x:Ext w):Below w.heap.size w (ext w x):=x.below
@[simp,go_sem] theorem frozen?_ext (w:World) (x:Ext w) (p:Addr) (h:p.block < w.heap.size):(ext w x).frozen? p=w.frozen? p:=x.below.frozen h
@[simp,go_sem] theorem lt_ext (w:World) (x:Ext w) (k:Nat) (h:k < w.heap.size):k < (ext w x).heap.size:=Nat.lt_of_lt_of_le h x.below.size
@[simp,go_sem] theorem eq_ext (w:World) (x:Ext w) (k:Nat) (h:k < w.heap.size):(k=(ext w x).heap.size)=False:=by
  have:=x.below.size
  simp only [eq_iff_iff,iff_false]
  show ¬ k=x.to.heap.size
  omega
@[simp,go_sem] theorem lte_ext (w:World) (x:Ext w) (k:Nat) (h:k < w.heap.size):k≤(ext w x).heap.size:=Nat.le_of_lt (Nat.lt_of_lt_of_le h x.below.size)
@[simp,go_sem] theorem lt_p2 (n:Nat):n < n+1+1:=by omega
@[simp,go_sem] theorem lt_p3 (n:Nat):n < n+1+1+1:=by omega
@[simp,go_sem] theorem lt_p4 (n:Nat):n < n+1+1+1+1:=by omega
theorem be {a b:World} (h:Below a.heap.size a b) (x:Ext b):Below a.heap.size a (ext b x):=bt h x.below
theorem ba {a b:World} (h:Below a.heap.size a b) (o:Obj):Below a.heap.size a (b.alloc o):=bt h (below_alloc _ _)
theorem bd {a b:World} (h:Below a.heap.size a b):Below a.heap.size a b.drew:=bt h (below_drew _)
theorem Bl {B:Nat} {w w':World} (h:Below B w w':=by repeat (first | exact Below.refl _ _ | with_reducible assumption | exact below_alloc _ _ | (refine Below.setCell ?_ (by first | (simp;done) | (simp;omega) | omega) _) | apply bd | apply ba | apply be)):Below B w w':=h
end Go.Proofs.YtkbbmjcfgcfejaaGreat
namespace Go.Proofs.YtkbbmjcfgcfejaaGreat
open Go.RowKit
def Rdr (w:World) (g q:Nat):Prop :=
 ∃ (a:Option Addr) (n cap:Nat) (c:Nat→Int) (p:Nat),RSl w 1 (.slice a n cap) n (fun i=>.int .u8 (c i))∧(∀ i,0≤c i∧c i≤255)∧n≤2000∧p≤q ∧
   (0 < n→∀ k,(Value.slice a n cap).ownBlock=some k→k < g)∧w.heap[g]?=some (.cells #[.slice a n cap,.int .i64 p] 196 (0,0))
theorem Rdr.lt {w:World} {g q:Nat} (h:Rdr w g q):g < w.heap.size:=by
 obtain ⟨_,_,_,_,_,_,_,_,_,_,hb⟩:=h
 exact (Array.getElem?_eq_some_iff.1 hb).1
theorem Rdr.kept {w w':World} {g q:Nat} {S:Nat→Prop} (h:Rdr w g q) (hf:Fr S w w') (hs:∀ k,k≤g→S k→False):Rdr w' g q:=by
 obtain ⟨a,n,cap,c,p,h1,h2,h3,h4,h5,hb⟩:=h
 have hg:=(Array.getElem?_eq_some_iff.1 hb).1
 refine ⟨a,n,cap,c,p,?_,h2,h3,h4,h5,?_⟩
 · rcases h1 with h | ⟨b,o,cap',hv,q1,q2,q3⟩
   · exact .inl h
   · refine .inr ⟨b,o,cap',hv,q1,q2,fun i hi=>hf.cell (fun hS=>?_) (q3 i hi)⟩
     have:=h5 (by omega) b (by rw [hv];rfl)
     exact hs b (by omega) hS
 · rw [hf.block g hg (fun hS=>hs g (Nat.le_refl _) hS)];exact hb
theorem Rdr.keep {w w':World} {g q:Nat} (h:Rdr w g q) (hf:Below w.heap.size w w'):Rdr w' g q:=h.kept (Below.fr hf) fun _ _ h=>h
theorem Rdr.keepB {w w':World} {g q B:Nat} (h:Rdr w g q) (hf:Below B w w') (hB:g < B):Rdr w' g q:=h.kept (Below.chg hf) fun k hk hS=>by omega
theorem Rdr.more {w:World} {g q q':Nat} (h:Rdr w g q) (hq:q≤q'):Rdr w g q':=by
 obtain ⟨a,n,cap,c,p,h1,h2,h3,h4,h5,hb⟩:=h
 exact ⟨a,n,cap,c,p,h1,h2,h3,Nat.le_trans h4 hq,h5,hb⟩
theorem xor_i64 (a b:Int) (ha:0≤a) (ha2:a < 4611686018427387904) (hb:0≤b) (hb2:b < 4611686018427387904):0≤bits .xor .i64 a b∧bits .xor .i64 a b < 4611686018427387904:=by
 obtain ⟨x,rfl⟩:=Int.eq_ofNat_of_zero_le ha
 obtain ⟨y,rfl⟩:=Int.eq_ofNat_of_zero_le hb
 have hx:x ^^^ y < 2 ^ 62:=Nat.xor_lt_two_pow (by omega) (by omega)
 have h1:(BitVec.ofInt 64 (x:Int)).toNat=x:=by
  rw [BitVec.ofInt_natCast,BitVec.toNat_ofNat];exact Nat.mod_eq_of_lt (by omega)
 have h2:(BitVec.ofInt 64 (y:Int)).toNat=y:=by
  rw [BitVec.ofInt_natCast,BitVec.toNat_ofNat];exact Nat.mod_eq_of_lt (by omega)
 have e:bits .xor .i64 (x:Int) (y:Int)=((x ^^^ y:Nat):Int):=by
  show IntKind.i64.wrap ((BitVec.ofInt 64 (x:Int) ^^^ BitVec.ofInt 64 (y:Int)).toNat:Int)=_
  rw [BitVec.toNat_xor,h1,h2,IntKind.wrap_i64]
  omega
 rw [e]
 omega
def Picked (g q:Nat) (n:Int) (w:World) (e:Ending) (w':World):Prop :=
 ∃ k:Nat,e=.returned (.int .i64 k)∧(k:Int) < n∧Rdr w' g (q+1)∧Fr (fun j=>j=g) w w'
theorem set_rdr {w:World} {g:Nat} {v u:Value} {T:TypeId} (hb:w.heap[g]?=some (.cells #[v,u] T (0,0))) (x:Value) :
 (w.setCell ⟨g,1,none⟩ x).heap[g]?=some (.cells #[v,x] T (0,0)):=by
 rw [heap_setCell_same w g 1 _ T x hb];rfl
set_option maxHeartbeats 1600000 in
theorem pick_any (g q:Nat) (n:Int) (w:World) (h:Rdr w g q) (hq:q≤1073741824) (hn:1≤n) (hn2:n≤1048576) :
 Calls Tryz.prog 134 #[.pointer (some ⟨g,0,none⟩),.int .i64 n] w (Picked g q n w):=by
 obtain ⟨a,m,cap,c,p,hr,hcb,hm,hp,hab,hb⟩:=h
 have hgl:=(Array.getElem?_eq_some_iff.1 hb).1
 have hc0:w.cell? ⟨g,0,none⟩=some (.slice a m cap):=cell_of_row w g 0 _ _ _ hb
 have hc1:w.cell? ⟨g,1,none⟩=some (.int .i64 p):=cell_of_row w g 1 _ _ _ hb
 have hz:w.frozen? ⟨g,1,none⟩=false:=frozen_of_row w g 1 _ _ hb
 have hset:=set_rdr hb (.int .i64 ((p:Int)+1))
 have HSET:=Lib.hid hset
 have hfr:Fr (fun j=>j=g) w (w.setCell ⟨g,1,none⟩ (.int .i64 ((p:Int)+1))) :=
  ⟨rfl,rfl,rfl,by simp [World.setCell],fun k _ hk=>Below.heap_setCell _ _ _ _ (by simpa using hk)⟩
 have hn1:(n < 1)=False:=by simp;omega
 have hend:∀ w':World,Below w.heap.size (w.setCell ⟨g,1,none⟩ (.int .i64 ((p:Int)+1))) w'→Rdr w' g (q+1)∧Fr (fun j=>j=g) w w':=by
  intro w' hbw
  have hf':Fr (fun j=>j=g) w w':=hfr.trans ((Below.fr (w:=w.setCell ⟨g,1,none⟩ (.int .i64 ((p:Int)+1))) (by simpa [World.setCell] using hbw)).mono fun _ _ h=>h.elim)
  refine ⟨⟨a,m,cap,c,p+1,?_,hcb,hm,by omega,hab,?_⟩,hf'⟩
  · rcases hr with h | ⟨b,o,cap',hv,q1,q2,q3⟩
    · exact .inl h
    · refine .inr ⟨b,o,cap',hv,q1,q2,fun i hi=>hf'.cell (fun e=>?_) (q3 i hi)⟩
      have:=hab (by omega) b (by rw [hv];rfl)
      simp at e;omega
  · rw [hbw.block g (by omega),HSET.out];rfl
 have HEND:=Lib.hid hend
 clear hend hset hb hfr
 by_cases hm0:m=0
 · subst hm0
   go_enter Tryz.func134,Tryz.ntmps134
   go_wp2
   go_ret
   obtain ⟨r1,r2⟩:=HEND.out _ (Below.refl _ _)
   exact ⟨0,rfl,by omega,r1,r2⟩
 · obtain ⟨b,o,cap',hv,q1,q2,q3⟩:∃ b o cap',Value.slice a m cap=.slice (some ⟨b,o,none⟩) m cap'∧m≤cap'∧cap'≤maxLen∧∀ i,i < m→w.cell? ⟨b,o+i,none⟩=some (.int .u8 (c i)):=by
    rcases hr with ⟨_,_,_,h,_⟩ | ⟨b,o,cap',hv,q1,q2,q3⟩
    · omega
    · exact ⟨b,o,cap',hv,q1,q2,fun i hi=>q3 i (by omega)⟩
   obtain rfl:a=some ⟨b,o,none⟩:=by simp at hv;exact hv.1
   have hbg:=hab (by omega) b rfl
   have hne:¬ b=g:=by omega
   have hbl:b < w.heap.size:=by omega
   have hm0':((m:Int) == 0)=false:=by simp;omega
   have Q3:=Lib.hid q3
   clear q3 hr hv hab
   by_cases hpm:p < m
   · have hck:=Q3.out p hpm
     have hcp:=hcb p
     have hpi:(p:Int) < (m:Int):=by omega
     go_enter Tryz.func134,Tryz.ntmps134
     go_wp2
     go_ret
     obtain ⟨r1,r2⟩:=HEND.out _ (Below.refl _ _)
     have hmod:=Int.emod_nonneg (c p) (show n ≠ 0 by omega)
     have hmod2:=Int.emod_lt_of_pos (c p) (show 0 < n by omega)
     exact ⟨(c p % n).toNat,by rw [Int.toNat_of_nonneg hmod];rfl,by omega,r1,r2⟩
   · have hpi:¬ (p:Int) < (m:Int):=by omega
     have hi1:p % m < m:=Nat.mod_lt _ (by omega)
     have hi2:(p * 7+3) % m < m:=Nat.mod_lt _ (by omega)
     have hck1:=Q3.out (p % m) hi1
     have hck2:=Q3.out ((p * 7+3) % m) hi2
     have hcp1:=hcb (p % m)
     have hcp2:=hcb ((p * 7+3) % m)
     have hj1:(p:Int) % (m:Int) < (m:Int):=Int.emod_lt_of_pos _ (by omega)
     have hj2:((p:Int) * 7+3) % (m:Int) < (m:Int):=Int.emod_lt_of_pos _ (by omega)
     have hj3:(0:Int)≤(p:Int) % (m:Int):=Int.emod_nonneg _ (by omega)
     have hj4:(0:Int)≤((p:Int) * 7+3) % (m:Int):=Int.emod_nonneg _ (by omega)
     have hmp:(1:Int)≤(m:Int):=by omega
     have hpm1:(0:Int)≤(p:Int) / (m:Int):=Int.ediv_nonneg (by omega) (by omega)
     have hpm2:(p:Int) / (m:Int)≤(p:Int):=Int.ediv_le_self _ (by omega)
     go_enter Tryz.func134,Tryz.ntmps134
     go_wp2
     refine wp_region_ext (by kernel_rfl) (by kernel_rfl) ?_
     repeat (go_big_quiet_step (fail))
     refine wpQuiet_nil ?_
     intro w2 hb2
     obtain ⟨r1,r2⟩:=HEND.out _ (by simpa [World.setCell] using hb2)
     have R1:=Lib.hid r1
     have R2:=Lib.hid r2
     clear r1 r2 HEND hb2 HSET Q3 hck1 hck2 hj1 hj2 hj3 hj4 hc0 hc1 hz
     generalize c (p % m)=c1 at *
     generalize c ((p * 7+3) % m)=c2 at *
     generalize (p:Int) / (m:Int)=d at *
     have hx:=xor_i64 (c1 * 131+c2 * 1117+(p:Int) * 29+d * 53) ((c1 * 131+c2 * 1117+(p:Int) * 29+d * 53) / 64) (by omega) (by omega) (by omega) (by omega)
     go_wp2
     go_ret
     generalize bits BinOp.xor IntKind.i64 (c1 * 131+c2 * 1117+(p:Int) * 29+d * 53) ((c1 * 131+c2 * 1117+(p:Int) * 29+d * 53) / 64)=x at *
     have hmod:=Int.emod_nonneg x (show n ≠ 0 by omega)
     have hmod2:=Int.emod_lt_of_pos x (show 0 < n by omega)
     exact ⟨(x % n).toNat,by rw [Int.toNat_of_nonneg hmod];rfl,by omega,R1.out,R2.out⟩
def Drawn (g q:Nat) (l:List Int) (w:World) (e:Ending) (w':World):Prop :=
 ∃ n:Int,n ∈ l∧e=.returned (.int .i64 n)∧Rdr w' g (q+1)∧Fr (fun j=>j=g) w w'
set_option maxHeartbeats 400000 in
theorem num_any (g q:Nat) (v:Value) (l:List Int) (w:World) (h:Rdr w g q) (hl:RInts w v l) (hq:q≤1073741824) (h0:0 < l.length) (h1:l.length≤1048576) (hne:∀ k,v.ownBlock=some k→¬ k=g) :
 Calls Tryz.prog 143 #[.pointer (some ⟨g,0,none⟩),v] w (Drawn g q l w):=by
 obtain ⟨b,o,cap,rfl,_,_,hcell⟩:=hl.ne h0
 have hnb:¬ b=g:=hne b rfl
 go_enter Tryz.func143,Tryz.ntmps143
 go_wp2_with fail
 refine (pick_any g q _ _ h hq (by omega) (by omega)).mono ?_
 rintro e w' ⟨k,rfl,hk,hr,hf⟩
 have hck:=hf.cell (fun e=>hnb (by simpa using e)) (hcell k (by omega))
 have hmem:gi l k ∈ l:=gi_mem (by omega)
 have HM:=Lib.hid hmem
 clear hcell hmem
 go_wp2
 go_ret
 exact ⟨gi l k,HM.out,rfl,hr,hf⟩
end Go.Proofs.YtkbbmjcfgcfejaaGreat
namespace Go.Proofs.YtkbbmjcfgcfejaaGreat
open Go.RowKit
structure OwnSt (w:World) (B:Nat) (v1 v2:Value) (l1 l2:List Int):Prop where
 one:w.ownsRow B 3 1 v1 l1.length (ints l1)
 two:w.ownsRow B 3 1 v2 l2.length (ints l2)
 apart:∀ k,some k=v1.ownBlock→¬ some k=v2.ownBlock
def RBytes (w:World) (v:Value) (n:Nat):Prop:=∃ c:Nat→Int,RSl w 1 v n (fun i=>.int .u8 (c i))∧∀ i,0≤c i∧c i≤255
set_option maxHeartbeats 400000 in
theorem l18Open_any (v:Value) (n:Nat) (w:World) (h:RBytes w v n) :
 Calls Tryz.prog 58 #[v] w fun e w'=>e=.returned (.pointer (some ⟨w.heap.size,0,none⟩))∧Rdr w' w.heap.size 0∧Below w.heap.size w w':=by
 obtain ⟨c,hr,hc⟩:=h
 have hform:∃ a cap,v=.slice a n cap∧n≤cap∧cap≤maxLen∧(0 < n→∃ b o,a=some ⟨b,o,none⟩∧b < w.heap.size∧∀ i,i < n→w.cell? ⟨b,o+i,none⟩=some (.int .u8 (c i))):=by
  rcases hr with ⟨a,cap,rfl,h0,hcap,_⟩ | ⟨b,o,cap,rfl,h1,h2,h3⟩
  · exact ⟨a,cap,by rw [h0],by omega,hcap,fun h=>by omega⟩
  · exact ⟨_,cap,rfl,h1,h2,fun hn=>⟨b,o,rfl,by have:=World.block_lt_of_cell? w _ (h3 0 (by omega));simpa using this,fun i hi=>h3 i (by omega)⟩⟩
 obtain ⟨a,cap,rfl,hnc,hcm,hcells⟩:=hform
 have HC:=Lib.hid hcells
 have HR:=Lib.hid hr
 clear hcells hr
 unfold maxLen at hcm
 by_cases hn:n≤2000
 · go_enter Tryz.func58,Tryz.ntmps58
   go_wp2
   go_ret
   refine ⟨rfl,⟨a,n,cap,c,0,(RSl.keep HR.out (below_alloc _ _)),hc,hn,Nat.le_refl _,?_,heap_alloc_new w _⟩,below_alloc _ _⟩
   intro h0 k hk
   obtain ⟨b,o,rfl,hb,_⟩:=HC.out h0
   simp [Value.ownBlock] at hk
   omega
 · obtain ⟨b,o,rfl,hb,hcell⟩:=HC.out (by omega)
   clear HR
   go_enter Tryz.func58,Tryz.ntmps58
   go_wp2
   go_ret
   refine ⟨rfl,⟨_,2000,cap,c,0,.inr ⟨b,o,cap,rfl,by omega,by unfold maxLen;omega,fun i hi=>cell_keep (below_alloc _ _) (hcell i (by omega))⟩,hc,Nat.le_refl _,Nat.le_refl _,?_,heap_alloc_new w _⟩,below_alloc _ _⟩
   intro _ k hk
   simp [Value.ownBlock] at hk
   omega
section
variable {w w':World} {b:Nat} {x y z:Value} {T:TypeId}
theorem box0 (h:w.heap[b]?=some (.cells #[x,y] T (0,0))):w.cell? ⟨b,0,none⟩=some x:=cell_of_row w b 0 _ _ _ h
theorem box1 (h:w.heap[b]?=some (.cells #[x,y] T (0,0))):w.cell? ⟨b,1,none⟩=some y:=cell_of_row w b 1 _ _ _ h
theorem boxz (h:w.heap[b]?=some (.cells #[x,y] T (0,0))) (i:Nat):w.frozen? ⟨b,i,none⟩=false:=frozen_of_row w b i _ _ h
theorem box_set0 (h:w.heap[b]?=some (.cells #[x,y] T (0,0))) (z:Value):(w.setCell ⟨b,0,none⟩ z).heap[b]?=some (.cells #[z,y] T (0,0)):=by
 rw [heap_setCell_same w b 0 _ T z h];rfl
theorem box_set1 (h:w.heap[b]?=some (.cells #[x,y] T (0,0))) (z:Value):(w.setCell ⟨b,1,none⟩ z).heap[b]?=some (.cells #[x,z] T (0,0)):=by
 rw [heap_setCell_same w b 1 _ T z h];rfl
theorem box_lt {o:Obj} (h:w.heap[b]?=some o):b < w.heap.size:=(Array.getElem?_eq_some_iff.1 h).1
theorem box_kept {o:Obj} {S:Nat→Prop} (h:w.heap[b]?=some o) (hf:Fr S w w') (hs:¬ S b):w'.heap[b]?=some o:=by
 rw [hf.block b (box_lt h) hs];exact h
theorem box_keep {o:Obj} (h:w.heap[b]?=some o) (hf:Below w.heap.size w w'):w'.heap[b]?=some o:=by
 rw [hf.block b (box_lt h)];exact h
theorem box_other {o:Obj} (h:w.heap[b]?=some o) (p:Addr) (v:Value) (hp:¬ b=p.block):(w.setCell p v).heap[b]?=some o:=by
 rw [Below.heap_setCell _ _ _ _ hp];exact h
theorem fr_set (w:World) (p:Addr) (v:Value):Fr (fun k=>k=p.block) w (w.setCell p v) :=
 ⟨rfl,rfl,rfl,by simp [World.setCell],fun k _ hk=>Below.heap_setCell _ _ _ _ hk⟩
end
def reps (x:Int) (k:Nat):List Int:=List.replicate k x
end Go.Proofs.YtkbbmjcfgcfejaaGreat
namespace Go.Proofs.YtkbbmjcfgcfejaaGreat
open Go.RowKit
theorem own_set {w:World} {B g cap:Nat} {l:List Int} (h:w.ownsRow B 3 1 (.slice (some ⟨g,0,none⟩) l.length cap) l.length (ints l)) (i:Nat) (x:Int) :
 (w.setCell ⟨g,i,none⟩ (.int .i64 x)).ownsRow B 3 1 (.slice (some ⟨g,0,none⟩) l.length cap) (l.set i x).length (ints (l.set i x)):=by
 have:=(h.stored i (.int .i64 x)).1
 rw [List.length_set]
 have e:(ints l).set i (.int .i64 x)=ints (l.set i x):=by simp [ints,List.map_set]
 rwa [e] at this
theorem own_cell {w:World} {B g cap:Nat} {l:List Int} (h:w.ownsRow B 3 1 (.slice (some ⟨g,0,none⟩) l.length cap) l.length (ints l)) (i:Nat) (hi:i < l.length) :
 w.cell? ⟨g,i,none⟩=some (.int .i64 (gi l i))∧w.frozen? ⟨g,i,none⟩=false:=by
 refine ⟨?_,h.frozenAt i⟩
 rw [h.cellAt i (by omega)]
 simp [ints,hi,gi]
theorem lit_ints (w:World) (l:List Int) (hl:l.length≤1048576):RInts (w.alloc (.cells (ints l).toArray 3)) (.slice (some ⟨w.heap.size,0,none⟩) l.length l.length) l:=by
 have:=World.ownsRow_lit (size:=1) w (ints l).toArray l.length (Nat.le_refl _) (by unfold maxLen;omega) (by simp) (e:=3)
 exact (own_ints (l:=l) (by simpa using this)).1
theorem Fr.then {S S':Nat→Prop} {a b c:World} (h:Fr S a b) (k:Fr S' b c) (hs:∀ i,i < a.heap.size→S' i→S i):Fr S a c :=
 ⟨k.os.trans h.os,k.tape.trans h.tape,k.output.trans h.output,Nat.le_trans h.size k.size,
   fun i hi hn=>(k.block i (Nat.lt_of_lt_of_le hi h.size) (fun hS=>hn (hs i hi hS))).trans (h.block i hi hn)⟩
theorem Fr.thenB {S:Nat→Prop} {a b c:World} (h:Fr S a b) (k:Below b.heap.size b c):Fr S a c:=h.then (Below.fr k) fun _ _ h=>h.elim
structure DrSt (w0 w:World) (g q B bA bB:Nat) (v1 v2:Value) (l1 l2:List Int):Prop where
 own:OwnSt w B v1 v2 l1 l2
 rdr:Rdr w g q
 boxA:w.heap[bA]?=some (.cells #[.slice none 0 0,.slice none 0 0] 75 (0,0))
 boxB:w.heap[bB]?=some (.cells #[v1,v2] 75 (0,0))
 fr:Fr (fun j=>j=g) w0 w
section
variable {w0 w w':World} {g q q' B bA bB:Nat} {v1 v2:Value} {l1 l2:List Int}
end
end Go.Proofs.YtkbbmjcfgcfejaaGreat
namespace Go.Proofs.YtkbbmjcfgcfejaaGreat
open Go.ChangeShapes Go.WideShapes Go.ChangeAt Go.RowKit Go.Joins
theorem bytes_of_trod {H:Type} {enc:TypeId × Value→H} {P:Program} {W:World} {t e:TypeId} {fuel:Nat} {v:Value} {y:DataW H × List MemPlace}
 (ht:P.underlying t=some (.slice e)) (he:P.underlying e=some (.int .u8)) (hc:P.cellsOf e=1) (h:DataW.trod enc P W 0 (fun _=>true) true fuel t [v]=some y) :
 ∃ n,RBytes W v n:=by
 rcases open_ints ht he hc h with ⟨hcs,_⟩ | ⟨a,len,cap,zs,hcs,_,hl,hm,hz,_,hcell,hwz⟩
 · simp at hcs;subst hcs;exact ⟨0,fun _=>0,.inl ⟨none,0,rfl,rfl,Nat.zero_le _,fun _=>rfl⟩,fun _=>by constructor <;> simp⟩
 · simp at hcs;subst hcs
   simp only [if_true] at hz
   refine ⟨len,fun i=>zs.getD i 0,?_,?_⟩
   · by_cases h0:len=0
     · subst h0
       exact .inl ⟨some a,cap,rfl,rfl,hm,by simp⟩
     · obtain ⟨b,o,sp⟩:=a
       have hc0:=hcell 0 (by omega)
       have hsp:sp=none:=by simpa [Addr.add] using World.cell?_spot hc0
       subst hsp
       refine .inr ⟨b,o,cap,rfl,by omega,hm,fun i hi=>?_⟩
       have:=hcell i (by omega)
       have e:(⟨b,o,none⟩:Addr).add i=⟨b,o+i,none⟩:=by unfold Addr.add;split <;> simp_all
       rw [e] at this
       simpa using this
   · intro i
     have:=range_u8 hwz i
     simpa [List.getD_eq_getElem?_getD] using this
end Go.Proofs.YtkbbmjcfgcfejaaGreat
