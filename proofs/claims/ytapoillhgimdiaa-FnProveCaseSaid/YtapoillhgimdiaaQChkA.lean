/- ChkA: texts Chk1, Chk2 in one. -/
import Derived.Test.YtapoillhgimdiaaQCpy
import Derived.Test.YtapoillhgimdiaaQData1
import Derived.Deep.Cut
import Derived.Handy
import Derived.Test.YtapoillhgimdiaaQAllA
import Derived.Test.YtapoillhgimdiaaQCase13
/- Walks: equal lists of numbers: the reference (l2Ints). -/
namespace Go.Proofs.Ytapoillhgimdiaa
open Go.RowKit

end Go.Proofs.Ytapoillhgimdiaa
/- Walks: the check of the proofs of all cases: the reference. -/
namespace Go.Proofs.Ytapoillhgimdiaa
open Go.RowKit

/-- Are these the proofs of all cases? -/
def chkL (a b : Asn) (ps : List CPf) : Bool := decide (ps.map Prod.fst = casesL (bothM a b) a) && ps.all (checkC a b)
def chkE (a b : Asn) (ps : List CPf) : Bool := asnB a && (asnB b && chkL a b ps)
theorem case_read {a b : Asn} {cl : List Int} (h : cl ∈ casesL (bothM a b) a) : readC (termsM b) a cl = true := by
  have hm := mem_cases.1 h
  rw [readC, Bool.and_eq_true]
  exact hm
theorem map_take_gd {ps : List CPf} {k : Nat} (h : k < ps.length) : (ps.take (k + 1)).map Prod.fst = (ps.take k).map Prod.fst ++ [(gd ps k).1] := by
  rw [take_gd h, List.map_append]; rfl
theorem all_take_gd {ps : List CPf} {p : CPf → Bool} {k : Nat} (h : k < ps.length) : (ps.take (k + 1)).all p = ((ps.take k).all p && p (gd ps k)) := by
  rw [take_gd h, List.all_append]; simp
theorem chk_ne {a b : Asn} {ps : List CPf} {k : Nat} (hk : k < ps.length) (hc : k < (casesL (bothM a b) a).length) (h : (gd ps k).1 ≠ gd (casesL (bothM a b) a) k) : chkL a b ps = false := by
  rw [chkL, Bool.and_eq_false_iff]
  left
  rw [decide_eq_false_iff_not]
  intro e
  apply h
  rw [gd_of hk, gd_of hc]
  have h2 : (ps.map Prod.fst)[k]? = (casesL (bothM a b) a)[k]? := by rw [e]
  rw [List.getElem?_map, List.getElem?_eq_getElem hk, List.getElem?_eq_getElem hc] at h2
  simpa using h2
theorem chk_no {a b : Asn} {ps : List CPf} {k : Nat} (hk : k < ps.length) (h : checkC a b (gd ps k) = false) : chkL a b ps = false := by
  rw [chkL, Bool.and_eq_false_iff]
  right
  rw [List.all_eq_false]
  exact ⟨gd ps k, gd_mem hk, by rw [h]; decide⟩
end Go.Proofs.Ytapoillhgimdiaa
