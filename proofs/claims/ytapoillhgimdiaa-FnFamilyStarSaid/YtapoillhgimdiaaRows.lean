/-
  No cell of these rows narrows 'for every input' (looked for: loops, veiled, ifaces, maps, wideKeys, modest, calm, conditions, laid).
  DERIVED. THE GIVEN ROWS OF THIS SEAT. 15 by the template 'for every input the law returns true; each argument reads behind the call as it read before'; 0 by the template 'total and deterministic' (their statements: YtapoillhgimdiaaTotals.lean).
  GIVEN WITH THE SEED: the statements are not yours to turn. If you find one false, say at which input.
  Laid BY PROGRAM, IN A SANDBOX (cutbox-rows.mjs): the forced cells as the released guide's own fill.sh prints them over the translation 5c14f66153d388c2… (all of the seat's roots in one cut). By AI agents, Wed Nov 11 2026. No macro, syntax, notation, axiom, sorry.
-/
import Derived.Test.YtapoillhgimdiaaChecked
import GoSem.Claim
import GoSem.ClaimJoined
import GoSem.ClaimMapViews
import Derived.JoinedTies
import Derived.KernelRfl
namespace Go.Proofs.Ytapoillhgimdiaa
/- THE CELL 'sum', in the pinned program and in every row, IS THE sha256 OF THE DUMP (.gsa) THAT YtapoillhgimdiaaProg.lean LOADS. Nothing in Lean hashes anything: it is a label: what it is worth is what the hold of that sum in a sandbox is worth. -/
noncomputable def Try.pinned : Pinned := { name := "ytapoillhgimdiaa", sum := "5c14f66153d388c2e3e81daca617c9df369c940728c1ebbdd52363789107541f", checked := Try.checked }
namespace Rows
def none {H : Type} : Left H := { results := [], args := [] }

/-- 'laws.FnExactProveEntailment': WHATEVER THE INPUT: true; the input reads as it did. -/
def fnExactProveEntailmentSpec : ChangeSpec := { name := "fnExactProveEntailment", fn := fun _ => fun
  | [d1, d2] => { results := [.lit (.bool true)], args := [d1, d2] }
  | _ => none }
def fnExactProveEntailmentRow : OpenClaim := { program := "ytapoillhgimdiaa", sum := "5c14f66153d388c2e3e81daca617c9df369c940728c1ebbdd52363789107541f", func := "loop.example/separation/laws.FnExactProveEntailment", spec := "fnExactProveEntailment", unfollowed := true, recurses := true, apart := false }
def FnExactProveEntailmentSaid : Prop := fnExactProveEntailmentRow.holds Try.pinned (OpenSpec.ofChange fnExactProveEntailmentSpec)

/-- ITS FALSE NEIGHBOUR: 'it returns false'. Refute it at one input. -/
def fnExactProveEntailmentWrong : ChangeSpec := { name := "fnExactProveEntailment", fn := fun _ => fun
  | [d1, d2] => { results := [.lit (.bool false)], args := [d1, d2] }
  | _ => none }
def FnExactProveEntailmentWrongFalsely : Prop := fnExactProveEntailmentRow.holds Try.pinned (OpenSpec.ofChange fnExactProveEntailmentWrong)

/-- 'laws.FnProveCase': WHATEVER THE INPUT: true; the input reads as it did. -/
def fnProveCaseSpec : ChangeSpec := { name := "fnProveCase", fn := fun _ => fun
  | [d] => { results := [.lit (.bool true)], args := [d] }
  | _ => none }
def fnProveCaseRow : OpenClaim := { program := "ytapoillhgimdiaa", sum := "5c14f66153d388c2e3e81daca617c9df369c940728c1ebbdd52363789107541f", func := "loop.example/separation/laws.FnProveCase", spec := "fnProveCase", recurses := true, apart := false }
def FnProveCaseSaid : Prop := fnProveCaseRow.holds Try.pinned (OpenSpec.ofChange fnProveCaseSpec)

/-- ITS FALSE NEIGHBOUR: 'it returns false'. Refute it at one input. -/
def fnProveCaseWrong : ChangeSpec := { name := "fnProveCase", fn := fun _ => fun
  | [d] => { results := [.lit (.bool false)], args := [d] }
  | _ => none }
def FnProveCaseWrongFalsely : Prop := fnProveCaseRow.holds Try.pinned (OpenSpec.ofChange fnProveCaseWrong)

/-- 'laws.FnCheckCase': WHATEVER THE INPUT: true; the input reads as it did. -/
def fnCheckCaseSpec : ChangeSpec := { name := "fnCheckCase", fn := fun _ => fun
  | [d] => { results := [.lit (.bool true)], args := [d] }
  | _ => none }
def fnCheckCaseRow : OpenClaim := { program := "ytapoillhgimdiaa", sum := "5c14f66153d388c2e3e81daca617c9df369c940728c1ebbdd52363789107541f", func := "loop.example/separation/laws.FnCheckCase", spec := "fnCheckCase", recurses := true, apart := false }
def FnCheckCaseSaid : Prop := fnCheckCaseRow.holds Try.pinned (OpenSpec.ofChange fnCheckCaseSpec)

/-- ITS FALSE NEIGHBOUR: 'it returns false'. Refute it at one input. -/
def fnCheckCaseWrong : ChangeSpec := { name := "fnCheckCase", fn := fun _ => fun
  | [d] => { results := [.lit (.bool false)], args := [d] }
  | _ => none }
def FnCheckCaseWrongFalsely : Prop := fnCheckCaseRow.holds Try.pinned (OpenSpec.ofChange fnCheckCaseWrong)

/-- 'laws.FnProveEntailment': WHATEVER THE INPUT: true; the input reads as it did. -/
def fnProveEntailmentSpec : ChangeSpec := { name := "fnProveEntailment", fn := fun _ => fun
  | [d] => { results := [.lit (.bool true)], args := [d] }
  | _ => none }
def fnProveEntailmentRow : OpenClaim := { program := "ytapoillhgimdiaa", sum := "5c14f66153d388c2e3e81daca617c9df369c940728c1ebbdd52363789107541f", func := "loop.example/separation/laws.FnProveEntailment", spec := "fnProveEntailment", unfollowed := true, recurses := true, apart := false }
def FnProveEntailmentSaid : Prop := fnProveEntailmentRow.holds Try.pinned (OpenSpec.ofChange fnProveEntailmentSpec)

/-- ITS FALSE NEIGHBOUR: 'it returns false'. Refute it at one input. -/
def fnProveEntailmentWrong : ChangeSpec := { name := "fnProveEntailment", fn := fun _ => fun
  | [d] => { results := [.lit (.bool false)], args := [d] }
  | _ => none }
def FnProveEntailmentWrongFalsely : Prop := fnProveEntailmentRow.holds Try.pinned (OpenSpec.ofChange fnProveEntailmentWrong)

/-- 'laws.FnWeakerOf': WHATEVER THE INPUT: true; the input reads as it did. -/
def fnWeakerOfSpec : ChangeSpec := { name := "fnWeakerOf", fn := fun _ => fun
  | [d] => { results := [.lit (.bool true)], args := [d] }
  | _ => none }
def fnWeakerOfRow : OpenClaim := { program := "ytapoillhgimdiaa", sum := "5c14f66153d388c2e3e81daca617c9df369c940728c1ebbdd52363789107541f", func := "loop.example/separation/laws.FnWeakerOf", spec := "fnWeakerOf", unfollowed := true, recurses := true, apart := false }
def FnWeakerOfSaid : Prop := fnWeakerOfRow.holds Try.pinned (OpenSpec.ofChange fnWeakerOfSpec)

/-- ITS FALSE NEIGHBOUR: 'it returns false'. Refute it at one input. -/
def fnWeakerOfWrong : ChangeSpec := { name := "fnWeakerOf", fn := fun _ => fun
  | [d] => { results := [.lit (.bool false)], args := [d] }
  | _ => none }
def FnWeakerOfWrongFalsely : Prop := fnWeakerOfRow.holds Try.pinned (OpenSpec.ofChange fnWeakerOfWrong)

/-- 'laws.FnFamilyTransitive': WHATEVER THE INPUT: true; the input reads as it did. -/
def fnFamilyTransitiveSpec : ChangeSpec := { name := "fnFamilyTransitive", fn := fun _ => fun
  | [d1, d2] => { results := [.lit (.bool true)], args := [d1, d2] }
  | _ => none }
def fnFamilyTransitiveRow : OpenClaim := { program := "ytapoillhgimdiaa", sum := "5c14f66153d388c2e3e81daca617c9df369c940728c1ebbdd52363789107541f", func := "loop.example/separation/laws.FnFamilyTransitive", spec := "fnFamilyTransitive", unfollowed := true, recurses := true, apart := false }
def FnFamilyTransitiveSaid : Prop := fnFamilyTransitiveRow.holds Try.pinned (OpenSpec.ofChange fnFamilyTransitiveSpec)

/-- ITS FALSE NEIGHBOUR: 'it returns false'. Refute it at one input. -/
def fnFamilyTransitiveWrong : ChangeSpec := { name := "fnFamilyTransitive", fn := fun _ => fun
  | [d1, d2] => { results := [.lit (.bool false)], args := [d1, d2] }
  | _ => none }
def FnFamilyTransitiveWrongFalsely : Prop := fnFamilyTransitiveRow.holds Try.pinned (OpenSpec.ofChange fnFamilyTransitiveWrong)

/-- 'laws.FnExactFamilyTrim': WHATEVER THE INPUT: true; the input reads as it did. -/
def fnExactFamilyTrimSpec : ChangeSpec := { name := "fnExactFamilyTrim", fn := fun _ => fun
  | [d] => { results := [.lit (.bool true)], args := [d] }
  | _ => none }
def fnExactFamilyTrimRow : OpenClaim := { program := "ytapoillhgimdiaa", sum := "5c14f66153d388c2e3e81daca617c9df369c940728c1ebbdd52363789107541f", func := "loop.example/separation/laws.FnExactFamilyTrim", spec := "fnExactFamilyTrim", unfollowed := true, recurses := true, apart := false }
def FnExactFamilyTrimSaid : Prop := fnExactFamilyTrimRow.holds Try.pinned (OpenSpec.ofChange fnExactFamilyTrimSpec)

/-- ITS FALSE NEIGHBOUR: 'it returns false'. Refute it at one input. -/
def fnExactFamilyTrimWrong : ChangeSpec := { name := "fnExactFamilyTrim", fn := fun _ => fun
  | [d] => { results := [.lit (.bool false)], args := [d] }
  | _ => none }
def FnExactFamilyTrimWrongFalsely : Prop := fnExactFamilyTrimRow.holds Try.pinned (OpenSpec.ofChange fnExactFamilyTrimWrong)

/-- 'laws.FnFamilyTrim': WHATEVER THE INPUT: true; the input reads as it did. -/
def fnFamilyTrimSpec : ChangeSpec := { name := "fnFamilyTrim", fn := fun _ => fun
  | [d] => { results := [.lit (.bool true)], args := [d] }
  | _ => none }
def fnFamilyTrimRow : OpenClaim := { program := "ytapoillhgimdiaa", sum := "5c14f66153d388c2e3e81daca617c9df369c940728c1ebbdd52363789107541f", func := "loop.example/separation/laws.FnFamilyTrim", spec := "fnFamilyTrim", unfollowed := true, recurses := true, apart := false }
def FnFamilyTrimSaid : Prop := fnFamilyTrimRow.holds Try.pinned (OpenSpec.ofChange fnFamilyTrimSpec)

/-- ITS FALSE NEIGHBOUR: 'it returns false'. Refute it at one input. -/
def fnFamilyTrimWrong : ChangeSpec := { name := "fnFamilyTrim", fn := fun _ => fun
  | [d] => { results := [.lit (.bool false)], args := [d] }
  | _ => none }
def FnFamilyTrimWrongFalsely : Prop := fnFamilyTrimRow.holds Try.pinned (OpenSpec.ofChange fnFamilyTrimWrong)

/-- 'laws.FnFamilyHolds': WHATEVER THE INPUT: true; the input reads as it did. -/
def fnFamilyHoldsSpec : ChangeSpec := { name := "fnFamilyHolds", fn := fun _ => fun
  | [d1, d2] => { results := [.lit (.bool true)], args := [d1, d2] }
  | _ => none }
def fnFamilyHoldsRow : OpenClaim := { program := "ytapoillhgimdiaa", sum := "5c14f66153d388c2e3e81daca617c9df369c940728c1ebbdd52363789107541f", func := "loop.example/separation/laws.FnFamilyHolds", spec := "fnFamilyHolds", recurses := true, apart := false }
def FnFamilyHoldsSaid : Prop := fnFamilyHoldsRow.holds Try.pinned (OpenSpec.ofChange fnFamilyHoldsSpec)

/-- ITS FALSE NEIGHBOUR: 'it returns false'. Refute it at one input. -/
def fnFamilyHoldsWrong : ChangeSpec := { name := "fnFamilyHolds", fn := fun _ => fun
  | [d1, d2] => { results := [.lit (.bool false)], args := [d1, d2] }
  | _ => none }
def FnFamilyHoldsWrongFalsely : Prop := fnFamilyHoldsRow.holds Try.pinned (OpenSpec.ofChange fnFamilyHoldsWrong)

/-- 'laws.FnSplitFact': WHATEVER THE INPUT: true; the input reads as it did. -/
def fnSplitFactSpec : ChangeSpec := { name := "fnSplitFact", fn := fun _ => fun
  | [d1, d2] => { results := [.lit (.bool true)], args := [d1, d2] }
  | _ => none }
def fnSplitFactRow : OpenClaim := { program := "ytapoillhgimdiaa", sum := "5c14f66153d388c2e3e81daca617c9df369c940728c1ebbdd52363789107541f", func := "loop.example/separation/laws.FnSplitFact", spec := "fnSplitFact", unfollowed := true, recurses := true, apart := false }
def FnSplitFactSaid : Prop := fnSplitFactRow.holds Try.pinned (OpenSpec.ofChange fnSplitFactSpec)

/-- ITS FALSE NEIGHBOUR: 'it returns false'. Refute it at one input. -/
def fnSplitFactWrong : ChangeSpec := { name := "fnSplitFact", fn := fun _ => fun
  | [d1, d2] => { results := [.lit (.bool false)], args := [d1, d2] }
  | _ => none }
def FnSplitFactWrongFalsely : Prop := fnSplitFactRow.holds Try.pinned (OpenSpec.ofChange fnSplitFactWrong)

/-- 'laws.FnFamilyStar': WHATEVER THE INPUT: true; the input reads as it did. -/
def fnFamilyStarSpec : ChangeSpec := { name := "fnFamilyStar", fn := fun _ => fun
  | [d] => { results := [.lit (.bool true)], args := [d] }
  | _ => none }
def fnFamilyStarRow : OpenClaim := { program := "ytapoillhgimdiaa", sum := "5c14f66153d388c2e3e81daca617c9df369c940728c1ebbdd52363789107541f", func := "loop.example/separation/laws.FnFamilyStar", spec := "fnFamilyStar", unfollowed := true, recurses := true, apart := false }
def FnFamilyStarSaid : Prop := fnFamilyStarRow.holds Try.pinned (OpenSpec.ofChange fnFamilyStarSpec)

/-- ITS FALSE NEIGHBOUR: 'it returns false'. Refute it at one input. -/
def fnFamilyStarWrong : ChangeSpec := { name := "fnFamilyStar", fn := fun _ => fun
  | [d] => { results := [.lit (.bool false)], args := [d] }
  | _ => none }
def FnFamilyStarWrongFalsely : Prop := fnFamilyStarRow.holds Try.pinned (OpenSpec.ofChange fnFamilyStarWrong)

/-- 'laws.FnFamilyEntails': WHATEVER THE INPUT: true; the input reads as it did. -/
def fnFamilyEntailsSpec : ChangeSpec := { name := "fnFamilyEntails", fn := fun _ => fun
  | [d] => { results := [.lit (.bool true)], args := [d] }
  | _ => none }
def fnFamilyEntailsRow : OpenClaim := { program := "ytapoillhgimdiaa", sum := "5c14f66153d388c2e3e81daca617c9df369c940728c1ebbdd52363789107541f", func := "loop.example/separation/laws.FnFamilyEntails", spec := "fnFamilyEntails", unfollowed := true, recurses := true, apart := false }
def FnFamilyEntailsSaid : Prop := fnFamilyEntailsRow.holds Try.pinned (OpenSpec.ofChange fnFamilyEntailsSpec)

/-- ITS FALSE NEIGHBOUR: 'it returns false'. Refute it at one input. -/
def fnFamilyEntailsWrong : ChangeSpec := { name := "fnFamilyEntails", fn := fun _ => fun
  | [d] => { results := [.lit (.bool false)], args := [d] }
  | _ => none }
def FnFamilyEntailsWrongFalsely : Prop := fnFamilyEntailsRow.holds Try.pinned (OpenSpec.ofChange fnFamilyEntailsWrong)

/-- 'laws.FnCheckEntailment': WHATEVER THE INPUT: true; the input reads as it did. -/
def fnCheckEntailmentSpec : ChangeSpec := { name := "fnCheckEntailment", fn := fun _ => fun
  | [d] => { results := [.lit (.bool true)], args := [d] }
  | _ => none }
def fnCheckEntailmentRow : OpenClaim := { program := "ytapoillhgimdiaa", sum := "5c14f66153d388c2e3e81daca617c9df369c940728c1ebbdd52363789107541f", func := "loop.example/separation/laws.FnCheckEntailment", spec := "fnCheckEntailment", unfollowed := true, recurses := true, apart := false }
def FnCheckEntailmentSaid : Prop := fnCheckEntailmentRow.holds Try.pinned (OpenSpec.ofChange fnCheckEntailmentSpec)

/-- ITS FALSE NEIGHBOUR: 'it returns false'. Refute it at one input. -/
def fnCheckEntailmentWrong : ChangeSpec := { name := "fnCheckEntailment", fn := fun _ => fun
  | [d] => { results := [.lit (.bool false)], args := [d] }
  | _ => none }
def FnCheckEntailmentWrongFalsely : Prop := fnCheckEntailmentRow.holds Try.pinned (OpenSpec.ofChange fnCheckEntailmentWrong)

/-- 'laws.FnAbstractAssertion': WHATEVER THE INPUT: true; the input reads as it did. -/
def fnAbstractAssertionSpec : ChangeSpec := { name := "fnAbstractAssertion", fn := fun _ => fun
  | [d] => { results := [.lit (.bool true)], args := [d] }
  | _ => none }
def fnAbstractAssertionRow : OpenClaim := { program := "ytapoillhgimdiaa", sum := "5c14f66153d388c2e3e81daca617c9df369c940728c1ebbdd52363789107541f", func := "loop.example/separation/laws.FnAbstractAssertion", spec := "fnAbstractAssertion", unfollowed := true, recurses := true, apart := false }
def FnAbstractAssertionSaid : Prop := fnAbstractAssertionRow.holds Try.pinned (OpenSpec.ofChange fnAbstractAssertionSpec)

/-- ITS FALSE NEIGHBOUR: 'it returns false'. Refute it at one input. -/
def fnAbstractAssertionWrong : ChangeSpec := { name := "fnAbstractAssertion", fn := fun _ => fun
  | [d] => { results := [.lit (.bool false)], args := [d] }
  | _ => none }
def FnAbstractAssertionWrongFalsely : Prop := fnAbstractAssertionRow.holds Try.pinned (OpenSpec.ofChange fnAbstractAssertionWrong)

/-- 'laws.FnExactAbstractAssertion': WHATEVER THE INPUT: true; the input reads as it did. -/
def fnExactAbstractAssertionSpec : ChangeSpec := { name := "fnExactAbstractAssertion", fn := fun _ => fun
  | [d1, d2] => { results := [.lit (.bool true)], args := [d1, d2] }
  | _ => none }
def fnExactAbstractAssertionRow : OpenClaim := { program := "ytapoillhgimdiaa", sum := "5c14f66153d388c2e3e81daca617c9df369c940728c1ebbdd52363789107541f", func := "loop.example/separation/laws.FnExactAbstractAssertion", spec := "fnExactAbstractAssertion", unfollowed := true, recurses := true, apart := false }
def FnExactAbstractAssertionSaid : Prop := fnExactAbstractAssertionRow.holds Try.pinned (OpenSpec.ofChange fnExactAbstractAssertionSpec)

/-- ITS FALSE NEIGHBOUR: 'it returns false'. Refute it at one input. -/
def fnExactAbstractAssertionWrong : ChangeSpec := { name := "fnExactAbstractAssertion", fn := fun _ => fun
  | [d1, d2] => { results := [.lit (.bool false)], args := [d1, d2] }
  | _ => none }
def FnExactAbstractAssertionWrongFalsely : Prop := fnExactAbstractAssertionRow.holds Try.pinned (OpenSpec.ofChange fnExactAbstractAssertionWrong)

/- THE SECOND FORM. 'bulk': how many values and letters a reading holds, each counted each time it is reached (what is shared counts as often as it is met; a slice's spare places count too). A statement '..UptoSaid' is the law's where the arguments, and the package variables that the reading takes, are together of bulk at most 1048576: NARROWER than '..Said'. Prove '..Said' where nothing that the law and all that it calls make is longer than what came in: it says more and counts as full. Else prove '..UptoSaid'. A law counts once. -/
mutual
def uptoBulk {H : Type} : DataW H → Nat
  | .lit (.string bytes) => bytes.length + 1
  | .lit _ => 1
  | .nil => 1
  | .ptr d => uptoBulk d + 1
  | .slice elems spare => uptoBulkAll elems + uptoBulkAll spare + 1
  | .agg parts => uptoBulkAll parts + 1
  | .iface _ d => uptoBulk d + 1
  | .map entries => uptoBulkEntries entries + 1
  | .held _ => 1
def uptoBulkAll {H : Type} : List (DataW H) → Nat
  | [] => 0
  | d :: r => uptoBulk d + uptoBulkAll r
def uptoBulkEntries {H : Type} : List (Lit × DataW H) → Nat
  | [] => 0
  | x :: r => uptoBulkEntry x + uptoBulkEntries r
def uptoBulkEntry {H : Type} : Lit × DataW H → Nat
  | (.string bytes, d) => bytes.length + uptoBulk d + 1
  | (_, d) => uptoBulk d + 1
 end
def uptoSmall : (H : Type) → List (DataW H) → Bool := fun _ ds => decide (uptoBulkAll ds ≤ 1048576)
def OpenSpec.upto (s : _root_.Go.ChangeSpec) : _root_.Go.OpenSpec := { _root_.Go.OpenSpec.ofChange s with cond := some uptoSmall }

/-- 'laws.FnExactProveEntailment', WHERE WHAT IT READS IS OF BULK AT MOST 1048576: true; the input reads as it did. -/
def fnExactProveEntailmentUptoRow : OpenClaim := { program := "ytapoillhgimdiaa", sum := "5c14f66153d388c2e3e81daca617c9df369c940728c1ebbdd52363789107541f", func := "loop.example/separation/laws.FnExactProveEntailment", spec := "fnExactProveEntailment", unfollowed := true, recurses := true, apart := false, narrowed := true }
def FnExactProveEntailmentUptoSaid : Prop := fnExactProveEntailmentUptoRow.holds Try.pinned (OpenSpec.upto fnExactProveEntailmentSpec)

/-- 'laws.FnProveCase', WHERE WHAT IT READS IS OF BULK AT MOST 1048576: true; the input reads as it did. -/
def fnProveCaseUptoRow : OpenClaim := { program := "ytapoillhgimdiaa", sum := "5c14f66153d388c2e3e81daca617c9df369c940728c1ebbdd52363789107541f", func := "loop.example/separation/laws.FnProveCase", spec := "fnProveCase", recurses := true, apart := false, narrowed := true }
def FnProveCaseUptoSaid : Prop := fnProveCaseUptoRow.holds Try.pinned (OpenSpec.upto fnProveCaseSpec)

/-- 'laws.FnCheckCase', WHERE WHAT IT READS IS OF BULK AT MOST 1048576: true; the input reads as it did. -/
def fnCheckCaseUptoRow : OpenClaim := { program := "ytapoillhgimdiaa", sum := "5c14f66153d388c2e3e81daca617c9df369c940728c1ebbdd52363789107541f", func := "loop.example/separation/laws.FnCheckCase", spec := "fnCheckCase", recurses := true, apart := false, narrowed := true }
def FnCheckCaseUptoSaid : Prop := fnCheckCaseUptoRow.holds Try.pinned (OpenSpec.upto fnCheckCaseSpec)

/-- 'laws.FnProveEntailment', WHERE WHAT IT READS IS OF BULK AT MOST 1048576: true; the input reads as it did. -/
def fnProveEntailmentUptoRow : OpenClaim := { program := "ytapoillhgimdiaa", sum := "5c14f66153d388c2e3e81daca617c9df369c940728c1ebbdd52363789107541f", func := "loop.example/separation/laws.FnProveEntailment", spec := "fnProveEntailment", unfollowed := true, recurses := true, apart := false, narrowed := true }
def FnProveEntailmentUptoSaid : Prop := fnProveEntailmentUptoRow.holds Try.pinned (OpenSpec.upto fnProveEntailmentSpec)

/-- 'laws.FnWeakerOf', WHERE WHAT IT READS IS OF BULK AT MOST 1048576: true; the input reads as it did. -/
def fnWeakerOfUptoRow : OpenClaim := { program := "ytapoillhgimdiaa", sum := "5c14f66153d388c2e3e81daca617c9df369c940728c1ebbdd52363789107541f", func := "loop.example/separation/laws.FnWeakerOf", spec := "fnWeakerOf", unfollowed := true, recurses := true, apart := false, narrowed := true }
def FnWeakerOfUptoSaid : Prop := fnWeakerOfUptoRow.holds Try.pinned (OpenSpec.upto fnWeakerOfSpec)

/-- 'laws.FnFamilyTransitive', WHERE WHAT IT READS IS OF BULK AT MOST 1048576: true; the input reads as it did. -/
def fnFamilyTransitiveUptoRow : OpenClaim := { program := "ytapoillhgimdiaa", sum := "5c14f66153d388c2e3e81daca617c9df369c940728c1ebbdd52363789107541f", func := "loop.example/separation/laws.FnFamilyTransitive", spec := "fnFamilyTransitive", unfollowed := true, recurses := true, apart := false, narrowed := true }
def FnFamilyTransitiveUptoSaid : Prop := fnFamilyTransitiveUptoRow.holds Try.pinned (OpenSpec.upto fnFamilyTransitiveSpec)

/-- 'laws.FnExactFamilyTrim', WHERE WHAT IT READS IS OF BULK AT MOST 1048576: true; the input reads as it did. -/
def fnExactFamilyTrimUptoRow : OpenClaim := { program := "ytapoillhgimdiaa", sum := "5c14f66153d388c2e3e81daca617c9df369c940728c1ebbdd52363789107541f", func := "loop.example/separation/laws.FnExactFamilyTrim", spec := "fnExactFamilyTrim", unfollowed := true, recurses := true, apart := false, narrowed := true }
def FnExactFamilyTrimUptoSaid : Prop := fnExactFamilyTrimUptoRow.holds Try.pinned (OpenSpec.upto fnExactFamilyTrimSpec)

/-- 'laws.FnFamilyTrim', WHERE WHAT IT READS IS OF BULK AT MOST 1048576: true; the input reads as it did. -/
def fnFamilyTrimUptoRow : OpenClaim := { program := "ytapoillhgimdiaa", sum := "5c14f66153d388c2e3e81daca617c9df369c940728c1ebbdd52363789107541f", func := "loop.example/separation/laws.FnFamilyTrim", spec := "fnFamilyTrim", unfollowed := true, recurses := true, apart := false, narrowed := true }
def FnFamilyTrimUptoSaid : Prop := fnFamilyTrimUptoRow.holds Try.pinned (OpenSpec.upto fnFamilyTrimSpec)

/-- 'laws.FnFamilyHolds', WHERE WHAT IT READS IS OF BULK AT MOST 1048576: true; the input reads as it did. -/
def fnFamilyHoldsUptoRow : OpenClaim := { program := "ytapoillhgimdiaa", sum := "5c14f66153d388c2e3e81daca617c9df369c940728c1ebbdd52363789107541f", func := "loop.example/separation/laws.FnFamilyHolds", spec := "fnFamilyHolds", recurses := true, apart := false, narrowed := true }
def FnFamilyHoldsUptoSaid : Prop := fnFamilyHoldsUptoRow.holds Try.pinned (OpenSpec.upto fnFamilyHoldsSpec)

/-- 'laws.FnSplitFact', WHERE WHAT IT READS IS OF BULK AT MOST 1048576: true; the input reads as it did. -/
def fnSplitFactUptoRow : OpenClaim := { program := "ytapoillhgimdiaa", sum := "5c14f66153d388c2e3e81daca617c9df369c940728c1ebbdd52363789107541f", func := "loop.example/separation/laws.FnSplitFact", spec := "fnSplitFact", unfollowed := true, recurses := true, apart := false, narrowed := true }
def FnSplitFactUptoSaid : Prop := fnSplitFactUptoRow.holds Try.pinned (OpenSpec.upto fnSplitFactSpec)

/-- 'laws.FnFamilyStar', WHERE WHAT IT READS IS OF BULK AT MOST 1048576: true; the input reads as it did. -/
def fnFamilyStarUptoRow : OpenClaim := { program := "ytapoillhgimdiaa", sum := "5c14f66153d388c2e3e81daca617c9df369c940728c1ebbdd52363789107541f", func := "loop.example/separation/laws.FnFamilyStar", spec := "fnFamilyStar", unfollowed := true, recurses := true, apart := false, narrowed := true }
def FnFamilyStarUptoSaid : Prop := fnFamilyStarUptoRow.holds Try.pinned (OpenSpec.upto fnFamilyStarSpec)

/-- 'laws.FnFamilyEntails', WHERE WHAT IT READS IS OF BULK AT MOST 1048576: true; the input reads as it did. -/
def fnFamilyEntailsUptoRow : OpenClaim := { program := "ytapoillhgimdiaa", sum := "5c14f66153d388c2e3e81daca617c9df369c940728c1ebbdd52363789107541f", func := "loop.example/separation/laws.FnFamilyEntails", spec := "fnFamilyEntails", unfollowed := true, recurses := true, apart := false, narrowed := true }
def FnFamilyEntailsUptoSaid : Prop := fnFamilyEntailsUptoRow.holds Try.pinned (OpenSpec.upto fnFamilyEntailsSpec)

/-- 'laws.FnCheckEntailment', WHERE WHAT IT READS IS OF BULK AT MOST 1048576: true; the input reads as it did. -/
def fnCheckEntailmentUptoRow : OpenClaim := { program := "ytapoillhgimdiaa", sum := "5c14f66153d388c2e3e81daca617c9df369c940728c1ebbdd52363789107541f", func := "loop.example/separation/laws.FnCheckEntailment", spec := "fnCheckEntailment", unfollowed := true, recurses := true, apart := false, narrowed := true }
def FnCheckEntailmentUptoSaid : Prop := fnCheckEntailmentUptoRow.holds Try.pinned (OpenSpec.upto fnCheckEntailmentSpec)

/-- 'laws.FnAbstractAssertion', WHERE WHAT IT READS IS OF BULK AT MOST 1048576: true; the input reads as it did. -/
def fnAbstractAssertionUptoRow : OpenClaim := { program := "ytapoillhgimdiaa", sum := "5c14f66153d388c2e3e81daca617c9df369c940728c1ebbdd52363789107541f", func := "loop.example/separation/laws.FnAbstractAssertion", spec := "fnAbstractAssertion", unfollowed := true, recurses := true, apart := false, narrowed := true }
def FnAbstractAssertionUptoSaid : Prop := fnAbstractAssertionUptoRow.holds Try.pinned (OpenSpec.upto fnAbstractAssertionSpec)

/-- 'laws.FnExactAbstractAssertion', WHERE WHAT IT READS IS OF BULK AT MOST 1048576: true; the input reads as it did. -/
def fnExactAbstractAssertionUptoRow : OpenClaim := { program := "ytapoillhgimdiaa", sum := "5c14f66153d388c2e3e81daca617c9df369c940728c1ebbdd52363789107541f", func := "loop.example/separation/laws.FnExactAbstractAssertion", spec := "fnExactAbstractAssertion", unfollowed := true, recurses := true, apart := false, narrowed := true }
def FnExactAbstractAssertionUptoSaid : Prop := fnExactAbstractAssertionUptoRow.holds Try.pinned (OpenSpec.upto fnExactAbstractAssertionSpec)

end Rows
end Go.Proofs.Ytapoillhgimdiaa
