/-
  No cell of these rows narrows 'for every input' (looked for: loops, veiled, ifaces, maps, wideKeys, modest, calm, conditions, laid).
  DERIVED. THE GIVEN ROWS OF THIS SEAT. 12 by the template 'for every input the law returns true; each argument reads behind the call as it read before'; 0 by the template 'total and deterministic' (their statements: YthoingdcmdhllaaTotals.lean).
  GIVEN WITH THE SEED: the statements are not yours to turn. If you find one false, say at which input.
  Laid BY PROGRAM, IN A SANDBOX (cutbox-rows.mjs): the forced cells as the released guide's own fill.sh prints them over the translation 2b508249ac18233d… (all of the seat's roots in one cut). By AI agents, Wed Nov 11 2026. No macro, syntax, notation, axiom, sorry.
-/
import Derived.Test.YthoingdcmdhllaaChecked
import GoSem.Claim
import GoSem.ClaimJoined
import GoSem.ClaimMapViews
import Derived.JoinedTies
import Derived.KernelRfl
namespace Go.Proofs.Ythoingdcmdhllaa
/- THE CELL 'sum', in the pinned program and in every row, IS THE sha256 OF THE DUMP (.gsa) THAT YthoingdcmdhllaaProg.lean LOADS. Nothing in Lean hashes anything: it is a label: what it is worth is what the hold of that sum in a sandbox is worth. -/
noncomputable def Try.pinned : Pinned := { name := "ythoingdcmdhllaa", sum := "2b508249ac18233d299ddc62f3f0c046b4ad5c3e64c87c597b242a3b7bb2cefb", checked := Try.checked }
namespace Rows
def none {H : Type} : Left H := { results := [], args := [] }

/-- 'laws.FnRenameHolds': WHATEVER THE INPUT: true; the input reads as it did. -/
def fnRenameHoldsSpec : ChangeSpec := { name := "fnRenameHolds", fn := fun _ => fun
  | [d1, d2] => { results := [.lit (.bool true)], args := [d1, d2] }
  | _ => none }
def fnRenameHoldsRow : OpenClaim := { program := "ythoingdcmdhllaa", sum := "2b508249ac18233d299ddc62f3f0c046b4ad5c3e64c87c597b242a3b7bb2cefb", func := "loop.example/separation/laws.FnRenameHolds", spec := "fnRenameHolds", recurses := true, apart := false }
def FnRenameHoldsSaid : Prop := fnRenameHoldsRow.holds Try.pinned (OpenSpec.ofChange fnRenameHoldsSpec)

/-- ITS FALSE NEIGHBOUR: 'it returns false'. Refute it at one input. -/
def fnRenameHoldsWrong : ChangeSpec := { name := "fnRenameHolds", fn := fun _ => fun
  | [d1, d2] => { results := [.lit (.bool false)], args := [d1, d2] }
  | _ => none }
def FnRenameHoldsWrongFalsely : Prop := fnRenameHoldsRow.holds Try.pinned (OpenSpec.ofChange fnRenameHoldsWrong)

/-- 'laws.FnSplitTwice': WHATEVER THE INPUT: true; the input reads as it did. -/
def fnSplitTwiceSpec : ChangeSpec := { name := "fnSplitTwice", fn := fun _ => fun
  | [d] => { results := [.lit (.bool true)], args := [d] }
  | _ => none }
def fnSplitTwiceRow : OpenClaim := { program := "ythoingdcmdhllaa", sum := "2b508249ac18233d299ddc62f3f0c046b4ad5c3e64c87c597b242a3b7bb2cefb", func := "loop.example/separation/laws.FnSplitTwice", spec := "fnSplitTwice", unfollowed := true, recurses := true, apart := false }
def FnSplitTwiceSaid : Prop := fnSplitTwiceRow.holds Try.pinned (OpenSpec.ofChange fnSplitTwiceSpec)

/-- ITS FALSE NEIGHBOUR: 'it returns false'. Refute it at one input. -/
def fnSplitTwiceWrong : ChangeSpec := { name := "fnSplitTwice", fn := fun _ => fun
  | [d] => { results := [.lit (.bool false)], args := [d] }
  | _ => none }
def FnSplitTwiceWrongFalsely : Prop := fnSplitTwiceRow.holds Try.pinned (OpenSpec.ofChange fnSplitTwiceWrong)

/-- 'laws.FnExactSplitFact': WHATEVER THE INPUT: true; the input reads as it did. -/
def fnExactSplitFactSpec : ChangeSpec := { name := "fnExactSplitFact", fn := fun _ => fun
  | [d1, d2] => { results := [.lit (.bool true)], args := [d1, d2] }
  | _ => none }
def fnExactSplitFactRow : OpenClaim := { program := "ythoingdcmdhllaa", sum := "2b508249ac18233d299ddc62f3f0c046b4ad5c3e64c87c597b242a3b7bb2cefb", func := "loop.example/separation/laws.FnExactSplitFact", spec := "fnExactSplitFact", unfollowed := true, recurses := true, apart := false }
def FnExactSplitFactSaid : Prop := fnExactSplitFactRow.holds Try.pinned (OpenSpec.ofChange fnExactSplitFactSpec)

/-- ITS FALSE NEIGHBOUR: 'it returns false'. Refute it at one input. -/
def fnExactSplitFactWrong : ChangeSpec := { name := "fnExactSplitFact", fn := fun _ => fun
  | [d1, d2] => { results := [.lit (.bool false)], args := [d1, d2] }
  | _ => none }
def FnExactSplitFactWrongFalsely : Prop := fnExactSplitFactRow.holds Try.pinned (OpenSpec.ofChange fnExactSplitFactWrong)

/-- 'laws.FnListedAssertion': WHATEVER THE INPUT: true; the input reads as it did. -/
def fnListedAssertionSpec : ChangeSpec := { name := "fnListedAssertion", fn := fun _ => fun
  | [d] => { results := [.lit (.bool true)], args := [d] }
  | _ => none }
def fnListedAssertionRow : OpenClaim := { program := "ythoingdcmdhllaa", sum := "2b508249ac18233d299ddc62f3f0c046b4ad5c3e64c87c597b242a3b7bb2cefb", func := "loop.example/separation/laws.FnListedAssertion", spec := "fnListedAssertion", unfollowed := true, recurses := true, apart := false }
def FnListedAssertionSaid : Prop := fnListedAssertionRow.holds Try.pinned (OpenSpec.ofChange fnListedAssertionSpec)

/-- ITS FALSE NEIGHBOUR: 'it returns false'. Refute it at one input. -/
def fnListedAssertionWrong : ChangeSpec := { name := "fnListedAssertion", fn := fun _ => fun
  | [d] => { results := [.lit (.bool false)], args := [d] }
  | _ => none }
def FnListedAssertionWrongFalsely : Prop := fnListedAssertionRow.holds Try.pinned (OpenSpec.ofChange fnListedAssertionWrong)

/-- 'laws.FnShapeHolds': WHATEVER THE INPUT: true; the input reads as it did. -/
def fnShapeHoldsSpec : ChangeSpec := { name := "fnShapeHolds", fn := fun _ => fun
  | [d1, d2] => { results := [.lit (.bool true)], args := [d1, d2] }
  | _ => none }
def fnShapeHoldsRow : OpenClaim := { program := "ythoingdcmdhllaa", sum := "2b508249ac18233d299ddc62f3f0c046b4ad5c3e64c87c597b242a3b7bb2cefb", func := "loop.example/separation/laws.FnShapeHolds", spec := "fnShapeHolds", recurses := true, apart := false }
def FnShapeHoldsSaid : Prop := fnShapeHoldsRow.holds Try.pinned (OpenSpec.ofChange fnShapeHoldsSpec)

/-- ITS FALSE NEIGHBOUR: 'it returns false'. Refute it at one input. -/
def fnShapeHoldsWrong : ChangeSpec := { name := "fnShapeHolds", fn := fun _ => fun
  | [d1, d2] => { results := [.lit (.bool false)], args := [d1, d2] }
  | _ => none }
def FnShapeHoldsWrongFalsely : Prop := fnShapeHoldsRow.holds Try.pinned (OpenSpec.ofChange fnShapeHoldsWrong)

/-- 'laws.FnWeakerOf': WHATEVER THE INPUT: true; the input reads as it did. -/
def fnWeakerOfSpec : ChangeSpec := { name := "fnWeakerOf", fn := fun _ => fun
  | [d] => { results := [.lit (.bool true)], args := [d] }
  | _ => none }
def fnWeakerOfRow : OpenClaim := { program := "ythoingdcmdhllaa", sum := "2b508249ac18233d299ddc62f3f0c046b4ad5c3e64c87c597b242a3b7bb2cefb", func := "loop.example/separation/laws.FnWeakerOf", spec := "fnWeakerOf", unfollowed := true, recurses := true, apart := false }
def FnWeakerOfSaid : Prop := fnWeakerOfRow.holds Try.pinned (OpenSpec.ofChange fnWeakerOfSpec)

/-- ITS FALSE NEIGHBOUR: 'it returns false'. Refute it at one input. -/
def fnWeakerOfWrong : ChangeSpec := { name := "fnWeakerOf", fn := fun _ => fun
  | [d] => { results := [.lit (.bool false)], args := [d] }
  | _ => none }
def FnWeakerOfWrongFalsely : Prop := fnWeakerOfRow.holds Try.pinned (OpenSpec.ofChange fnWeakerOfWrong)

/-- 'laws.FnExactProveCase': WHATEVER THE INPUT: true; the input reads as it did. -/
def fnExactProveCaseSpec : ChangeSpec := { name := "fnExactProveCase", fn := fun _ => fun
  | [d1, d2, d3] => { results := [.lit (.bool true)], args := [d1, d2, d3] }
  | _ => none }
def fnExactProveCaseRow : OpenClaim := { program := "ythoingdcmdhllaa", sum := "2b508249ac18233d299ddc62f3f0c046b4ad5c3e64c87c597b242a3b7bb2cefb", func := "loop.example/separation/laws.FnExactProveCase", spec := "fnExactProveCase", apart := false }
def FnExactProveCaseSaid : Prop := fnExactProveCaseRow.holds Try.pinned (OpenSpec.ofChange fnExactProveCaseSpec)

/-- ITS FALSE NEIGHBOUR: 'it returns false'. Refute it at one input. -/
def fnExactProveCaseWrong : ChangeSpec := { name := "fnExactProveCase", fn := fun _ => fun
  | [d1, d2, d3] => { results := [.lit (.bool false)], args := [d1, d2, d3] }
  | _ => none }
def FnExactProveCaseWrongFalsely : Prop := fnExactProveCaseRow.holds Try.pinned (OpenSpec.ofChange fnExactProveCaseWrong)

/-- 'laws.FnExactWeakerOf': WHATEVER THE INPUT: true; the input reads as it did. -/
def fnExactWeakerOfSpec : ChangeSpec := { name := "fnExactWeakerOf", fn := fun _ => fun
  | [d1, d2] => { results := [.lit (.bool true)], args := [d1, d2] }
  | _ => none }
def fnExactWeakerOfRow : OpenClaim := { program := "ythoingdcmdhllaa", sum := "2b508249ac18233d299ddc62f3f0c046b4ad5c3e64c87c597b242a3b7bb2cefb", func := "loop.example/separation/laws.FnExactWeakerOf", spec := "fnExactWeakerOf", unfollowed := true, recurses := true, apart := false }
def FnExactWeakerOfSaid : Prop := fnExactWeakerOfRow.holds Try.pinned (OpenSpec.ofChange fnExactWeakerOfSpec)

/-- ITS FALSE NEIGHBOUR: 'it returns false'. Refute it at one input. -/
def fnExactWeakerOfWrong : ChangeSpec := { name := "fnExactWeakerOf", fn := fun _ => fun
  | [d1, d2] => { results := [.lit (.bool false)], args := [d1, d2] }
  | _ => none }
def FnExactWeakerOfWrongFalsely : Prop := fnExactWeakerOfRow.holds Try.pinned (OpenSpec.ofChange fnExactWeakerOfWrong)

/-- 'laws.FnExactListedAssertion': WHATEVER THE INPUT: true; the input reads as it did. -/
def fnExactListedAssertionSpec : ChangeSpec := { name := "fnExactListedAssertion", fn := fun _ => fun
  | [d] => { results := [.lit (.bool true)], args := [d] }
  | _ => none }
def fnExactListedAssertionRow : OpenClaim := { program := "ythoingdcmdhllaa", sum := "2b508249ac18233d299ddc62f3f0c046b4ad5c3e64c87c597b242a3b7bb2cefb", func := "loop.example/separation/laws.FnExactListedAssertion", spec := "fnExactListedAssertion", unfollowed := true, recurses := true, apart := false }
def FnExactListedAssertionSaid : Prop := fnExactListedAssertionRow.holds Try.pinned (OpenSpec.ofChange fnExactListedAssertionSpec)

/-- ITS FALSE NEIGHBOUR: 'it returns false'. Refute it at one input. -/
def fnExactListedAssertionWrong : ChangeSpec := { name := "fnExactListedAssertion", fn := fun _ => fun
  | [d] => { results := [.lit (.bool false)], args := [d] }
  | _ => none }
def FnExactListedAssertionWrongFalsely : Prop := fnExactListedAssertionRow.holds Try.pinned (OpenSpec.ofChange fnExactListedAssertionWrong)

/-- 'laws.FnExactCheckEntailment': WHATEVER THE INPUT: true; the input reads as it did. -/
def fnExactCheckEntailmentSpec : ChangeSpec := { name := "fnExactCheckEntailment", fn := fun _ => fun
  | [d1, d2, d3] => { results := [.lit (.bool true)], args := [d1, d2, d3] }
  | _ => none }
def fnExactCheckEntailmentRow : OpenClaim := { program := "ythoingdcmdhllaa", sum := "2b508249ac18233d299ddc62f3f0c046b4ad5c3e64c87c597b242a3b7bb2cefb", func := "loop.example/separation/laws.FnExactCheckEntailment", spec := "fnExactCheckEntailment", unfollowed := true, recurses := true, apart := false }
def FnExactCheckEntailmentSaid : Prop := fnExactCheckEntailmentRow.holds Try.pinned (OpenSpec.ofChange fnExactCheckEntailmentSpec)

/-- ITS FALSE NEIGHBOUR: 'it returns false'. Refute it at one input. -/
def fnExactCheckEntailmentWrong : ChangeSpec := { name := "fnExactCheckEntailment", fn := fun _ => fun
  | [d1, d2, d3] => { results := [.lit (.bool false)], args := [d1, d2, d3] }
  | _ => none }
def FnExactCheckEntailmentWrongFalsely : Prop := fnExactCheckEntailmentRow.holds Try.pinned (OpenSpec.ofChange fnExactCheckEntailmentWrong)

/-- 'laws.FnExactFamilyEntails': WHATEVER THE INPUT: true; the input reads as it did. -/
def fnExactFamilyEntailsSpec : ChangeSpec := { name := "fnExactFamilyEntails", fn := fun _ => fun
  | [d1, d2] => { results := [.lit (.bool true)], args := [d1, d2] }
  | _ => none }
def fnExactFamilyEntailsRow : OpenClaim := { program := "ythoingdcmdhllaa", sum := "2b508249ac18233d299ddc62f3f0c046b4ad5c3e64c87c597b242a3b7bb2cefb", func := "loop.example/separation/laws.FnExactFamilyEntails", spec := "fnExactFamilyEntails", unfollowed := true, recurses := true, apart := false }
def FnExactFamilyEntailsSaid : Prop := fnExactFamilyEntailsRow.holds Try.pinned (OpenSpec.ofChange fnExactFamilyEntailsSpec)

/-- ITS FALSE NEIGHBOUR: 'it returns false'. Refute it at one input. -/
def fnExactFamilyEntailsWrong : ChangeSpec := { name := "fnExactFamilyEntails", fn := fun _ => fun
  | [d1, d2] => { results := [.lit (.bool false)], args := [d1, d2] }
  | _ => none }
def FnExactFamilyEntailsWrongFalsely : Prop := fnExactFamilyEntailsRow.holds Try.pinned (OpenSpec.ofChange fnExactFamilyEntailsWrong)

/-- 'laws.FnFamilyTransitive': WHATEVER THE INPUT: true; the input reads as it did. -/
def fnFamilyTransitiveSpec : ChangeSpec := { name := "fnFamilyTransitive", fn := fun _ => fun
  | [d1, d2] => { results := [.lit (.bool true)], args := [d1, d2] }
  | _ => none }
def fnFamilyTransitiveRow : OpenClaim := { program := "ythoingdcmdhllaa", sum := "2b508249ac18233d299ddc62f3f0c046b4ad5c3e64c87c597b242a3b7bb2cefb", func := "loop.example/separation/laws.FnFamilyTransitive", spec := "fnFamilyTransitive", unfollowed := true, recurses := true, apart := false }
def FnFamilyTransitiveSaid : Prop := fnFamilyTransitiveRow.holds Try.pinned (OpenSpec.ofChange fnFamilyTransitiveSpec)

/-- ITS FALSE NEIGHBOUR: 'it returns false'. Refute it at one input. -/
def fnFamilyTransitiveWrong : ChangeSpec := { name := "fnFamilyTransitive", fn := fun _ => fun
  | [d1, d2] => { results := [.lit (.bool false)], args := [d1, d2] }
  | _ => none }
def FnFamilyTransitiveWrongFalsely : Prop := fnFamilyTransitiveRow.holds Try.pinned (OpenSpec.ofChange fnFamilyTransitiveWrong)

/- THE SECOND FORM. 'bulk': how many values and letters a reading holds, each counted each time it is reached (what is shared counts as often as it is met; a slice's spare places count too). A statement '..UptoSaid' is the law's where the arguments, and the package variables that the reading takes, are together of bulk at most 1048576: NARROWER than '..Said'. Prove '..Said' where nothing that the law and all that it calls make is longer than what came in: it says more and counts as full. Else prove '..UptoSaid'. A law counts once. -/
mutual
def uptoBulk {H : Type} : DataW H → Nat
  | .lit (.string bytes) => bytes.length + 1
  | .lit _ => 1
  | .nil => 1
  | .ptr d => uptoBulk d + 1
  | .slice elems spare => uptoBulkAll elems + uptoBulkAll spare + 1
  | .agg parts => uptoBulkAll parts + 1
  | .iface _ d => uptoBulk d + 1
  | .map entries => uptoBulkEntries entries + 1
  | .held _ => 1
def uptoBulkAll {H : Type} : List (DataW H) → Nat
  | [] => 0
  | d :: r => uptoBulk d + uptoBulkAll r
def uptoBulkEntries {H : Type} : List (Lit × DataW H) → Nat
  | [] => 0
  | x :: r => uptoBulkEntry x + uptoBulkEntries r
def uptoBulkEntry {H : Type} : Lit × DataW H → Nat
  | (.string bytes, d) => bytes.length + uptoBulk d + 1
  | (_, d) => uptoBulk d + 1
 end
def uptoSmall : (H : Type) → List (DataW H) → Bool := fun _ ds => decide (uptoBulkAll ds ≤ 1048576)
def OpenSpec.upto (s : _root_.Go.ChangeSpec) : _root_.Go.OpenSpec := { _root_.Go.OpenSpec.ofChange s with cond := some uptoSmall }

/-- 'laws.FnRenameHolds', WHERE WHAT IT READS IS OF BULK AT MOST 1048576: true; the input reads as it did. -/
def fnRenameHoldsUptoRow : OpenClaim := { program := "ythoingdcmdhllaa", sum := "2b508249ac18233d299ddc62f3f0c046b4ad5c3e64c87c597b242a3b7bb2cefb", func := "loop.example/separation/laws.FnRenameHolds", spec := "fnRenameHolds", recurses := true, apart := false, narrowed := true }
def FnRenameHoldsUptoSaid : Prop := fnRenameHoldsUptoRow.holds Try.pinned (OpenSpec.upto fnRenameHoldsSpec)

/-- 'laws.FnSplitTwice', WHERE WHAT IT READS IS OF BULK AT MOST 1048576: true; the input reads as it did. -/
def fnSplitTwiceUptoRow : OpenClaim := { program := "ythoingdcmdhllaa", sum := "2b508249ac18233d299ddc62f3f0c046b4ad5c3e64c87c597b242a3b7bb2cefb", func := "loop.example/separation/laws.FnSplitTwice", spec := "fnSplitTwice", unfollowed := true, recurses := true, apart := false, narrowed := true }
def FnSplitTwiceUptoSaid : Prop := fnSplitTwiceUptoRow.holds Try.pinned (OpenSpec.upto fnSplitTwiceSpec)

/-- 'laws.FnExactSplitFact', WHERE WHAT IT READS IS OF BULK AT MOST 1048576: true; the input reads as it did. -/
def fnExactSplitFactUptoRow : OpenClaim := { program := "ythoingdcmdhllaa", sum := "2b508249ac18233d299ddc62f3f0c046b4ad5c3e64c87c597b242a3b7bb2cefb", func := "loop.example/separation/laws.FnExactSplitFact", spec := "fnExactSplitFact", unfollowed := true, recurses := true, apart := false, narrowed := true }
def FnExactSplitFactUptoSaid : Prop := fnExactSplitFactUptoRow.holds Try.pinned (OpenSpec.upto fnExactSplitFactSpec)

/-- 'laws.FnListedAssertion', WHERE WHAT IT READS IS OF BULK AT MOST 1048576: true; the input reads as it did. -/
def fnListedAssertionUptoRow : OpenClaim := { program := "ythoingdcmdhllaa", sum := "2b508249ac18233d299ddc62f3f0c046b4ad5c3e64c87c597b242a3b7bb2cefb", func := "loop.example/separation/laws.FnListedAssertion", spec := "fnListedAssertion", unfollowed := true, recurses := true, apart := false, narrowed := true }
def FnListedAssertionUptoSaid : Prop := fnListedAssertionUptoRow.holds Try.pinned (OpenSpec.upto fnListedAssertionSpec)

/-- 'laws.FnShapeHolds', WHERE WHAT IT READS IS OF BULK AT MOST 1048576: true; the input reads as it did. -/
def fnShapeHoldsUptoRow : OpenClaim := { program := "ythoingdcmdhllaa", sum := "2b508249ac18233d299ddc62f3f0c046b4ad5c3e64c87c597b242a3b7bb2cefb", func := "loop.example/separation/laws.FnShapeHolds", spec := "fnShapeHolds", recurses := true, apart := false, narrowed := true }
def FnShapeHoldsUptoSaid : Prop := fnShapeHoldsUptoRow.holds Try.pinned (OpenSpec.upto fnShapeHoldsSpec)

/-- 'laws.FnWeakerOf', WHERE WHAT IT READS IS OF BULK AT MOST 1048576: true; the input reads as it did. -/
def fnWeakerOfUptoRow : OpenClaim := { program := "ythoingdcmdhllaa", sum := "2b508249ac18233d299ddc62f3f0c046b4ad5c3e64c87c597b242a3b7bb2cefb", func := "loop.example/separation/laws.FnWeakerOf", spec := "fnWeakerOf", unfollowed := true, recurses := true, apart := false, narrowed := true }
def FnWeakerOfUptoSaid : Prop := fnWeakerOfUptoRow.holds Try.pinned (OpenSpec.upto fnWeakerOfSpec)

/-- 'laws.FnExactProveCase', WHERE WHAT IT READS IS OF BULK AT MOST 1048576: true; the input reads as it did. -/
def fnExactProveCaseUptoRow : OpenClaim := { program := "ythoingdcmdhllaa", sum := "2b508249ac18233d299ddc62f3f0c046b4ad5c3e64c87c597b242a3b7bb2cefb", func := "loop.example/separation/laws.FnExactProveCase", spec := "fnExactProveCase", apart := false, narrowed := true }
def FnExactProveCaseUptoSaid : Prop := fnExactProveCaseUptoRow.holds Try.pinned (OpenSpec.upto fnExactProveCaseSpec)

/-- 'laws.FnExactWeakerOf', WHERE WHAT IT READS IS OF BULK AT MOST 1048576: true; the input reads as it did. -/
def fnExactWeakerOfUptoRow : OpenClaim := { program := "ythoingdcmdhllaa", sum := "2b508249ac18233d299ddc62f3f0c046b4ad5c3e64c87c597b242a3b7bb2cefb", func := "loop.example/separation/laws.FnExactWeakerOf", spec := "fnExactWeakerOf", unfollowed := true, recurses := true, apart := false, narrowed := true }
def FnExactWeakerOfUptoSaid : Prop := fnExactWeakerOfUptoRow.holds Try.pinned (OpenSpec.upto fnExactWeakerOfSpec)

/-- 'laws.FnExactListedAssertion', WHERE WHAT IT READS IS OF BULK AT MOST 1048576: true; the input reads as it did. -/
def fnExactListedAssertionUptoRow : OpenClaim := { program := "ythoingdcmdhllaa", sum := "2b508249ac18233d299ddc62f3f0c046b4ad5c3e64c87c597b242a3b7bb2cefb", func := "loop.example/separation/laws.FnExactListedAssertion", spec := "fnExactListedAssertion", unfollowed := true, recurses := true, apart := false, narrowed := true }
def FnExactListedAssertionUptoSaid : Prop := fnExactListedAssertionUptoRow.holds Try.pinned (OpenSpec.upto fnExactListedAssertionSpec)

/-- 'laws.FnExactCheckEntailment', WHERE WHAT IT READS IS OF BULK AT MOST 1048576: true; the input reads as it did. -/
def fnExactCheckEntailmentUptoRow : OpenClaim := { program := "ythoingdcmdhllaa", sum := "2b508249ac18233d299ddc62f3f0c046b4ad5c3e64c87c597b242a3b7bb2cefb", func := "loop.example/separation/laws.FnExactCheckEntailment", spec := "fnExactCheckEntailment", unfollowed := true, recurses := true, apart := false, narrowed := true }
def FnExactCheckEntailmentUptoSaid : Prop := fnExactCheckEntailmentUptoRow.holds Try.pinned (OpenSpec.upto fnExactCheckEntailmentSpec)

/-- 'laws.FnExactFamilyEntails', WHERE WHAT IT READS IS OF BULK AT MOST 1048576: true; the input reads as it did. -/
def fnExactFamilyEntailsUptoRow : OpenClaim := { program := "ythoingdcmdhllaa", sum := "2b508249ac18233d299ddc62f3f0c046b4ad5c3e64c87c597b242a3b7bb2cefb", func := "loop.example/separation/laws.FnExactFamilyEntails", spec := "fnExactFamilyEntails", unfollowed := true, recurses := true, apart := false, narrowed := true }
def FnExactFamilyEntailsUptoSaid : Prop := fnExactFamilyEntailsUptoRow.holds Try.pinned (OpenSpec.upto fnExactFamilyEntailsSpec)

/-- 'laws.FnFamilyTransitive', WHERE WHAT IT READS IS OF BULK AT MOST 1048576: true; the input reads as it did. -/
def fnFamilyTransitiveUptoRow : OpenClaim := { program := "ythoingdcmdhllaa", sum := "2b508249ac18233d299ddc62f3f0c046b4ad5c3e64c87c597b242a3b7bb2cefb", func := "loop.example/separation/laws.FnFamilyTransitive", spec := "fnFamilyTransitive", unfollowed := true, recurses := true, apart := false, narrowed := true }
def FnFamilyTransitiveUptoSaid : Prop := fnFamilyTransitiveUptoRow.holds Try.pinned (OpenSpec.upto fnFamilyTransitiveSpec)

end Rows
end Go.Proofs.Ythoingdcmdhllaa
