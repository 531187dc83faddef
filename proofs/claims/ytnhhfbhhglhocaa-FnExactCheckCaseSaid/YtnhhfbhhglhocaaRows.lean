/-
  No cell of these rows narrows 'for every input' (looked for: loops, veiled, ifaces, maps, wideKeys, modest, calm, conditions, laid).
  DERIVED. THE GIVEN ROWS OF THIS SEAT. 10 by the template 'for every input the law returns true; each argument reads behind the call as it read before'; 0 by the template 'total and deterministic' (their statements: YtnhhfbhhglhocaaTotals.lean).
  GIVEN WITH THE SEED: the statements are not yours to turn. If you find one false, say at which input.
  Laid BY PROGRAM, IN A SANDBOX (cutbox-rows.mjs): the forced cells as the released guide's own fill.sh prints them over the translation a3d1c6958cfd11fd… (all of the seat's roots in one cut). By AI agents, Wed Nov 11 2026. No macro, syntax, notation, axiom, sorry.
-/
import Derived.Test.YtnhhfbhhglhocaaChecked
import GoSem.Claim
import GoSem.ClaimJoined
import GoSem.ClaimMapViews
import Derived.JoinedTies
import Derived.KernelRfl
namespace Go.Proofs.Ytnhhfbhhglhocaa
/- THE CELL 'sum', in the pinned program and in every row, IS THE sha256 OF THE DUMP (.gsa) THAT YtnhhfbhhglhocaaProg.lean LOADS. Nothing in Lean hashes anything: it is a label: what it is worth is what the hold of that sum in a sandbox is worth. -/
noncomputable def Try.pinned : Pinned := { name := "ytnhhfbhhglhocaa", sum := "a3d1c6958cfd11fd6b59cc027fce2c7d72d7cc3d44e52de62eba371f4fb98219", checked := Try.checked }
namespace Rows
def none {H : Type} : Left H := { results := [], args := [] }

/-- 'laws.FnExactFamilyValid': WHATEVER THE INPUT: true; the input reads as it did. -/
def fnExactFamilyValidSpec : ChangeSpec := { name := "fnExactFamilyValid", fn := fun _ => fun
  | [d] => { results := [.lit (.bool true)], args := [d] }
  | _ => none }
def fnExactFamilyValidRow : OpenClaim := { program := "ytnhhfbhhglhocaa", sum := "a3d1c6958cfd11fd6b59cc027fce2c7d72d7cc3d44e52de62eba371f4fb98219", func := "loop.example/separation/laws.FnExactFamilyValid", spec := "fnExactFamilyValid", apart := false }
def FnExactFamilyValidSaid : Prop := fnExactFamilyValidRow.holds Try.pinned (OpenSpec.ofChange fnExactFamilyValidSpec)

/-- ITS FALSE NEIGHBOUR: 'it returns false'. Refute it at one input. -/
def fnExactFamilyValidWrong : ChangeSpec := { name := "fnExactFamilyValid", fn := fun _ => fun
  | [d] => { results := [.lit (.bool false)], args := [d] }
  | _ => none }
def FnExactFamilyValidWrongFalsely : Prop := fnExactFamilyValidRow.holds Try.pinned (OpenSpec.ofChange fnExactFamilyValidWrong)

/-- 'laws.FnExactSameShape': WHATEVER THE INPUT: true; the input reads as it did. -/
def fnExactSameShapeSpec : ChangeSpec := { name := "fnExactSameShape", fn := fun _ => fun
  | [d1, d2] => { results := [.lit (.bool true)], args := [d1, d2] }
  | _ => none }
def fnExactSameShapeRow : OpenClaim := { program := "ytnhhfbhhglhocaa", sum := "a3d1c6958cfd11fd6b59cc027fce2c7d72d7cc3d44e52de62eba371f4fb98219", func := "loop.example/separation/laws.FnExactSameShape", spec := "fnExactSameShape", recurses := true, apart := false }
def FnExactSameShapeSaid : Prop := fnExactSameShapeRow.holds Try.pinned (OpenSpec.ofChange fnExactSameShapeSpec)

/-- ITS FALSE NEIGHBOUR: 'it returns false'. Refute it at one input. -/
def fnExactSameShapeWrong : ChangeSpec := { name := "fnExactSameShape", fn := fun _ => fun
  | [d1, d2] => { results := [.lit (.bool false)], args := [d1, d2] }
  | _ => none }
def FnExactSameShapeWrongFalsely : Prop := fnExactSameShapeRow.holds Try.pinned (OpenSpec.ofChange fnExactSameShapeWrong)

/-- 'laws.FnCanonState': WHATEVER THE INPUT: true; the input reads as it did. -/
def fnCanonStateSpec : ChangeSpec := { name := "fnCanonState", fn := fun _ => fun
  | [d] => { results := [.lit (.bool true)], args := [d] }
  | _ => none }
def fnCanonStateRow : OpenClaim := { program := "ytnhhfbhhglhocaa", sum := "a3d1c6958cfd11fd6b59cc027fce2c7d72d7cc3d44e52de62eba371f4fb98219", func := "loop.example/separation/laws.FnCanonState", spec := "fnCanonState", recurses := true, apart := false }
def FnCanonStateSaid : Prop := fnCanonStateRow.holds Try.pinned (OpenSpec.ofChange fnCanonStateSpec)

/-- ITS FALSE NEIGHBOUR: 'it returns false'. Refute it at one input. -/
def fnCanonStateWrong : ChangeSpec := { name := "fnCanonState", fn := fun _ => fun
  | [d] => { results := [.lit (.bool false)], args := [d] }
  | _ => none }
def FnCanonStateWrongFalsely : Prop := fnCanonStateRow.holds Try.pinned (OpenSpec.ofChange fnCanonStateWrong)

/-- 'laws.FnExactFamilyJoin': WHATEVER THE INPUT: true; the input reads as it did. -/
def fnExactFamilyJoinSpec : ChangeSpec := { name := "fnExactFamilyJoin", fn := fun _ => fun
  | [d1, d2] => { results := [.lit (.bool true)], args := [d1, d2] }
  | _ => none }
def fnExactFamilyJoinRow : OpenClaim := { program := "ytnhhfbhhglhocaa", sum := "a3d1c6958cfd11fd6b59cc027fce2c7d72d7cc3d44e52de62eba371f4fb98219", func := "loop.example/separation/laws.FnExactFamilyJoin", spec := "fnExactFamilyJoin", apart := false }
def FnExactFamilyJoinSaid : Prop := fnExactFamilyJoinRow.holds Try.pinned (OpenSpec.ofChange fnExactFamilyJoinSpec)

/-- ITS FALSE NEIGHBOUR: 'it returns false'. Refute it at one input. -/
def fnExactFamilyJoinWrong : ChangeSpec := { name := "fnExactFamilyJoin", fn := fun _ => fun
  | [d1, d2] => { results := [.lit (.bool false)], args := [d1, d2] }
  | _ => none }
def FnExactFamilyJoinWrongFalsely : Prop := fnExactFamilyJoinRow.holds Try.pinned (OpenSpec.ofChange fnExactFamilyJoinWrong)

/-- 'laws.FnExactFamilyStar': WHATEVER THE INPUT: true; the input reads as it did. -/
def fnExactFamilyStarSpec : ChangeSpec := { name := "fnExactFamilyStar", fn := fun _ => fun
  | [d1, d2] => { results := [.lit (.bool true)], args := [d1, d2] }
  | _ => none }
def fnExactFamilyStarRow : OpenClaim := { program := "ytnhhfbhhglhocaa", sum := "a3d1c6958cfd11fd6b59cc027fce2c7d72d7cc3d44e52de62eba371f4fb98219", func := "loop.example/separation/laws.FnExactFamilyStar", spec := "fnExactFamilyStar", apart := false }
def FnExactFamilyStarSaid : Prop := fnExactFamilyStarRow.holds Try.pinned (OpenSpec.ofChange fnExactFamilyStarSpec)

/-- ITS FALSE NEIGHBOUR: 'it returns false'. Refute it at one input. -/
def fnExactFamilyStarWrong : ChangeSpec := { name := "fnExactFamilyStar", fn := fun _ => fun
  | [d1, d2] => { results := [.lit (.bool false)], args := [d1, d2] }
  | _ => none }
def FnExactFamilyStarWrongFalsely : Prop := fnExactFamilyStarRow.holds Try.pinned (OpenSpec.ofChange fnExactFamilyStarWrong)

/-- 'laws.FnCanonShape': WHATEVER THE INPUT: true; the input reads as it did. -/
def fnCanonShapeSpec : ChangeSpec := { name := "fnCanonShape", fn := fun _ => fun
  | [d] => { results := [.lit (.bool true)], args := [d] }
  | _ => none }
def fnCanonShapeRow : OpenClaim := { program := "ytnhhfbhhglhocaa", sum := "a3d1c6958cfd11fd6b59cc027fce2c7d72d7cc3d44e52de62eba371f4fb98219", func := "loop.example/separation/laws.FnCanonShape", spec := "fnCanonShape", recurses := true, apart := false }
def FnCanonShapeSaid : Prop := fnCanonShapeRow.holds Try.pinned (OpenSpec.ofChange fnCanonShapeSpec)

/-- ITS FALSE NEIGHBOUR: 'it returns false'. Refute it at one input. -/
def fnCanonShapeWrong : ChangeSpec := { name := "fnCanonShape", fn := fun _ => fun
  | [d] => { results := [.lit (.bool false)], args := [d] }
  | _ => none }
def FnCanonShapeWrongFalsely : Prop := fnCanonShapeRow.holds Try.pinned (OpenSpec.ofChange fnCanonShapeWrong)

/-- 'laws.FnSameShape': WHATEVER THE INPUT: true; the input reads as it did. -/
def fnSameShapeSpec : ChangeSpec := { name := "fnSameShape", fn := fun _ => fun
  | [d] => { results := [.lit (.bool true)], args := [d] }
  | _ => none }
def fnSameShapeRow : OpenClaim := { program := "ytnhhfbhhglhocaa", sum := "a3d1c6958cfd11fd6b59cc027fce2c7d72d7cc3d44e52de62eba371f4fb98219", func := "loop.example/separation/laws.FnSameShape", spec := "fnSameShape", recurses := true, apart := false }
def FnSameShapeSaid : Prop := fnSameShapeRow.holds Try.pinned (OpenSpec.ofChange fnSameShapeSpec)

/-- ITS FALSE NEIGHBOUR: 'it returns false'. Refute it at one input. -/
def fnSameShapeWrong : ChangeSpec := { name := "fnSameShape", fn := fun _ => fun
  | [d] => { results := [.lit (.bool false)], args := [d] }
  | _ => none }
def FnSameShapeWrongFalsely : Prop := fnSameShapeRow.holds Try.pinned (OpenSpec.ofChange fnSameShapeWrong)

/-- 'laws.FnExactFamilyHolds': WHATEVER THE INPUT: true; the input reads as it did. -/
def fnExactFamilyHoldsSpec : ChangeSpec := { name := "fnExactFamilyHolds", fn := fun _ => fun
  | [d1, d2] => { results := [.lit (.bool true)], args := [d1, d2] }
  | _ => none }
def fnExactFamilyHoldsRow : OpenClaim := { program := "ytnhhfbhhglhocaa", sum := "a3d1c6958cfd11fd6b59cc027fce2c7d72d7cc3d44e52de62eba371f4fb98219", func := "loop.example/separation/laws.FnExactFamilyHolds", spec := "fnExactFamilyHolds", apart := false }
def FnExactFamilyHoldsSaid : Prop := fnExactFamilyHoldsRow.holds Try.pinned (OpenSpec.ofChange fnExactFamilyHoldsSpec)

/-- ITS FALSE NEIGHBOUR: 'it returns false'. Refute it at one input. -/
def fnExactFamilyHoldsWrong : ChangeSpec := { name := "fnExactFamilyHolds", fn := fun _ => fun
  | [d1, d2] => { results := [.lit (.bool false)], args := [d1, d2] }
  | _ => none }
def FnExactFamilyHoldsWrongFalsely : Prop := fnExactFamilyHoldsRow.holds Try.pinned (OpenSpec.ofChange fnExactFamilyHoldsWrong)

/-- 'laws.FnExactCheckCase': WHATEVER THE INPUT: true; the input reads as it did. -/
def fnExactCheckCaseSpec : ChangeSpec := { name := "fnExactCheckCase", fn := fun _ => fun
  | [d1, d2, d3] => { results := [.lit (.bool true)], args := [d1, d2, d3] }
  | _ => none }
def fnExactCheckCaseRow : OpenClaim := { program := "ytnhhfbhhglhocaa", sum := "a3d1c6958cfd11fd6b59cc027fce2c7d72d7cc3d44e52de62eba371f4fb98219", func := "loop.example/separation/laws.FnExactCheckCase", spec := "fnExactCheckCase", apart := false }
def FnExactCheckCaseSaid : Prop := fnExactCheckCaseRow.holds Try.pinned (OpenSpec.ofChange fnExactCheckCaseSpec)

/-- ITS FALSE NEIGHBOUR: 'it returns false'. Refute it at one input. -/
def fnExactCheckCaseWrong : ChangeSpec := { name := "fnExactCheckCase", fn := fun _ => fun
  | [d1, d2, d3] => { results := [.lit (.bool false)], args := [d1, d2, d3] }
  | _ => none }
def FnExactCheckCaseWrongFalsely : Prop := fnExactCheckCaseRow.holds Try.pinned (OpenSpec.ofChange fnExactCheckCaseWrong)

/-- 'laws.FnRenameHolds': WHATEVER THE INPUT: true; the input reads as it did. -/
def fnRenameHoldsSpec : ChangeSpec := { name := "fnRenameHolds", fn := fun _ => fun
  | [d1, d2] => { results := [.lit (.bool true)], args := [d1, d2] }
  | _ => none }
def fnRenameHoldsRow : OpenClaim := { program := "ytnhhfbhhglhocaa", sum := "a3d1c6958cfd11fd6b59cc027fce2c7d72d7cc3d44e52de62eba371f4fb98219", func := "loop.example/separation/laws.FnRenameHolds", spec := "fnRenameHolds", recurses := true, apart := false }
def FnRenameHoldsSaid : Prop := fnRenameHoldsRow.holds Try.pinned (OpenSpec.ofChange fnRenameHoldsSpec)

/-- ITS FALSE NEIGHBOUR: 'it returns false'. Refute it at one input. -/
def fnRenameHoldsWrong : ChangeSpec := { name := "fnRenameHolds", fn := fun _ => fun
  | [d1, d2] => { results := [.lit (.bool false)], args := [d1, d2] }
  | _ => none }
def FnRenameHoldsWrongFalsely : Prop := fnRenameHoldsRow.holds Try.pinned (OpenSpec.ofChange fnRenameHoldsWrong)

/- THE SECOND FORM. 'bulk': how many values and letters a reading holds, each counted each time it is reached (what is shared counts as often as it is met; a slice's spare places count too). A statement '..UptoSaid' is the law's where the arguments, and the package variables that the reading takes, are together of bulk at most 1048576: NARROWER than '..Said'. Prove '..Said' where nothing that the law and all that it calls make is longer than what came in: it says more and counts as full. Else prove '..UptoSaid'. A law counts once. -/
mutual
def uptoBulk {H : Type} : DataW H → Nat
  | .lit (.string bytes) => bytes.length + 1
  | .lit _ => 1
  | .nil => 1
  | .ptr d => uptoBulk d + 1
  | .slice elems spare => uptoBulkAll elems + uptoBulkAll spare + 1
  | .agg parts => uptoBulkAll parts + 1
  | .iface _ d => uptoBulk d + 1
  | .map entries => uptoBulkEntries entries + 1
  | .held _ => 1
def uptoBulkAll {H : Type} : List (DataW H) → Nat
  | [] => 0
  | d :: r => uptoBulk d + uptoBulkAll r
def uptoBulkEntries {H : Type} : List (Lit × DataW H) → Nat
  | [] => 0
  | x :: r => uptoBulkEntry x + uptoBulkEntries r
def uptoBulkEntry {H : Type} : Lit × DataW H → Nat
  | (.string bytes, d) => bytes.length + uptoBulk d + 1
  | (_, d) => uptoBulk d + 1
 end
def uptoSmall : (H : Type) → List (DataW H) → Bool := fun _ ds => decide (uptoBulkAll ds ≤ 1048576)
def OpenSpec.upto (s : _root_.Go.ChangeSpec) : _root_.Go.OpenSpec := { _root_.Go.OpenSpec.ofChange s with cond := some uptoSmall }

/-- 'laws.FnExactFamilyValid', WHERE WHAT IT READS IS OF BULK AT MOST 1048576: true; the input reads as it did. -/
def fnExactFamilyValidUptoRow : OpenClaim := { program := "ytnhhfbhhglhocaa", sum := "a3d1c6958cfd11fd6b59cc027fce2c7d72d7cc3d44e52de62eba371f4fb98219", func := "loop.example/separation/laws.FnExactFamilyValid", spec := "fnExactFamilyValid", apart := false, narrowed := true }
def FnExactFamilyValidUptoSaid : Prop := fnExactFamilyValidUptoRow.holds Try.pinned (OpenSpec.upto fnExactFamilyValidSpec)

/-- 'laws.FnExactSameShape', WHERE WHAT IT READS IS OF BULK AT MOST 1048576: true; the input reads as it did. -/
def fnExactSameShapeUptoRow : OpenClaim := { program := "ytnhhfbhhglhocaa", sum := "a3d1c6958cfd11fd6b59cc027fce2c7d72d7cc3d44e52de62eba371f4fb98219", func := "loop.example/separation/laws.FnExactSameShape", spec := "fnExactSameShape", recurses := true, apart := false, narrowed := true }
def FnExactSameShapeUptoSaid : Prop := fnExactSameShapeUptoRow.holds Try.pinned (OpenSpec.upto fnExactSameShapeSpec)

/-- 'laws.FnCanonState', WHERE WHAT IT READS IS OF BULK AT MOST 1048576: true; the input reads as it did. -/
def fnCanonStateUptoRow : OpenClaim := { program := "ytnhhfbhhglhocaa", sum := "a3d1c6958cfd11fd6b59cc027fce2c7d72d7cc3d44e52de62eba371f4fb98219", func := "loop.example/separation/laws.FnCanonState", spec := "fnCanonState", recurses := true, apart := false, narrowed := true }
def FnCanonStateUptoSaid : Prop := fnCanonStateUptoRow.holds Try.pinned (OpenSpec.upto fnCanonStateSpec)

/-- 'laws.FnExactFamilyJoin', WHERE WHAT IT READS IS OF BULK AT MOST 1048576: true; the input reads as it did. -/
def fnExactFamilyJoinUptoRow : OpenClaim := { program := "ytnhhfbhhglhocaa", sum := "a3d1c6958cfd11fd6b59cc027fce2c7d72d7cc3d44e52de62eba371f4fb98219", func := "loop.example/separation/laws.FnExactFamilyJoin", spec := "fnExactFamilyJoin", apart := false, narrowed := true }
def FnExactFamilyJoinUptoSaid : Prop := fnExactFamilyJoinUptoRow.holds Try.pinned (OpenSpec.upto fnExactFamilyJoinSpec)

/-- 'laws.FnExactFamilyStar', WHERE WHAT IT READS IS OF BULK AT MOST 1048576: true; the input reads as it did. -/
def fnExactFamilyStarUptoRow : OpenClaim := { program := "ytnhhfbhhglhocaa", sum := "a3d1c6958cfd11fd6b59cc027fce2c7d72d7cc3d44e52de62eba371f4fb98219", func := "loop.example/separation/laws.FnExactFamilyStar", spec := "fnExactFamilyStar", apart := false, narrowed := true }
def FnExactFamilyStarUptoSaid : Prop := fnExactFamilyStarUptoRow.holds Try.pinned (OpenSpec.upto fnExactFamilyStarSpec)

/-- 'laws.FnCanonShape', WHERE WHAT IT READS IS OF BULK AT MOST 1048576: true; the input reads as it did. -/
def fnCanonShapeUptoRow : OpenClaim := { program := "ytnhhfbhhglhocaa", sum := "a3d1c6958cfd11fd6b59cc027fce2c7d72d7cc3d44e52de62eba371f4fb98219", func := "loop.example/separation/laws.FnCanonShape", spec := "fnCanonShape", recurses := true, apart := false, narrowed := true }
def FnCanonShapeUptoSaid : Prop := fnCanonShapeUptoRow.holds Try.pinned (OpenSpec.upto fnCanonShapeSpec)

/-- 'laws.FnSameShape', WHERE WHAT IT READS IS OF BULK AT MOST 1048576: true; the input reads as it did. -/
def fnSameShapeUptoRow : OpenClaim := { program := "ytnhhfbhhglhocaa", sum := "a3d1c6958cfd11fd6b59cc027fce2c7d72d7cc3d44e52de62eba371f4fb98219", func := "loop.example/separation/laws.FnSameShape", spec := "fnSameShape", recurses := true, apart := false, narrowed := true }
def FnSameShapeUptoSaid : Prop := fnSameShapeUptoRow.holds Try.pinned (OpenSpec.upto fnSameShapeSpec)

/-- 'laws.FnExactFamilyHolds', WHERE WHAT IT READS IS OF BULK AT MOST 1048576: true; the input reads as it did. -/
def fnExactFamilyHoldsUptoRow : OpenClaim := { program := "ytnhhfbhhglhocaa", sum := "a3d1c6958cfd11fd6b59cc027fce2c7d72d7cc3d44e52de62eba371f4fb98219", func := "loop.example/separation/laws.FnExactFamilyHolds", spec := "fnExactFamilyHolds", apart := false, narrowed := true }
def FnExactFamilyHoldsUptoSaid : Prop := fnExactFamilyHoldsUptoRow.holds Try.pinned (OpenSpec.upto fnExactFamilyHoldsSpec)

/-- 'laws.FnExactCheckCase', WHERE WHAT IT READS IS OF BULK AT MOST 1048576: true; the input reads as it did. -/
def fnExactCheckCaseUptoRow : OpenClaim := { program := "ytnhhfbhhglhocaa", sum := "a3d1c6958cfd11fd6b59cc027fce2c7d72d7cc3d44e52de62eba371f4fb98219", func := "loop.example/separation/laws.FnExactCheckCase", spec := "fnExactCheckCase", apart := false, narrowed := true }
def FnExactCheckCaseUptoSaid : Prop := fnExactCheckCaseUptoRow.holds Try.pinned (OpenSpec.upto fnExactCheckCaseSpec)

/-- 'laws.FnRenameHolds', WHERE WHAT IT READS IS OF BULK AT MOST 1048576: true; the input reads as it did. -/
def fnRenameHoldsUptoRow : OpenClaim := { program := "ytnhhfbhhglhocaa", sum := "a3d1c6958cfd11fd6b59cc027fce2c7d72d7cc3d44e52de62eba371f4fb98219", func := "loop.example/separation/laws.FnRenameHolds", spec := "fnRenameHolds", recurses := true, apart := false, narrowed := true }
def FnRenameHoldsUptoSaid : Prop := fnRenameHoldsUptoRow.holds Try.pinned (OpenSpec.upto fnRenameHoldsSpec)

end Rows
end Go.Proofs.Ytnhhfbhhglhocaa
