/-
  No cell of these rows narrows 'for every input' (looked for: loops, veiled, ifaces, maps, wideKeys, modest, calm, conditions, laid).
  DERIVED. THE GIVEN ROWS OF THIS SEAT. 12 by the template 'for every input the law returns true; each argument reads behind the call as it read before'; 0 by the template 'total and deterministic' (their statements: YtlmhcacgedidbaaTotals.lean).
  GIVEN WITH THE SEED: the statements are not yours to turn. If you find one false, say at which input.
  Laid BY PROGRAM, IN A SANDBOX (cutbox-rows.mjs): the forced cells as the released guide's own fill.sh prints them over the translation a427e1e64c33a460… (all of the seat's roots in one cut). By AI agents, Wed Nov 11 2026. No macro, syntax, notation, axiom, sorry.
-/
import Derived.Test.YtlmhcacgedidbaaChecked
import GoSem.Claim
import GoSem.ClaimJoined
import GoSem.ClaimMapViews
import Derived.JoinedTies
import Derived.KernelRfl
namespace Go.Proofs.Ytlmhcacgedidbaa
/- THE CELL 'sum', in the pinned program and in every row, IS THE sha256 OF THE DUMP (.gsa) THAT YtlmhcacgedidbaaProg.lean LOADS. Nothing in Lean hashes anything: it is a label: what it is worth is what the hold of that sum in a sandbox is worth. -/
noncomputable def Try.pinned : Pinned := { name := "ytlmhcacgedidbaa", sum := "a427e1e64c33a460c09a6afe533c58ff87fb3cccc0847e52ba4dce2fdf11b614", checked := Try.checked }
namespace Rows
def none {H : Type} : Left H := { results := [], args := [] }

/-- 'laws.FnExactAliasTerms': WHATEVER THE INPUT: true; the input reads as it did. -/
def fnExactAliasTermsSpec : ChangeSpec := { name := "fnExactAliasTerms", fn := fun _ => fun
  | [d1, d2] => { results := [.lit (.bool true)], args := [d1, d2] }
  | _ => none }
def fnExactAliasTermsRow : OpenClaim := { program := "ytlmhcacgedidbaa", sum := "a427e1e64c33a460c09a6afe533c58ff87fb3cccc0847e52ba4dce2fdf11b614", func := "loop.example/separation/laws.FnExactAliasTerms", spec := "fnExactAliasTerms", apart := false }
def FnExactAliasTermsSaid : Prop := fnExactAliasTermsRow.holds Try.pinned (OpenSpec.ofChange fnExactAliasTermsSpec)

/-- ITS FALSE NEIGHBOUR: 'it returns false'. Refute it at one input. -/
def fnExactAliasTermsWrong : ChangeSpec := { name := "fnExactAliasTerms", fn := fun _ => fun
  | [d1, d2] => { results := [.lit (.bool false)], args := [d1, d2] }
  | _ => none }
def FnExactAliasTermsWrongFalsely : Prop := fnExactAliasTermsRow.holds Try.pinned (OpenSpec.ofChange fnExactAliasTermsWrong)

/-- 'laws.FnExactReachCells': WHATEVER THE INPUT: true; the input reads as it did. -/
def fnExactReachCellsSpec : ChangeSpec := { name := "fnExactReachCells", fn := fun _ => fun
  | [d1, d2] => { results := [.lit (.bool true)], args := [d1, d2] }
  | _ => none }
def fnExactReachCellsRow : OpenClaim := { program := "ytlmhcacgedidbaa", sum := "a427e1e64c33a460c09a6afe533c58ff87fb3cccc0847e52ba4dce2fdf11b614", func := "loop.example/separation/laws.FnExactReachCells", spec := "fnExactReachCells", apart := false }
def FnExactReachCellsSaid : Prop := fnExactReachCellsRow.holds Try.pinned (OpenSpec.ofChange fnExactReachCellsSpec)

/-- ITS FALSE NEIGHBOUR: 'it returns false'. Refute it at one input. -/
def fnExactReachCellsWrong : ChangeSpec := { name := "fnExactReachCells", fn := fun _ => fun
  | [d1, d2] => { results := [.lit (.bool false)], args := [d1, d2] }
  | _ => none }
def FnExactReachCellsWrongFalsely : Prop := fnExactReachCellsRow.holds Try.pinned (OpenSpec.ofChange fnExactReachCellsWrong)

/-- 'laws.FnAliasTerms': WHATEVER THE INPUT: true; the input reads as it did. -/
def fnAliasTermsSpec : ChangeSpec := { name := "fnAliasTerms", fn := fun _ => fun
  | [d] => { results := [.lit (.bool true)], args := [d] }
  | _ => none }
def fnAliasTermsRow : OpenClaim := { program := "ytlmhcacgedidbaa", sum := "a427e1e64c33a460c09a6afe533c58ff87fb3cccc0847e52ba4dce2fdf11b614", func := "loop.example/separation/laws.FnAliasTerms", spec := "fnAliasTerms", apart := false }
def FnAliasTermsSaid : Prop := fnAliasTermsRow.holds Try.pinned (OpenSpec.ofChange fnAliasTermsSpec)

/-- ITS FALSE NEIGHBOUR: 'it returns false'. Refute it at one input. -/
def fnAliasTermsWrong : ChangeSpec := { name := "fnAliasTerms", fn := fun _ => fun
  | [d] => { results := [.lit (.bool false)], args := [d] }
  | _ => none }
def FnAliasTermsWrongFalsely : Prop := fnAliasTermsRow.holds Try.pinned (OpenSpec.ofChange fnAliasTermsWrong)

/-- 'laws.FnExactCycleCells': WHATEVER THE INPUT: true; the input reads as it did. -/
def fnExactCycleCellsSpec : ChangeSpec := { name := "fnExactCycleCells", fn := fun _ => fun
  | [d] => { results := [.lit (.bool true)], args := [d] }
  | _ => none }
def fnExactCycleCellsRow : OpenClaim := { program := "ytlmhcacgedidbaa", sum := "a427e1e64c33a460c09a6afe533c58ff87fb3cccc0847e52ba4dce2fdf11b614", func := "loop.example/separation/laws.FnExactCycleCells", spec := "fnExactCycleCells", apart := false }
def FnExactCycleCellsSaid : Prop := fnExactCycleCellsRow.holds Try.pinned (OpenSpec.ofChange fnExactCycleCellsSpec)

/-- ITS FALSE NEIGHBOUR: 'it returns false'. Refute it at one input. -/
def fnExactCycleCellsWrong : ChangeSpec := { name := "fnExactCycleCells", fn := fun _ => fun
  | [d] => { results := [.lit (.bool false)], args := [d] }
  | _ => none }
def FnExactCycleCellsWrongFalsely : Prop := fnExactCycleCellsRow.holds Try.pinned (OpenSpec.ofChange fnExactCycleCellsWrong)

/-- 'laws.FnReachTrans': WHATEVER THE INPUT: true; the input reads as it did. -/
def fnReachTransSpec : ChangeSpec := { name := "fnReachTrans", fn := fun _ => fun
  | [d1, d2] => { results := [.lit (.bool true)], args := [d1, d2] }
  | _ => none }
def fnReachTransRow : OpenClaim := { program := "ytlmhcacgedidbaa", sum := "a427e1e64c33a460c09a6afe533c58ff87fb3cccc0847e52ba4dce2fdf11b614", func := "loop.example/separation/laws.FnReachTrans", spec := "fnReachTrans", apart := false }
def FnReachTransSaid : Prop := fnReachTransRow.holds Try.pinned (OpenSpec.ofChange fnReachTransSpec)

/-- ITS FALSE NEIGHBOUR: 'it returns false'. Refute it at one input. -/
def fnReachTransWrong : ChangeSpec := { name := "fnReachTrans", fn := fun _ => fun
  | [d1, d2] => { results := [.lit (.bool false)], args := [d1, d2] }
  | _ => none }
def FnReachTransWrongFalsely : Prop := fnReachTransRow.holds Try.pinned (OpenSpec.ofChange fnReachTransWrong)

/-- 'laws.FnExactGarbageCells': WHATEVER THE INPUT: true; the input reads as it did. -/
def fnExactGarbageCellsSpec : ChangeSpec := { name := "fnExactGarbageCells", fn := fun _ => fun
  | [d] => { results := [.lit (.bool true)], args := [d] }
  | _ => none }
def fnExactGarbageCellsRow : OpenClaim := { program := "ytlmhcacgedidbaa", sum := "a427e1e64c33a460c09a6afe533c58ff87fb3cccc0847e52ba4dce2fdf11b614", func := "loop.example/separation/laws.FnExactGarbageCells", spec := "fnExactGarbageCells", apart := false }
def FnExactGarbageCellsSaid : Prop := fnExactGarbageCellsRow.holds Try.pinned (OpenSpec.ofChange fnExactGarbageCellsSpec)

/-- ITS FALSE NEIGHBOUR: 'it returns false'. Refute it at one input. -/
def fnExactGarbageCellsWrong : ChangeSpec := { name := "fnExactGarbageCells", fn := fun _ => fun
  | [d] => { results := [.lit (.bool false)], args := [d] }
  | _ => none }
def FnExactGarbageCellsWrongFalsely : Prop := fnExactGarbageCellsRow.holds Try.pinned (OpenSpec.ofChange fnExactGarbageCellsWrong)

/-- 'laws.FnReachCells': WHATEVER THE INPUT: true; the input reads as it did. -/
def fnReachCellsSpec : ChangeSpec := { name := "fnReachCells", fn := fun _ => fun
  | [d] => { results := [.lit (.bool true)], args := [d] }
  | _ => none }
def fnReachCellsRow : OpenClaim := { program := "ytlmhcacgedidbaa", sum := "a427e1e64c33a460c09a6afe533c58ff87fb3cccc0847e52ba4dce2fdf11b614", func := "loop.example/separation/laws.FnReachCells", spec := "fnReachCells", apart := false }
def FnReachCellsSaid : Prop := fnReachCellsRow.holds Try.pinned (OpenSpec.ofChange fnReachCellsSpec)

/-- ITS FALSE NEIGHBOUR: 'it returns false'. Refute it at one input. -/
def fnReachCellsWrong : ChangeSpec := { name := "fnReachCells", fn := fun _ => fun
  | [d] => { results := [.lit (.bool false)], args := [d] }
  | _ => none }
def FnReachCellsWrongFalsely : Prop := fnReachCellsRow.holds Try.pinned (OpenSpec.ofChange fnReachCellsWrong)

/-- 'laws.FnExactRenameState': WHATEVER THE INPUT: true; the input reads as it did. -/
def fnExactRenameStateSpec : ChangeSpec := { name := "fnExactRenameState", fn := fun _ => fun
  | [d1, d2] => { results := [.lit (.bool true)], args := [d1, d2] }
  | _ => none }
def fnExactRenameStateRow : OpenClaim := { program := "ytlmhcacgedidbaa", sum := "a427e1e64c33a460c09a6afe533c58ff87fb3cccc0847e52ba4dce2fdf11b614", func := "loop.example/separation/laws.FnExactRenameState", spec := "fnExactRenameState", apart := false }
def FnExactRenameStateSaid : Prop := fnExactRenameStateRow.holds Try.pinned (OpenSpec.ofChange fnExactRenameStateSpec)

/-- ITS FALSE NEIGHBOUR: 'it returns false'. Refute it at one input. -/
def fnExactRenameStateWrong : ChangeSpec := { name := "fnExactRenameState", fn := fun _ => fun
  | [d1, d2] => { results := [.lit (.bool false)], args := [d1, d2] }
  | _ => none }
def FnExactRenameStateWrongFalsely : Prop := fnExactRenameStateRow.holds Try.pinned (OpenSpec.ofChange fnExactRenameStateWrong)

/-- 'laws.FnGarbageCells': WHATEVER THE INPUT: true; the input reads as it did. -/
def fnGarbageCellsSpec : ChangeSpec := { name := "fnGarbageCells", fn := fun _ => fun
  | [d] => { results := [.lit (.bool true)], args := [d] }
  | _ => none }
def fnGarbageCellsRow : OpenClaim := { program := "ytlmhcacgedidbaa", sum := "a427e1e64c33a460c09a6afe533c58ff87fb3cccc0847e52ba4dce2fdf11b614", func := "loop.example/separation/laws.FnGarbageCells", spec := "fnGarbageCells", apart := false }
def FnGarbageCellsSaid : Prop := fnGarbageCellsRow.holds Try.pinned (OpenSpec.ofChange fnGarbageCellsSpec)

/-- ITS FALSE NEIGHBOUR: 'it returns false'. Refute it at one input. -/
def fnGarbageCellsWrong : ChangeSpec := { name := "fnGarbageCells", fn := fun _ => fun
  | [d] => { results := [.lit (.bool false)], args := [d] }
  | _ => none }
def FnGarbageCellsWrongFalsely : Prop := fnGarbageCellsRow.holds Try.pinned (OpenSpec.ofChange fnGarbageCellsWrong)

/-- 'laws.FnCycleCells': WHATEVER THE INPUT: true; the input reads as it did. -/
def fnCycleCellsSpec : ChangeSpec := { name := "fnCycleCells", fn := fun _ => fun
  | [d] => { results := [.lit (.bool true)], args := [d] }
  | _ => none }
def fnCycleCellsRow : OpenClaim := { program := "ytlmhcacgedidbaa", sum := "a427e1e64c33a460c09a6afe533c58ff87fb3cccc0847e52ba4dce2fdf11b614", func := "loop.example/separation/laws.FnCycleCells", spec := "fnCycleCells", apart := false }
def FnCycleCellsSaid : Prop := fnCycleCellsRow.holds Try.pinned (OpenSpec.ofChange fnCycleCellsSpec)

/-- ITS FALSE NEIGHBOUR: 'it returns false'. Refute it at one input. -/
def fnCycleCellsWrong : ChangeSpec := { name := "fnCycleCells", fn := fun _ => fun
  | [d] => { results := [.lit (.bool false)], args := [d] }
  | _ => none }
def FnCycleCellsWrongFalsely : Prop := fnCycleCellsRow.holds Try.pinned (OpenSpec.ofChange fnCycleCellsWrong)

/-- 'laws.FnRenameBack': WHATEVER THE INPUT: true; the input reads as it did. -/
def fnRenameBackSpec : ChangeSpec := { name := "fnRenameBack", fn := fun _ => fun
  | [d] => { results := [.lit (.bool true)], args := [d] }
  | _ => none }
def fnRenameBackRow : OpenClaim := { program := "ytlmhcacgedidbaa", sum := "a427e1e64c33a460c09a6afe533c58ff87fb3cccc0847e52ba4dce2fdf11b614", func := "loop.example/separation/laws.FnRenameBack", spec := "fnRenameBack", apart := false }
def FnRenameBackSaid : Prop := fnRenameBackRow.holds Try.pinned (OpenSpec.ofChange fnRenameBackSpec)

/-- ITS FALSE NEIGHBOUR: 'it returns false'. Refute it at one input. -/
def fnRenameBackWrong : ChangeSpec := { name := "fnRenameBack", fn := fun _ => fun
  | [d] => { results := [.lit (.bool false)], args := [d] }
  | _ => none }
def FnRenameBackWrongFalsely : Prop := fnRenameBackRow.holds Try.pinned (OpenSpec.ofChange fnRenameBackWrong)

/-- 'laws.FnExactCanonState': WHATEVER THE INPUT: true; the input reads as it did. -/
def fnExactCanonStateSpec : ChangeSpec := { name := "fnExactCanonState", fn := fun _ => fun
  | [d] => { results := [.lit (.bool true)], args := [d] }
  | _ => none }
def fnExactCanonStateRow : OpenClaim := { program := "ytlmhcacgedidbaa", sum := "a427e1e64c33a460c09a6afe533c58ff87fb3cccc0847e52ba4dce2fdf11b614", func := "loop.example/separation/laws.FnExactCanonState", spec := "fnExactCanonState", apart := false }
def FnExactCanonStateSaid : Prop := fnExactCanonStateRow.holds Try.pinned (OpenSpec.ofChange fnExactCanonStateSpec)

/-- ITS FALSE NEIGHBOUR: 'it returns false'. Refute it at one input. -/
def fnExactCanonStateWrong : ChangeSpec := { name := "fnExactCanonState", fn := fun _ => fun
  | [d] => { results := [.lit (.bool false)], args := [d] }
  | _ => none }
def FnExactCanonStateWrongFalsely : Prop := fnExactCanonStateRow.holds Try.pinned (OpenSpec.ofChange fnExactCanonStateWrong)

/- THE SECOND FORM. 'bulk': how many values and letters a reading holds, each counted each time it is reached (what is shared counts as often as it is met; a slice's spare places count too). A statement '..UptoSaid' is the law's where the arguments, and the package variables that the reading takes, are together of bulk at most 1048576: NARROWER than '..Said'. Prove '..Said' where nothing that the law and all that it calls make is longer than what came in: it says more and counts as full. Else prove '..UptoSaid'. A law counts once. -/
mutual
def uptoBulk {H : Type} : DataW H → Nat
  | .lit (.string bytes) => bytes.length + 1
  | .lit _ => 1
  | .nil => 1
  | .ptr d => uptoBulk d + 1
  | .slice elems spare => uptoBulkAll elems + uptoBulkAll spare + 1
  | .agg parts => uptoBulkAll parts + 1
  | .iface _ d => uptoBulk d + 1
  | .map entries => uptoBulkEntries entries + 1
  | .held _ => 1
def uptoBulkAll {H : Type} : List (DataW H) → Nat
  | [] => 0
  | d :: r => uptoBulk d + uptoBulkAll r
def uptoBulkEntries {H : Type} : List (Lit × DataW H) → Nat
  | [] => 0
  | x :: r => uptoBulkEntry x + uptoBulkEntries r
def uptoBulkEntry {H : Type} : Lit × DataW H → Nat
  | (.string bytes, d) => bytes.length + uptoBulk d + 1
  | (_, d) => uptoBulk d + 1
 end
def uptoSmall : (H : Type) → List (DataW H) → Bool := fun _ ds => decide (uptoBulkAll ds ≤ 1048576)
def OpenSpec.upto (s : _root_.Go.ChangeSpec) : _root_.Go.OpenSpec := { _root_.Go.OpenSpec.ofChange s with cond := some uptoSmall }

/-- 'laws.FnExactAliasTerms', WHERE WHAT IT READS IS OF BULK AT MOST 1048576: true; the input reads as it did. -/
def fnExactAliasTermsUptoRow : OpenClaim := { program := "ytlmhcacgedidbaa", sum := "a427e1e64c33a460c09a6afe533c58ff87fb3cccc0847e52ba4dce2fdf11b614", func := "loop.example/separation/laws.FnExactAliasTerms", spec := "fnExactAliasTerms", apart := false, narrowed := true }
def FnExactAliasTermsUptoSaid : Prop := fnExactAliasTermsUptoRow.holds Try.pinned (OpenSpec.upto fnExactAliasTermsSpec)

/-- 'laws.FnExactReachCells', WHERE WHAT IT READS IS OF BULK AT MOST 1048576: true; the input reads as it did. -/
def fnExactReachCellsUptoRow : OpenClaim := { program := "ytlmhcacgedidbaa", sum := "a427e1e64c33a460c09a6afe533c58ff87fb3cccc0847e52ba4dce2fdf11b614", func := "loop.example/separation/laws.FnExactReachCells", spec := "fnExactReachCells", apart := false, narrowed := true }
def FnExactReachCellsUptoSaid : Prop := fnExactReachCellsUptoRow.holds Try.pinned (OpenSpec.upto fnExactReachCellsSpec)

/-- 'laws.FnAliasTerms', WHERE WHAT IT READS IS OF BULK AT MOST 1048576: true; the input reads as it did. -/
def fnAliasTermsUptoRow : OpenClaim := { program := "ytlmhcacgedidbaa", sum := "a427e1e64c33a460c09a6afe533c58ff87fb3cccc0847e52ba4dce2fdf11b614", func := "loop.example/separation/laws.FnAliasTerms", spec := "fnAliasTerms", apart := false, narrowed := true }
def FnAliasTermsUptoSaid : Prop := fnAliasTermsUptoRow.holds Try.pinned (OpenSpec.upto fnAliasTermsSpec)

/-- 'laws.FnExactCycleCells', WHERE WHAT IT READS IS OF BULK AT MOST 1048576: true; the input reads as it did. -/
def fnExactCycleCellsUptoRow : OpenClaim := { program := "ytlmhcacgedidbaa", sum := "a427e1e64c33a460c09a6afe533c58ff87fb3cccc0847e52ba4dce2fdf11b614", func := "loop.example/separation/laws.FnExactCycleCells", spec := "fnExactCycleCells", apart := false, narrowed := true }
def FnExactCycleCellsUptoSaid : Prop := fnExactCycleCellsUptoRow.holds Try.pinned (OpenSpec.upto fnExactCycleCellsSpec)

/-- 'laws.FnReachTrans', WHERE WHAT IT READS IS OF BULK AT MOST 1048576: true; the input reads as it did. -/
def fnReachTransUptoRow : OpenClaim := { program := "ytlmhcacgedidbaa", sum := "a427e1e64c33a460c09a6afe533c58ff87fb3cccc0847e52ba4dce2fdf11b614", func := "loop.example/separation/laws.FnReachTrans", spec := "fnReachTrans", apart := false, narrowed := true }
def FnReachTransUptoSaid : Prop := fnReachTransUptoRow.holds Try.pinned (OpenSpec.upto fnReachTransSpec)

/-- 'laws.FnExactGarbageCells', WHERE WHAT IT READS IS OF BULK AT MOST 1048576: true; the input reads as it did. -/
def fnExactGarbageCellsUptoRow : OpenClaim := { program := "ytlmhcacgedidbaa", sum := "a427e1e64c33a460c09a6afe533c58ff87fb3cccc0847e52ba4dce2fdf11b614", func := "loop.example/separation/laws.FnExactGarbageCells", spec := "fnExactGarbageCells", apart := false, narrowed := true }
def FnExactGarbageCellsUptoSaid : Prop := fnExactGarbageCellsUptoRow.holds Try.pinned (OpenSpec.upto fnExactGarbageCellsSpec)

/-- 'laws.FnReachCells', WHERE WHAT IT READS IS OF BULK AT MOST 1048576: true; the input reads as it did. -/
def fnReachCellsUptoRow : OpenClaim := { program := "ytlmhcacgedidbaa", sum := "a427e1e64c33a460c09a6afe533c58ff87fb3cccc0847e52ba4dce2fdf11b614", func := "loop.example/separation/laws.FnReachCells", spec := "fnReachCells", apart := false, narrowed := true }
def FnReachCellsUptoSaid : Prop := fnReachCellsUptoRow.holds Try.pinned (OpenSpec.upto fnReachCellsSpec)

/-- 'laws.FnExactRenameState', WHERE WHAT IT READS IS OF BULK AT MOST 1048576: true; the input reads as it did. -/
def fnExactRenameStateUptoRow : OpenClaim := { program := "ytlmhcacgedidbaa", sum := "a427e1e64c33a460c09a6afe533c58ff87fb3cccc0847e52ba4dce2fdf11b614", func := "loop.example/separation/laws.FnExactRenameState", spec := "fnExactRenameState", apart := false, narrowed := true }
def FnExactRenameStateUptoSaid : Prop := fnExactRenameStateUptoRow.holds Try.pinned (OpenSpec.upto fnExactRenameStateSpec)

/-- 'laws.FnGarbageCells', WHERE WHAT IT READS IS OF BULK AT MOST 1048576: true; the input reads as it did. -/
def fnGarbageCellsUptoRow : OpenClaim := { program := "ytlmhcacgedidbaa", sum := "a427e1e64c33a460c09a6afe533c58ff87fb3cccc0847e52ba4dce2fdf11b614", func := "loop.example/separation/laws.FnGarbageCells", spec := "fnGarbageCells", apart := false, narrowed := true }
def FnGarbageCellsUptoSaid : Prop := fnGarbageCellsUptoRow.holds Try.pinned (OpenSpec.upto fnGarbageCellsSpec)

/-- 'laws.FnCycleCells', WHERE WHAT IT READS IS OF BULK AT MOST 1048576: true; the input reads as it did. -/
def fnCycleCellsUptoRow : OpenClaim := { program := "ytlmhcacgedidbaa", sum := "a427e1e64c33a460c09a6afe533c58ff87fb3cccc0847e52ba4dce2fdf11b614", func := "loop.example/separation/laws.FnCycleCells", spec := "fnCycleCells", apart := false, narrowed := true }
def FnCycleCellsUptoSaid : Prop := fnCycleCellsUptoRow.holds Try.pinned (OpenSpec.upto fnCycleCellsSpec)

/-- 'laws.FnRenameBack', WHERE WHAT IT READS IS OF BULK AT MOST 1048576: true; the input reads as it did. -/
def fnRenameBackUptoRow : OpenClaim := { program := "ytlmhcacgedidbaa", sum := "a427e1e64c33a460c09a6afe533c58ff87fb3cccc0847e52ba4dce2fdf11b614", func := "loop.example/separation/laws.FnRenameBack", spec := "fnRenameBack", apart := false, narrowed := true }
def FnRenameBackUptoSaid : Prop := fnRenameBackUptoRow.holds Try.pinned (OpenSpec.upto fnRenameBackSpec)

/-- 'laws.FnExactCanonState', WHERE WHAT IT READS IS OF BULK AT MOST 1048576: true; the input reads as it did. -/
def fnExactCanonStateUptoRow : OpenClaim := { program := "ytlmhcacgedidbaa", sum := "a427e1e64c33a460c09a6afe533c58ff87fb3cccc0847e52ba4dce2fdf11b614", func := "loop.example/separation/laws.FnExactCanonState", spec := "fnExactCanonState", apart := false, narrowed := true }
def FnExactCanonStateUptoSaid : Prop := fnExactCanonStateUptoRow.holds Try.pinned (OpenSpec.upto fnExactCanonStateSpec)

end Rows
end Go.Proofs.Ytlmhcacgedidbaa
