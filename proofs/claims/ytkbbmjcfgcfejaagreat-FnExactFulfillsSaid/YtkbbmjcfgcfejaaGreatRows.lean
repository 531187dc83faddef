/-
  NARROWER THAN 'FOR EVERY INPUT', by the rows' own cells (each row's printed sentence says how): FnExactFulfills: loops · FnExactInferInvariant: loops · FnExactInferProgram: loops.
  DERIVED. THE GIVEN ROWS OF THIS SEAT. 9 by the template 'for every input the law returns true; each argument reads behind the call as it read before'; 0 by the template 'total and deterministic' (their statements: YtkbbmjcfgcfejaaGreatTotals.lean).
  GIVEN WITH THE SEED: the statements are not yours to turn. If you find one false, say at which input.
  Laid BY PROGRAM, IN A SANDBOX (cutbox-rows.mjs): the forced cells as the released guide's own fill.sh prints them over the translation 589ceccc634211aa… (all of the seat's roots in one cut). By AI agents, Wed Nov 11 2026. No macro, syntax, notation, axiom, sorry.
-/
import Derived.Test.YtkbbmjcfgcfejaaGreatChecked
import GoSem.Claim
import GoSem.ClaimJoined
import GoSem.ClaimMapViews
import Derived.JoinedTies
import Derived.KernelRfl
namespace Go.Proofs.YtkbbmjcfgcfejaaGreat
/- THE CELL 'sum', in the pinned program and in every row, IS THE sha256 OF THE DUMP (.gsa) THAT YtkbbmjcfgcfejaaGreatProg.lean LOADS. Nothing in Lean hashes anything: it is a label: what it is worth is what the hold of that sum in a sandbox is worth. -/
noncomputable def Tryz.pinned : Pinned := { name := "ytkbbmjcfgcfejaagreat", sum := "589ceccc634211aad6269dba7a84356d74f602712f5512653304b99977dc0cc2", checked := Tryz.checked }
namespace Rows
def none {H : Type} : Left H := { results := [], args := [] }

/-- 'laws.FnCallFrame': WHATEVER THE INPUT: true; the input reads as it did. -/
def fnCallFrameSpec : ChangeSpec := { name := "fnCallFrame", fn := fun _ => fun
  | [d] => { results := [.lit (.bool true)], args := [d] }
  | _ => none }
def fnCallFrameRow : OpenClaim := { program := "ytkbbmjcfgcfejaagreat", sum := "589ceccc634211aad6269dba7a84356d74f602712f5512653304b99977dc0cc2", func := "loop.example/separation/laws.FnCallFrame", spec := "fnCallFrame", unfollowed := true, recurses := true, plainKeys := false, apart := false }
def FnCallFrameSaid : Prop := fnCallFrameRow.holds Tryz.pinned (OpenSpec.ofChange fnCallFrameSpec)

/-- ITS FALSE NEIGHBOUR: 'it returns false'. Refute it at one input. -/
def fnCallFrameWrong : ChangeSpec := { name := "fnCallFrame", fn := fun _ => fun
  | [d] => { results := [.lit (.bool false)], args := [d] }
  | _ => none }
def FnCallFrameWrongFalsely : Prop := fnCallFrameRow.holds Tryz.pinned (OpenSpec.ofChange fnCallFrameWrong)

/-- 'laws.FnExactFulfills': WHATEVER THE INPUT: true; the input reads as it did. -/
def fnExactFulfillsSpec : ChangeSpec := { name := "fnExactFulfills", fn := fun _ => fun
  | [d1, d2] => { results := [.lit (.bool true)], args := [d1, d2] }
  | _ => none }
def fnExactFulfillsRow : OpenClaim := { program := "ytkbbmjcfgcfejaagreat", sum := "589ceccc634211aad6269dba7a84356d74f602712f5512653304b99977dc0cc2", func := "loop.example/separation/laws.FnExactFulfills", spec := "fnExactFulfills", unfollowed := true, recurses := true, loops := true, plainKeys := false, apart := false }
def FnExactFulfillsSaid : Prop := fnExactFulfillsRow.holds Tryz.pinned (OpenSpec.ofChange fnExactFulfillsSpec)

/-- ITS FALSE NEIGHBOUR: 'it returns false'. Refute it at one input. -/
def fnExactFulfillsWrong : ChangeSpec := { name := "fnExactFulfills", fn := fun _ => fun
  | [d1, d2] => { results := [.lit (.bool false)], args := [d1, d2] }
  | _ => none }
def FnExactFulfillsWrongFalsely : Prop := fnExactFulfillsRow.holds Tryz.pinned (OpenSpec.ofChange fnExactFulfillsWrong)

/-- 'laws.FnExactInferInvariant': WHATEVER THE INPUT: true; the input reads as it did. -/
def fnExactInferInvariantSpec : ChangeSpec := { name := "fnExactInferInvariant", fn := fun _ => fun
  | [d1, d2] => { results := [.lit (.bool true)], args := [d1, d2] }
  | _ => none }
def fnExactInferInvariantRow : OpenClaim := { program := "ytkbbmjcfgcfejaagreat", sum := "589ceccc634211aad6269dba7a84356d74f602712f5512653304b99977dc0cc2", func := "loop.example/separation/laws.FnExactInferInvariant", spec := "fnExactInferInvariant", unfollowed := true, recurses := true, loops := true, plainKeys := false, apart := false }
def FnExactInferInvariantSaid : Prop := fnExactInferInvariantRow.holds Tryz.pinned (OpenSpec.ofChange fnExactInferInvariantSpec)

/-- ITS FALSE NEIGHBOUR: 'it returns false'. Refute it at one input. -/
def fnExactInferInvariantWrong : ChangeSpec := { name := "fnExactInferInvariant", fn := fun _ => fun
  | [d1, d2] => { results := [.lit (.bool false)], args := [d1, d2] }
  | _ => none }
def FnExactInferInvariantWrongFalsely : Prop := fnExactInferInvariantRow.holds Tryz.pinned (OpenSpec.ofChange fnExactInferInvariantWrong)

/-- 'laws.FnCallPost': WHATEVER THE INPUT: true; the input reads as it did. -/
def fnCallPostSpec : ChangeSpec := { name := "fnCallPost", fn := fun _ => fun
  | [d] => { results := [.lit (.bool true)], args := [d] }
  | _ => none }
def fnCallPostRow : OpenClaim := { program := "ytkbbmjcfgcfejaagreat", sum := "589ceccc634211aad6269dba7a84356d74f602712f5512653304b99977dc0cc2", func := "loop.example/separation/laws.FnCallPost", spec := "fnCallPost", unfollowed := true, recurses := true, plainKeys := false, apart := false }
def FnCallPostSaid : Prop := fnCallPostRow.holds Tryz.pinned (OpenSpec.ofChange fnCallPostSpec)

/-- ITS FALSE NEIGHBOUR: 'it returns false'. Refute it at one input. -/
def fnCallPostWrong : ChangeSpec := { name := "fnCallPost", fn := fun _ => fun
  | [d] => { results := [.lit (.bool false)], args := [d] }
  | _ => none }
def FnCallPostWrongFalsely : Prop := fnCallPostRow.holds Tryz.pinned (OpenSpec.ofChange fnCallPostWrong)

/-- 'laws.FnExactInferProgram': WHATEVER THE INPUT: true; the input reads as it did. -/
def fnExactInferProgramSpec : ChangeSpec := { name := "fnExactInferProgram", fn := fun _ => fun
  | [d1, d2] => { results := [.lit (.bool true)], args := [d1, d2] }
  | _ => none }
def fnExactInferProgramRow : OpenClaim := { program := "ytkbbmjcfgcfejaagreat", sum := "589ceccc634211aad6269dba7a84356d74f602712f5512653304b99977dc0cc2", func := "loop.example/separation/laws.FnExactInferProgram", spec := "fnExactInferProgram", unfollowed := true, recurses := true, loops := true, plainKeys := false, apart := false }
def FnExactInferProgramSaid : Prop := fnExactInferProgramRow.holds Tryz.pinned (OpenSpec.ofChange fnExactInferProgramSpec)

/-- ITS FALSE NEIGHBOUR: 'it returns false'. Refute it at one input. -/
def fnExactInferProgramWrong : ChangeSpec := { name := "fnExactInferProgram", fn := fun _ => fun
  | [d1, d2] => { results := [.lit (.bool false)], args := [d1, d2] }
  | _ => none }
def FnExactInferProgramWrongFalsely : Prop := fnExactInferProgramRow.holds Tryz.pinned (OpenSpec.ofChange fnExactInferProgramWrong)

/-- 'laws.FnFulfills': WHATEVER THE INPUT: true; the input reads as it did. -/
def fnFulfillsSpec : ChangeSpec := { name := "fnFulfills", fn := fun _ => fun
  | [d] => { results := [.lit (.bool true)], args := [d] }
  | _ => none }
def fnFulfillsRow : OpenClaim := { program := "ytkbbmjcfgcfejaagreat", sum := "589ceccc634211aad6269dba7a84356d74f602712f5512653304b99977dc0cc2", func := "loop.example/separation/laws.FnFulfills", spec := "fnFulfills", unfollowed := true, recurses := true, plainKeys := false, apart := false }
def FnFulfillsSaid : Prop := fnFulfillsRow.holds Tryz.pinned (OpenSpec.ofChange fnFulfillsSpec)

/-- ITS FALSE NEIGHBOUR: 'it returns false'. Refute it at one input. -/
def fnFulfillsWrong : ChangeSpec := { name := "fnFulfills", fn := fun _ => fun
  | [d] => { results := [.lit (.bool false)], args := [d] }
  | _ => none }
def FnFulfillsWrongFalsely : Prop := fnFulfillsRow.holds Tryz.pinned (OpenSpec.ofChange fnFulfillsWrong)

/-- 'laws.FnInferInvariant': WHATEVER THE INPUT: true; the input reads as it did. -/
def fnInferInvariantSpec : ChangeSpec := { name := "fnInferInvariant", fn := fun _ => fun
  | [d] => { results := [.lit (.bool true)], args := [d] }
  | _ => none }
def fnInferInvariantRow : OpenClaim := { program := "ytkbbmjcfgcfejaagreat", sum := "589ceccc634211aad6269dba7a84356d74f602712f5512653304b99977dc0cc2", func := "loop.example/separation/laws.FnInferInvariant", spec := "fnInferInvariant", unfollowed := true, recurses := true, plainKeys := false, apart := false }
def FnInferInvariantSaid : Prop := fnInferInvariantRow.holds Tryz.pinned (OpenSpec.ofChange fnInferInvariantSpec)

/-- ITS FALSE NEIGHBOUR: 'it returns false'. Refute it at one input. -/
def fnInferInvariantWrong : ChangeSpec := { name := "fnInferInvariant", fn := fun _ => fun
  | [d] => { results := [.lit (.bool false)], args := [d] }
  | _ => none }
def FnInferInvariantWrongFalsely : Prop := fnInferInvariantRow.holds Tryz.pinned (OpenSpec.ofChange fnInferInvariantWrong)

/-- 'laws.FnFulfillsRefines': WHATEVER THE INPUT: true; the input reads as it did. -/
def fnFulfillsRefinesSpec : ChangeSpec := { name := "fnFulfillsRefines", fn := fun _ => fun
  | [d1, d2] => { results := [.lit (.bool true)], args := [d1, d2] }
  | _ => none }
def fnFulfillsRefinesRow : OpenClaim := { program := "ytkbbmjcfgcfejaagreat", sum := "589ceccc634211aad6269dba7a84356d74f602712f5512653304b99977dc0cc2", func := "loop.example/separation/laws.FnFulfillsRefines", spec := "fnFulfillsRefines", unfollowed := true, recurses := true, plainKeys := false, apart := false }
def FnFulfillsRefinesSaid : Prop := fnFulfillsRefinesRow.holds Tryz.pinned (OpenSpec.ofChange fnFulfillsRefinesSpec)

/-- ITS FALSE NEIGHBOUR: 'it returns false'. Refute it at one input. -/
def fnFulfillsRefinesWrong : ChangeSpec := { name := "fnFulfillsRefines", fn := fun _ => fun
  | [d1, d2] => { results := [.lit (.bool false)], args := [d1, d2] }
  | _ => none }
def FnFulfillsRefinesWrongFalsely : Prop := fnFulfillsRefinesRow.holds Tryz.pinned (OpenSpec.ofChange fnFulfillsRefinesWrong)

/-- 'laws.FnInferProgram': WHATEVER THE INPUT: true; the input reads as it did. -/
def fnInferProgramSpec : ChangeSpec := { name := "fnInferProgram", fn := fun _ => fun
  | [d] => { results := [.lit (.bool true)], args := [d] }
  | _ => none }
def fnInferProgramRow : OpenClaim := { program := "ytkbbmjcfgcfejaagreat", sum := "589ceccc634211aad6269dba7a84356d74f602712f5512653304b99977dc0cc2", func := "loop.example/separation/laws.FnInferProgram", spec := "fnInferProgram", unfollowed := true, recurses := true, plainKeys := false, apart := false }
def FnInferProgramSaid : Prop := fnInferProgramRow.holds Tryz.pinned (OpenSpec.ofChange fnInferProgramSpec)

/-- ITS FALSE NEIGHBOUR: 'it returns false'. Refute it at one input. -/
def fnInferProgramWrong : ChangeSpec := { name := "fnInferProgram", fn := fun _ => fun
  | [d] => { results := [.lit (.bool false)], args := [d] }
  | _ => none }
def FnInferProgramWrongFalsely : Prop := fnInferProgramRow.holds Tryz.pinned (OpenSpec.ofChange fnInferProgramWrong)

/- THE SECOND FORM. 'bulk': how many values and letters a reading holds, each counted each time it is reached (what is shared counts as often as it is met; a slice's spare places count too). A statement '..UptoSaid' is the law's where the arguments, and the package variables that the reading takes, are together of bulk at most 1048576: NARROWER than '..Said'. Prove '..Said' where nothing that the law and all that it calls make is longer than what came in: it says more and counts as full. Else prove '..UptoSaid'. A law counts once. -/
mutual
def uptoBulk {H : Type} : DataW H → Nat
  | .lit (.string bytes) => bytes.length + 1
  | .lit _ => 1
  | .nil => 1
  | .ptr d => uptoBulk d + 1
  | .slice elems spare => uptoBulkAll elems + uptoBulkAll spare + 1
  | .agg parts => uptoBulkAll parts + 1
  | .iface _ d => uptoBulk d + 1
  | .map entries => uptoBulkEntries entries + 1
  | .held _ => 1
def uptoBulkAll {H : Type} : List (DataW H) → Nat
  | [] => 0
  | d :: r => uptoBulk d + uptoBulkAll r
def uptoBulkEntries {H : Type} : List (Lit × DataW H) → Nat
  | [] => 0
  | x :: r => uptoBulkEntry x + uptoBulkEntries r
def uptoBulkEntry {H : Type} : Lit × DataW H → Nat
  | (.string bytes, d) => bytes.length + uptoBulk d + 1
  | (_, d) => uptoBulk d + 1
 end
def uptoSmall : (H : Type) → List (DataW H) → Bool := fun _ ds => decide (uptoBulkAll ds ≤ 1048576)
def OpenSpec.upto (s : _root_.Go.ChangeSpec) : _root_.Go.OpenSpec := { _root_.Go.OpenSpec.ofChange s with cond := some uptoSmall }

/-- 'laws.FnCallFrame', WHERE WHAT IT READS IS OF BULK AT MOST 1048576: true; the input reads as it did. -/
def fnCallFrameUptoRow : OpenClaim := { program := "ytkbbmjcfgcfejaagreat", sum := "589ceccc634211aad6269dba7a84356d74f602712f5512653304b99977dc0cc2", func := "loop.example/separation/laws.FnCallFrame", spec := "fnCallFrame", unfollowed := true, recurses := true, plainKeys := false, apart := false, narrowed := true }
def FnCallFrameUptoSaid : Prop := fnCallFrameUptoRow.holds Tryz.pinned (OpenSpec.upto fnCallFrameSpec)

/-- 'laws.FnExactFulfills', WHERE WHAT IT READS IS OF BULK AT MOST 1048576: true; the input reads as it did. -/
def fnExactFulfillsUptoRow : OpenClaim := { program := "ytkbbmjcfgcfejaagreat", sum := "589ceccc634211aad6269dba7a84356d74f602712f5512653304b99977dc0cc2", func := "loop.example/separation/laws.FnExactFulfills", spec := "fnExactFulfills", unfollowed := true, recurses := true, loops := true, plainKeys := false, apart := false, narrowed := true }
def FnExactFulfillsUptoSaid : Prop := fnExactFulfillsUptoRow.holds Tryz.pinned (OpenSpec.upto fnExactFulfillsSpec)

/-- 'laws.FnExactInferInvariant', WHERE WHAT IT READS IS OF BULK AT MOST 1048576: true; the input reads as it did. -/
def fnExactInferInvariantUptoRow : OpenClaim := { program := "ytkbbmjcfgcfejaagreat", sum := "589ceccc634211aad6269dba7a84356d74f602712f5512653304b99977dc0cc2", func := "loop.example/separation/laws.FnExactInferInvariant", spec := "fnExactInferInvariant", unfollowed := true, recurses := true, loops := true, plainKeys := false, apart := false, narrowed := true }
def FnExactInferInvariantUptoSaid : Prop := fnExactInferInvariantUptoRow.holds Tryz.pinned (OpenSpec.upto fnExactInferInvariantSpec)

/-- 'laws.FnCallPost', WHERE WHAT IT READS IS OF BULK AT MOST 1048576: true; the input reads as it did. -/
def fnCallPostUptoRow : OpenClaim := { program := "ytkbbmjcfgcfejaagreat", sum := "589ceccc634211aad6269dba7a84356d74f602712f5512653304b99977dc0cc2", func := "loop.example/separation/laws.FnCallPost", spec := "fnCallPost", unfollowed := true, recurses := true, plainKeys := false, apart := false, narrowed := true }
def FnCallPostUptoSaid : Prop := fnCallPostUptoRow.holds Tryz.pinned (OpenSpec.upto fnCallPostSpec)

/-- 'laws.FnExactInferProgram', WHERE WHAT IT READS IS OF BULK AT MOST 1048576: true; the input reads as it did. -/
def fnExactInferProgramUptoRow : OpenClaim := { program := "ytkbbmjcfgcfejaagreat", sum := "589ceccc634211aad6269dba7a84356d74f602712f5512653304b99977dc0cc2", func := "loop.example/separation/laws.FnExactInferProgram", spec := "fnExactInferProgram", unfollowed := true, recurses := true, loops := true, plainKeys := false, apart := false, narrowed := true }
def FnExactInferProgramUptoSaid : Prop := fnExactInferProgramUptoRow.holds Tryz.pinned (OpenSpec.upto fnExactInferProgramSpec)

/-- 'laws.FnFulfills', WHERE WHAT IT READS IS OF BULK AT MOST 1048576: true; the input reads as it did. -/
def fnFulfillsUptoRow : OpenClaim := { program := "ytkbbmjcfgcfejaagreat", sum := "589ceccc634211aad6269dba7a84356d74f602712f5512653304b99977dc0cc2", func := "loop.example/separation/laws.FnFulfills", spec := "fnFulfills", unfollowed := true, recurses := true, plainKeys := false, apart := false, narrowed := true }
def FnFulfillsUptoSaid : Prop := fnFulfillsUptoRow.holds Tryz.pinned (OpenSpec.upto fnFulfillsSpec)

/-- 'laws.FnInferInvariant', WHERE WHAT IT READS IS OF BULK AT MOST 1048576: true; the input reads as it did. -/
def fnInferInvariantUptoRow : OpenClaim := { program := "ytkbbmjcfgcfejaagreat", sum := "589ceccc634211aad6269dba7a84356d74f602712f5512653304b99977dc0cc2", func := "loop.example/separation/laws.FnInferInvariant", spec := "fnInferInvariant", unfollowed := true, recurses := true, plainKeys := false, apart := false, narrowed := true }
def FnInferInvariantUptoSaid : Prop := fnInferInvariantUptoRow.holds Tryz.pinned (OpenSpec.upto fnInferInvariantSpec)

/-- 'laws.FnFulfillsRefines', WHERE WHAT IT READS IS OF BULK AT MOST 1048576: true; the input reads as it did. -/
def fnFulfillsRefinesUptoRow : OpenClaim := { program := "ytkbbmjcfgcfejaagreat", sum := "589ceccc634211aad6269dba7a84356d74f602712f5512653304b99977dc0cc2", func := "loop.example/separation/laws.FnFulfillsRefines", spec := "fnFulfillsRefines", unfollowed := true, recurses := true, plainKeys := false, apart := false, narrowed := true }
def FnFulfillsRefinesUptoSaid : Prop := fnFulfillsRefinesUptoRow.holds Tryz.pinned (OpenSpec.upto fnFulfillsRefinesSpec)

/-- 'laws.FnInferProgram', WHERE WHAT IT READS IS OF BULK AT MOST 1048576: true; the input reads as it did. -/
def fnInferProgramUptoRow : OpenClaim := { program := "ytkbbmjcfgcfejaagreat", sum := "589ceccc634211aad6269dba7a84356d74f602712f5512653304b99977dc0cc2", func := "loop.example/separation/laws.FnInferProgram", spec := "fnInferProgram", unfollowed := true, recurses := true, plainKeys := false, apart := false, narrowed := true }
def FnInferProgramUptoSaid : Prop := fnInferProgramUptoRow.holds Tryz.pinned (OpenSpec.upto fnInferProgramSpec)

end Rows
end Go.Proofs.YtkbbmjcfgcfejaaGreat
