/-
  NARROWER THAN 'FOR EVERY INPUT', by the rows' own cells (each row's printed sentence says how): CheckConst: loops · FoldKnown: loops.
  DERIVED. THE GIVEN ROWS OF THIS SEAT. 3 by the template 'for every input the law returns true; each argument reads behind the call as it read before'; 0 by the template 'total and deterministic' (their statements: YtkmcniaaecijdaaTotals.lean).
  GIVEN WITH THE SEED: the statements are not yours to turn. If you find one false, say at which input.
  Laid BY PROGRAM, IN A SANDBOX (cutbox-rows.mjs): the forced cells as the released guide's own fill.sh prints them over the translation b83ccfda39cc8530… (all of the seat's roots in one cut). By AI agents, Wed Nov 11 2026. No macro, syntax, notation, axiom, sorry.
-/
import Derived.Test.YtkmcniaaecijdaaChecked
import GoSem.Claim
import GoSem.ClaimJoined
import GoSem.ClaimMapViews
import Derived.JoinedTies
import Derived.KernelRfl
namespace Go.Proofs.Ytkmcniaaecijdaa
/- THE CELL 'sum', in the pinned program and in every row, IS THE sha256 OF THE DUMP (.gsa) THAT YtkmcniaaecijdaaProg.lean LOADS. Nothing in Lean hashes anything: it is a label: what it is worth is what the hold of that sum in a sandbox is worth. -/
noncomputable def Try.pinned : Pinned := { name := "ytkmcniaaecijdaa", sum := "b83ccfda39cc8530e6aafc089f161fd1c4f4ca1f4bd6c8f4d19508e7d9efa0b8", checked := Try.checked }
namespace Rows
def none {H : Type} : Left H := { results := [], args := [] }

/-- 'pairlegallaw8.SourceCuts': WHATEVER THE INPUT: true; the input reads as it did. -/
def sourceCutsSpec : ChangeSpec := { name := "sourceCuts", fn := fun _ => fun
  | [d] => { results := [.lit (.bool true)], args := [d] }
  | _ => none }
def sourceCutsRow : OpenClaim := { program := "ytkmcniaaecijdaa", sum := "b83ccfda39cc8530e6aafc089f161fd1c4f4ca1f4bd6c8f4d19508e7d9efa0b8", func := "pairlegal/pairlegallaw8.SourceCuts", spec := "sourceCuts", inPlace := ["internal/bytealg.IndexByteString"], apart := false }
def SourceCutsSaid : Prop := sourceCutsRow.holds Try.pinned (OpenSpec.ofChange sourceCutsSpec)

/-- ITS FALSE NEIGHBOUR: 'it returns false'. Refute it at one input. -/
def sourceCutsWrong : ChangeSpec := { name := "sourceCuts", fn := fun _ => fun
  | [d] => { results := [.lit (.bool false)], args := [d] }
  | _ => none }
def SourceCutsWrongFalsely : Prop := sourceCutsRow.holds Try.pinned (OpenSpec.ofChange sourceCutsWrong)

/-- 'pairlegallaw9.CheckConst': WHATEVER THE INPUT: true; the input reads as it did. -/
def checkConstSpec : ChangeSpec := { name := "checkConst", fn := fun _ => fun
  | [d] => { results := [.lit (.bool true)], args := [d] }
  | _ => none }
def checkConstRow : OpenClaim := { program := "ytkmcniaaecijdaa", sum := "b83ccfda39cc8530e6aafc089f161fd1c4f4ca1f4bd6c8f4d19508e7d9efa0b8", func := "pairlegal/pairlegallaw9.CheckConst", spec := "checkConst", unfollowed := true, recurses := true, loops := true, apart := false }
def CheckConstSaid : Prop := checkConstRow.holds Try.pinned (OpenSpec.ofChange checkConstSpec)

/-- ITS FALSE NEIGHBOUR: 'it returns false'. Refute it at one input. -/
def checkConstWrong : ChangeSpec := { name := "checkConst", fn := fun _ => fun
  | [d] => { results := [.lit (.bool false)], args := [d] }
  | _ => none }
def CheckConstWrongFalsely : Prop := checkConstRow.holds Try.pinned (OpenSpec.ofChange checkConstWrong)

/-- 'pairlegallaw10.FoldKnown': WHATEVER THE INPUT: true; the input reads as it did. -/
def foldKnownSpec : ChangeSpec := { name := "foldKnown", fn := fun _ => fun
  | [d] => { results := [.lit (.bool true)], args := [d] }
  | _ => none }
def foldKnownRow : OpenClaim := { program := "ytkmcniaaecijdaa", sum := "b83ccfda39cc8530e6aafc089f161fd1c4f4ca1f4bd6c8f4d19508e7d9efa0b8", func := "pairlegal/pairlegallaw10.FoldKnown", spec := "foldKnown", unfollowed := true, recurses := true, loops := true, apart := false }
def FoldKnownSaid : Prop := foldKnownRow.holds Try.pinned (OpenSpec.ofChange foldKnownSpec)

/-- ITS FALSE NEIGHBOUR: 'it returns false'. Refute it at one input. -/
def foldKnownWrong : ChangeSpec := { name := "foldKnown", fn := fun _ => fun
  | [d] => { results := [.lit (.bool false)], args := [d] }
  | _ => none }
def FoldKnownWrongFalsely : Prop := foldKnownRow.holds Try.pinned (OpenSpec.ofChange foldKnownWrong)

/- THE SECOND FORM. 'bulk': how many values and letters a reading holds, each counted each time it is reached (what is shared counts as often as it is met; a slice's spare places count too). A statement '..UptoSaid' is the law's where the arguments, and the package variables that the reading takes, are together of bulk at most 1048576: NARROWER than '..Said'. Prove '..Said' where nothing that the law and all that it calls make is longer than what came in: it says more and counts as full. Else prove '..UptoSaid'. A law counts once. -/
mutual
def uptoBulk {H : Type} : DataW H → Nat
  | .lit (.string bytes) => bytes.length + 1
  | .lit _ => 1
  | .nil => 1
  | .ptr d => uptoBulk d + 1
  | .slice elems spare => uptoBulkAll elems + uptoBulkAll spare + 1
  | .agg parts => uptoBulkAll parts + 1
  | .iface _ d => uptoBulk d + 1
  | .map entries => uptoBulkEntries entries + 1
  | .held _ => 1
def uptoBulkAll {H : Type} : List (DataW H) → Nat
  | [] => 0
  | d :: r => uptoBulk d + uptoBulkAll r
def uptoBulkEntries {H : Type} : List (Lit × DataW H) → Nat
  | [] => 0
  | x :: r => uptoBulkEntry x + uptoBulkEntries r
def uptoBulkEntry {H : Type} : Lit × DataW H → Nat
  | (.string bytes, d) => bytes.length + uptoBulk d + 1
  | (_, d) => uptoBulk d + 1
 end
def uptoSmall : (H : Type) → List (DataW H) → Bool := fun _ ds => decide (uptoBulkAll ds ≤ 1048576)
def OpenSpec.upto (s : _root_.Go.ChangeSpec) : _root_.Go.OpenSpec := { _root_.Go.OpenSpec.ofChange s with cond := some uptoSmall }

/-- 'pairlegallaw8.SourceCuts', WHERE WHAT IT READS IS OF BULK AT MOST 1048576: true; the input reads as it did. -/
def sourceCutsUptoRow : OpenClaim := { program := "ytkmcniaaecijdaa", sum := "b83ccfda39cc8530e6aafc089f161fd1c4f4ca1f4bd6c8f4d19508e7d9efa0b8", func := "pairlegal/pairlegallaw8.SourceCuts", spec := "sourceCuts", inPlace := ["internal/bytealg.IndexByteString"], apart := false, narrowed := true }
def SourceCutsUptoSaid : Prop := sourceCutsUptoRow.holds Try.pinned (OpenSpec.upto sourceCutsSpec)

/-- 'pairlegallaw9.CheckConst', WHERE WHAT IT READS IS OF BULK AT MOST 1048576: true; the input reads as it did. -/
def checkConstUptoRow : OpenClaim := { program := "ytkmcniaaecijdaa", sum := "b83ccfda39cc8530e6aafc089f161fd1c4f4ca1f4bd6c8f4d19508e7d9efa0b8", func := "pairlegal/pairlegallaw9.CheckConst", spec := "checkConst", unfollowed := true, recurses := true, loops := true, apart := false, narrowed := true }
def CheckConstUptoSaid : Prop := checkConstUptoRow.holds Try.pinned (OpenSpec.upto checkConstSpec)

/-- 'pairlegallaw10.FoldKnown', WHERE WHAT IT READS IS OF BULK AT MOST 1048576: true; the input reads as it did. -/
def foldKnownUptoRow : OpenClaim := { program := "ytkmcniaaecijdaa", sum := "b83ccfda39cc8530e6aafc089f161fd1c4f4ca1f4bd6c8f4d19508e7d9efa0b8", func := "pairlegal/pairlegallaw10.FoldKnown", spec := "foldKnown", unfollowed := true, recurses := true, loops := true, apart := false, narrowed := true }
def FoldKnownUptoSaid : Prop := foldKnownUptoRow.holds Try.pinned (OpenSpec.upto foldKnownSpec)

end Rows
end Go.Proofs.Ytkmcniaaecijdaa
