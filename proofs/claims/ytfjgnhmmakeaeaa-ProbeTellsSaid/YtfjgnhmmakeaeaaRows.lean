/-
  No cell of these rows narrows 'for every input' (looked for: loops, veiled, ifaces, maps, wideKeys, modest, calm, conditions, laid).
  DERIVED. THE GIVEN ROWS OF THIS SEAT. 12 by the template 'for every input the law returns true; each argument reads behind the call as it read before'; 0 by the template 'total and deterministic' (their statements: YtfjgnhmmakeaeaaTotals.lean).
  GIVEN WITH THE SEED: the statements are not yours to turn. If you find one false, say at which input.
  Laid BY PROGRAM, IN A SANDBOX (cutbox-rows.mjs): the forced cells as the released guide's own fill.sh prints them over the translation 5b40598e433252f0… (all of the seat's roots in one cut). By AI agents, Wed Nov 11 2026. No macro, syntax, notation, axiom, sorry.
-/
import Derived.Test.YtfjgnhmmakeaeaaChecked
import GoSem.Claim
import GoSem.ClaimJoined
import GoSem.ClaimMapViews
import Derived.JoinedTies
import Derived.KernelRfl
namespace Go.Proofs.Ytfjgnhmmakeaeaa
/- THE CELL 'sum', in the pinned program and in every row, IS THE sha256 OF THE DUMP (.gsa) THAT YtfjgnhmmakeaeaaProg.lean LOADS. Nothing in Lean hashes anything: it is a label: what it is worth is what the hold of that sum in a sandbox is worth. -/
noncomputable def Try.pinned : Pinned := { name := "ytfjgnhmmakeaeaa", sum := "5b40598e433252f0aa4403643af19e096225e6354d2fd120b599c0199468b7e1", checked := Try.checked }
namespace Rows
def none {H : Type} : Left H := { results := [], args := [] }

/-- 'pairlegallaw3.EmuRuns': WHATEVER THE INPUT: true; the input reads as it did. -/
def emuRunsSpec : ChangeSpec := { name := "emuRuns", fn := fun _ => fun
  | [d1, d2, d3, d4] => { results := [.lit (.bool true)], args := [d1, d2, d3, d4] }
  | _ => none }
def emuRunsRow : OpenClaim := { program := "ytfjgnhmmakeaeaa", sum := "5b40598e433252f0aa4403643af19e096225e6354d2fd120b599c0199468b7e1", func := "pairlegal/pairlegallaw3.EmuRuns", spec := "emuRuns", unfollowed := true, recurses := true, apart := false }
def EmuRunsSaid : Prop := emuRunsRow.holds Try.pinned (OpenSpec.ofChange emuRunsSpec)

/-- ITS FALSE NEIGHBOUR: 'it returns false'. Refute it at one input. -/
def emuRunsWrong : ChangeSpec := { name := "emuRuns", fn := fun _ => fun
  | [d1, d2, d3, d4] => { results := [.lit (.bool false)], args := [d1, d2, d3, d4] }
  | _ => none }
def EmuRunsWrongFalsely : Prop := emuRunsRow.holds Try.pinned (OpenSpec.ofChange emuRunsWrong)

/-- 'pairlegallaw3.EmuLonger': WHATEVER THE INPUT: true; the input reads as it did. -/
def emuLongerSpec : ChangeSpec := { name := "emuLonger", fn := fun _ => fun
  | [d1, d2, d3, d4, d5] => { results := [.lit (.bool true)], args := [d1, d2, d3, d4, d5] }
  | _ => none }
def emuLongerRow : OpenClaim := { program := "ytfjgnhmmakeaeaa", sum := "5b40598e433252f0aa4403643af19e096225e6354d2fd120b599c0199468b7e1", func := "pairlegal/pairlegallaw3.EmuLonger", spec := "emuLonger", unfollowed := true, recurses := true, apart := false }
def EmuLongerSaid : Prop := emuLongerRow.holds Try.pinned (OpenSpec.ofChange emuLongerSpec)

/-- ITS FALSE NEIGHBOUR: 'it returns false'. Refute it at one input. -/
def emuLongerWrong : ChangeSpec := { name := "emuLonger", fn := fun _ => fun
  | [d1, d2, d3, d4, d5] => { results := [.lit (.bool false)], args := [d1, d2, d3, d4, d5] }
  | _ => none }
def EmuLongerWrongFalsely : Prop := emuLongerRow.holds Try.pinned (OpenSpec.ofChange emuLongerWrong)

/-- 'pairlegallaw3.EmuSplit': WHATEVER THE INPUT: true; the input reads as it did. -/
def emuSplitSpec : ChangeSpec := { name := "emuSplit", fn := fun _ => fun
  | [d1, d2, d3, d4, d5] => { results := [.lit (.bool true)], args := [d1, d2, d3, d4, d5] }
  | _ => none }
def emuSplitRow : OpenClaim := { program := "ytfjgnhmmakeaeaa", sum := "5b40598e433252f0aa4403643af19e096225e6354d2fd120b599c0199468b7e1", func := "pairlegal/pairlegallaw3.EmuSplit", spec := "emuSplit", unfollowed := true, recurses := true, apart := false }
def EmuSplitSaid : Prop := emuSplitRow.holds Try.pinned (OpenSpec.ofChange emuSplitSpec)

/-- ITS FALSE NEIGHBOUR: 'it returns false'. Refute it at one input. -/
def emuSplitWrong : ChangeSpec := { name := "emuSplit", fn := fun _ => fun
  | [d1, d2, d3, d4, d5] => { results := [.lit (.bool false)], args := [d1, d2, d3, d4, d5] }
  | _ => none }
def EmuSplitWrongFalsely : Prop := emuSplitRow.holds Try.pinned (OpenSpec.ofChange emuSplitWrong)

/-- 'pairlegallaw3.EmuStack': WHATEVER THE INPUT: true; the input reads as it did. -/
def emuStackSpec : ChangeSpec := { name := "emuStack", fn := fun _ => fun
  | [d1, d2] => { results := [.lit (.bool true)], args := [d1, d2] }
  | _ => none }
def emuStackRow : OpenClaim := { program := "ytfjgnhmmakeaeaa", sum := "5b40598e433252f0aa4403643af19e096225e6354d2fd120b599c0199468b7e1", func := "pairlegal/pairlegallaw3.EmuStack", spec := "emuStack", unfollowed := true, recurses := true, apart := false }
def EmuStackSaid : Prop := emuStackRow.holds Try.pinned (OpenSpec.ofChange emuStackSpec)

/-- ITS FALSE NEIGHBOUR: 'it returns false'. Refute it at one input. -/
def emuStackWrong : ChangeSpec := { name := "emuStack", fn := fun _ => fun
  | [d1, d2] => { results := [.lit (.bool false)], args := [d1, d2] }
  | _ => none }
def EmuStackWrongFalsely : Prop := emuStackRow.holds Try.pinned (OpenSpec.ofChange emuStackWrong)

/-- 'pairlegallaw3.EmuMemory': WHATEVER THE INPUT: true; the input reads as it did. -/
def emuMemorySpec : ChangeSpec := { name := "emuMemory", fn := fun _ => fun
  | [d1, d2, d3, d4, d5] => { results := [.lit (.bool true)], args := [d1, d2, d3, d4, d5] }
  | _ => none }
def emuMemoryRow : OpenClaim := { program := "ytfjgnhmmakeaeaa", sum := "5b40598e433252f0aa4403643af19e096225e6354d2fd120b599c0199468b7e1", func := "pairlegal/pairlegallaw3.EmuMemory", spec := "emuMemory", unfollowed := true, recurses := true, apart := false }
def EmuMemorySaid : Prop := emuMemoryRow.holds Try.pinned (OpenSpec.ofChange emuMemorySpec)

/-- ITS FALSE NEIGHBOUR: 'it returns false'. Refute it at one input. -/
def emuMemoryWrong : ChangeSpec := { name := "emuMemory", fn := fun _ => fun
  | [d1, d2, d3, d4, d5] => { results := [.lit (.bool false)], args := [d1, d2, d3, d4, d5] }
  | _ => none }
def EmuMemoryWrongFalsely : Prop := emuMemoryRow.holds Try.pinned (OpenSpec.ofChange emuMemoryWrong)

/-- 'pairlegallaw3.EmuTells': WHATEVER THE INPUT: true; the input reads as it did. -/
def emuTellsSpec : ChangeSpec := { name := "emuTells", fn := fun _ => fun
  | [d] => { results := [.lit (.bool true)], args := [d] }
  | _ => none }
def emuTellsRow : OpenClaim := { program := "ytfjgnhmmakeaeaa", sum := "5b40598e433252f0aa4403643af19e096225e6354d2fd120b599c0199468b7e1", func := "pairlegal/pairlegallaw3.EmuTells", spec := "emuTells", unfollowed := true, recurses := true, apart := false }
def EmuTellsSaid : Prop := emuTellsRow.holds Try.pinned (OpenSpec.ofChange emuTellsSpec)

/-- ITS FALSE NEIGHBOUR: 'it returns false'. Refute it at one input. -/
def emuTellsWrong : ChangeSpec := { name := "emuTells", fn := fun _ => fun
  | [d] => { results := [.lit (.bool false)], args := [d] }
  | _ => none }
def EmuTellsWrongFalsely : Prop := emuTellsRow.holds Try.pinned (OpenSpec.ofChange emuTellsWrong)

/-- 'pairlegallaw3.EmuShifts': WHATEVER THE INPUT: true; the input reads as it did. -/
def emuShiftsSpec : ChangeSpec := { name := "emuShifts", fn := fun _ => fun
  | [d1, d2, d3] => { results := [.lit (.bool true)], args := [d1, d2, d3] }
  | _ => none }
def emuShiftsRow : OpenClaim := { program := "ytfjgnhmmakeaeaa", sum := "5b40598e433252f0aa4403643af19e096225e6354d2fd120b599c0199468b7e1", func := "pairlegal/pairlegallaw3.EmuShifts", spec := "emuShifts", unfollowed := true, recurses := true, apart := false }
def EmuShiftsSaid : Prop := emuShiftsRow.holds Try.pinned (OpenSpec.ofChange emuShiftsSpec)

/-- ITS FALSE NEIGHBOUR: 'it returns false'. Refute it at one input. -/
def emuShiftsWrong : ChangeSpec := { name := "emuShifts", fn := fun _ => fun
  | [d1, d2, d3] => { results := [.lit (.bool false)], args := [d1, d2, d3] }
  | _ => none }
def EmuShiftsWrongFalsely : Prop := emuShiftsRow.holds Try.pinned (OpenSpec.ofChange emuShiftsWrong)

/-- 'pairlegallaw3.EmuCarries': WHATEVER THE INPUT: true; the input reads as it did. -/
def emuCarriesSpec : ChangeSpec := { name := "emuCarries", fn := fun _ => fun
  | [d1, d2, d3] => { results := [.lit (.bool true)], args := [d1, d2, d3] }
  | _ => none }
def emuCarriesRow : OpenClaim := { program := "ytfjgnhmmakeaeaa", sum := "5b40598e433252f0aa4403643af19e096225e6354d2fd120b599c0199468b7e1", func := "pairlegal/pairlegallaw3.EmuCarries", spec := "emuCarries", unfollowed := true, recurses := true, apart := false }
def EmuCarriesSaid : Prop := emuCarriesRow.holds Try.pinned (OpenSpec.ofChange emuCarriesSpec)

/-- ITS FALSE NEIGHBOUR: 'it returns false'. Refute it at one input. -/
def emuCarriesWrong : ChangeSpec := { name := "emuCarries", fn := fun _ => fun
  | [d1, d2, d3] => { results := [.lit (.bool false)], args := [d1, d2, d3] }
  | _ => none }
def EmuCarriesWrongFalsely : Prop := emuCarriesRow.holds Try.pinned (OpenSpec.ofChange emuCarriesWrong)

/-- 'pairlegallaw16.ProbeTells': WHATEVER THE INPUT: true; the input reads as it did. -/
def probeTellsSpec : ChangeSpec := { name := "probeTells", fn := fun _ => fun
  | [d1, d2, d3, d4, d5, d6] => { results := [.lit (.bool true)], args := [d1, d2, d3, d4, d5, d6] }
  | _ => none }
def probeTellsRow : OpenClaim := { program := "ytfjgnhmmakeaeaa", sum := "5b40598e433252f0aa4403643af19e096225e6354d2fd120b599c0199468b7e1", func := "pairlegal/pairlegallaw16.ProbeTells", spec := "probeTells", unfollowed := true, recurses := true, apart := false }
def ProbeTellsSaid : Prop := probeTellsRow.holds Try.pinned (OpenSpec.ofChange probeTellsSpec)

/-- ITS FALSE NEIGHBOUR: 'it returns false'. Refute it at one input. -/
def probeTellsWrong : ChangeSpec := { name := "probeTells", fn := fun _ => fun
  | [d1, d2, d3, d4, d5, d6] => { results := [.lit (.bool false)], args := [d1, d2, d3, d4, d5, d6] }
  | _ => none }
def ProbeTellsWrongFalsely : Prop := probeTellsRow.holds Try.pinned (OpenSpec.ofChange probeTellsWrong)

/-- 'pairlegallaw16.ProbeLooks': WHATEVER THE INPUT: true; the input reads as it did. -/
def probeLooksSpec : ChangeSpec := { name := "probeLooks", fn := fun _ => fun
  | [d1, d2, d3, d4, d5] => { results := [.lit (.bool true)], args := [d1, d2, d3, d4, d5] }
  | _ => none }
def probeLooksRow : OpenClaim := { program := "ytfjgnhmmakeaeaa", sum := "5b40598e433252f0aa4403643af19e096225e6354d2fd120b599c0199468b7e1", func := "pairlegal/pairlegallaw16.ProbeLooks", spec := "probeLooks", unfollowed := true, recurses := true, apart := false }
def ProbeLooksSaid : Prop := probeLooksRow.holds Try.pinned (OpenSpec.ofChange probeLooksSpec)

/-- ITS FALSE NEIGHBOUR: 'it returns false'. Refute it at one input. -/
def probeLooksWrong : ChangeSpec := { name := "probeLooks", fn := fun _ => fun
  | [d1, d2, d3, d4, d5] => { results := [.lit (.bool false)], args := [d1, d2, d3, d4, d5] }
  | _ => none }
def ProbeLooksWrongFalsely : Prop := probeLooksRow.holds Try.pinned (OpenSpec.ofChange probeLooksWrong)

/-- 'pairlegallaw16.ProbeCounts': WHATEVER THE INPUT: true; the input reads as it did. -/
def probeCountsSpec : ChangeSpec := { name := "probeCounts", fn := fun _ => fun
  | [d1, d2, d3, d4] => { results := [.lit (.bool true)], args := [d1, d2, d3, d4] }
  | _ => none }
def probeCountsRow : OpenClaim := { program := "ytfjgnhmmakeaeaa", sum := "5b40598e433252f0aa4403643af19e096225e6354d2fd120b599c0199468b7e1", func := "pairlegal/pairlegallaw16.ProbeCounts", spec := "probeCounts", unfollowed := true, recurses := true, apart := false }
def ProbeCountsSaid : Prop := probeCountsRow.holds Try.pinned (OpenSpec.ofChange probeCountsSpec)

/-- ITS FALSE NEIGHBOUR: 'it returns false'. Refute it at one input. -/
def probeCountsWrong : ChangeSpec := { name := "probeCounts", fn := fun _ => fun
  | [d1, d2, d3, d4] => { results := [.lit (.bool false)], args := [d1, d2, d3, d4] }
  | _ => none }
def ProbeCountsWrongFalsely : Prop := probeCountsRow.holds Try.pinned (OpenSpec.ofChange probeCountsWrong)

/-- 'pairlegallaw16.ProbeGoesOn': WHATEVER THE INPUT: true; the input reads as it did. -/
def probeGoesOnSpec : ChangeSpec := { name := "probeGoesOn", fn := fun _ => fun
  | [d1, d2, d3, d4, d5] => { results := [.lit (.bool true)], args := [d1, d2, d3, d4, d5] }
  | _ => none }
def probeGoesOnRow : OpenClaim := { program := "ytfjgnhmmakeaeaa", sum := "5b40598e433252f0aa4403643af19e096225e6354d2fd120b599c0199468b7e1", func := "pairlegal/pairlegallaw16.ProbeGoesOn", spec := "probeGoesOn", unfollowed := true, recurses := true, apart := false }
def ProbeGoesOnSaid : Prop := probeGoesOnRow.holds Try.pinned (OpenSpec.ofChange probeGoesOnSpec)

/-- ITS FALSE NEIGHBOUR: 'it returns false'. Refute it at one input. -/
def probeGoesOnWrong : ChangeSpec := { name := "probeGoesOn", fn := fun _ => fun
  | [d1, d2, d3, d4, d5] => { results := [.lit (.bool false)], args := [d1, d2, d3, d4, d5] }
  | _ => none }
def ProbeGoesOnWrongFalsely : Prop := probeGoesOnRow.holds Try.pinned (OpenSpec.ofChange probeGoesOnWrong)

/- THE SECOND FORM. 'bulk': how many values and letters a reading holds, each counted each time it is reached (what is shared counts as often as it is met; a slice's spare places count too). A statement '..UptoSaid' is the law's where the arguments, and the package variables that the reading takes, are together of bulk at most 1048576: NARROWER than '..Said'. Prove '..Said' where nothing that the law and all that it calls make is longer than what came in: it says more and counts as full. Else prove '..UptoSaid'. A law counts once. -/
mutual
def uptoBulk {H : Type} : DataW H → Nat
  | .lit (.string bytes) => bytes.length + 1
  | .lit _ => 1
  | .nil => 1
  | .ptr d => uptoBulk d + 1
  | .slice elems spare => uptoBulkAll elems + uptoBulkAll spare + 1
  | .agg parts => uptoBulkAll parts + 1
  | .iface _ d => uptoBulk d + 1
  | .map entries => uptoBulkEntries entries + 1
  | .held _ => 1
def uptoBulkAll {H : Type} : List (DataW H) → Nat
  | [] => 0
  | d :: r => uptoBulk d + uptoBulkAll r
def uptoBulkEntries {H : Type} : List (Lit × DataW H) → Nat
  | [] => 0
  | x :: r => uptoBulkEntry x + uptoBulkEntries r
def uptoBulkEntry {H : Type} : Lit × DataW H → Nat
  | (.string bytes, d) => bytes.length + uptoBulk d + 1
  | (_, d) => uptoBulk d + 1
 end
def uptoSmall : (H : Type) → List (DataW H) → Bool := fun _ ds => decide (uptoBulkAll ds ≤ 1048576)
def OpenSpec.upto (s : _root_.Go.ChangeSpec) : _root_.Go.OpenSpec := { _root_.Go.OpenSpec.ofChange s with cond := some uptoSmall }

/-- 'pairlegallaw3.EmuRuns', WHERE WHAT IT READS IS OF BULK AT MOST 1048576: true; the input reads as it did. -/
def emuRunsUptoRow : OpenClaim := { program := "ytfjgnhmmakeaeaa", sum := "5b40598e433252f0aa4403643af19e096225e6354d2fd120b599c0199468b7e1", func := "pairlegal/pairlegallaw3.EmuRuns", spec := "emuRuns", unfollowed := true, recurses := true, apart := false, narrowed := true }
def EmuRunsUptoSaid : Prop := emuRunsUptoRow.holds Try.pinned (OpenSpec.upto emuRunsSpec)

/-- 'pairlegallaw3.EmuLonger', WHERE WHAT IT READS IS OF BULK AT MOST 1048576: true; the input reads as it did. -/
def emuLongerUptoRow : OpenClaim := { program := "ytfjgnhmmakeaeaa", sum := "5b40598e433252f0aa4403643af19e096225e6354d2fd120b599c0199468b7e1", func := "pairlegal/pairlegallaw3.EmuLonger", spec := "emuLonger", unfollowed := true, recurses := true, apart := false, narrowed := true }
def EmuLongerUptoSaid : Prop := emuLongerUptoRow.holds Try.pinned (OpenSpec.upto emuLongerSpec)

/-- 'pairlegallaw3.EmuSplit', WHERE WHAT IT READS IS OF BULK AT MOST 1048576: true; the input reads as it did. -/
def emuSplitUptoRow : OpenClaim := { program := "ytfjgnhmmakeaeaa", sum := "5b40598e433252f0aa4403643af19e096225e6354d2fd120b599c0199468b7e1", func := "pairlegal/pairlegallaw3.EmuSplit", spec := "emuSplit", unfollowed := true, recurses := true, apart := false, narrowed := true }
def EmuSplitUptoSaid : Prop := emuSplitUptoRow.holds Try.pinned (OpenSpec.upto emuSplitSpec)

/-- 'pairlegallaw3.EmuStack', WHERE WHAT IT READS IS OF BULK AT MOST 1048576: true; the input reads as it did. -/
def emuStackUptoRow : OpenClaim := { program := "ytfjgnhmmakeaeaa", sum := "5b40598e433252f0aa4403643af19e096225e6354d2fd120b599c0199468b7e1", func := "pairlegal/pairlegallaw3.EmuStack", spec := "emuStack", unfollowed := true, recurses := true, apart := false, narrowed := true }
def EmuStackUptoSaid : Prop := emuStackUptoRow.holds Try.pinned (OpenSpec.upto emuStackSpec)

/-- 'pairlegallaw3.EmuMemory', WHERE WHAT IT READS IS OF BULK AT MOST 1048576: true; the input reads as it did. -/
def emuMemoryUptoRow : OpenClaim := { program := "ytfjgnhmmakeaeaa", sum := "5b40598e433252f0aa4403643af19e096225e6354d2fd120b599c0199468b7e1", func := "pairlegal/pairlegallaw3.EmuMemory", spec := "emuMemory", unfollowed := true, recurses := true, apart := false, narrowed := true }
def EmuMemoryUptoSaid : Prop := emuMemoryUptoRow.holds Try.pinned (OpenSpec.upto emuMemorySpec)

/-- 'pairlegallaw3.EmuTells', WHERE WHAT IT READS IS OF BULK AT MOST 1048576: true; the input reads as it did. -/
def emuTellsUptoRow : OpenClaim := { program := "ytfjgnhmmakeaeaa", sum := "5b40598e433252f0aa4403643af19e096225e6354d2fd120b599c0199468b7e1", func := "pairlegal/pairlegallaw3.EmuTells", spec := "emuTells", unfollowed := true, recurses := true, apart := false, narrowed := true }
def EmuTellsUptoSaid : Prop := emuTellsUptoRow.holds Try.pinned (OpenSpec.upto emuTellsSpec)

/-- 'pairlegallaw3.EmuShifts', WHERE WHAT IT READS IS OF BULK AT MOST 1048576: true; the input reads as it did. -/
def emuShiftsUptoRow : OpenClaim := { program := "ytfjgnhmmakeaeaa", sum := "5b40598e433252f0aa4403643af19e096225e6354d2fd120b599c0199468b7e1", func := "pairlegal/pairlegallaw3.EmuShifts", spec := "emuShifts", unfollowed := true, recurses := true, apart := false, narrowed := true }
def EmuShiftsUptoSaid : Prop := emuShiftsUptoRow.holds Try.pinned (OpenSpec.upto emuShiftsSpec)

/-- 'pairlegallaw3.EmuCarries', WHERE WHAT IT READS IS OF BULK AT MOST 1048576: true; the input reads as it did. -/
def emuCarriesUptoRow : OpenClaim := { program := "ytfjgnhmmakeaeaa", sum := "5b40598e433252f0aa4403643af19e096225e6354d2fd120b599c0199468b7e1", func := "pairlegal/pairlegallaw3.EmuCarries", spec := "emuCarries", unfollowed := true, recurses := true, apart := false, narrowed := true }
def EmuCarriesUptoSaid : Prop := emuCarriesUptoRow.holds Try.pinned (OpenSpec.upto emuCarriesSpec)

/-- 'pairlegallaw16.ProbeTells', WHERE WHAT IT READS IS OF BULK AT MOST 1048576: true; the input reads as it did. -/
def probeTellsUptoRow : OpenClaim := { program := "ytfjgnhmmakeaeaa", sum := "5b40598e433252f0aa4403643af19e096225e6354d2fd120b599c0199468b7e1", func := "pairlegal/pairlegallaw16.ProbeTells", spec := "probeTells", unfollowed := true, recurses := true, apart := false, narrowed := true }
def ProbeTellsUptoSaid : Prop := probeTellsUptoRow.holds Try.pinned (OpenSpec.upto probeTellsSpec)

/-- 'pairlegallaw16.ProbeLooks', WHERE WHAT IT READS IS OF BULK AT MOST 1048576: true; the input reads as it did. -/
def probeLooksUptoRow : OpenClaim := { program := "ytfjgnhmmakeaeaa", sum := "5b40598e433252f0aa4403643af19e096225e6354d2fd120b599c0199468b7e1", func := "pairlegal/pairlegallaw16.ProbeLooks", spec := "probeLooks", unfollowed := true, recurses := true, apart := false, narrowed := true }
def ProbeLooksUptoSaid : Prop := probeLooksUptoRow.holds Try.pinned (OpenSpec.upto probeLooksSpec)

/-- 'pairlegallaw16.ProbeCounts', WHERE WHAT IT READS IS OF BULK AT MOST 1048576: true; the input reads as it did. -/
def probeCountsUptoRow : OpenClaim := { program := "ytfjgnhmmakeaeaa", sum := "5b40598e433252f0aa4403643af19e096225e6354d2fd120b599c0199468b7e1", func := "pairlegal/pairlegallaw16.ProbeCounts", spec := "probeCounts", unfollowed := true, recurses := true, apart := false, narrowed := true }
def ProbeCountsUptoSaid : Prop := probeCountsUptoRow.holds Try.pinned (OpenSpec.upto probeCountsSpec)

/-- 'pairlegallaw16.ProbeGoesOn', WHERE WHAT IT READS IS OF BULK AT MOST 1048576: true; the input reads as it did. -/
def probeGoesOnUptoRow : OpenClaim := { program := "ytfjgnhmmakeaeaa", sum := "5b40598e433252f0aa4403643af19e096225e6354d2fd120b599c0199468b7e1", func := "pairlegal/pairlegallaw16.ProbeGoesOn", spec := "probeGoesOn", unfollowed := true, recurses := true, apart := false, narrowed := true }
def ProbeGoesOnUptoSaid : Prop := probeGoesOnUptoRow.holds Try.pinned (OpenSpec.upto probeGoesOnSpec)

end Rows
end Go.Proofs.Ytfjgnhmmakeaeaa
