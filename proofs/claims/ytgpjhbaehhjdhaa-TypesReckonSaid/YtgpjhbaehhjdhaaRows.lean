/-
  No cell of these rows narrows 'for every input' (looked for: loops, veiled, ifaces, maps, wideKeys, modest, calm, conditions, laid).
  DERIVED. THE GIVEN ROWS OF THIS SEAT. 18 by the template 'for every input the law returns true; each argument reads behind the call as it read before'; 0 by the template 'total and deterministic' (their statements: YtgpjhbaehhjdhaaTotals.lean).
  GIVEN WITH THE SEED: the statements are not yours to turn. If you find one false, say at which input.
  Laid BY PROGRAM, IN A SANDBOX (cutbox-rows.mjs): the forced cells as the released guide's own fill.sh prints them over the translation 0b5c4dd39883c83d… (all of the seat's roots in one cut). By AI agents, Wed Nov 11 2026. No macro, syntax, notation, axiom, sorry.
-/
import Derived.Test.YtgpjhbaehhjdhaaChecked
import GoSem.Claim
import GoSem.ClaimJoined
import GoSem.ClaimMapViews
import Derived.JoinedTies
import Derived.KernelRfl
namespace Go.Proofs.Ytgpjhbaehhjdhaa
/- THE CELL 'sum', in the pinned program and in every row, IS THE sha256 OF THE DUMP (.gsa) THAT YtgpjhbaehhjdhaaProg.lean LOADS. Nothing in Lean hashes anything: it is a label: what it is worth is what the hold of that sum in a sandbox is worth. -/
noncomputable def Try.pinned : Pinned := { name := "ytgpjhbaehhjdhaa", sum := "0b5c4dd39883c83d88d4bd803e38269e8b74012811c2b6dfc80619585b7d91d0", checked := Try.checked }
namespace Rows
def none {H : Type} : Left H := { results := [], args := [] }

/-- 'pairlegallaw1.WordSplits': WHATEVER THE INPUT: true; the input reads as it did. -/
def wordSplitsSpec : ChangeSpec := { name := "wordSplits", fn := fun _ => fun
  | [d1, d2, d3] => { results := [.lit (.bool true)], args := [d1, d2, d3] }
  | _ => none }
def wordSplitsRow : OpenClaim := { program := "ytgpjhbaehhjdhaa", sum := "0b5c4dd39883c83d88d4bd803e38269e8b74012811c2b6dfc80619585b7d91d0", func := "pairlegal/pairlegallaw1.WordSplits", spec := "wordSplits", apart := false }
def WordSplitsSaid : Prop := wordSplitsRow.holds Try.pinned (OpenSpec.ofChange wordSplitsSpec)

/-- ITS FALSE NEIGHBOUR: 'it returns false'. Refute it at one input. -/
def wordSplitsWrong : ChangeSpec := { name := "wordSplits", fn := fun _ => fun
  | [d1, d2, d3] => { results := [.lit (.bool false)], args := [d1, d2, d3] }
  | _ => none }
def WordSplitsWrongFalsely : Prop := wordSplitsRow.holds Try.pinned (OpenSpec.ofChange wordSplitsWrong)

/-- 'pairlegallaw1.WordChains': WHATEVER THE INPUT: true; the input reads as it did. -/
def wordChainsSpec : ChangeSpec := { name := "wordChains", fn := fun _ => fun
  | [d1, d2, d3, d4, d5] => { results := [.lit (.bool true)], args := [d1, d2, d3, d4, d5] }
  | _ => none }
def wordChainsRow : OpenClaim := { program := "ytgpjhbaehhjdhaa", sum := "0b5c4dd39883c83d88d4bd803e38269e8b74012811c2b6dfc80619585b7d91d0", func := "pairlegal/pairlegallaw1.WordChains", spec := "wordChains", unfollowed := true, recurses := true, apart := false }
def WordChainsSaid : Prop := wordChainsRow.holds Try.pinned (OpenSpec.ofChange wordChainsSpec)

/-- ITS FALSE NEIGHBOUR: 'it returns false'. Refute it at one input. -/
def wordChainsWrong : ChangeSpec := { name := "wordChains", fn := fun _ => fun
  | [d1, d2, d3, d4, d5] => { results := [.lit (.bool false)], args := [d1, d2, d3, d4, d5] }
  | _ => none }
def WordChainsWrongFalsely : Prop := wordChainsRow.holds Try.pinned (OpenSpec.ofChange wordChainsWrong)

/-- 'pairlegallaw1.WordRing': WHATEVER THE INPUT: true; the input reads as it did. -/
def wordRingSpec : ChangeSpec := { name := "wordRing", fn := fun _ => fun
  | [d1, d2, d3, d4] => { results := [.lit (.bool true)], args := [d1, d2, d3, d4] }
  | _ => none }
def wordRingRow : OpenClaim := { program := "ytgpjhbaehhjdhaa", sum := "0b5c4dd39883c83d88d4bd803e38269e8b74012811c2b6dfc80619585b7d91d0", func := "pairlegal/pairlegallaw1.WordRing", spec := "wordRing", unfollowed := true, recurses := true, apart := false }
def WordRingSaid : Prop := wordRingRow.holds Try.pinned (OpenSpec.ofChange wordRingSpec)

/-- ITS FALSE NEIGHBOUR: 'it returns false'. Refute it at one input. -/
def wordRingWrong : ChangeSpec := { name := "wordRing", fn := fun _ => fun
  | [d1, d2, d3, d4] => { results := [.lit (.bool false)], args := [d1, d2, d3, d4] }
  | _ => none }
def WordRingWrongFalsely : Prop := wordRingRow.holds Try.pinned (OpenSpec.ofChange wordRingWrong)

/-- 'pairlegallaw1.WordNarrow': WHATEVER THE INPUT: true; the input reads as it did. -/
def wordNarrowSpec : ChangeSpec := { name := "wordNarrow", fn := fun _ => fun
  | [d1, d2, d3, d4] => { results := [.lit (.bool true)], args := [d1, d2, d3, d4] }
  | _ => none }
def wordNarrowRow : OpenClaim := { program := "ytgpjhbaehhjdhaa", sum := "0b5c4dd39883c83d88d4bd803e38269e8b74012811c2b6dfc80619585b7d91d0", func := "pairlegal/pairlegallaw1.WordNarrow", spec := "wordNarrow", unfollowed := true, recurses := true, apart := false }
def WordNarrowSaid : Prop := wordNarrowRow.holds Try.pinned (OpenSpec.ofChange wordNarrowSpec)

/-- ITS FALSE NEIGHBOUR: 'it returns false'. Refute it at one input. -/
def wordNarrowWrong : ChangeSpec := { name := "wordNarrow", fn := fun _ => fun
  | [d1, d2, d3, d4] => { results := [.lit (.bool false)], args := [d1, d2, d3, d4] }
  | _ => none }
def WordNarrowWrongFalsely : Prop := wordNarrowRow.holds Try.pinned (OpenSpec.ofChange wordNarrowWrong)

/-- 'pairlegallaw1.WordSplit': WHATEVER THE INPUT: true; the input reads as it did. -/
def wordSplitSpec : ChangeSpec := { name := "wordSplit", fn := fun _ => fun
  | [d1, d2] => { results := [.lit (.bool true)], args := [d1, d2] }
  | _ => none }
def wordSplitRow : OpenClaim := { program := "ytgpjhbaehhjdhaa", sum := "0b5c4dd39883c83d88d4bd803e38269e8b74012811c2b6dfc80619585b7d91d0", func := "pairlegal/pairlegallaw1.WordSplit", spec := "wordSplit", unfollowed := true, recurses := true, apart := false }
def WordSplitSaid : Prop := wordSplitRow.holds Try.pinned (OpenSpec.ofChange wordSplitSpec)

/-- ITS FALSE NEIGHBOUR: 'it returns false'. Refute it at one input. -/
def wordSplitWrong : ChangeSpec := { name := "wordSplit", fn := fun _ => fun
  | [d1, d2] => { results := [.lit (.bool false)], args := [d1, d2] }
  | _ => none }
def WordSplitWrongFalsely : Prop := wordSplitRow.holds Try.pinned (OpenSpec.ofChange wordSplitWrong)

/-- 'pairlegallaw1.WordUp': WHATEVER THE INPUT: true; the input reads as it did. -/
def wordUpSpec : ChangeSpec := { name := "wordUp", fn := fun _ => fun
  | [d1, d2, d3, d4] => { results := [.lit (.bool true)], args := [d1, d2, d3, d4] }
  | _ => none }
def wordUpRow : OpenClaim := { program := "ytgpjhbaehhjdhaa", sum := "0b5c4dd39883c83d88d4bd803e38269e8b74012811c2b6dfc80619585b7d91d0", func := "pairlegal/pairlegallaw1.WordUp", spec := "wordUp", unfollowed := true, recurses := true, apart := false }
def WordUpSaid : Prop := wordUpRow.holds Try.pinned (OpenSpec.ofChange wordUpSpec)

/-- ITS FALSE NEIGHBOUR: 'it returns false'. Refute it at one input. -/
def wordUpWrong : ChangeSpec := { name := "wordUp", fn := fun _ => fun
  | [d1, d2, d3, d4] => { results := [.lit (.bool false)], args := [d1, d2, d3, d4] }
  | _ => none }
def WordUpWrongFalsely : Prop := wordUpRow.holds Try.pinned (OpenSpec.ofChange wordUpWrong)

/-- 'pairlegallaw1.WordCarries': WHATEVER THE INPUT: true; the input reads as it did. -/
def wordCarriesSpec : ChangeSpec := { name := "wordCarries", fn := fun _ => fun
  | [d1, d2, d3] => { results := [.lit (.bool true)], args := [d1, d2, d3] }
  | _ => none }
def wordCarriesRow : OpenClaim := { program := "ytgpjhbaehhjdhaa", sum := "0b5c4dd39883c83d88d4bd803e38269e8b74012811c2b6dfc80619585b7d91d0", func := "pairlegal/pairlegallaw1.WordCarries", spec := "wordCarries", unfollowed := true, recurses := true, apart := false }
def WordCarriesSaid : Prop := wordCarriesRow.holds Try.pinned (OpenSpec.ofChange wordCarriesSpec)

/-- ITS FALSE NEIGHBOUR: 'it returns false'. Refute it at one input. -/
def wordCarriesWrong : ChangeSpec := { name := "wordCarries", fn := fun _ => fun
  | [d1, d2, d3] => { results := [.lit (.bool false)], args := [d1, d2, d3] }
  | _ => none }
def WordCarriesWrongFalsely : Prop := wordCarriesRow.holds Try.pinned (OpenSpec.ofChange wordCarriesWrong)

/-- 'pairlegallaw1.WordShifts': WHATEVER THE INPUT: true; the input reads as it did. -/
def wordShiftsSpec : ChangeSpec := { name := "wordShifts", fn := fun _ => fun
  | [d1, d2, d3, d4] => { results := [.lit (.bool true)], args := [d1, d2, d3, d4] }
  | _ => none }
def wordShiftsRow : OpenClaim := { program := "ytgpjhbaehhjdhaa", sum := "0b5c4dd39883c83d88d4bd803e38269e8b74012811c2b6dfc80619585b7d91d0", func := "pairlegal/pairlegallaw1.WordShifts", spec := "wordShifts", unfollowed := true, recurses := true, apart := false }
def WordShiftsSaid : Prop := wordShiftsRow.holds Try.pinned (OpenSpec.ofChange wordShiftsSpec)

/-- ITS FALSE NEIGHBOUR: 'it returns false'. Refute it at one input. -/
def wordShiftsWrong : ChangeSpec := { name := "wordShifts", fn := fun _ => fun
  | [d1, d2, d3, d4] => { results := [.lit (.bool false)], args := [d1, d2, d3, d4] }
  | _ => none }
def WordShiftsWrongFalsely : Prop := wordShiftsRow.holds Try.pinned (OpenSpec.ofChange wordShiftsWrong)

/-- 'pairlegallaw1.WordFlags': WHATEVER THE INPUT: true; the input reads as it did. -/
def wordFlagsSpec : ChangeSpec := { name := "wordFlags", fn := fun _ => fun
  | [d1, d2, d3] => { results := [.lit (.bool true)], args := [d1, d2, d3] }
  | _ => none }
def wordFlagsRow : OpenClaim := { program := "ytgpjhbaehhjdhaa", sum := "0b5c4dd39883c83d88d4bd803e38269e8b74012811c2b6dfc80619585b7d91d0", func := "pairlegal/pairlegallaw1.WordFlags", spec := "wordFlags", unfollowed := true, recurses := true, apart := false }
def WordFlagsSaid : Prop := wordFlagsRow.holds Try.pinned (OpenSpec.ofChange wordFlagsSpec)

/-- ITS FALSE NEIGHBOUR: 'it returns false'. Refute it at one input. -/
def wordFlagsWrong : ChangeSpec := { name := "wordFlags", fn := fun _ => fun
  | [d1, d2, d3] => { results := [.lit (.bool false)], args := [d1, d2, d3] }
  | _ => none }
def WordFlagsWrongFalsely : Prop := wordFlagsRow.holds Try.pinned (OpenSpec.ofChange wordFlagsWrong)

/-- 'pairlegallaw1.WordParts': WHATEVER THE INPUT: true; the input reads as it did. -/
def wordPartsSpec : ChangeSpec := { name := "wordParts", fn := fun _ => fun
  | [d1, d2, d3, d4] => { results := [.lit (.bool true)], args := [d1, d2, d3, d4] }
  | _ => none }
def wordPartsRow : OpenClaim := { program := "ytgpjhbaehhjdhaa", sum := "0b5c4dd39883c83d88d4bd803e38269e8b74012811c2b6dfc80619585b7d91d0", func := "pairlegal/pairlegallaw1.WordParts", spec := "wordParts", unfollowed := true, recurses := true, apart := false }
def WordPartsSaid : Prop := wordPartsRow.holds Try.pinned (OpenSpec.ofChange wordPartsSpec)

/-- ITS FALSE NEIGHBOUR: 'it returns false'. Refute it at one input. -/
def wordPartsWrong : ChangeSpec := { name := "wordParts", fn := fun _ => fun
  | [d1, d2, d3, d4] => { results := [.lit (.bool false)], args := [d1, d2, d3, d4] }
  | _ => none }
def WordPartsWrongFalsely : Prop := wordPartsRow.holds Try.pinned (OpenSpec.ofChange wordPartsWrong)

/-- 'pairlegallaw1.WordDoes': WHATEVER THE INPUT: true; the input reads as it did. -/
def wordDoesSpec : ChangeSpec := { name := "wordDoes", fn := fun _ => fun
  | [d1, d2, d3, d4] => { results := [.lit (.bool true)], args := [d1, d2, d3, d4] }
  | _ => none }
def wordDoesRow : OpenClaim := { program := "ytgpjhbaehhjdhaa", sum := "0b5c4dd39883c83d88d4bd803e38269e8b74012811c2b6dfc80619585b7d91d0", func := "pairlegal/pairlegallaw1.WordDoes", spec := "wordDoes", unfollowed := true, recurses := true, apart := false }
def WordDoesSaid : Prop := wordDoesRow.holds Try.pinned (OpenSpec.ofChange wordDoesSpec)

/-- ITS FALSE NEIGHBOUR: 'it returns false'. Refute it at one input. -/
def wordDoesWrong : ChangeSpec := { name := "wordDoes", fn := fun _ => fun
  | [d1, d2, d3, d4] => { results := [.lit (.bool false)], args := [d1, d2, d3, d4] }
  | _ => none }
def WordDoesWrongFalsely : Prop := wordDoesRow.holds Try.pinned (OpenSpec.ofChange wordDoesWrong)

/-- 'pairlegallaw7.TypesTell': WHATEVER THE INPUT: true; the input reads as it did. -/
def typesTellSpec : ChangeSpec := { name := "typesTell", fn := fun _ => fun
  | [d1, d2, d3, d4, d5, d6] => { results := [.lit (.bool true)], args := [d1, d2, d3, d4, d5, d6] }
  | _ => none }
def typesTellRow : OpenClaim := { program := "ytgpjhbaehhjdhaa", sum := "0b5c4dd39883c83d88d4bd803e38269e8b74012811c2b6dfc80619585b7d91d0", func := "pairlegal/pairlegallaw7.TypesTell", spec := "typesTell", apart := false }
def TypesTellSaid : Prop := typesTellRow.holds Try.pinned (OpenSpec.ofChange typesTellSpec)

/-- ITS FALSE NEIGHBOUR: 'it returns false'. Refute it at one input. -/
def typesTellWrong : ChangeSpec := { name := "typesTell", fn := fun _ => fun
  | [d1, d2, d3, d4, d5, d6] => { results := [.lit (.bool false)], args := [d1, d2, d3, d4, d5, d6] }
  | _ => none }
def TypesTellWrongFalsely : Prop := typesTellRow.holds Try.pinned (OpenSpec.ofChange typesTellWrong)

/-- 'pairlegallaw7.TypesMean': WHATEVER THE INPUT: true; the input reads as it did. -/
def typesMeanSpec : ChangeSpec := { name := "typesMean", fn := fun _ => fun
  | [d1, d2, d3] => { results := [.lit (.bool true)], args := [d1, d2, d3] }
  | _ => none }
def typesMeanRow : OpenClaim := { program := "ytgpjhbaehhjdhaa", sum := "0b5c4dd39883c83d88d4bd803e38269e8b74012811c2b6dfc80619585b7d91d0", func := "pairlegal/pairlegallaw7.TypesMean", spec := "typesMean", unfollowed := true, recurses := true, apart := false }
def TypesMeanSaid : Prop := typesMeanRow.holds Try.pinned (OpenSpec.ofChange typesMeanSpec)

/-- ITS FALSE NEIGHBOUR: 'it returns false'. Refute it at one input. -/
def typesMeanWrong : ChangeSpec := { name := "typesMean", fn := fun _ => fun
  | [d1, d2, d3] => { results := [.lit (.bool false)], args := [d1, d2, d3] }
  | _ => none }
def TypesMeanWrongFalsely : Prop := typesMeanRow.holds Try.pinned (OpenSpec.ofChange typesMeanWrong)

/-- 'pairlegallaw7.TypesCommon': WHATEVER THE INPUT: true; the input reads as it did. -/
def typesCommonSpec : ChangeSpec := { name := "typesCommon", fn := fun _ => fun
  | [d1, d2, d3] => { results := [.lit (.bool true)], args := [d1, d2, d3] }
  | _ => none }
def typesCommonRow : OpenClaim := { program := "ytgpjhbaehhjdhaa", sum := "0b5c4dd39883c83d88d4bd803e38269e8b74012811c2b6dfc80619585b7d91d0", func := "pairlegal/pairlegallaw7.TypesCommon", spec := "typesCommon", unfollowed := true, recurses := true, apart := false }
def TypesCommonSaid : Prop := typesCommonRow.holds Try.pinned (OpenSpec.ofChange typesCommonSpec)

/-- ITS FALSE NEIGHBOUR: 'it returns false'. Refute it at one input. -/
def typesCommonWrong : ChangeSpec := { name := "typesCommon", fn := fun _ => fun
  | [d1, d2, d3] => { results := [.lit (.bool false)], args := [d1, d2, d3] }
  | _ => none }
def TypesCommonWrongFalsely : Prop := typesCommonRow.holds Try.pinned (OpenSpec.ofChange typesCommonWrong)

/-- 'pairlegallaw7.TypesNarrow': WHATEVER THE INPUT: true; the input reads as it did. -/
def typesNarrowSpec : ChangeSpec := { name := "typesNarrow", fn := fun _ => fun
  | [d1, d2, d3, d4, d5] => { results := [.lit (.bool true)], args := [d1, d2, d3, d4, d5] }
  | _ => none }
def typesNarrowRow : OpenClaim := { program := "ytgpjhbaehhjdhaa", sum := "0b5c4dd39883c83d88d4bd803e38269e8b74012811c2b6dfc80619585b7d91d0", func := "pairlegal/pairlegallaw7.TypesNarrow", spec := "typesNarrow", unfollowed := true, recurses := true, apart := false }
def TypesNarrowSaid : Prop := typesNarrowRow.holds Try.pinned (OpenSpec.ofChange typesNarrowSpec)

/-- ITS FALSE NEIGHBOUR: 'it returns false'. Refute it at one input. -/
def typesNarrowWrong : ChangeSpec := { name := "typesNarrow", fn := fun _ => fun
  | [d1, d2, d3, d4, d5] => { results := [.lit (.bool false)], args := [d1, d2, d3, d4, d5] }
  | _ => none }
def TypesNarrowWrongFalsely : Prop := typesNarrowRow.holds Try.pinned (OpenSpec.ofChange typesNarrowWrong)

/-- 'pairlegallaw7.TypesReckon': WHATEVER THE INPUT: true; the input reads as it did. -/
def typesReckonSpec : ChangeSpec := { name := "typesReckon", fn := fun _ => fun
  | [d1, d2, d3, d4, d5] => { results := [.lit (.bool true)], args := [d1, d2, d3, d4, d5] }
  | _ => none }
def typesReckonRow : OpenClaim := { program := "ytgpjhbaehhjdhaa", sum := "0b5c4dd39883c83d88d4bd803e38269e8b74012811c2b6dfc80619585b7d91d0", func := "pairlegal/pairlegallaw7.TypesReckon", spec := "typesReckon", unfollowed := true, recurses := true, apart := false }
def TypesReckonSaid : Prop := typesReckonRow.holds Try.pinned (OpenSpec.ofChange typesReckonSpec)

/-- ITS FALSE NEIGHBOUR: 'it returns false'. Refute it at one input. -/
def typesReckonWrong : ChangeSpec := { name := "typesReckon", fn := fun _ => fun
  | [d1, d2, d3, d4, d5] => { results := [.lit (.bool false)], args := [d1, d2, d3, d4, d5] }
  | _ => none }
def TypesReckonWrongFalsely : Prop := typesReckonRow.holds Try.pinned (OpenSpec.ofChange typesReckonWrong)

/-- 'pairlegallaw7.TypesTurn': WHATEVER THE INPUT: true; the input reads as it did. -/
def typesTurnSpec : ChangeSpec := { name := "typesTurn", fn := fun _ => fun
  | [d1, d2] => { results := [.lit (.bool true)], args := [d1, d2] }
  | _ => none }
def typesTurnRow : OpenClaim := { program := "ytgpjhbaehhjdhaa", sum := "0b5c4dd39883c83d88d4bd803e38269e8b74012811c2b6dfc80619585b7d91d0", func := "pairlegal/pairlegallaw7.TypesTurn", spec := "typesTurn", unfollowed := true, recurses := true, apart := false }
def TypesTurnSaid : Prop := typesTurnRow.holds Try.pinned (OpenSpec.ofChange typesTurnSpec)

/-- ITS FALSE NEIGHBOUR: 'it returns false'. Refute it at one input. -/
def typesTurnWrong : ChangeSpec := { name := "typesTurn", fn := fun _ => fun
  | [d1, d2] => { results := [.lit (.bool false)], args := [d1, d2] }
  | _ => none }
def TypesTurnWrongFalsely : Prop := typesTurnRow.holds Try.pinned (OpenSpec.ofChange typesTurnWrong)

/-- 'pairlegaltop.Names': WHATEVER THE INPUT: true; the input reads as it did. -/
def namesSpec : ChangeSpec := { name := "names", fn := fun _ => fun
  | [] => { results := [.lit (.bool true)], args := [] }
  | _ => none }
def namesRow : OpenClaim := { program := "ytgpjhbaehhjdhaa", sum := "0b5c4dd39883c83d88d4bd803e38269e8b74012811c2b6dfc80619585b7d91d0", func := "pairlegal/pairlegaltop.Names", spec := "names", apart := false }
def NamesSaid : Prop := namesRow.holds Try.pinned (OpenSpec.ofChange namesSpec)

/-- ITS FALSE NEIGHBOUR: 'it returns false'. Refute it at one input. -/
def namesWrong : ChangeSpec := { name := "names", fn := fun _ => fun
  | [] => { results := [.lit (.bool false)], args := [] }
  | _ => none }
def NamesWrongFalsely : Prop := namesRow.holds Try.pinned (OpenSpec.ofChange namesWrong)

/- THE SECOND FORM. 'bulk': how many values and letters a reading holds, each counted each time it is reached (what is shared counts as often as it is met; a slice's spare places count too). A statement '..UptoSaid' is the law's where the arguments, and the package variables that the reading takes, are together of bulk at most 1048576: NARROWER than '..Said'. Prove '..Said' where nothing that the law and all that it calls make is longer than what came in: it says more and counts as full. Else prove '..UptoSaid'. A law counts once. -/
mutual
def uptoBulk {H : Type} : DataW H → Nat
  | .lit (.string bytes) => bytes.length + 1
  | .lit _ => 1
  | .nil => 1
  | .ptr d => uptoBulk d + 1
  | .slice elems spare => uptoBulkAll elems + uptoBulkAll spare + 1
  | .agg parts => uptoBulkAll parts + 1
  | .iface _ d => uptoBulk d + 1
  | .map entries => uptoBulkEntries entries + 1
  | .held _ => 1
def uptoBulkAll {H : Type} : List (DataW H) → Nat
  | [] => 0
  | d :: r => uptoBulk d + uptoBulkAll r
def uptoBulkEntries {H : Type} : List (Lit × DataW H) → Nat
  | [] => 0
  | x :: r => uptoBulkEntry x + uptoBulkEntries r
def uptoBulkEntry {H : Type} : Lit × DataW H → Nat
  | (.string bytes, d) => bytes.length + uptoBulk d + 1
  | (_, d) => uptoBulk d + 1
 end
def uptoSmall : (H : Type) → List (DataW H) → Bool := fun _ ds => decide (uptoBulkAll ds ≤ 1048576)
def OpenSpec.upto (s : _root_.Go.ChangeSpec) : _root_.Go.OpenSpec := { _root_.Go.OpenSpec.ofChange s with cond := some uptoSmall }

/-- 'pairlegallaw1.WordSplits', WHERE WHAT IT READS IS OF BULK AT MOST 1048576: true; the input reads as it did. -/
def wordSplitsUptoRow : OpenClaim := { program := "ytgpjhbaehhjdhaa", sum := "0b5c4dd39883c83d88d4bd803e38269e8b74012811c2b6dfc80619585b7d91d0", func := "pairlegal/pairlegallaw1.WordSplits", spec := "wordSplits", apart := false, narrowed := true }
def WordSplitsUptoSaid : Prop := wordSplitsUptoRow.holds Try.pinned (OpenSpec.upto wordSplitsSpec)

/-- 'pairlegallaw1.WordChains', WHERE WHAT IT READS IS OF BULK AT MOST 1048576: true; the input reads as it did. -/
def wordChainsUptoRow : OpenClaim := { program := "ytgpjhbaehhjdhaa", sum := "0b5c4dd39883c83d88d4bd803e38269e8b74012811c2b6dfc80619585b7d91d0", func := "pairlegal/pairlegallaw1.WordChains", spec := "wordChains", unfollowed := true, recurses := true, apart := false, narrowed := true }
def WordChainsUptoSaid : Prop := wordChainsUptoRow.holds Try.pinned (OpenSpec.upto wordChainsSpec)

/-- 'pairlegallaw1.WordRing', WHERE WHAT IT READS IS OF BULK AT MOST 1048576: true; the input reads as it did. -/
def wordRingUptoRow : OpenClaim := { program := "ytgpjhbaehhjdhaa", sum := "0b5c4dd39883c83d88d4bd803e38269e8b74012811c2b6dfc80619585b7d91d0", func := "pairlegal/pairlegallaw1.WordRing", spec := "wordRing", unfollowed := true, recurses := true, apart := false, narrowed := true }
def WordRingUptoSaid : Prop := wordRingUptoRow.holds Try.pinned (OpenSpec.upto wordRingSpec)

/-- 'pairlegallaw1.WordNarrow', WHERE WHAT IT READS IS OF BULK AT MOST 1048576: true; the input reads as it did. -/
def wordNarrowUptoRow : OpenClaim := { program := "ytgpjhbaehhjdhaa", sum := "0b5c4dd39883c83d88d4bd803e38269e8b74012811c2b6dfc80619585b7d91d0", func := "pairlegal/pairlegallaw1.WordNarrow", spec := "wordNarrow", unfollowed := true, recurses := true, apart := false, narrowed := true }
def WordNarrowUptoSaid : Prop := wordNarrowUptoRow.holds Try.pinned (OpenSpec.upto wordNarrowSpec)

/-- 'pairlegallaw1.WordSplit', WHERE WHAT IT READS IS OF BULK AT MOST 1048576: true; the input reads as it did. -/
def wordSplitUptoRow : OpenClaim := { program := "ytgpjhbaehhjdhaa", sum := "0b5c4dd39883c83d88d4bd803e38269e8b74012811c2b6dfc80619585b7d91d0", func := "pairlegal/pairlegallaw1.WordSplit", spec := "wordSplit", unfollowed := true, recurses := true, apart := false, narrowed := true }
def WordSplitUptoSaid : Prop := wordSplitUptoRow.holds Try.pinned (OpenSpec.upto wordSplitSpec)

/-- 'pairlegallaw1.WordUp', WHERE WHAT IT READS IS OF BULK AT MOST 1048576: true; the input reads as it did. -/
def wordUpUptoRow : OpenClaim := { program := "ytgpjhbaehhjdhaa", sum := "0b5c4dd39883c83d88d4bd803e38269e8b74012811c2b6dfc80619585b7d91d0", func := "pairlegal/pairlegallaw1.WordUp", spec := "wordUp", unfollowed := true, recurses := true, apart := false, narrowed := true }
def WordUpUptoSaid : Prop := wordUpUptoRow.holds Try.pinned (OpenSpec.upto wordUpSpec)

/-- 'pairlegallaw1.WordCarries', WHERE WHAT IT READS IS OF BULK AT MOST 1048576: true; the input reads as it did. -/
def wordCarriesUptoRow : OpenClaim := { program := "ytgpjhbaehhjdhaa", sum := "0b5c4dd39883c83d88d4bd803e38269e8b74012811c2b6dfc80619585b7d91d0", func := "pairlegal/pairlegallaw1.WordCarries", spec := "wordCarries", unfollowed := true, recurses := true, apart := false, narrowed := true }
def WordCarriesUptoSaid : Prop := wordCarriesUptoRow.holds Try.pinned (OpenSpec.upto wordCarriesSpec)

/-- 'pairlegallaw1.WordShifts', WHERE WHAT IT READS IS OF BULK AT MOST 1048576: true; the input reads as it did. -/
def wordShiftsUptoRow : OpenClaim := { program := "ytgpjhbaehhjdhaa", sum := "0b5c4dd39883c83d88d4bd803e38269e8b74012811c2b6dfc80619585b7d91d0", func := "pairlegal/pairlegallaw1.WordShifts", spec := "wordShifts", unfollowed := true, recurses := true, apart := false, narrowed := true }
def WordShiftsUptoSaid : Prop := wordShiftsUptoRow.holds Try.pinned (OpenSpec.upto wordShiftsSpec)

/-- 'pairlegallaw1.WordFlags', WHERE WHAT IT READS IS OF BULK AT MOST 1048576: true; the input reads as it did. -/
def wordFlagsUptoRow : OpenClaim := { program := "ytgpjhbaehhjdhaa", sum := "0b5c4dd39883c83d88d4bd803e38269e8b74012811c2b6dfc80619585b7d91d0", func := "pairlegal/pairlegallaw1.WordFlags", spec := "wordFlags", unfollowed := true, recurses := true, apart := false, narrowed := true }
def WordFlagsUptoSaid : Prop := wordFlagsUptoRow.holds Try.pinned (OpenSpec.upto wordFlagsSpec)

/-- 'pairlegallaw1.WordParts', WHERE WHAT IT READS IS OF BULK AT MOST 1048576: true; the input reads as it did. -/
def wordPartsUptoRow : OpenClaim := { program := "ytgpjhbaehhjdhaa", sum := "0b5c4dd39883c83d88d4bd803e38269e8b74012811c2b6dfc80619585b7d91d0", func := "pairlegal/pairlegallaw1.WordParts", spec := "wordParts", unfollowed := true, recurses := true, apart := false, narrowed := true }
def WordPartsUptoSaid : Prop := wordPartsUptoRow.holds Try.pinned (OpenSpec.upto wordPartsSpec)

/-- 'pairlegallaw1.WordDoes', WHERE WHAT IT READS IS OF BULK AT MOST 1048576: true; the input reads as it did. -/
def wordDoesUptoRow : OpenClaim := { program := "ytgpjhbaehhjdhaa", sum := "0b5c4dd39883c83d88d4bd803e38269e8b74012811c2b6dfc80619585b7d91d0", func := "pairlegal/pairlegallaw1.WordDoes", spec := "wordDoes", unfollowed := true, recurses := true, apart := false, narrowed := true }
def WordDoesUptoSaid : Prop := wordDoesUptoRow.holds Try.pinned (OpenSpec.upto wordDoesSpec)

/-- 'pairlegallaw7.TypesTell', WHERE WHAT IT READS IS OF BULK AT MOST 1048576: true; the input reads as it did. -/
def typesTellUptoRow : OpenClaim := { program := "ytgpjhbaehhjdhaa", sum := "0b5c4dd39883c83d88d4bd803e38269e8b74012811c2b6dfc80619585b7d91d0", func := "pairlegal/pairlegallaw7.TypesTell", spec := "typesTell", apart := false, narrowed := true }
def TypesTellUptoSaid : Prop := typesTellUptoRow.holds Try.pinned (OpenSpec.upto typesTellSpec)

/-- 'pairlegallaw7.TypesMean', WHERE WHAT IT READS IS OF BULK AT MOST 1048576: true; the input reads as it did. -/
def typesMeanUptoRow : OpenClaim := { program := "ytgpjhbaehhjdhaa", sum := "0b5c4dd39883c83d88d4bd803e38269e8b74012811c2b6dfc80619585b7d91d0", func := "pairlegal/pairlegallaw7.TypesMean", spec := "typesMean", unfollowed := true, recurses := true, apart := false, narrowed := true }
def TypesMeanUptoSaid : Prop := typesMeanUptoRow.holds Try.pinned (OpenSpec.upto typesMeanSpec)

/-- 'pairlegallaw7.TypesCommon', WHERE WHAT IT READS IS OF BULK AT MOST 1048576: true; the input reads as it did. -/
def typesCommonUptoRow : OpenClaim := { program := "ytgpjhbaehhjdhaa", sum := "0b5c4dd39883c83d88d4bd803e38269e8b74012811c2b6dfc80619585b7d91d0", func := "pairlegal/pairlegallaw7.TypesCommon", spec := "typesCommon", unfollowed := true, recurses := true, apart := false, narrowed := true }
def TypesCommonUptoSaid : Prop := typesCommonUptoRow.holds Try.pinned (OpenSpec.upto typesCommonSpec)

/-- 'pairlegallaw7.TypesNarrow', WHERE WHAT IT READS IS OF BULK AT MOST 1048576: true; the input reads as it did. -/
def typesNarrowUptoRow : OpenClaim := { program := "ytgpjhbaehhjdhaa", sum := "0b5c4dd39883c83d88d4bd803e38269e8b74012811c2b6dfc80619585b7d91d0", func := "pairlegal/pairlegallaw7.TypesNarrow", spec := "typesNarrow", unfollowed := true, recurses := true, apart := false, narrowed := true }
def TypesNarrowUptoSaid : Prop := typesNarrowUptoRow.holds Try.pinned (OpenSpec.upto typesNarrowSpec)

/-- 'pairlegallaw7.TypesReckon', WHERE WHAT IT READS IS OF BULK AT MOST 1048576: true; the input reads as it did. -/
def typesReckonUptoRow : OpenClaim := { program := "ytgpjhbaehhjdhaa", sum := "0b5c4dd39883c83d88d4bd803e38269e8b74012811c2b6dfc80619585b7d91d0", func := "pairlegal/pairlegallaw7.TypesReckon", spec := "typesReckon", unfollowed := true, recurses := true, apart := false, narrowed := true }
def TypesReckonUptoSaid : Prop := typesReckonUptoRow.holds Try.pinned (OpenSpec.upto typesReckonSpec)

/-- 'pairlegallaw7.TypesTurn', WHERE WHAT IT READS IS OF BULK AT MOST 1048576: true; the input reads as it did. -/
def typesTurnUptoRow : OpenClaim := { program := "ytgpjhbaehhjdhaa", sum := "0b5c4dd39883c83d88d4bd803e38269e8b74012811c2b6dfc80619585b7d91d0", func := "pairlegal/pairlegallaw7.TypesTurn", spec := "typesTurn", unfollowed := true, recurses := true, apart := false, narrowed := true }
def TypesTurnUptoSaid : Prop := typesTurnUptoRow.holds Try.pinned (OpenSpec.upto typesTurnSpec)

/-- 'pairlegaltop.Names', WHERE WHAT IT READS IS OF BULK AT MOST 1048576: true; the input reads as it did. -/
def namesUptoRow : OpenClaim := { program := "ytgpjhbaehhjdhaa", sum := "0b5c4dd39883c83d88d4bd803e38269e8b74012811c2b6dfc80619585b7d91d0", func := "pairlegal/pairlegaltop.Names", spec := "names", apart := false, narrowed := true }
def NamesUptoSaid : Prop := namesUptoRow.holds Try.pinned (OpenSpec.upto namesSpec)

end Rows
end Go.Proofs.Ytgpjhbaehhjdhaa
