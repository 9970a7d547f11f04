/-
  No cell of these rows narrows 'for every input' (looked for: loops, veiled, ifaces, maps, wideKeys, modest, calm, conditions, laid).
  DERIVED. THE GIVEN ROWS OF THIS SEAT. 11 by the template 'for every input the law returns true; each argument reads behind the call as it read before'; 0 by the template 'total and deterministic' (their statements: YtlldlfiepfjahaaTotals.lean).
  GIVEN WITH THE SEED: the statements are not yours to turn. If you find one false, say at which input.
  Laid BY PROGRAM, IN A SANDBOX (cutbox-rows.mjs): the forced cells as the released guide's own fill.sh prints them over the translation 319c485b50d0a6f0… (all of the seat's roots in one cut). By AI agents, Wed Nov 11 2026. No macro, syntax, notation, axiom, sorry.
-/
import Derived.Test.YtlldlfiepfjahaaChecked
import GoSem.Claim
import GoSem.ClaimJoined
import GoSem.ClaimMapViews
import Derived.JoinedTies
import Derived.KernelRfl
namespace Go.Proofs.Ytlldlfiepfjahaa
/- THE CELL 'sum', in the pinned program and in every row, IS THE sha256 OF THE DUMP (.gsa) THAT YtlldlfiepfjahaaProg.lean LOADS. Nothing in Lean hashes anything: it is a label: what it is worth is what the hold of that sum in a sandbox is worth. -/
noncomputable def Try.pinned : Pinned := { name := "ytlldlfiepfjahaa", sum := "319c485b50d0a6f057a1f2eebd2621b5667beaa1eb730b9dcbe8634ff89de717", checked := Try.checked }
namespace Rows
def none {H : Type} : Left H := { results := [], args := [] }

/-- 'laws.FnExactLongestPart': WHATEVER THE INPUT: true; the input reads as it did. -/
def fnExactLongestPartSpec : ChangeSpec := { name := "fnExactLongestPart", fn := fun _ => fun
  | [d1, d2] => { results := [.lit (.bool true)], args := [d1, d2] }
  | _ => none }
def fnExactLongestPartRow : OpenClaim := { program := "ytlldlfiepfjahaa", sum := "319c485b50d0a6f057a1f2eebd2621b5667beaa1eb730b9dcbe8634ff89de717", func := "loop.example/g00947/laws.FnExactLongestPart", spec := "fnExactLongestPart", unfollowed := true, recurses := true, apart := false }
def FnExactLongestPartSaid : Prop := fnExactLongestPartRow.holds Try.pinned (OpenSpec.ofChange fnExactLongestPartSpec)

/-- ITS FALSE NEIGHBOUR: 'it returns false'. Refute it at one input. -/
def fnExactLongestPartWrong : ChangeSpec := { name := "fnExactLongestPart", fn := fun _ => fun
  | [d1, d2] => { results := [.lit (.bool false)], args := [d1, d2] }
  | _ => none }
def FnExactLongestPartWrongFalsely : Prop := fnExactLongestPartRow.holds Try.pinned (OpenSpec.ofChange fnExactLongestPartWrong)

/-- 'laws.FnExactOpenDoors': WHATEVER THE INPUT: true; the input reads as it did. -/
def fnExactOpenDoorsSpec : ChangeSpec := { name := "fnExactOpenDoors", fn := fun _ => fun
  | [d1, d2, d3] => { results := [.lit (.bool true)], args := [d1, d2, d3] }
  | _ => none }
def fnExactOpenDoorsRow : OpenClaim := { program := "ytlldlfiepfjahaa", sum := "319c485b50d0a6f057a1f2eebd2621b5667beaa1eb730b9dcbe8634ff89de717", func := "loop.example/g00947/laws.FnExactOpenDoors", spec := "fnExactOpenDoors", unfollowed := true, recurses := true, apart := false }
def FnExactOpenDoorsSaid : Prop := fnExactOpenDoorsRow.holds Try.pinned (OpenSpec.ofChange fnExactOpenDoorsSpec)

/-- ITS FALSE NEIGHBOUR: 'it returns false'. Refute it at one input. -/
def fnExactOpenDoorsWrong : ChangeSpec := { name := "fnExactOpenDoors", fn := fun _ => fun
  | [d1, d2, d3] => { results := [.lit (.bool false)], args := [d1, d2, d3] }
  | _ => none }
def FnExactOpenDoorsWrongFalsely : Prop := fnExactOpenDoorsRow.holds Try.pinned (OpenSpec.ofChange fnExactOpenDoorsWrong)

/-- 'laws.FnExactFalseOpenings': WHATEVER THE INPUT: true; the input reads as it did. -/
def fnExactFalseOpeningsSpec : ChangeSpec := { name := "fnExactFalseOpenings", fn := fun _ => fun
  | [d1, d2] => { results := [.lit (.bool true)], args := [d1, d2] }
  | _ => none }
def fnExactFalseOpeningsRow : OpenClaim := { program := "ytlldlfiepfjahaa", sum := "319c485b50d0a6f057a1f2eebd2621b5667beaa1eb730b9dcbe8634ff89de717", func := "loop.example/g00947/laws.FnExactFalseOpenings", spec := "fnExactFalseOpenings", unfollowed := true, recurses := true, apart := false }
def FnExactFalseOpeningsSaid : Prop := fnExactFalseOpeningsRow.holds Try.pinned (OpenSpec.ofChange fnExactFalseOpeningsSpec)

/-- ITS FALSE NEIGHBOUR: 'it returns false'. Refute it at one input. -/
def fnExactFalseOpeningsWrong : ChangeSpec := { name := "fnExactFalseOpenings", fn := fun _ => fun
  | [d1, d2] => { results := [.lit (.bool false)], args := [d1, d2] }
  | _ => none }
def FnExactFalseOpeningsWrongFalsely : Prop := fnExactFalseOpeningsRow.holds Try.pinned (OpenSpec.ofChange fnExactFalseOpeningsWrong)

/-- 'laws.FnExactTrimLock': WHATEVER THE INPUT: true; the input reads as it did. -/
def fnExactTrimLockSpec : ChangeSpec := { name := "fnExactTrimLock", fn := fun _ => fun
  | [d1, d2, d3] => { results := [.lit (.bool true)], args := [d1, d2, d3] }
  | _ => none }
def fnExactTrimLockRow : OpenClaim := { program := "ytlldlfiepfjahaa", sum := "319c485b50d0a6f057a1f2eebd2621b5667beaa1eb730b9dcbe8634ff89de717", func := "loop.example/g00947/laws.FnExactTrimLock", spec := "fnExactTrimLock", unfollowed := true, recurses := true, apart := false }
def FnExactTrimLockSaid : Prop := fnExactTrimLockRow.holds Try.pinned (OpenSpec.ofChange fnExactTrimLockSpec)

/-- ITS FALSE NEIGHBOUR: 'it returns false'. Refute it at one input. -/
def fnExactTrimLockWrong : ChangeSpec := { name := "fnExactTrimLock", fn := fun _ => fun
  | [d1, d2, d3] => { results := [.lit (.bool false)], args := [d1, d2, d3] }
  | _ => none }
def FnExactTrimLockWrongFalsely : Prop := fnExactTrimLockRow.holds Try.pinned (OpenSpec.ofChange fnExactTrimLockWrong)

/-- 'laws.FnExactCountCandidates': WHATEVER THE INPUT: true; the input reads as it did. -/
def fnExactCountCandidatesSpec : ChangeSpec := { name := "fnExactCountCandidates", fn := fun _ => fun
  | [d1, d2] => { results := [.lit (.bool true)], args := [d1, d2] }
  | _ => none }
def fnExactCountCandidatesRow : OpenClaim := { program := "ytlldlfiepfjahaa", sum := "319c485b50d0a6f057a1f2eebd2621b5667beaa1eb730b9dcbe8634ff89de717", func := "loop.example/g00947/laws.FnExactCountCandidates", spec := "fnExactCountCandidates", unfollowed := true, recurses := true, apart := false }
def FnExactCountCandidatesSaid : Prop := fnExactCountCandidatesRow.holds Try.pinned (OpenSpec.ofChange fnExactCountCandidatesSpec)

/-- ITS FALSE NEIGHBOUR: 'it returns false'. Refute it at one input. -/
def fnExactCountCandidatesWrong : ChangeSpec := { name := "fnExactCountCandidates", fn := fun _ => fun
  | [d1, d2] => { results := [.lit (.bool false)], args := [d1, d2] }
  | _ => none }
def FnExactCountCandidatesWrongFalsely : Prop := fnExactCountCandidatesRow.holds Try.pinned (OpenSpec.ofChange fnExactCountCandidatesWrong)

/-- 'laws.FnExactNextCandidates': WHATEVER THE INPUT: true; the input reads as it did. -/
def fnExactNextCandidatesSpec : ChangeSpec := { name := "fnExactNextCandidates", fn := fun _ => fun
  | [d1, d2, d3] => { results := [.lit (.bool true)], args := [d1, d2, d3] }
  | _ => none }
def fnExactNextCandidatesRow : OpenClaim := { program := "ytlldlfiepfjahaa", sum := "319c485b50d0a6f057a1f2eebd2621b5667beaa1eb730b9dcbe8634ff89de717", func := "loop.example/g00947/laws.FnExactNextCandidates", spec := "fnExactNextCandidates", unfollowed := true, recurses := true, apart := false }
def FnExactNextCandidatesSaid : Prop := fnExactNextCandidatesRow.holds Try.pinned (OpenSpec.ofChange fnExactNextCandidatesSpec)

/-- ITS FALSE NEIGHBOUR: 'it returns false'. Refute it at one input. -/
def fnExactNextCandidatesWrong : ChangeSpec := { name := "fnExactNextCandidates", fn := fun _ => fun
  | [d1, d2, d3] => { results := [.lit (.bool false)], args := [d1, d2, d3] }
  | _ => none }
def FnExactNextCandidatesWrongFalsely : Prop := fnExactNextCandidatesRow.holds Try.pinned (OpenSpec.ofChange fnExactNextCandidatesWrong)

/-- 'laws.FnExactCountDesigns': WHATEVER THE INPUT: true; the input reads as it did. -/
def fnExactCountDesignsSpec : ChangeSpec := { name := "fnExactCountDesigns", fn := fun _ => fun
  | [d1, d2] => { results := [.lit (.bool true)], args := [d1, d2] }
  | _ => none }
def fnExactCountDesignsRow : OpenClaim := { program := "ytlldlfiepfjahaa", sum := "319c485b50d0a6f057a1f2eebd2621b5667beaa1eb730b9dcbe8634ff89de717", func := "loop.example/g00947/laws.FnExactCountDesigns", spec := "fnExactCountDesigns", unfollowed := true, recurses := true, apart := false }
def FnExactCountDesignsSaid : Prop := fnExactCountDesignsRow.holds Try.pinned (OpenSpec.ofChange fnExactCountDesignsSpec)

/-- ITS FALSE NEIGHBOUR: 'it returns false'. Refute it at one input. -/
def fnExactCountDesignsWrong : ChangeSpec := { name := "fnExactCountDesigns", fn := fun _ => fun
  | [d1, d2] => { results := [.lit (.bool false)], args := [d1, d2] }
  | _ => none }
def FnExactCountDesignsWrongFalsely : Prop := fnExactCountDesignsRow.holds Try.pinned (OpenSpec.ofChange fnExactCountDesignsWrong)

/-- 'laws.FnExactCountTries': WHATEVER THE INPUT: true; the input reads as it did. -/
def fnExactCountTriesSpec : ChangeSpec := { name := "fnExactCountTries", fn := fun _ => fun
  | [d1, d2] => { results := [.lit (.bool true)], args := [d1, d2] }
  | _ => none }
def fnExactCountTriesRow : OpenClaim := { program := "ytlldlfiepfjahaa", sum := "319c485b50d0a6f057a1f2eebd2621b5667beaa1eb730b9dcbe8634ff89de717", func := "loop.example/g00947/laws.FnExactCountTries", spec := "fnExactCountTries", unfollowed := true, recurses := true, apart := false }
def FnExactCountTriesSaid : Prop := fnExactCountTriesRow.holds Try.pinned (OpenSpec.ofChange fnExactCountTriesSpec)

/-- ITS FALSE NEIGHBOUR: 'it returns false'. Refute it at one input. -/
def fnExactCountTriesWrong : ChangeSpec := { name := "fnExactCountTries", fn := fun _ => fun
  | [d1, d2] => { results := [.lit (.bool false)], args := [d1, d2] }
  | _ => none }
def FnExactCountTriesWrongFalsely : Prop := fnExactCountTriesRow.holds Try.pinned (OpenSpec.ofChange fnExactCountTriesWrong)

/-- 'laws.FnExactHasDesign': WHATEVER THE INPUT: true; the input reads as it did. -/
def fnExactHasDesignSpec : ChangeSpec := { name := "fnExactHasDesign", fn := fun _ => fun
  | [d1, d2] => { results := [.lit (.bool true)], args := [d1, d2] }
  | _ => none }
def fnExactHasDesignRow : OpenClaim := { program := "ytlldlfiepfjahaa", sum := "319c485b50d0a6f057a1f2eebd2621b5667beaa1eb730b9dcbe8634ff89de717", func := "loop.example/g00947/laws.FnExactHasDesign", spec := "fnExactHasDesign", unfollowed := true, recurses := true, apart := false }
def FnExactHasDesignSaid : Prop := fnExactHasDesignRow.holds Try.pinned (OpenSpec.ofChange fnExactHasDesignSpec)

/-- ITS FALSE NEIGHBOUR: 'it returns false'. Refute it at one input. -/
def fnExactHasDesignWrong : ChangeSpec := { name := "fnExactHasDesign", fn := fun _ => fun
  | [d1, d2] => { results := [.lit (.bool false)], args := [d1, d2] }
  | _ => none }
def FnExactHasDesignWrongFalsely : Prop := fnExactHasDesignRow.holds Try.pinned (OpenSpec.ofChange fnExactHasDesignWrong)

/-- 'laws.FnHierarchies': WHATEVER THE INPUT: true; the input reads as it did. -/
def fnHierarchiesSpec : ChangeSpec := { name := "fnHierarchies", fn := fun _ => fun
  | [d] => { results := [.lit (.bool true)], args := [d] }
  | _ => none }
def fnHierarchiesRow : OpenClaim := { program := "ytlldlfiepfjahaa", sum := "319c485b50d0a6f057a1f2eebd2621b5667beaa1eb730b9dcbe8634ff89de717", func := "loop.example/g00947/laws.FnHierarchies", spec := "fnHierarchies", apart := false }
def FnHierarchiesSaid : Prop := fnHierarchiesRow.holds Try.pinned (OpenSpec.ofChange fnHierarchiesSpec)

/-- ITS FALSE NEIGHBOUR: 'it returns false'. Refute it at one input. -/
def fnHierarchiesWrong : ChangeSpec := { name := "fnHierarchies", fn := fun _ => fun
  | [d] => { results := [.lit (.bool false)], args := [d] }
  | _ => none }
def FnHierarchiesWrongFalsely : Prop := fnHierarchiesRow.holds Try.pinned (OpenSpec.ofChange fnHierarchiesWrong)

/-- 'laws.FnTables': WHATEVER THE INPUT: true; the input reads as it did. -/
def fnTablesSpec : ChangeSpec := { name := "fnTables", fn := fun _ => fun
  | [d] => { results := [.lit (.bool true)], args := [d] }
  | _ => none }
def fnTablesRow : OpenClaim := { program := "ytlldlfiepfjahaa", sum := "319c485b50d0a6f057a1f2eebd2621b5667beaa1eb730b9dcbe8634ff89de717", func := "loop.example/g00947/laws.FnTables", spec := "fnTables", unfollowed := true, recurses := true, apart := false }
def FnTablesSaid : Prop := fnTablesRow.holds Try.pinned (OpenSpec.ofChange fnTablesSpec)

/-- ITS FALSE NEIGHBOUR: 'it returns false'. Refute it at one input. -/
def fnTablesWrong : ChangeSpec := { name := "fnTables", fn := fun _ => fun
  | [d] => { results := [.lit (.bool false)], args := [d] }
  | _ => none }
def FnTablesWrongFalsely : Prop := fnTablesRow.holds Try.pinned (OpenSpec.ofChange fnTablesWrong)

/- THE SECOND FORM. 'bulk': how many values and letters a reading holds, each counted each time it is reached (what is shared counts as often as it is met; a slice's spare places count too). A statement '..UptoSaid' is the law's where the arguments, and the package variables that the reading takes, are together of bulk at most 1048576: NARROWER than '..Said'. Prove '..Said' where nothing that the law and all that it calls make is longer than what came in: it says more and counts as full. Else prove '..UptoSaid'. A law counts once. -/
mutual
def uptoBulk {H : Type} : DataW H → Nat
  | .lit (.string bytes) => bytes.length + 1
  | .lit _ => 1
  | .nil => 1
  | .ptr d => uptoBulk d + 1
  | .slice elems spare => uptoBulkAll elems + uptoBulkAll spare + 1
  | .agg parts => uptoBulkAll parts + 1
  | .iface _ d => uptoBulk d + 1
  | .map entries => uptoBulkEntries entries + 1
  | .held _ => 1
def uptoBulkAll {H : Type} : List (DataW H) → Nat
  | [] => 0
  | d :: r => uptoBulk d + uptoBulkAll r
def uptoBulkEntries {H : Type} : List (Lit × DataW H) → Nat
  | [] => 0
  | x :: r => uptoBulkEntry x + uptoBulkEntries r
def uptoBulkEntry {H : Type} : Lit × DataW H → Nat
  | (.string bytes, d) => bytes.length + uptoBulk d + 1
  | (_, d) => uptoBulk d + 1
 end
def uptoSmall : (H : Type) → List (DataW H) → Bool := fun _ ds => decide (uptoBulkAll ds ≤ 1048576)
def OpenSpec.upto (s : _root_.Go.ChangeSpec) : _root_.Go.OpenSpec := { _root_.Go.OpenSpec.ofChange s with cond := some uptoSmall }

/-- 'laws.FnExactLongestPart', WHERE WHAT IT READS IS OF BULK AT MOST 1048576: true; the input reads as it did. -/
def fnExactLongestPartUptoRow : OpenClaim := { program := "ytlldlfiepfjahaa", sum := "319c485b50d0a6f057a1f2eebd2621b5667beaa1eb730b9dcbe8634ff89de717", func := "loop.example/g00947/laws.FnExactLongestPart", spec := "fnExactLongestPart", unfollowed := true, recurses := true, apart := false, narrowed := true }
def FnExactLongestPartUptoSaid : Prop := fnExactLongestPartUptoRow.holds Try.pinned (OpenSpec.upto fnExactLongestPartSpec)

/-- 'laws.FnExactOpenDoors', WHERE WHAT IT READS IS OF BULK AT MOST 1048576: true; the input reads as it did. -/
def fnExactOpenDoorsUptoRow : OpenClaim := { program := "ytlldlfiepfjahaa", sum := "319c485b50d0a6f057a1f2eebd2621b5667beaa1eb730b9dcbe8634ff89de717", func := "loop.example/g00947/laws.FnExactOpenDoors", spec := "fnExactOpenDoors", unfollowed := true, recurses := true, apart := false, narrowed := true }
def FnExactOpenDoorsUptoSaid : Prop := fnExactOpenDoorsUptoRow.holds Try.pinned (OpenSpec.upto fnExactOpenDoorsSpec)

/-- 'laws.FnExactFalseOpenings', WHERE WHAT IT READS IS OF BULK AT MOST 1048576: true; the input reads as it did. -/
def fnExactFalseOpeningsUptoRow : OpenClaim := { program := "ytlldlfiepfjahaa", sum := "319c485b50d0a6f057a1f2eebd2621b5667beaa1eb730b9dcbe8634ff89de717", func := "loop.example/g00947/laws.FnExactFalseOpenings", spec := "fnExactFalseOpenings", unfollowed := true, recurses := true, apart := false, narrowed := true }
def FnExactFalseOpeningsUptoSaid : Prop := fnExactFalseOpeningsUptoRow.holds Try.pinned (OpenSpec.upto fnExactFalseOpeningsSpec)

/-- 'laws.FnExactTrimLock', WHERE WHAT IT READS IS OF BULK AT MOST 1048576: true; the input reads as it did. -/
def fnExactTrimLockUptoRow : OpenClaim := { program := "ytlldlfiepfjahaa", sum := "319c485b50d0a6f057a1f2eebd2621b5667beaa1eb730b9dcbe8634ff89de717", func := "loop.example/g00947/laws.FnExactTrimLock", spec := "fnExactTrimLock", unfollowed := true, recurses := true, apart := false, narrowed := true }
def FnExactTrimLockUptoSaid : Prop := fnExactTrimLockUptoRow.holds Try.pinned (OpenSpec.upto fnExactTrimLockSpec)

/-- 'laws.FnExactCountCandidates', WHERE WHAT IT READS IS OF BULK AT MOST 1048576: true; the input reads as it did. -/
def fnExactCountCandidatesUptoRow : OpenClaim := { program := "ytlldlfiepfjahaa", sum := "319c485b50d0a6f057a1f2eebd2621b5667beaa1eb730b9dcbe8634ff89de717", func := "loop.example/g00947/laws.FnExactCountCandidates", spec := "fnExactCountCandidates", unfollowed := true, recurses := true, apart := false, narrowed := true }
def FnExactCountCandidatesUptoSaid : Prop := fnExactCountCandidatesUptoRow.holds Try.pinned (OpenSpec.upto fnExactCountCandidatesSpec)

/-- 'laws.FnExactNextCandidates', WHERE WHAT IT READS IS OF BULK AT MOST 1048576: true; the input reads as it did. -/
def fnExactNextCandidatesUptoRow : OpenClaim := { program := "ytlldlfiepfjahaa", sum := "319c485b50d0a6f057a1f2eebd2621b5667beaa1eb730b9dcbe8634ff89de717", func := "loop.example/g00947/laws.FnExactNextCandidates", spec := "fnExactNextCandidates", unfollowed := true, recurses := true, apart := false, narrowed := true }
def FnExactNextCandidatesUptoSaid : Prop := fnExactNextCandidatesUptoRow.holds Try.pinned (OpenSpec.upto fnExactNextCandidatesSpec)

/-- 'laws.FnExactCountDesigns', WHERE WHAT IT READS IS OF BULK AT MOST 1048576: true; the input reads as it did. -/
def fnExactCountDesignsUptoRow : OpenClaim := { program := "ytlldlfiepfjahaa", sum := "319c485b50d0a6f057a1f2eebd2621b5667beaa1eb730b9dcbe8634ff89de717", func := "loop.example/g00947/laws.FnExactCountDesigns", spec := "fnExactCountDesigns", unfollowed := true, recurses := true, apart := false, narrowed := true }
def FnExactCountDesignsUptoSaid : Prop := fnExactCountDesignsUptoRow.holds Try.pinned (OpenSpec.upto fnExactCountDesignsSpec)

/-- 'laws.FnExactCountTries', WHERE WHAT IT READS IS OF BULK AT MOST 1048576: true; the input reads as it did. -/
def fnExactCountTriesUptoRow : OpenClaim := { program := "ytlldlfiepfjahaa", sum := "319c485b50d0a6f057a1f2eebd2621b5667beaa1eb730b9dcbe8634ff89de717", func := "loop.example/g00947/laws.FnExactCountTries", spec := "fnExactCountTries", unfollowed := true, recurses := true, apart := false, narrowed := true }
def FnExactCountTriesUptoSaid : Prop := fnExactCountTriesUptoRow.holds Try.pinned (OpenSpec.upto fnExactCountTriesSpec)

/-- 'laws.FnExactHasDesign', WHERE WHAT IT READS IS OF BULK AT MOST 1048576: true; the input reads as it did. -/
def fnExactHasDesignUptoRow : OpenClaim := { program := "ytlldlfiepfjahaa", sum := "319c485b50d0a6f057a1f2eebd2621b5667beaa1eb730b9dcbe8634ff89de717", func := "loop.example/g00947/laws.FnExactHasDesign", spec := "fnExactHasDesign", unfollowed := true, recurses := true, apart := false, narrowed := true }
def FnExactHasDesignUptoSaid : Prop := fnExactHasDesignUptoRow.holds Try.pinned (OpenSpec.upto fnExactHasDesignSpec)

/-- 'laws.FnHierarchies', WHERE WHAT IT READS IS OF BULK AT MOST 1048576: true; the input reads as it did. -/
def fnHierarchiesUptoRow : OpenClaim := { program := "ytlldlfiepfjahaa", sum := "319c485b50d0a6f057a1f2eebd2621b5667beaa1eb730b9dcbe8634ff89de717", func := "loop.example/g00947/laws.FnHierarchies", spec := "fnHierarchies", apart := false, narrowed := true }
def FnHierarchiesUptoSaid : Prop := fnHierarchiesUptoRow.holds Try.pinned (OpenSpec.upto fnHierarchiesSpec)

/-- 'laws.FnTables', WHERE WHAT IT READS IS OF BULK AT MOST 1048576: true; the input reads as it did. -/
def fnTablesUptoRow : OpenClaim := { program := "ytlldlfiepfjahaa", sum := "319c485b50d0a6f057a1f2eebd2621b5667beaa1eb730b9dcbe8634ff89de717", func := "loop.example/g00947/laws.FnTables", spec := "fnTables", unfollowed := true, recurses := true, apart := false, narrowed := true }
def FnTablesUptoSaid : Prop := fnTablesUptoRow.holds Try.pinned (OpenSpec.upto fnTablesSpec)

end Rows
end Go.Proofs.Ytlldlfiepfjahaa
