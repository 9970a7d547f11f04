/-
  No cell of these rows narrows 'for every input' (looked for: loops, veiled, ifaces, maps, wideKeys, modest, calm, conditions, laid).
  DERIVED. THE GIVEN ROWS OF THIS SEAT. 11 by the template 'for every input the law returns true; each argument reads behind the call as it read before'; 0 by the template 'total and deterministic' (their statements: YtapocenhmdcfoaaTotals.lean).
  GIVEN WITH THE SEED: the statements are not yours to turn. If you find one false, say at which input.
  Laid BY PROGRAM, IN A SANDBOX (cutbox-rows.mjs): the forced cells as the released guide's own fill.sh prints them over the translation 0c47fb6f4f17fda7… (all of the seat's roots in one cut). By AI agents, Wed Nov 11 2026. No macro, syntax, notation, axiom, sorry.
-/
import Derived.Test.YtapocenhmdcfoaaChecked
import GoSem.Claim
import GoSem.ClaimJoined
import GoSem.ClaimMapViews
import Derived.JoinedTies
import Derived.KernelRfl
namespace Go.Proofs.Ytapocenhmdcfoaa
/- THE CELL 'sum', in the pinned program and in every row, IS THE sha256 OF THE DUMP (.gsa) THAT YtapocenhmdcfoaaProg.lean LOADS. Nothing in Lean hashes anything: it is a label: what it is worth is what the hold of that sum in a sandbox is worth. -/
noncomputable def Try.pinned : Pinned := { name := "ytapocenhmdcfoaa", sum := "0c47fb6f4f17fda71632c32ca36f1fdfe3d6673fee7fe8a84ddc7115e2a1ab56", checked := Try.checked }
namespace Rows
def none {H : Type} : Left H := { results := [], args := [] }

/-- 'laws.FnExactSwapKeys': WHATEVER THE INPUT: true; the input reads as it did. -/
def fnExactSwapKeysSpec : ChangeSpec := { name := "fnExactSwapKeys", fn := fun _ => fun
  | [d1, d2, d3, d4] => { results := [.lit (.bool true)], args := [d1, d2, d3, d4] }
  | _ => none }
def fnExactSwapKeysRow : OpenClaim := { program := "ytapocenhmdcfoaa", sum := "0c47fb6f4f17fda71632c32ca36f1fdfe3d6673fee7fe8a84ddc7115e2a1ab56", func := "loop.example/g00947/laws.FnExactSwapKeys", spec := "fnExactSwapKeys", unfollowed := true, recurses := true, apart := false }
def FnExactSwapKeysSaid : Prop := fnExactSwapKeysRow.holds Try.pinned (OpenSpec.ofChange fnExactSwapKeysSpec)

/-- ITS FALSE NEIGHBOUR: 'it returns false'. Refute it at one input. -/
def fnExactSwapKeysWrong : ChangeSpec := { name := "fnExactSwapKeys", fn := fun _ => fun
  | [d1, d2, d3, d4] => { results := [.lit (.bool false)], args := [d1, d2, d3, d4] }
  | _ => none }
def FnExactSwapKeysWrongFalsely : Prop := fnExactSwapKeysRow.holds Try.pinned (OpenSpec.ofChange fnExactSwapKeysWrong)

/-- 'laws.FnExactCountCandidates': WHATEVER THE INPUT: true; the input reads as it did. -/
def fnExactCountCandidatesSpec : ChangeSpec := { name := "fnExactCountCandidates", fn := fun _ => fun
  | [d1, d2] => { results := [.lit (.bool true)], args := [d1, d2] }
  | _ => none }
def fnExactCountCandidatesRow : OpenClaim := { program := "ytapocenhmdcfoaa", sum := "0c47fb6f4f17fda71632c32ca36f1fdfe3d6673fee7fe8a84ddc7115e2a1ab56", func := "loop.example/g00947/laws.FnExactCountCandidates", spec := "fnExactCountCandidates", unfollowed := true, recurses := true, apart := false }
def FnExactCountCandidatesSaid : Prop := fnExactCountCandidatesRow.holds Try.pinned (OpenSpec.ofChange fnExactCountCandidatesSpec)

/-- ITS FALSE NEIGHBOUR: 'it returns false'. Refute it at one input. -/
def fnExactCountCandidatesWrong : ChangeSpec := { name := "fnExactCountCandidates", fn := fun _ => fun
  | [d1, d2] => { results := [.lit (.bool false)], args := [d1, d2] }
  | _ => none }
def FnExactCountCandidatesWrongFalsely : Prop := fnExactCountCandidatesRow.holds Try.pinned (OpenSpec.ofChange fnExactCountCandidatesWrong)

/-- 'laws.FnExactNextCandidates': WHATEVER THE INPUT: true; the input reads as it did. -/
def fnExactNextCandidatesSpec : ChangeSpec := { name := "fnExactNextCandidates", fn := fun _ => fun
  | [d1, d2, d3] => { results := [.lit (.bool true)], args := [d1, d2, d3] }
  | _ => none }
def fnExactNextCandidatesRow : OpenClaim := { program := "ytapocenhmdcfoaa", sum := "0c47fb6f4f17fda71632c32ca36f1fdfe3d6673fee7fe8a84ddc7115e2a1ab56", func := "loop.example/g00947/laws.FnExactNextCandidates", spec := "fnExactNextCandidates", unfollowed := true, recurses := true, apart := false }
def FnExactNextCandidatesSaid : Prop := fnExactNextCandidatesRow.holds Try.pinned (OpenSpec.ofChange fnExactNextCandidatesSpec)

/-- ITS FALSE NEIGHBOUR: 'it returns false'. Refute it at one input. -/
def fnExactNextCandidatesWrong : ChangeSpec := { name := "fnExactNextCandidates", fn := fun _ => fun
  | [d1, d2, d3] => { results := [.lit (.bool false)], args := [d1, d2, d3] }
  | _ => none }
def FnExactNextCandidatesWrongFalsely : Prop := fnExactNextCandidatesRow.holds Try.pinned (OpenSpec.ofChange fnExactNextCandidatesWrong)

/-- 'laws.FnExactCountDesigns': WHATEVER THE INPUT: true; the input reads as it did. -/
def fnExactCountDesignsSpec : ChangeSpec := { name := "fnExactCountDesigns", fn := fun _ => fun
  | [d1, d2] => { results := [.lit (.bool true)], args := [d1, d2] }
  | _ => none }
def fnExactCountDesignsRow : OpenClaim := { program := "ytapocenhmdcfoaa", sum := "0c47fb6f4f17fda71632c32ca36f1fdfe3d6673fee7fe8a84ddc7115e2a1ab56", func := "loop.example/g00947/laws.FnExactCountDesigns", spec := "fnExactCountDesigns", unfollowed := true, recurses := true, apart := false }
def FnExactCountDesignsSaid : Prop := fnExactCountDesignsRow.holds Try.pinned (OpenSpec.ofChange fnExactCountDesignsSpec)

/-- ITS FALSE NEIGHBOUR: 'it returns false'. Refute it at one input. -/
def fnExactCountDesignsWrong : ChangeSpec := { name := "fnExactCountDesigns", fn := fun _ => fun
  | [d1, d2] => { results := [.lit (.bool false)], args := [d1, d2] }
  | _ => none }
def FnExactCountDesignsWrongFalsely : Prop := fnExactCountDesignsRow.holds Try.pinned (OpenSpec.ofChange fnExactCountDesignsWrong)

/-- 'laws.FnExactCountTries': WHATEVER THE INPUT: true; the input reads as it did. -/
def fnExactCountTriesSpec : ChangeSpec := { name := "fnExactCountTries", fn := fun _ => fun
  | [d1, d2] => { results := [.lit (.bool true)], args := [d1, d2] }
  | _ => none }
def fnExactCountTriesRow : OpenClaim := { program := "ytapocenhmdcfoaa", sum := "0c47fb6f4f17fda71632c32ca36f1fdfe3d6673fee7fe8a84ddc7115e2a1ab56", func := "loop.example/g00947/laws.FnExactCountTries", spec := "fnExactCountTries", unfollowed := true, recurses := true, apart := false }
def FnExactCountTriesSaid : Prop := fnExactCountTriesRow.holds Try.pinned (OpenSpec.ofChange fnExactCountTriesSpec)

/-- ITS FALSE NEIGHBOUR: 'it returns false'. Refute it at one input. -/
def fnExactCountTriesWrong : ChangeSpec := { name := "fnExactCountTries", fn := fun _ => fun
  | [d1, d2] => { results := [.lit (.bool false)], args := [d1, d2] }
  | _ => none }
def FnExactCountTriesWrongFalsely : Prop := fnExactCountTriesRow.holds Try.pinned (OpenSpec.ofChange fnExactCountTriesWrong)

/-- 'laws.FnExactHasDesign': WHATEVER THE INPUT: true; the input reads as it did. -/
def fnExactHasDesignSpec : ChangeSpec := { name := "fnExactHasDesign", fn := fun _ => fun
  | [d1, d2] => { results := [.lit (.bool true)], args := [d1, d2] }
  | _ => none }
def fnExactHasDesignRow : OpenClaim := { program := "ytapocenhmdcfoaa", sum := "0c47fb6f4f17fda71632c32ca36f1fdfe3d6673fee7fe8a84ddc7115e2a1ab56", func := "loop.example/g00947/laws.FnExactHasDesign", spec := "fnExactHasDesign", unfollowed := true, recurses := true, apart := false }
def FnExactHasDesignSaid : Prop := fnExactHasDesignRow.holds Try.pinned (OpenSpec.ofChange fnExactHasDesignSpec)

/-- ITS FALSE NEIGHBOUR: 'it returns false'. Refute it at one input. -/
def fnExactHasDesignWrong : ChangeSpec := { name := "fnExactHasDesign", fn := fun _ => fun
  | [d1, d2] => { results := [.lit (.bool false)], args := [d1, d2] }
  | _ => none }
def FnExactHasDesignWrongFalsely : Prop := fnExactHasDesignRow.holds Try.pinned (OpenSpec.ofChange fnExactHasDesignWrong)

/-- 'laws.FnHierarchies': WHATEVER THE INPUT: true; the input reads as it did. -/
def fnHierarchiesSpec : ChangeSpec := { name := "fnHierarchies", fn := fun _ => fun
  | [d] => { results := [.lit (.bool true)], args := [d] }
  | _ => none }
def fnHierarchiesRow : OpenClaim := { program := "ytapocenhmdcfoaa", sum := "0c47fb6f4f17fda71632c32ca36f1fdfe3d6673fee7fe8a84ddc7115e2a1ab56", func := "loop.example/g00947/laws.FnHierarchies", spec := "fnHierarchies", apart := false }
def FnHierarchiesSaid : Prop := fnHierarchiesRow.holds Try.pinned (OpenSpec.ofChange fnHierarchiesSpec)

/-- ITS FALSE NEIGHBOUR: 'it returns false'. Refute it at one input. -/
def fnHierarchiesWrong : ChangeSpec := { name := "fnHierarchies", fn := fun _ => fun
  | [d] => { results := [.lit (.bool false)], args := [d] }
  | _ => none }
def FnHierarchiesWrongFalsely : Prop := fnHierarchiesRow.holds Try.pinned (OpenSpec.ofChange fnHierarchiesWrong)

/-- 'laws.FnTables': WHATEVER THE INPUT: true; the input reads as it did. -/
def fnTablesSpec : ChangeSpec := { name := "fnTables", fn := fun _ => fun
  | [d] => { results := [.lit (.bool true)], args := [d] }
  | _ => none }
def fnTablesRow : OpenClaim := { program := "ytapocenhmdcfoaa", sum := "0c47fb6f4f17fda71632c32ca36f1fdfe3d6673fee7fe8a84ddc7115e2a1ab56", func := "loop.example/g00947/laws.FnTables", spec := "fnTables", unfollowed := true, recurses := true, apart := false }
def FnTablesSaid : Prop := fnTablesRow.holds Try.pinned (OpenSpec.ofChange fnTablesSpec)

/-- ITS FALSE NEIGHBOUR: 'it returns false'. Refute it at one input. -/
def fnTablesWrong : ChangeSpec := { name := "fnTables", fn := fun _ => fun
  | [d] => { results := [.lit (.bool false)], args := [d] }
  | _ => none }
def FnTablesWrongFalsely : Prop := fnTablesRow.holds Try.pinned (OpenSpec.ofChange fnTablesWrong)

/-- 'laws.FnPaths': WHATEVER THE INPUT: true; the input reads as it did. -/
def fnPathsSpec : ChangeSpec := { name := "fnPaths", fn := fun _ => fun
  | [d] => { results := [.lit (.bool true)], args := [d] }
  | _ => none }
def fnPathsRow : OpenClaim := { program := "ytapocenhmdcfoaa", sum := "0c47fb6f4f17fda71632c32ca36f1fdfe3d6673fee7fe8a84ddc7115e2a1ab56", func := "loop.example/g00947/laws.FnPaths", spec := "fnPaths", apart := false }
def FnPathsSaid : Prop := fnPathsRow.holds Try.pinned (OpenSpec.ofChange fnPathsSpec)

/-- ITS FALSE NEIGHBOUR: 'it returns false'. Refute it at one input. -/
def fnPathsWrong : ChangeSpec := { name := "fnPaths", fn := fun _ => fun
  | [d] => { results := [.lit (.bool false)], args := [d] }
  | _ => none }
def FnPathsWrongFalsely : Prop := fnPathsRow.holds Try.pinned (OpenSpec.ofChange fnPathsWrong)

/-- 'laws.FnLeastLevels': WHATEVER THE INPUT: true; the input reads as it did. -/
def fnLeastLevelsSpec : ChangeSpec := { name := "fnLeastLevels", fn := fun _ => fun
  | [d] => { results := [.lit (.bool true)], args := [d] }
  | _ => none }
def fnLeastLevelsRow : OpenClaim := { program := "ytapocenhmdcfoaa", sum := "0c47fb6f4f17fda71632c32ca36f1fdfe3d6673fee7fe8a84ddc7115e2a1ab56", func := "loop.example/g00947/laws.FnLeastLevels", spec := "fnLeastLevels", unfollowed := true, recurses := true, apart := false }
def FnLeastLevelsSaid : Prop := fnLeastLevelsRow.holds Try.pinned (OpenSpec.ofChange fnLeastLevelsSpec)

/-- ITS FALSE NEIGHBOUR: 'it returns false'. Refute it at one input. -/
def fnLeastLevelsWrong : ChangeSpec := { name := "fnLeastLevels", fn := fun _ => fun
  | [d] => { results := [.lit (.bool false)], args := [d] }
  | _ => none }
def FnLeastLevelsWrongFalsely : Prop := fnLeastLevelsRow.holds Try.pinned (OpenSpec.ofChange fnLeastLevelsWrong)

/-- 'laws.FnHarmless': WHATEVER THE INPUT: true; the input reads as it did. -/
def fnHarmlessSpec : ChangeSpec := { name := "fnHarmless", fn := fun _ => fun
  | [d] => { results := [.lit (.bool true)], args := [d] }
  | _ => none }
def fnHarmlessRow : OpenClaim := { program := "ytapocenhmdcfoaa", sum := "0c47fb6f4f17fda71632c32ca36f1fdfe3d6673fee7fe8a84ddc7115e2a1ab56", func := "loop.example/g00947/laws.FnHarmless", spec := "fnHarmless", unfollowed := true, recurses := true, apart := false }
def FnHarmlessSaid : Prop := fnHarmlessRow.holds Try.pinned (OpenSpec.ofChange fnHarmlessSpec)

/-- ITS FALSE NEIGHBOUR: 'it returns false'. Refute it at one input. -/
def fnHarmlessWrong : ChangeSpec := { name := "fnHarmless", fn := fun _ => fun
  | [d] => { results := [.lit (.bool false)], args := [d] }
  | _ => none }
def FnHarmlessWrongFalsely : Prop := fnHarmlessRow.holds Try.pinned (OpenSpec.ofChange fnHarmlessWrong)

/- THE SECOND FORM. 'bulk': how many values and letters a reading holds, each counted each time it is reached (what is shared counts as often as it is met; a slice's spare places count too). A statement '..UptoSaid' is the law's where the arguments, and the package variables that the reading takes, are together of bulk at most 1048576: NARROWER than '..Said'. Prove '..Said' where nothing that the law and all that it calls make is longer than what came in: it says more and counts as full. Else prove '..UptoSaid'. A law counts once. -/
mutual
def uptoBulk {H : Type} : DataW H → Nat
  | .lit (.string bytes) => bytes.length + 1
  | .lit _ => 1
  | .nil => 1
  | .ptr d => uptoBulk d + 1
  | .slice elems spare => uptoBulkAll elems + uptoBulkAll spare + 1
  | .agg parts => uptoBulkAll parts + 1
  | .iface _ d => uptoBulk d + 1
  | .map entries => uptoBulkEntries entries + 1
  | .held _ => 1
def uptoBulkAll {H : Type} : List (DataW H) → Nat
  | [] => 0
  | d :: r => uptoBulk d + uptoBulkAll r
def uptoBulkEntries {H : Type} : List (Lit × DataW H) → Nat
  | [] => 0
  | x :: r => uptoBulkEntry x + uptoBulkEntries r
def uptoBulkEntry {H : Type} : Lit × DataW H → Nat
  | (.string bytes, d) => bytes.length + uptoBulk d + 1
  | (_, d) => uptoBulk d + 1
 end
def uptoSmall : (H : Type) → List (DataW H) → Bool := fun _ ds => decide (uptoBulkAll ds ≤ 1048576)
def OpenSpec.upto (s : _root_.Go.ChangeSpec) : _root_.Go.OpenSpec := { _root_.Go.OpenSpec.ofChange s with cond := some uptoSmall }

/-- 'laws.FnExactSwapKeys', WHERE WHAT IT READS IS OF BULK AT MOST 1048576: true; the input reads as it did. -/
def fnExactSwapKeysUptoRow : OpenClaim := { program := "ytapocenhmdcfoaa", sum := "0c47fb6f4f17fda71632c32ca36f1fdfe3d6673fee7fe8a84ddc7115e2a1ab56", func := "loop.example/g00947/laws.FnExactSwapKeys", spec := "fnExactSwapKeys", unfollowed := true, recurses := true, apart := false, narrowed := true }
def FnExactSwapKeysUptoSaid : Prop := fnExactSwapKeysUptoRow.holds Try.pinned (OpenSpec.upto fnExactSwapKeysSpec)

/-- 'laws.FnExactCountCandidates', WHERE WHAT IT READS IS OF BULK AT MOST 1048576: true; the input reads as it did. -/
def fnExactCountCandidatesUptoRow : OpenClaim := { program := "ytapocenhmdcfoaa", sum := "0c47fb6f4f17fda71632c32ca36f1fdfe3d6673fee7fe8a84ddc7115e2a1ab56", func := "loop.example/g00947/laws.FnExactCountCandidates", spec := "fnExactCountCandidates", unfollowed := true, recurses := true, apart := false, narrowed := true }
def FnExactCountCandidatesUptoSaid : Prop := fnExactCountCandidatesUptoRow.holds Try.pinned (OpenSpec.upto fnExactCountCandidatesSpec)

/-- 'laws.FnExactNextCandidates', WHERE WHAT IT READS IS OF BULK AT MOST 1048576: true; the input reads as it did. -/
def fnExactNextCandidatesUptoRow : OpenClaim := { program := "ytapocenhmdcfoaa", sum := "0c47fb6f4f17fda71632c32ca36f1fdfe3d6673fee7fe8a84ddc7115e2a1ab56", func := "loop.example/g00947/laws.FnExactNextCandidates", spec := "fnExactNextCandidates", unfollowed := true, recurses := true, apart := false, narrowed := true }
def FnExactNextCandidatesUptoSaid : Prop := fnExactNextCandidatesUptoRow.holds Try.pinned (OpenSpec.upto fnExactNextCandidatesSpec)

/-- 'laws.FnExactCountDesigns', WHERE WHAT IT READS IS OF BULK AT MOST 1048576: true; the input reads as it did. -/
def fnExactCountDesignsUptoRow : OpenClaim := { program := "ytapocenhmdcfoaa", sum := "0c47fb6f4f17fda71632c32ca36f1fdfe3d6673fee7fe8a84ddc7115e2a1ab56", func := "loop.example/g00947/laws.FnExactCountDesigns", spec := "fnExactCountDesigns", unfollowed := true, recurses := true, apart := false, narrowed := true }
def FnExactCountDesignsUptoSaid : Prop := fnExactCountDesignsUptoRow.holds Try.pinned (OpenSpec.upto fnExactCountDesignsSpec)

/-- 'laws.FnExactCountTries', WHERE WHAT IT READS IS OF BULK AT MOST 1048576: true; the input reads as it did. -/
def fnExactCountTriesUptoRow : OpenClaim := { program := "ytapocenhmdcfoaa", sum := "0c47fb6f4f17fda71632c32ca36f1fdfe3d6673fee7fe8a84ddc7115e2a1ab56", func := "loop.example/g00947/laws.FnExactCountTries", spec := "fnExactCountTries", unfollowed := true, recurses := true, apart := false, narrowed := true }
def FnExactCountTriesUptoSaid : Prop := fnExactCountTriesUptoRow.holds Try.pinned (OpenSpec.upto fnExactCountTriesSpec)

/-- 'laws.FnExactHasDesign', WHERE WHAT IT READS IS OF BULK AT MOST 1048576: true; the input reads as it did. -/
def fnExactHasDesignUptoRow : OpenClaim := { program := "ytapocenhmdcfoaa", sum := "0c47fb6f4f17fda71632c32ca36f1fdfe3d6673fee7fe8a84ddc7115e2a1ab56", func := "loop.example/g00947/laws.FnExactHasDesign", spec := "fnExactHasDesign", unfollowed := true, recurses := true, apart := false, narrowed := true }
def FnExactHasDesignUptoSaid : Prop := fnExactHasDesignUptoRow.holds Try.pinned (OpenSpec.upto fnExactHasDesignSpec)

/-- 'laws.FnHierarchies', WHERE WHAT IT READS IS OF BULK AT MOST 1048576: true; the input reads as it did. -/
def fnHierarchiesUptoRow : OpenClaim := { program := "ytapocenhmdcfoaa", sum := "0c47fb6f4f17fda71632c32ca36f1fdfe3d6673fee7fe8a84ddc7115e2a1ab56", func := "loop.example/g00947/laws.FnHierarchies", spec := "fnHierarchies", apart := false, narrowed := true }
def FnHierarchiesUptoSaid : Prop := fnHierarchiesUptoRow.holds Try.pinned (OpenSpec.upto fnHierarchiesSpec)

/-- 'laws.FnTables', WHERE WHAT IT READS IS OF BULK AT MOST 1048576: true; the input reads as it did. -/
def fnTablesUptoRow : OpenClaim := { program := "ytapocenhmdcfoaa", sum := "0c47fb6f4f17fda71632c32ca36f1fdfe3d6673fee7fe8a84ddc7115e2a1ab56", func := "loop.example/g00947/laws.FnTables", spec := "fnTables", unfollowed := true, recurses := true, apart := false, narrowed := true }
def FnTablesUptoSaid : Prop := fnTablesUptoRow.holds Try.pinned (OpenSpec.upto fnTablesSpec)

/-- 'laws.FnPaths', WHERE WHAT IT READS IS OF BULK AT MOST 1048576: true; the input reads as it did. -/
def fnPathsUptoRow : OpenClaim := { program := "ytapocenhmdcfoaa", sum := "0c47fb6f4f17fda71632c32ca36f1fdfe3d6673fee7fe8a84ddc7115e2a1ab56", func := "loop.example/g00947/laws.FnPaths", spec := "fnPaths", apart := false, narrowed := true }
def FnPathsUptoSaid : Prop := fnPathsUptoRow.holds Try.pinned (OpenSpec.upto fnPathsSpec)

/-- 'laws.FnLeastLevels', WHERE WHAT IT READS IS OF BULK AT MOST 1048576: true; the input reads as it did. -/
def fnLeastLevelsUptoRow : OpenClaim := { program := "ytapocenhmdcfoaa", sum := "0c47fb6f4f17fda71632c32ca36f1fdfe3d6673fee7fe8a84ddc7115e2a1ab56", func := "loop.example/g00947/laws.FnLeastLevels", spec := "fnLeastLevels", unfollowed := true, recurses := true, apart := false, narrowed := true }
def FnLeastLevelsUptoSaid : Prop := fnLeastLevelsUptoRow.holds Try.pinned (OpenSpec.upto fnLeastLevelsSpec)

/-- 'laws.FnHarmless', WHERE WHAT IT READS IS OF BULK AT MOST 1048576: true; the input reads as it did. -/
def fnHarmlessUptoRow : OpenClaim := { program := "ytapocenhmdcfoaa", sum := "0c47fb6f4f17fda71632c32ca36f1fdfe3d6673fee7fe8a84ddc7115e2a1ab56", func := "loop.example/g00947/laws.FnHarmless", spec := "fnHarmless", unfollowed := true, recurses := true, apart := false, narrowed := true }
def FnHarmlessUptoSaid : Prop := fnHarmlessUptoRow.holds Try.pinned (OpenSpec.upto fnHarmlessSpec)

end Rows
end Go.Proofs.Ytapocenhmdcfoaa
