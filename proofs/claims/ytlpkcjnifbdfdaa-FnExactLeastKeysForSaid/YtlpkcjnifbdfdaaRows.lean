/-
  No cell of these rows narrows 'for every input' (looked for: loops, veiled, ifaces, maps, wideKeys, modest, calm, conditions, laid).
  DERIVED. THE GIVEN ROWS OF THIS SEAT. 12 by the template 'for every input the law returns true; each argument reads behind the call as it read before'; 0 by the template 'total and deterministic' (their statements: YtlpkcjnifbdfdaaTotals.lean).
  GIVEN WITH THE SEED: the statements are not yours to turn. If you find one false, say at which input.
  Laid BY PROGRAM, IN A SANDBOX (cutbox-rows.mjs): the forced cells as the released guide's own fill.sh prints them over the translation e31c2d44b4749539… (all of the seat's roots in one cut). By AI agents, Wed Nov 11 2026. No macro, syntax, notation, axiom, sorry.
-/
import Derived.Test.YtlpkcjnifbdfdaaChecked
import GoSem.Claim
import GoSem.ClaimJoined
import GoSem.ClaimMapViews
import Derived.JoinedTies
import Derived.KernelRfl
namespace Go.Proofs.Ytlpkcjnifbdfdaa
/- THE CELL 'sum', in the pinned program and in every row, IS THE sha256 OF THE DUMP (.gsa) THAT YtlpkcjnifbdfdaaProg.lean LOADS. Nothing in Lean hashes anything: it is a label: what it is worth is what the hold of that sum in a sandbox is worth. -/
noncomputable def Try.pinned : Pinned := { name := "ytlpkcjnifbdfdaa", sum := "e31c2d44b474953999185755ff8a4c921dc3e284862eafd30fef7af6569f5f03", checked := Try.checked }
namespace Rows
def none {H : Type} : Left H := { results := [], args := [] }

/-- 'laws.FnExactIsBelow': WHATEVER THE INPUT: true; the input reads as it did. -/
def fnExactIsBelowSpec : ChangeSpec := { name := "fnExactIsBelow", fn := fun _ => fun
  | [d1, d2] => { results := [.lit (.bool true)], args := [d1, d2] }
  | _ => none }
def fnExactIsBelowRow : OpenClaim := { program := "ytlpkcjnifbdfdaa", sum := "e31c2d44b474953999185755ff8a4c921dc3e284862eafd30fef7af6569f5f03", func := "loop.example/g00947/laws.FnExactIsBelow", spec := "fnExactIsBelow", apart := false }
def FnExactIsBelowSaid : Prop := fnExactIsBelowRow.holds Try.pinned (OpenSpec.ofChange fnExactIsBelowSpec)

/-- ITS FALSE NEIGHBOUR: 'it returns false'. Refute it at one input. -/
def fnExactIsBelowWrong : ChangeSpec := { name := "fnExactIsBelow", fn := fun _ => fun
  | [d1, d2] => { results := [.lit (.bool false)], args := [d1, d2] }
  | _ => none }
def FnExactIsBelowWrongFalsely : Prop := fnExactIsBelowRow.holds Try.pinned (OpenSpec.ofChange fnExactIsBelowWrong)

/-- 'laws.FnExactLeastLevels': WHATEVER THE INPUT: true; the input reads as it did. -/
def fnExactLeastLevelsSpec : ChangeSpec := { name := "fnExactLeastLevels", fn := fun _ => fun
  | [d1, d2] => { results := [.lit (.bool true)], args := [d1, d2] }
  | _ => none }
def fnExactLeastLevelsRow : OpenClaim := { program := "ytlpkcjnifbdfdaa", sum := "e31c2d44b474953999185755ff8a4c921dc3e284862eafd30fef7af6569f5f03", func := "loop.example/g00947/laws.FnExactLeastLevels", spec := "fnExactLeastLevels", apart := false }
def FnExactLeastLevelsSaid : Prop := fnExactLeastLevelsRow.holds Try.pinned (OpenSpec.ofChange fnExactLeastLevelsSpec)

/-- ITS FALSE NEIGHBOUR: 'it returns false'. Refute it at one input. -/
def fnExactLeastLevelsWrong : ChangeSpec := { name := "fnExactLeastLevels", fn := fun _ => fun
  | [d1, d2] => { results := [.lit (.bool false)], args := [d1, d2] }
  | _ => none }
def FnExactLeastLevelsWrongFalsely : Prop := fnExactLeastLevelsRow.holds Try.pinned (OpenSpec.ofChange fnExactLeastLevelsWrong)

/-- 'laws.FnExactLevelSizes': WHATEVER THE INPUT: true; the input reads as it did. -/
def fnExactLevelSizesSpec : ChangeSpec := { name := "fnExactLevelSizes", fn := fun _ => fun
  | [d1, d2] => { results := [.lit (.bool true)], args := [d1, d2] }
  | _ => none }
def fnExactLevelSizesRow : OpenClaim := { program := "ytlpkcjnifbdfdaa", sum := "e31c2d44b474953999185755ff8a4c921dc3e284862eafd30fef7af6569f5f03", func := "loop.example/g00947/laws.FnExactLevelSizes", spec := "fnExactLevelSizes", apart := false }
def FnExactLevelSizesSaid : Prop := fnExactLevelSizesRow.holds Try.pinned (OpenSpec.ofChange fnExactLevelSizesSpec)

/-- ITS FALSE NEIGHBOUR: 'it returns false'. Refute it at one input. -/
def fnExactLevelSizesWrong : ChangeSpec := { name := "fnExactLevelSizes", fn := fun _ => fun
  | [d1, d2] => { results := [.lit (.bool false)], args := [d1, d2] }
  | _ => none }
def FnExactLevelSizesWrongFalsely : Prop := fnExactLevelSizesRow.holds Try.pinned (OpenSpec.ofChange fnExactLevelSizesWrong)

/-- 'laws.FnExactMasterKeys': WHATEVER THE INPUT: true; the input reads as it did. -/
def fnExactMasterKeysSpec : ChangeSpec := { name := "fnExactMasterKeys", fn := fun _ => fun
  | [d] => { results := [.lit (.bool true)], args := [d] }
  | _ => none }
def fnExactMasterKeysRow : OpenClaim := { program := "ytlpkcjnifbdfdaa", sum := "e31c2d44b474953999185755ff8a4c921dc3e284862eafd30fef7af6569f5f03", func := "loop.example/g00947/laws.FnExactMasterKeys", spec := "fnExactMasterKeys", apart := false }
def FnExactMasterKeysSaid : Prop := fnExactMasterKeysRow.holds Try.pinned (OpenSpec.ofChange fnExactMasterKeysSpec)

/-- ITS FALSE NEIGHBOUR: 'it returns false'. Refute it at one input. -/
def fnExactMasterKeysWrong : ChangeSpec := { name := "fnExactMasterKeys", fn := fun _ => fun
  | [d] => { results := [.lit (.bool false)], args := [d] }
  | _ => none }
def FnExactMasterKeysWrongFalsely : Prop := fnExactMasterKeysRow.holds Try.pinned (OpenSpec.ofChange fnExactMasterKeysWrong)

/-- 'laws.FnExactEqualRows': WHATEVER THE INPUT: true; the input reads as it did. -/
def fnExactEqualRowsSpec : ChangeSpec := { name := "fnExactEqualRows", fn := fun _ => fun
  | [d] => { results := [.lit (.bool true)], args := [d] }
  | _ => none }
def fnExactEqualRowsRow : OpenClaim := { program := "ytlpkcjnifbdfdaa", sum := "e31c2d44b474953999185755ff8a4c921dc3e284862eafd30fef7af6569f5f03", func := "loop.example/g00947/laws.FnExactEqualRows", spec := "fnExactEqualRows", unfollowed := true, recurses := true, apart := false }
def FnExactEqualRowsSaid : Prop := fnExactEqualRowsRow.holds Try.pinned (OpenSpec.ofChange fnExactEqualRowsSpec)

/-- ITS FALSE NEIGHBOUR: 'it returns false'. Refute it at one input. -/
def fnExactEqualRowsWrong : ChangeSpec := { name := "fnExactEqualRows", fn := fun _ => fun
  | [d] => { results := [.lit (.bool false)], args := [d] }
  | _ => none }
def FnExactEqualRowsWrongFalsely : Prop := fnExactEqualRowsRow.holds Try.pinned (OpenSpec.ofChange fnExactEqualRowsWrong)

/-- 'laws.FnExactIsSystem': WHATEVER THE INPUT: true; the input reads as it did. -/
def fnExactIsSystemSpec : ChangeSpec := { name := "fnExactIsSystem", fn := fun _ => fun
  | [d] => { results := [.lit (.bool true)], args := [d] }
  | _ => none }
def fnExactIsSystemRow : OpenClaim := { program := "ytlpkcjnifbdfdaa", sum := "e31c2d44b474953999185755ff8a4c921dc3e284862eafd30fef7af6569f5f03", func := "loop.example/g00947/laws.FnExactIsSystem", spec := "fnExactIsSystem", apart := false }
def FnExactIsSystemSaid : Prop := fnExactIsSystemRow.holds Try.pinned (OpenSpec.ofChange fnExactIsSystemSpec)

/-- ITS FALSE NEIGHBOUR: 'it returns false'. Refute it at one input. -/
def fnExactIsSystemWrong : ChangeSpec := { name := "fnExactIsSystem", fn := fun _ => fun
  | [d] => { results := [.lit (.bool false)], args := [d] }
  | _ => none }
def FnExactIsSystemWrongFalsely : Prop := fnExactIsSystemRow.holds Try.pinned (OpenSpec.ofChange fnExactIsSystemWrong)

/-- 'laws.FnExactContainedIn': WHATEVER THE INPUT: true; the input reads as it did. -/
def fnExactContainedInSpec : ChangeSpec := { name := "fnExactContainedIn", fn := fun _ => fun
  | [d1, d2] => { results := [.lit (.bool true)], args := [d1, d2] }
  | _ => none }
def fnExactContainedInRow : OpenClaim := { program := "ytlpkcjnifbdfdaa", sum := "e31c2d44b474953999185755ff8a4c921dc3e284862eafd30fef7af6569f5f03", func := "loop.example/g00947/laws.FnExactContainedIn", spec := "fnExactContainedIn", apart := false }
def FnExactContainedInSaid : Prop := fnExactContainedInRow.holds Try.pinned (OpenSpec.ofChange fnExactContainedInSpec)

/-- ITS FALSE NEIGHBOUR: 'it returns false'. Refute it at one input. -/
def fnExactContainedInWrong : ChangeSpec := { name := "fnExactContainedIn", fn := fun _ => fun
  | [d1, d2] => { results := [.lit (.bool false)], args := [d1, d2] }
  | _ => none }
def FnExactContainedInWrongFalsely : Prop := fnExactContainedInRow.holds Try.pinned (OpenSpec.ofChange fnExactContainedInWrong)

/-- 'laws.FnExactCutsAt': WHATEVER THE INPUT: true; the input reads as it did. -/
def fnExactCutsAtSpec : ChangeSpec := { name := "fnExactCutsAt", fn := fun _ => fun
  | [d1, d2, d3, d4] => { results := [.lit (.bool true)], args := [d1, d2, d3, d4] }
  | _ => none }
def fnExactCutsAtRow : OpenClaim := { program := "ytlpkcjnifbdfdaa", sum := "e31c2d44b474953999185755ff8a4c921dc3e284862eafd30fef7af6569f5f03", func := "loop.example/g00947/laws.FnExactCutsAt", spec := "fnExactCutsAt", apart := false }
def FnExactCutsAtSaid : Prop := fnExactCutsAtRow.holds Try.pinned (OpenSpec.ofChange fnExactCutsAtSpec)

/-- ITS FALSE NEIGHBOUR: 'it returns false'. Refute it at one input. -/
def fnExactCutsAtWrong : ChangeSpec := { name := "fnExactCutsAt", fn := fun _ => fun
  | [d1, d2, d3, d4] => { results := [.lit (.bool false)], args := [d1, d2, d3, d4] }
  | _ => none }
def FnExactCutsAtWrongFalsely : Prop := fnExactCutsAtRow.holds Try.pinned (OpenSpec.ofChange fnExactCutsAtWrong)

/-- 'laws.FnExactIsProgression': WHATEVER THE INPUT: true; the input reads as it did. -/
def fnExactIsProgressionSpec : ChangeSpec := { name := "fnExactIsProgression", fn := fun _ => fun
  | [d1, d2] => { results := [.lit (.bool true)], args := [d1, d2] }
  | _ => none }
def fnExactIsProgressionRow : OpenClaim := { program := "ytlpkcjnifbdfdaa", sum := "e31c2d44b474953999185755ff8a4c921dc3e284862eafd30fef7af6569f5f03", func := "loop.example/g00947/laws.FnExactIsProgression", spec := "fnExactIsProgression", apart := false }
def FnExactIsProgressionSaid : Prop := fnExactIsProgressionRow.holds Try.pinned (OpenSpec.ofChange fnExactIsProgressionSpec)

/-- ITS FALSE NEIGHBOUR: 'it returns false'. Refute it at one input. -/
def fnExactIsProgressionWrong : ChangeSpec := { name := "fnExactIsProgression", fn := fun _ => fun
  | [d1, d2] => { results := [.lit (.bool false)], args := [d1, d2] }
  | _ => none }
def FnExactIsProgressionWrongFalsely : Prop := fnExactIsProgressionRow.holds Try.pinned (OpenSpec.ofChange fnExactIsProgressionWrong)

/-- 'laws.FnExactIsChangeKey': WHATEVER THE INPUT: true; the input reads as it did. -/
def fnExactIsChangeKeySpec : ChangeSpec := { name := "fnExactIsChangeKey", fn := fun _ => fun
  | [d1, d2, d3] => { results := [.lit (.bool true)], args := [d1, d2, d3] }
  | _ => none }
def fnExactIsChangeKeyRow : OpenClaim := { program := "ytlpkcjnifbdfdaa", sum := "e31c2d44b474953999185755ff8a4c921dc3e284862eafd30fef7af6569f5f03", func := "loop.example/g00947/laws.FnExactIsChangeKey", spec := "fnExactIsChangeKey", unfollowed := true, recurses := true, apart := false }
def FnExactIsChangeKeySaid : Prop := fnExactIsChangeKeyRow.holds Try.pinned (OpenSpec.ofChange fnExactIsChangeKeySpec)

/-- ITS FALSE NEIGHBOUR: 'it returns false'. Refute it at one input. -/
def fnExactIsChangeKeyWrong : ChangeSpec := { name := "fnExactIsChangeKey", fn := fun _ => fun
  | [d1, d2, d3] => { results := [.lit (.bool false)], args := [d1, d2, d3] }
  | _ => none }
def FnExactIsChangeKeyWrongFalsely : Prop := fnExactIsChangeKeyRow.holds Try.pinned (OpenSpec.ofChange fnExactIsChangeKeyWrong)

/-- 'laws.FnExactLeastKeysFor': WHATEVER THE INPUT: true; the input reads as it did. -/
def fnExactLeastKeysForSpec : ChangeSpec := { name := "fnExactLeastKeysFor", fn := fun _ => fun
  | [d1, d2] => { results := [.lit (.bool true)], args := [d1, d2] }
  | _ => none }
def fnExactLeastKeysForRow : OpenClaim := { program := "ytlpkcjnifbdfdaa", sum := "e31c2d44b474953999185755ff8a4c921dc3e284862eafd30fef7af6569f5f03", func := "loop.example/g00947/laws.FnExactLeastKeysFor", spec := "fnExactLeastKeysFor", unfollowed := true, recurses := true, apart := false }
def FnExactLeastKeysForSaid : Prop := fnExactLeastKeysForRow.holds Try.pinned (OpenSpec.ofChange fnExactLeastKeysForSpec)

/-- ITS FALSE NEIGHBOUR: 'it returns false'. Refute it at one input. -/
def fnExactLeastKeysForWrong : ChangeSpec := { name := "fnExactLeastKeysFor", fn := fun _ => fun
  | [d1, d2] => { results := [.lit (.bool false)], args := [d1, d2] }
  | _ => none }
def FnExactLeastKeysForWrongFalsely : Prop := fnExactLeastKeysForRow.holds Try.pinned (OpenSpec.ofChange fnExactLeastKeysForWrong)

/-- 'laws.FnExactPathOf': WHATEVER THE INPUT: true; the input reads as it did. -/
def fnExactPathOfSpec : ChangeSpec := { name := "fnExactPathOf", fn := fun _ => fun
  | [d1, d2, d3, d4] => { results := [.lit (.bool true)], args := [d1, d2, d3, d4] }
  | _ => none }
def fnExactPathOfRow : OpenClaim := { program := "ytlpkcjnifbdfdaa", sum := "e31c2d44b474953999185755ff8a4c921dc3e284862eafd30fef7af6569f5f03", func := "loop.example/g00947/laws.FnExactPathOf", spec := "fnExactPathOf", apart := false }
def FnExactPathOfSaid : Prop := fnExactPathOfRow.holds Try.pinned (OpenSpec.ofChange fnExactPathOfSpec)

/-- ITS FALSE NEIGHBOUR: 'it returns false'. Refute it at one input. -/
def fnExactPathOfWrong : ChangeSpec := { name := "fnExactPathOf", fn := fun _ => fun
  | [d1, d2, d3, d4] => { results := [.lit (.bool false)], args := [d1, d2, d3, d4] }
  | _ => none }
def FnExactPathOfWrongFalsely : Prop := fnExactPathOfRow.holds Try.pinned (OpenSpec.ofChange fnExactPathOfWrong)

/- THE SECOND FORM. 'bulk': how many values and letters a reading holds, each counted each time it is reached (what is shared counts as often as it is met; a slice's spare places count too). A statement '..UptoSaid' is the law's where the arguments, and the package variables that the reading takes, are together of bulk at most 1048576: NARROWER than '..Said'. Prove '..Said' where nothing that the law and all that it calls make is longer than what came in: it says more and counts as full. Else prove '..UptoSaid'. A law counts once. -/
mutual
def uptoBulk {H : Type} : DataW H → Nat
  | .lit (.string bytes) => bytes.length + 1
  | .lit _ => 1
  | .nil => 1
  | .ptr d => uptoBulk d + 1
  | .slice elems spare => uptoBulkAll elems + uptoBulkAll spare + 1
  | .agg parts => uptoBulkAll parts + 1
  | .iface _ d => uptoBulk d + 1
  | .map entries => uptoBulkEntries entries + 1
  | .held _ => 1
def uptoBulkAll {H : Type} : List (DataW H) → Nat
  | [] => 0
  | d :: r => uptoBulk d + uptoBulkAll r
def uptoBulkEntries {H : Type} : List (Lit × DataW H) → Nat
  | [] => 0
  | x :: r => uptoBulkEntry x + uptoBulkEntries r
def uptoBulkEntry {H : Type} : Lit × DataW H → Nat
  | (.string bytes, d) => bytes.length + uptoBulk d + 1
  | (_, d) => uptoBulk d + 1
 end
def uptoSmall : (H : Type) → List (DataW H) → Bool := fun _ ds => decide (uptoBulkAll ds ≤ 1048576)
def OpenSpec.upto (s : _root_.Go.ChangeSpec) : _root_.Go.OpenSpec := { _root_.Go.OpenSpec.ofChange s with cond := some uptoSmall }

/-- 'laws.FnExactIsBelow', WHERE WHAT IT READS IS OF BULK AT MOST 1048576: true; the input reads as it did. -/
def fnExactIsBelowUptoRow : OpenClaim := { program := "ytlpkcjnifbdfdaa", sum := "e31c2d44b474953999185755ff8a4c921dc3e284862eafd30fef7af6569f5f03", func := "loop.example/g00947/laws.FnExactIsBelow", spec := "fnExactIsBelow", apart := false, narrowed := true }
def FnExactIsBelowUptoSaid : Prop := fnExactIsBelowUptoRow.holds Try.pinned (OpenSpec.upto fnExactIsBelowSpec)

/-- 'laws.FnExactLeastLevels', WHERE WHAT IT READS IS OF BULK AT MOST 1048576: true; the input reads as it did. -/
def fnExactLeastLevelsUptoRow : OpenClaim := { program := "ytlpkcjnifbdfdaa", sum := "e31c2d44b474953999185755ff8a4c921dc3e284862eafd30fef7af6569f5f03", func := "loop.example/g00947/laws.FnExactLeastLevels", spec := "fnExactLeastLevels", apart := false, narrowed := true }
def FnExactLeastLevelsUptoSaid : Prop := fnExactLeastLevelsUptoRow.holds Try.pinned (OpenSpec.upto fnExactLeastLevelsSpec)

/-- 'laws.FnExactLevelSizes', WHERE WHAT IT READS IS OF BULK AT MOST 1048576: true; the input reads as it did. -/
def fnExactLevelSizesUptoRow : OpenClaim := { program := "ytlpkcjnifbdfdaa", sum := "e31c2d44b474953999185755ff8a4c921dc3e284862eafd30fef7af6569f5f03", func := "loop.example/g00947/laws.FnExactLevelSizes", spec := "fnExactLevelSizes", apart := false, narrowed := true }
def FnExactLevelSizesUptoSaid : Prop := fnExactLevelSizesUptoRow.holds Try.pinned (OpenSpec.upto fnExactLevelSizesSpec)

/-- 'laws.FnExactMasterKeys', WHERE WHAT IT READS IS OF BULK AT MOST 1048576: true; the input reads as it did. -/
def fnExactMasterKeysUptoRow : OpenClaim := { program := "ytlpkcjnifbdfdaa", sum := "e31c2d44b474953999185755ff8a4c921dc3e284862eafd30fef7af6569f5f03", func := "loop.example/g00947/laws.FnExactMasterKeys", spec := "fnExactMasterKeys", apart := false, narrowed := true }
def FnExactMasterKeysUptoSaid : Prop := fnExactMasterKeysUptoRow.holds Try.pinned (OpenSpec.upto fnExactMasterKeysSpec)

/-- 'laws.FnExactEqualRows', WHERE WHAT IT READS IS OF BULK AT MOST 1048576: true; the input reads as it did. -/
def fnExactEqualRowsUptoRow : OpenClaim := { program := "ytlpkcjnifbdfdaa", sum := "e31c2d44b474953999185755ff8a4c921dc3e284862eafd30fef7af6569f5f03", func := "loop.example/g00947/laws.FnExactEqualRows", spec := "fnExactEqualRows", unfollowed := true, recurses := true, apart := false, narrowed := true }
def FnExactEqualRowsUptoSaid : Prop := fnExactEqualRowsUptoRow.holds Try.pinned (OpenSpec.upto fnExactEqualRowsSpec)

/-- 'laws.FnExactIsSystem', WHERE WHAT IT READS IS OF BULK AT MOST 1048576: true; the input reads as it did. -/
def fnExactIsSystemUptoRow : OpenClaim := { program := "ytlpkcjnifbdfdaa", sum := "e31c2d44b474953999185755ff8a4c921dc3e284862eafd30fef7af6569f5f03", func := "loop.example/g00947/laws.FnExactIsSystem", spec := "fnExactIsSystem", apart := false, narrowed := true }
def FnExactIsSystemUptoSaid : Prop := fnExactIsSystemUptoRow.holds Try.pinned (OpenSpec.upto fnExactIsSystemSpec)

/-- 'laws.FnExactContainedIn', WHERE WHAT IT READS IS OF BULK AT MOST 1048576: true; the input reads as it did. -/
def fnExactContainedInUptoRow : OpenClaim := { program := "ytlpkcjnifbdfdaa", sum := "e31c2d44b474953999185755ff8a4c921dc3e284862eafd30fef7af6569f5f03", func := "loop.example/g00947/laws.FnExactContainedIn", spec := "fnExactContainedIn", apart := false, narrowed := true }
def FnExactContainedInUptoSaid : Prop := fnExactContainedInUptoRow.holds Try.pinned (OpenSpec.upto fnExactContainedInSpec)

/-- 'laws.FnExactCutsAt', WHERE WHAT IT READS IS OF BULK AT MOST 1048576: true; the input reads as it did. -/
def fnExactCutsAtUptoRow : OpenClaim := { program := "ytlpkcjnifbdfdaa", sum := "e31c2d44b474953999185755ff8a4c921dc3e284862eafd30fef7af6569f5f03", func := "loop.example/g00947/laws.FnExactCutsAt", spec := "fnExactCutsAt", apart := false, narrowed := true }
def FnExactCutsAtUptoSaid : Prop := fnExactCutsAtUptoRow.holds Try.pinned (OpenSpec.upto fnExactCutsAtSpec)

/-- 'laws.FnExactIsProgression', WHERE WHAT IT READS IS OF BULK AT MOST 1048576: true; the input reads as it did. -/
def fnExactIsProgressionUptoRow : OpenClaim := { program := "ytlpkcjnifbdfdaa", sum := "e31c2d44b474953999185755ff8a4c921dc3e284862eafd30fef7af6569f5f03", func := "loop.example/g00947/laws.FnExactIsProgression", spec := "fnExactIsProgression", apart := false, narrowed := true }
def FnExactIsProgressionUptoSaid : Prop := fnExactIsProgressionUptoRow.holds Try.pinned (OpenSpec.upto fnExactIsProgressionSpec)

/-- 'laws.FnExactIsChangeKey', WHERE WHAT IT READS IS OF BULK AT MOST 1048576: true; the input reads as it did. -/
def fnExactIsChangeKeyUptoRow : OpenClaim := { program := "ytlpkcjnifbdfdaa", sum := "e31c2d44b474953999185755ff8a4c921dc3e284862eafd30fef7af6569f5f03", func := "loop.example/g00947/laws.FnExactIsChangeKey", spec := "fnExactIsChangeKey", unfollowed := true, recurses := true, apart := false, narrowed := true }
def FnExactIsChangeKeyUptoSaid : Prop := fnExactIsChangeKeyUptoRow.holds Try.pinned (OpenSpec.upto fnExactIsChangeKeySpec)

/-- 'laws.FnExactLeastKeysFor', WHERE WHAT IT READS IS OF BULK AT MOST 1048576: true; the input reads as it did. -/
def fnExactLeastKeysForUptoRow : OpenClaim := { program := "ytlpkcjnifbdfdaa", sum := "e31c2d44b474953999185755ff8a4c921dc3e284862eafd30fef7af6569f5f03", func := "loop.example/g00947/laws.FnExactLeastKeysFor", spec := "fnExactLeastKeysFor", unfollowed := true, recurses := true, apart := false, narrowed := true }
def FnExactLeastKeysForUptoSaid : Prop := fnExactLeastKeysForUptoRow.holds Try.pinned (OpenSpec.upto fnExactLeastKeysForSpec)

/-- 'laws.FnExactPathOf', WHERE WHAT IT READS IS OF BULK AT MOST 1048576: true; the input reads as it did. -/
def fnExactPathOfUptoRow : OpenClaim := { program := "ytlpkcjnifbdfdaa", sum := "e31c2d44b474953999185755ff8a4c921dc3e284862eafd30fef7af6569f5f03", func := "loop.example/g00947/laws.FnExactPathOf", spec := "fnExactPathOf", apart := false, narrowed := true }
def FnExactPathOfUptoSaid : Prop := fnExactPathOfUptoRow.holds Try.pinned (OpenSpec.upto fnExactPathOfSpec)

end Rows
end Go.Proofs.Ytlpkcjnifbdfdaa
