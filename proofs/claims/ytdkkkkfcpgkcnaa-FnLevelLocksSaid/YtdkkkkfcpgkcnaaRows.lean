/-
  No cell of these rows narrows 'for every input' (looked for: loops, veiled, ifaces, maps, wideKeys, modest, calm, conditions, laid).
  DERIVED. THE GIVEN ROWS OF THIS SEAT. 9 by the template 'for every input the law returns true; each argument reads behind the call as it read before'; 0 by the template 'total and deterministic' (their statements: YtdkkkkfcpgkcnaaTotals.lean).
  GIVEN WITH THE SEED: the statements are not yours to turn. If you find one false, say at which input.
  Laid BY PROGRAM, IN A SANDBOX (cutbox-rows.mjs): the forced cells as the released guide's own fill.sh prints them over the translation 5668f40fd77f8abc… (all of the seat's roots in one cut). By AI agents, Wed Nov 11 2026. No macro, syntax, notation, axiom, sorry.
-/
import Derived.Test.YtdkkkkfcpgkcnaaChecked
import GoSem.Claim
import GoSem.ClaimJoined
import GoSem.ClaimMapViews
import Derived.JoinedTies
import Derived.KernelRfl
namespace Go.Proofs.Ytdkkkkfcpgkcnaa
/- THE CELL 'sum', in the pinned program and in every row, IS THE sha256 OF THE DUMP (.gsa) THAT YtdkkkkfcpgkcnaaProg.lean LOADS. Nothing in Lean hashes anything: it is a label: what it is worth is what the hold of that sum in a sandbox is worth. -/
noncomputable def Try.pinned : Pinned := { name := "ytdkkkkfcpgkcnaa", sum := "5668f40fd77f8abc89684d178d83c09e1261a00bf5b1e328b304612d225d55ca", checked := Try.checked }
namespace Rows
def none {H : Type} : Left H := { results := [], args := [] }

/-- 'laws.FnHierarchies': WHATEVER THE INPUT: true; the input reads as it did. -/
def fnHierarchiesSpec : ChangeSpec := { name := "fnHierarchies", fn := fun _ => fun
  | [d] => { results := [.lit (.bool true)], args := [d] }
  | _ => none }
def fnHierarchiesRow : OpenClaim := { program := "ytdkkkkfcpgkcnaa", sum := "5668f40fd77f8abc89684d178d83c09e1261a00bf5b1e328b304612d225d55ca", func := "loop.example/g00947/laws.FnHierarchies", spec := "fnHierarchies", apart := false }
def FnHierarchiesSaid : Prop := fnHierarchiesRow.holds Try.pinned (OpenSpec.ofChange fnHierarchiesSpec)

/-- ITS FALSE NEIGHBOUR: 'it returns false'. Refute it at one input. -/
def fnHierarchiesWrong : ChangeSpec := { name := "fnHierarchies", fn := fun _ => fun
  | [d] => { results := [.lit (.bool false)], args := [d] }
  | _ => none }
def FnHierarchiesWrongFalsely : Prop := fnHierarchiesRow.holds Try.pinned (OpenSpec.ofChange fnHierarchiesWrong)

/-- 'laws.FnTables': WHATEVER THE INPUT: true; the input reads as it did. -/
def fnTablesSpec : ChangeSpec := { name := "fnTables", fn := fun _ => fun
  | [d] => { results := [.lit (.bool true)], args := [d] }
  | _ => none }
def fnTablesRow : OpenClaim := { program := "ytdkkkkfcpgkcnaa", sum := "5668f40fd77f8abc89684d178d83c09e1261a00bf5b1e328b304612d225d55ca", func := "loop.example/g00947/laws.FnTables", spec := "fnTables", unfollowed := true, recurses := true, apart := false }
def FnTablesSaid : Prop := fnTablesRow.holds Try.pinned (OpenSpec.ofChange fnTablesSpec)

/-- ITS FALSE NEIGHBOUR: 'it returns false'. Refute it at one input. -/
def fnTablesWrong : ChangeSpec := { name := "fnTables", fn := fun _ => fun
  | [d] => { results := [.lit (.bool false)], args := [d] }
  | _ => none }
def FnTablesWrongFalsely : Prop := fnTablesRow.holds Try.pinned (OpenSpec.ofChange fnTablesWrong)

/-- 'laws.FnPaths': WHATEVER THE INPUT: true; the input reads as it did. -/
def fnPathsSpec : ChangeSpec := { name := "fnPaths", fn := fun _ => fun
  | [d] => { results := [.lit (.bool true)], args := [d] }
  | _ => none }
def fnPathsRow : OpenClaim := { program := "ytdkkkkfcpgkcnaa", sum := "5668f40fd77f8abc89684d178d83c09e1261a00bf5b1e328b304612d225d55ca", func := "loop.example/g00947/laws.FnPaths", spec := "fnPaths", apart := false }
def FnPathsSaid : Prop := fnPathsRow.holds Try.pinned (OpenSpec.ofChange fnPathsSpec)

/-- ITS FALSE NEIGHBOUR: 'it returns false'. Refute it at one input. -/
def fnPathsWrong : ChangeSpec := { name := "fnPaths", fn := fun _ => fun
  | [d] => { results := [.lit (.bool false)], args := [d] }
  | _ => none }
def FnPathsWrongFalsely : Prop := fnPathsRow.holds Try.pinned (OpenSpec.ofChange fnPathsWrong)

/-- 'laws.FnLeastLevels': WHATEVER THE INPUT: true; the input reads as it did. -/
def fnLeastLevelsSpec : ChangeSpec := { name := "fnLeastLevels", fn := fun _ => fun
  | [d] => { results := [.lit (.bool true)], args := [d] }
  | _ => none }
def fnLeastLevelsRow : OpenClaim := { program := "ytdkkkkfcpgkcnaa", sum := "5668f40fd77f8abc89684d178d83c09e1261a00bf5b1e328b304612d225d55ca", func := "loop.example/g00947/laws.FnLeastLevels", spec := "fnLeastLevels", unfollowed := true, recurses := true, apart := false }
def FnLeastLevelsSaid : Prop := fnLeastLevelsRow.holds Try.pinned (OpenSpec.ofChange fnLeastLevelsSpec)

/-- ITS FALSE NEIGHBOUR: 'it returns false'. Refute it at one input. -/
def fnLeastLevelsWrong : ChangeSpec := { name := "fnLeastLevels", fn := fun _ => fun
  | [d] => { results := [.lit (.bool false)], args := [d] }
  | _ => none }
def FnLeastLevelsWrongFalsely : Prop := fnLeastLevelsRow.holds Try.pinned (OpenSpec.ofChange fnLeastLevelsWrong)

/-- 'laws.FnLevelLocks': WHATEVER THE INPUT: true; the input reads as it did. -/
def fnLevelLocksSpec : ChangeSpec := { name := "fnLevelLocks", fn := fun _ => fun
  | [d] => { results := [.lit (.bool true)], args := [d] }
  | _ => none }
def fnLevelLocksRow : OpenClaim := { program := "ytdkkkkfcpgkcnaa", sum := "5668f40fd77f8abc89684d178d83c09e1261a00bf5b1e328b304612d225d55ca", func := "loop.example/g00947/laws.FnLevelLocks", spec := "fnLevelLocks", recurses := true, apart := false }
def FnLevelLocksSaid : Prop := fnLevelLocksRow.holds Try.pinned (OpenSpec.ofChange fnLevelLocksSpec)

/-- ITS FALSE NEIGHBOUR: 'it returns false'. Refute it at one input. -/
def fnLevelLocksWrong : ChangeSpec := { name := "fnLevelLocks", fn := fun _ => fun
  | [d] => { results := [.lit (.bool false)], args := [d] }
  | _ => none }
def FnLevelLocksWrongFalsely : Prop := fnLevelLocksRow.holds Try.pinned (OpenSpec.ofChange fnLevelLocksWrong)

/-- 'laws.FnGhosts': WHATEVER THE INPUT: true; the input reads as it did. -/
def fnGhostsSpec : ChangeSpec := { name := "fnGhosts", fn := fun _ => fun
  | [d] => { results := [.lit (.bool true)], args := [d] }
  | _ => none }
def fnGhostsRow : OpenClaim := { program := "ytdkkkkfcpgkcnaa", sum := "5668f40fd77f8abc89684d178d83c09e1261a00bf5b1e328b304612d225d55ca", func := "loop.example/g00947/laws.FnGhosts", spec := "fnGhosts", unfollowed := true, recurses := true, apart := false }
def FnGhostsSaid : Prop := fnGhostsRow.holds Try.pinned (OpenSpec.ofChange fnGhostsSpec)

/-- ITS FALSE NEIGHBOUR: 'it returns false'. Refute it at one input. -/
def fnGhostsWrong : ChangeSpec := { name := "fnGhosts", fn := fun _ => fun
  | [d] => { results := [.lit (.bool false)], args := [d] }
  | _ => none }
def FnGhostsWrongFalsely : Prop := fnGhostsRow.holds Try.pinned (OpenSpec.ofChange fnGhostsWrong)

/-- 'laws.FnHarmless': WHATEVER THE INPUT: true; the input reads as it did. -/
def fnHarmlessSpec : ChangeSpec := { name := "fnHarmless", fn := fun _ => fun
  | [d] => { results := [.lit (.bool true)], args := [d] }
  | _ => none }
def fnHarmlessRow : OpenClaim := { program := "ytdkkkkfcpgkcnaa", sum := "5668f40fd77f8abc89684d178d83c09e1261a00bf5b1e328b304612d225d55ca", func := "loop.example/g00947/laws.FnHarmless", spec := "fnHarmless", unfollowed := true, recurses := true, apart := false }
def FnHarmlessSaid : Prop := fnHarmlessRow.holds Try.pinned (OpenSpec.ofChange fnHarmlessSpec)

/-- ITS FALSE NEIGHBOUR: 'it returns false'. Refute it at one input. -/
def fnHarmlessWrong : ChangeSpec := { name := "fnHarmless", fn := fun _ => fun
  | [d] => { results := [.lit (.bool false)], args := [d] }
  | _ => none }
def FnHarmlessWrongFalsely : Prop := fnHarmlessRow.holds Try.pinned (OpenSpec.ofChange fnHarmlessWrong)

/-- 'laws.FnProgressions': WHATEVER THE INPUT: true; the input reads as it did. -/
def fnProgressionsSpec : ChangeSpec := { name := "fnProgressions", fn := fun _ => fun
  | [d] => { results := [.lit (.bool true)], args := [d] }
  | _ => none }
def fnProgressionsRow : OpenClaim := { program := "ytdkkkkfcpgkcnaa", sum := "5668f40fd77f8abc89684d178d83c09e1261a00bf5b1e328b304612d225d55ca", func := "loop.example/g00947/laws.FnProgressions", spec := "fnProgressions", unfollowed := true, recurses := true, apart := false }
def FnProgressionsSaid : Prop := fnProgressionsRow.holds Try.pinned (OpenSpec.ofChange fnProgressionsSpec)

/-- ITS FALSE NEIGHBOUR: 'it returns false'. Refute it at one input. -/
def fnProgressionsWrong : ChangeSpec := { name := "fnProgressions", fn := fun _ => fun
  | [d] => { results := [.lit (.bool false)], args := [d] }
  | _ => none }
def FnProgressionsWrongFalsely : Prop := fnProgressionsRow.holds Try.pinned (OpenSpec.ofChange fnProgressionsWrong)

/-- 'laws.FnMixedKeys': WHATEVER THE INPUT: true; the input reads as it did. -/
def fnMixedKeysSpec : ChangeSpec := { name := "fnMixedKeys", fn := fun _ => fun
  | [d] => { results := [.lit (.bool true)], args := [d] }
  | _ => none }
def fnMixedKeysRow : OpenClaim := { program := "ytdkkkkfcpgkcnaa", sum := "5668f40fd77f8abc89684d178d83c09e1261a00bf5b1e328b304612d225d55ca", func := "loop.example/g00947/laws.FnMixedKeys", spec := "fnMixedKeys", unfollowed := true, recurses := true, apart := false }
def FnMixedKeysSaid : Prop := fnMixedKeysRow.holds Try.pinned (OpenSpec.ofChange fnMixedKeysSpec)

/-- ITS FALSE NEIGHBOUR: 'it returns false'. Refute it at one input. -/
def fnMixedKeysWrong : ChangeSpec := { name := "fnMixedKeys", fn := fun _ => fun
  | [d] => { results := [.lit (.bool false)], args := [d] }
  | _ => none }
def FnMixedKeysWrongFalsely : Prop := fnMixedKeysRow.holds Try.pinned (OpenSpec.ofChange fnMixedKeysWrong)

/- THE SECOND FORM. 'bulk': how many values and letters a reading holds, each counted each time it is reached (what is shared counts as often as it is met; a slice's spare places count too). A statement '..UptoSaid' is the law's where the arguments, and the package variables that the reading takes, are together of bulk at most 1048576: NARROWER than '..Said'. Prove '..Said' where nothing that the law and all that it calls make is longer than what came in: it says more and counts as full. Else prove '..UptoSaid'. A law counts once. -/
mutual
def uptoBulk {H : Type} : DataW H → Nat
  | .lit (.string bytes) => bytes.length + 1
  | .lit _ => 1
  | .nil => 1
  | .ptr d => uptoBulk d + 1
  | .slice elems spare => uptoBulkAll elems + uptoBulkAll spare + 1
  | .agg parts => uptoBulkAll parts + 1
  | .iface _ d => uptoBulk d + 1
  | .map entries => uptoBulkEntries entries + 1
  | .held _ => 1
def uptoBulkAll {H : Type} : List (DataW H) → Nat
  | [] => 0
  | d :: r => uptoBulk d + uptoBulkAll r
def uptoBulkEntries {H : Type} : List (Lit × DataW H) → Nat
  | [] => 0
  | x :: r => uptoBulkEntry x + uptoBulkEntries r
def uptoBulkEntry {H : Type} : Lit × DataW H → Nat
  | (.string bytes, d) => bytes.length + uptoBulk d + 1
  | (_, d) => uptoBulk d + 1
 end
def uptoSmall : (H : Type) → List (DataW H) → Bool := fun _ ds => decide (uptoBulkAll ds ≤ 1048576)
def OpenSpec.upto (s : _root_.Go.ChangeSpec) : _root_.Go.OpenSpec := { _root_.Go.OpenSpec.ofChange s with cond := some uptoSmall }

/-- 'laws.FnHierarchies', WHERE WHAT IT READS IS OF BULK AT MOST 1048576: true; the input reads as it did. -/
def fnHierarchiesUptoRow : OpenClaim := { program := "ytdkkkkfcpgkcnaa", sum := "5668f40fd77f8abc89684d178d83c09e1261a00bf5b1e328b304612d225d55ca", func := "loop.example/g00947/laws.FnHierarchies", spec := "fnHierarchies", apart := false, narrowed := true }
def FnHierarchiesUptoSaid : Prop := fnHierarchiesUptoRow.holds Try.pinned (OpenSpec.upto fnHierarchiesSpec)

/-- 'laws.FnTables', WHERE WHAT IT READS IS OF BULK AT MOST 1048576: true; the input reads as it did. -/
def fnTablesUptoRow : OpenClaim := { program := "ytdkkkkfcpgkcnaa", sum := "5668f40fd77f8abc89684d178d83c09e1261a00bf5b1e328b304612d225d55ca", func := "loop.example/g00947/laws.FnTables", spec := "fnTables", unfollowed := true, recurses := true, apart := false, narrowed := true }
def FnTablesUptoSaid : Prop := fnTablesUptoRow.holds Try.pinned (OpenSpec.upto fnTablesSpec)

/-- 'laws.FnPaths', WHERE WHAT IT READS IS OF BULK AT MOST 1048576: true; the input reads as it did. -/
def fnPathsUptoRow : OpenClaim := { program := "ytdkkkkfcpgkcnaa", sum := "5668f40fd77f8abc89684d178d83c09e1261a00bf5b1e328b304612d225d55ca", func := "loop.example/g00947/laws.FnPaths", spec := "fnPaths", apart := false, narrowed := true }
def FnPathsUptoSaid : Prop := fnPathsUptoRow.holds Try.pinned (OpenSpec.upto fnPathsSpec)

/-- 'laws.FnLeastLevels', WHERE WHAT IT READS IS OF BULK AT MOST 1048576: true; the input reads as it did. -/
def fnLeastLevelsUptoRow : OpenClaim := { program := "ytdkkkkfcpgkcnaa", sum := "5668f40fd77f8abc89684d178d83c09e1261a00bf5b1e328b304612d225d55ca", func := "loop.example/g00947/laws.FnLeastLevels", spec := "fnLeastLevels", unfollowed := true, recurses := true, apart := false, narrowed := true }
def FnLeastLevelsUptoSaid : Prop := fnLeastLevelsUptoRow.holds Try.pinned (OpenSpec.upto fnLeastLevelsSpec)

/-- 'laws.FnLevelLocks', WHERE WHAT IT READS IS OF BULK AT MOST 1048576: true; the input reads as it did. -/
def fnLevelLocksUptoRow : OpenClaim := { program := "ytdkkkkfcpgkcnaa", sum := "5668f40fd77f8abc89684d178d83c09e1261a00bf5b1e328b304612d225d55ca", func := "loop.example/g00947/laws.FnLevelLocks", spec := "fnLevelLocks", recurses := true, apart := false, narrowed := true }
def FnLevelLocksUptoSaid : Prop := fnLevelLocksUptoRow.holds Try.pinned (OpenSpec.upto fnLevelLocksSpec)

/-- 'laws.FnGhosts', WHERE WHAT IT READS IS OF BULK AT MOST 1048576: true; the input reads as it did. -/
def fnGhostsUptoRow : OpenClaim := { program := "ytdkkkkfcpgkcnaa", sum := "5668f40fd77f8abc89684d178d83c09e1261a00bf5b1e328b304612d225d55ca", func := "loop.example/g00947/laws.FnGhosts", spec := "fnGhosts", unfollowed := true, recurses := true, apart := false, narrowed := true }
def FnGhostsUptoSaid : Prop := fnGhostsUptoRow.holds Try.pinned (OpenSpec.upto fnGhostsSpec)

/-- 'laws.FnHarmless', WHERE WHAT IT READS IS OF BULK AT MOST 1048576: true; the input reads as it did. -/
def fnHarmlessUptoRow : OpenClaim := { program := "ytdkkkkfcpgkcnaa", sum := "5668f40fd77f8abc89684d178d83c09e1261a00bf5b1e328b304612d225d55ca", func := "loop.example/g00947/laws.FnHarmless", spec := "fnHarmless", unfollowed := true, recurses := true, apart := false, narrowed := true }
def FnHarmlessUptoSaid : Prop := fnHarmlessUptoRow.holds Try.pinned (OpenSpec.upto fnHarmlessSpec)

/-- 'laws.FnProgressions', WHERE WHAT IT READS IS OF BULK AT MOST 1048576: true; the input reads as it did. -/
def fnProgressionsUptoRow : OpenClaim := { program := "ytdkkkkfcpgkcnaa", sum := "5668f40fd77f8abc89684d178d83c09e1261a00bf5b1e328b304612d225d55ca", func := "loop.example/g00947/laws.FnProgressions", spec := "fnProgressions", unfollowed := true, recurses := true, apart := false, narrowed := true }
def FnProgressionsUptoSaid : Prop := fnProgressionsUptoRow.holds Try.pinned (OpenSpec.upto fnProgressionsSpec)

/-- 'laws.FnMixedKeys', WHERE WHAT IT READS IS OF BULK AT MOST 1048576: true; the input reads as it did. -/
def fnMixedKeysUptoRow : OpenClaim := { program := "ytdkkkkfcpgkcnaa", sum := "5668f40fd77f8abc89684d178d83c09e1261a00bf5b1e328b304612d225d55ca", func := "loop.example/g00947/laws.FnMixedKeys", spec := "fnMixedKeys", unfollowed := true, recurses := true, apart := false, narrowed := true }
def FnMixedKeysUptoSaid : Prop := fnMixedKeysUptoRow.holds Try.pinned (OpenSpec.upto fnMixedKeysSpec)

end Rows
end Go.Proofs.Ytdkkkkfcpgkcnaa
