/-
  No cell of these rows narrows 'for every input' (looked for: loops, veiled, ifaces, maps, wideKeys, modest, calm, conditions, laid).
  DERIVED. THE GIVEN ROWS OF THIS SEAT. 6 by the template 'for every input the law returns true; each argument reads behind the call as it read before'; 0 by the template 'total and deterministic' (their statements: YthjfilhcfjpinaaTotals.lean).
  GIVEN WITH THE SEED: the statements are not yours to turn. If you find one false, say at which input.
  Laid BY PROGRAM, IN A SANDBOX (cutbox-rows.mjs): the forced cells as the released guide's own fill.sh prints them over the translation c0490f7e9b6aa892… (all of the seat's roots in one cut). By AI agents, Wed Nov 11 2026. No macro, syntax, notation, axiom, sorry.
-/
import Derived.Test.YthjfilhcfjpinaaChecked
import GoSem.Claim
import GoSem.ClaimJoined
import GoSem.ClaimMapViews
import Derived.JoinedTies
import Derived.KernelRfl
namespace Go.Proofs.Ythjfilhcfjpinaa
/- THE CELL 'sum', in the pinned program and in every row, IS THE sha256 OF THE DUMP (.gsa) THAT YthjfilhcfjpinaaProg.lean LOADS. Nothing in Lean hashes anything: it is a label: what it is worth is what the hold of that sum in a sandbox is worth. -/
noncomputable def Try.pinned : Pinned := { name := "ythjfilhcfjpinaa", sum := "c0490f7e9b6aa892b83bc778f5e5b61ffdf92a0c5bcc83c9d39d0bec523f277b", checked := Try.checked }
namespace Rows
def none {H : Type} : Left H := { results := [], args := [] }

/-- 'laws.FnGhosts': WHATEVER THE INPUT: true; the input reads as it did. -/
def fnGhostsSpec : ChangeSpec := { name := "fnGhosts", fn := fun _ => fun
  | [d] => { results := [.lit (.bool true)], args := [d] }
  | _ => none }
def fnGhostsRow : OpenClaim := { program := "ythjfilhcfjpinaa", sum := "c0490f7e9b6aa892b83bc778f5e5b61ffdf92a0c5bcc83c9d39d0bec523f277b", func := "loop.example/g00947/laws.FnGhosts", spec := "fnGhosts", unfollowed := true, recurses := true, apart := false }
def FnGhostsSaid : Prop := fnGhostsRow.holds Try.pinned (OpenSpec.ofChange fnGhostsSpec)

/-- ITS FALSE NEIGHBOUR: 'it returns false'. Refute it at one input. -/
def fnGhostsWrong : ChangeSpec := { name := "fnGhosts", fn := fun _ => fun
  | [d] => { results := [.lit (.bool false)], args := [d] }
  | _ => none }
def FnGhostsWrongFalsely : Prop := fnGhostsRow.holds Try.pinned (OpenSpec.ofChange fnGhostsWrong)

/-- 'laws.FnHarmless': WHATEVER THE INPUT: true; the input reads as it did. -/
def fnHarmlessSpec : ChangeSpec := { name := "fnHarmless", fn := fun _ => fun
  | [d] => { results := [.lit (.bool true)], args := [d] }
  | _ => none }
def fnHarmlessRow : OpenClaim := { program := "ythjfilhcfjpinaa", sum := "c0490f7e9b6aa892b83bc778f5e5b61ffdf92a0c5bcc83c9d39d0bec523f277b", func := "loop.example/g00947/laws.FnHarmless", spec := "fnHarmless", unfollowed := true, recurses := true, apart := false }
def FnHarmlessSaid : Prop := fnHarmlessRow.holds Try.pinned (OpenSpec.ofChange fnHarmlessSpec)

/-- ITS FALSE NEIGHBOUR: 'it returns false'. Refute it at one input. -/
def fnHarmlessWrong : ChangeSpec := { name := "fnHarmless", fn := fun _ => fun
  | [d] => { results := [.lit (.bool false)], args := [d] }
  | _ => none }
def FnHarmlessWrongFalsely : Prop := fnHarmlessRow.holds Try.pinned (OpenSpec.ofChange fnHarmlessWrong)

/-- 'laws.FnProgressions': WHATEVER THE INPUT: true; the input reads as it did. -/
def fnProgressionsSpec : ChangeSpec := { name := "fnProgressions", fn := fun _ => fun
  | [d] => { results := [.lit (.bool true)], args := [d] }
  | _ => none }
def fnProgressionsRow : OpenClaim := { program := "ythjfilhcfjpinaa", sum := "c0490f7e9b6aa892b83bc778f5e5b61ffdf92a0c5bcc83c9d39d0bec523f277b", func := "loop.example/g00947/laws.FnProgressions", spec := "fnProgressions", unfollowed := true, recurses := true, apart := false }
def FnProgressionsSaid : Prop := fnProgressionsRow.holds Try.pinned (OpenSpec.ofChange fnProgressionsSpec)

/-- ITS FALSE NEIGHBOUR: 'it returns false'. Refute it at one input. -/
def fnProgressionsWrong : ChangeSpec := { name := "fnProgressions", fn := fun _ => fun
  | [d] => { results := [.lit (.bool false)], args := [d] }
  | _ => none }
def FnProgressionsWrongFalsely : Prop := fnProgressionsRow.holds Try.pinned (OpenSpec.ofChange fnProgressionsWrong)

/-- 'laws.FnMixedKeys': WHATEVER THE INPUT: true; the input reads as it did. -/
def fnMixedKeysSpec : ChangeSpec := { name := "fnMixedKeys", fn := fun _ => fun
  | [d] => { results := [.lit (.bool true)], args := [d] }
  | _ => none }
def fnMixedKeysRow : OpenClaim := { program := "ythjfilhcfjpinaa", sum := "c0490f7e9b6aa892b83bc778f5e5b61ffdf92a0c5bcc83c9d39d0bec523f277b", func := "loop.example/g00947/laws.FnMixedKeys", spec := "fnMixedKeys", unfollowed := true, recurses := true, apart := false }
def FnMixedKeysSaid : Prop := fnMixedKeysRow.holds Try.pinned (OpenSpec.ofChange fnMixedKeysSpec)

/-- ITS FALSE NEIGHBOUR: 'it returns false'. Refute it at one input. -/
def fnMixedKeysWrong : ChangeSpec := { name := "fnMixedKeys", fn := fun _ => fun
  | [d] => { results := [.lit (.bool false)], args := [d] }
  | _ => none }
def FnMixedKeysWrongFalsely : Prop := fnMixedKeysRow.holds Try.pinned (OpenSpec.ofChange fnMixedKeysWrong)

/-- 'laws.FnFalse': WHATEVER THE INPUT: true; the input reads as it did. -/
def fnFalseSpec : ChangeSpec := { name := "fnFalse", fn := fun _ => fun
  | [d] => { results := [.lit (.bool true)], args := [d] }
  | _ => none }
def fnFalseRow : OpenClaim := { program := "ythjfilhcfjpinaa", sum := "c0490f7e9b6aa892b83bc778f5e5b61ffdf92a0c5bcc83c9d39d0bec523f277b", func := "loop.example/g00947/laws.FnFalse", spec := "fnFalse", unfollowed := true, recurses := true, apart := false }
def FnFalseSaid : Prop := fnFalseRow.holds Try.pinned (OpenSpec.ofChange fnFalseSpec)

/-- ITS FALSE NEIGHBOUR: 'it returns false'. Refute it at one input. -/
def fnFalseWrong : ChangeSpec := { name := "fnFalse", fn := fun _ => fun
  | [d] => { results := [.lit (.bool false)], args := [d] }
  | _ => none }
def FnFalseWrongFalsely : Prop := fnFalseRow.holds Try.pinned (OpenSpec.ofChange fnFalseWrong)

/-- 'laws.FnParts': WHATEVER THE INPUT: true; the input reads as it did. -/
def fnPartsSpec : ChangeSpec := { name := "fnParts", fn := fun _ => fun
  | [d] => { results := [.lit (.bool true)], args := [d] }
  | _ => none }
def fnPartsRow : OpenClaim := { program := "ythjfilhcfjpinaa", sum := "c0490f7e9b6aa892b83bc778f5e5b61ffdf92a0c5bcc83c9d39d0bec523f277b", func := "loop.example/g00947/laws.FnParts", spec := "fnParts", unfollowed := true, recurses := true, apart := false }
def FnPartsSaid : Prop := fnPartsRow.holds Try.pinned (OpenSpec.ofChange fnPartsSpec)

/-- ITS FALSE NEIGHBOUR: 'it returns false'. Refute it at one input. -/
def fnPartsWrong : ChangeSpec := { name := "fnParts", fn := fun _ => fun
  | [d] => { results := [.lit (.bool false)], args := [d] }
  | _ => none }
def FnPartsWrongFalsely : Prop := fnPartsRow.holds Try.pinned (OpenSpec.ofChange fnPartsWrong)

/- THE SECOND FORM. 'bulk': how many values and letters a reading holds, each counted each time it is reached (what is shared counts as often as it is met; a slice's spare places count too). A statement '..UptoSaid' is the law's where the arguments, and the package variables that the reading takes, are together of bulk at most 1048576: NARROWER than '..Said'. Prove '..Said' where nothing that the law and all that it calls make is longer than what came in: it says more and counts as full. Else prove '..UptoSaid'. A law counts once. -/
mutual
def uptoBulk {H : Type} : DataW H → Nat
  | .lit (.string bytes) => bytes.length + 1
  | .lit _ => 1
  | .nil => 1
  | .ptr d => uptoBulk d + 1
  | .slice elems spare => uptoBulkAll elems + uptoBulkAll spare + 1
  | .agg parts => uptoBulkAll parts + 1
  | .iface _ d => uptoBulk d + 1
  | .map entries => uptoBulkEntries entries + 1
  | .held _ => 1
def uptoBulkAll {H : Type} : List (DataW H) → Nat
  | [] => 0
  | d :: r => uptoBulk d + uptoBulkAll r
def uptoBulkEntries {H : Type} : List (Lit × DataW H) → Nat
  | [] => 0
  | x :: r => uptoBulkEntry x + uptoBulkEntries r
def uptoBulkEntry {H : Type} : Lit × DataW H → Nat
  | (.string bytes, d) => bytes.length + uptoBulk d + 1
  | (_, d) => uptoBulk d + 1
 end
def uptoSmall : (H : Type) → List (DataW H) → Bool := fun _ ds => decide (uptoBulkAll ds ≤ 1048576)
def OpenSpec.upto (s : _root_.Go.ChangeSpec) : _root_.Go.OpenSpec := { _root_.Go.OpenSpec.ofChange s with cond := some uptoSmall }

/-- 'laws.FnGhosts', WHERE WHAT IT READS IS OF BULK AT MOST 1048576: true; the input reads as it did. -/
def fnGhostsUptoRow : OpenClaim := { program := "ythjfilhcfjpinaa", sum := "c0490f7e9b6aa892b83bc778f5e5b61ffdf92a0c5bcc83c9d39d0bec523f277b", func := "loop.example/g00947/laws.FnGhosts", spec := "fnGhosts", unfollowed := true, recurses := true, apart := false, narrowed := true }
def FnGhostsUptoSaid : Prop := fnGhostsUptoRow.holds Try.pinned (OpenSpec.upto fnGhostsSpec)

/-- 'laws.FnHarmless', WHERE WHAT IT READS IS OF BULK AT MOST 1048576: true; the input reads as it did. -/
def fnHarmlessUptoRow : OpenClaim := { program := "ythjfilhcfjpinaa", sum := "c0490f7e9b6aa892b83bc778f5e5b61ffdf92a0c5bcc83c9d39d0bec523f277b", func := "loop.example/g00947/laws.FnHarmless", spec := "fnHarmless", unfollowed := true, recurses := true, apart := false, narrowed := true }
def FnHarmlessUptoSaid : Prop := fnHarmlessUptoRow.holds Try.pinned (OpenSpec.upto fnHarmlessSpec)

/-- 'laws.FnProgressions', WHERE WHAT IT READS IS OF BULK AT MOST 1048576: true; the input reads as it did. -/
def fnProgressionsUptoRow : OpenClaim := { program := "ythjfilhcfjpinaa", sum := "c0490f7e9b6aa892b83bc778f5e5b61ffdf92a0c5bcc83c9d39d0bec523f277b", func := "loop.example/g00947/laws.FnProgressions", spec := "fnProgressions", unfollowed := true, recurses := true, apart := false, narrowed := true }
def FnProgressionsUptoSaid : Prop := fnProgressionsUptoRow.holds Try.pinned (OpenSpec.upto fnProgressionsSpec)

/-- 'laws.FnMixedKeys', WHERE WHAT IT READS IS OF BULK AT MOST 1048576: true; the input reads as it did. -/
def fnMixedKeysUptoRow : OpenClaim := { program := "ythjfilhcfjpinaa", sum := "c0490f7e9b6aa892b83bc778f5e5b61ffdf92a0c5bcc83c9d39d0bec523f277b", func := "loop.example/g00947/laws.FnMixedKeys", spec := "fnMixedKeys", unfollowed := true, recurses := true, apart := false, narrowed := true }
def FnMixedKeysUptoSaid : Prop := fnMixedKeysUptoRow.holds Try.pinned (OpenSpec.upto fnMixedKeysSpec)

/-- 'laws.FnFalse', WHERE WHAT IT READS IS OF BULK AT MOST 1048576: true; the input reads as it did. -/
def fnFalseUptoRow : OpenClaim := { program := "ythjfilhcfjpinaa", sum := "c0490f7e9b6aa892b83bc778f5e5b61ffdf92a0c5bcc83c9d39d0bec523f277b", func := "loop.example/g00947/laws.FnFalse", spec := "fnFalse", unfollowed := true, recurses := true, apart := false, narrowed := true }
def FnFalseUptoSaid : Prop := fnFalseUptoRow.holds Try.pinned (OpenSpec.upto fnFalseSpec)

/-- 'laws.FnParts', WHERE WHAT IT READS IS OF BULK AT MOST 1048576: true; the input reads as it did. -/
def fnPartsUptoRow : OpenClaim := { program := "ythjfilhcfjpinaa", sum := "c0490f7e9b6aa892b83bc778f5e5b61ffdf92a0c5bcc83c9d39d0bec523f277b", func := "loop.example/g00947/laws.FnParts", spec := "fnParts", unfollowed := true, recurses := true, apart := false, narrowed := true }
def FnPartsUptoSaid : Prop := fnPartsUptoRow.holds Try.pinned (OpenSpec.upto fnPartsSpec)

end Rows
end Go.Proofs.Ythjfilhcfjpinaa
