/-
  No cell of these rows narrows 'for every input' (looked for: loops, veiled, ifaces, maps, wideKeys, modest, calm, conditions, laid).
  DERIVED. THE GIVEN ROWS OF THIS SEAT. 11 by the template 'for every input the law returns true; each argument reads behind the call as it read before'; 0 by the template 'total and deterministic' (their statements: YtldlpkfjgackiaaTotals.lean).
  GIVEN WITH THE SEED: the statements are not yours to turn. If you find one false, say at which input.
  Laid BY PROGRAM, IN A SANDBOX (cutbox-rows.mjs): the forced cells as the released guide's own fill.sh prints them over the translation 3f683f82e544e120… (all of the seat's roots in one cut). By AI agents, Wed Nov 11 2026. No macro, syntax, notation, axiom, sorry.
-/
import Derived.Test.YtldlpkfjgackiaaChecked
import GoSem.Claim
import GoSem.ClaimJoined
import GoSem.ClaimMapViews
import Derived.JoinedTies
import Derived.KernelRfl
namespace Go.Proofs.Ytldlpkfjgackiaa
/- THE CELL 'sum', in the pinned program and in every row, IS THE sha256 OF THE DUMP (.gsa) THAT YtldlpkfjgackiaaProg.lean LOADS. Nothing in Lean hashes anything: it is a label: what it is worth is what the hold of that sum in a sandbox is worth. -/
noncomputable def Try.pinned : Pinned := { name := "ytldlpkfjgackiaa", sum := "3f683f82e544e1206c81e9ed148841b5f7c7c26a9cb39674fefdfc430120beda", checked := Try.checked }
namespace Rows
def none {H : Type} : Left H := { results := [], args := [] }

/-- 'laws.FnExactCountKeysAt': WHATEVER THE INPUT: true; the input reads as it did. -/
def fnExactCountKeysAtSpec : ChangeSpec := { name := "fnExactCountKeysAt", fn := fun _ => fun
  | [d1, d2, d3, d4] => { results := [.lit (.bool true)], args := [d1, d2, d3, d4] }
  | _ => none }
def fnExactCountKeysAtRow : OpenClaim := { program := "ytldlpkfjgackiaa", sum := "3f683f82e544e1206c81e9ed148841b5f7c7c26a9cb39674fefdfc430120beda", func := "loop.example/g00947/laws.FnExactCountKeysAt", spec := "fnExactCountKeysAt", unfollowed := true, recurses := true, apart := false }
def FnExactCountKeysAtSaid : Prop := fnExactCountKeysAtRow.holds Try.pinned (OpenSpec.ofChange fnExactCountKeysAtSpec)

/-- ITS FALSE NEIGHBOUR: 'it returns false'. Refute it at one input. -/
def fnExactCountKeysAtWrong : ChangeSpec := { name := "fnExactCountKeysAt", fn := fun _ => fun
  | [d1, d2, d3, d4] => { results := [.lit (.bool false)], args := [d1, d2, d3, d4] }
  | _ => none }
def FnExactCountKeysAtWrongFalsely : Prop := fnExactCountKeysAtRow.holds Try.pinned (OpenSpec.ofChange fnExactCountKeysAtWrong)

/-- 'laws.FnExactSwapKeys': WHATEVER THE INPUT: true; the input reads as it did. -/
def fnExactSwapKeysSpec : ChangeSpec := { name := "fnExactSwapKeys", fn := fun _ => fun
  | [d1, d2, d3, d4] => { results := [.lit (.bool true)], args := [d1, d2, d3, d4] }
  | _ => none }
def fnExactSwapKeysRow : OpenClaim := { program := "ytldlpkfjgackiaa", sum := "3f683f82e544e1206c81e9ed148841b5f7c7c26a9cb39674fefdfc430120beda", func := "loop.example/g00947/laws.FnExactSwapKeys", spec := "fnExactSwapKeys", unfollowed := true, recurses := true, apart := false }
def FnExactSwapKeysSaid : Prop := fnExactSwapKeysRow.holds Try.pinned (OpenSpec.ofChange fnExactSwapKeysSpec)

/-- ITS FALSE NEIGHBOUR: 'it returns false'. Refute it at one input. -/
def fnExactSwapKeysWrong : ChangeSpec := { name := "fnExactSwapKeys", fn := fun _ => fun
  | [d1, d2, d3, d4] => { results := [.lit (.bool false)], args := [d1, d2, d3, d4] }
  | _ => none }
def FnExactSwapKeysWrongFalsely : Prop := fnExactSwapKeysRow.holds Try.pinned (OpenSpec.ofChange fnExactSwapKeysWrong)

/-- 'laws.FnExactLockAt': WHATEVER THE INPUT: true; the input reads as it did. -/
def fnExactLockAtSpec : ChangeSpec := { name := "fnExactLockAt", fn := fun _ => fun
  | [d1, d2, d3, d4] => { results := [.lit (.bool true)], args := [d1, d2, d3, d4] }
  | _ => none }
def fnExactLockAtRow : OpenClaim := { program := "ytldlpkfjgackiaa", sum := "3f683f82e544e1206c81e9ed148841b5f7c7c26a9cb39674fefdfc430120beda", func := "loop.example/g00947/laws.FnExactLockAt", spec := "fnExactLockAt", recurses := true, apart := false }
def FnExactLockAtSaid : Prop := fnExactLockAtRow.holds Try.pinned (OpenSpec.ofChange fnExactLockAtSpec)

/-- ITS FALSE NEIGHBOUR: 'it returns false'. Refute it at one input. -/
def fnExactLockAtWrong : ChangeSpec := { name := "fnExactLockAt", fn := fun _ => fun
  | [d1, d2, d3, d4] => { results := [.lit (.bool false)], args := [d1, d2, d3, d4] }
  | _ => none }
def FnExactLockAtWrongFalsely : Prop := fnExactLockAtRow.holds Try.pinned (OpenSpec.ofChange fnExactLockAtWrong)

/-- 'laws.FnExactChangeLock': WHATEVER THE INPUT: true; the input reads as it did. -/
def fnExactChangeLockSpec : ChangeSpec := { name := "fnExactChangeLock", fn := fun _ => fun
  | [d1, d2, d3] => { results := [.lit (.bool true)], args := [d1, d2, d3] }
  | _ => none }
def fnExactChangeLockRow : OpenClaim := { program := "ytldlpkfjgackiaa", sum := "3f683f82e544e1206c81e9ed148841b5f7c7c26a9cb39674fefdfc430120beda", func := "loop.example/g00947/laws.FnExactChangeLock", spec := "fnExactChangeLock", unfollowed := true, recurses := true, apart := false }
def FnExactChangeLockSaid : Prop := fnExactChangeLockRow.holds Try.pinned (OpenSpec.ofChange fnExactChangeLockSpec)

/-- ITS FALSE NEIGHBOUR: 'it returns false'. Refute it at one input. -/
def fnExactChangeLockWrong : ChangeSpec := { name := "fnExactChangeLock", fn := fun _ => fun
  | [d1, d2, d3] => { results := [.lit (.bool false)], args := [d1, d2, d3] }
  | _ => none }
def FnExactChangeLockWrongFalsely : Prop := fnExactChangeLockRow.holds Try.pinned (OpenSpec.ofChange fnExactChangeLockWrong)

/-- 'laws.FnExactMixedKeys': WHATEVER THE INPUT: true; the input reads as it did. -/
def fnExactMixedKeysSpec : ChangeSpec := { name := "fnExactMixedKeys", fn := fun _ => fun
  | [d1, d2, d3] => { results := [.lit (.bool true)], args := [d1, d2, d3] }
  | _ => none }
def fnExactMixedKeysRow : OpenClaim := { program := "ytldlpkfjgackiaa", sum := "3f683f82e544e1206c81e9ed148841b5f7c7c26a9cb39674fefdfc430120beda", func := "loop.example/g00947/laws.FnExactMixedKeys", spec := "fnExactMixedKeys", unfollowed := true, recurses := true, apart := false }
def FnExactMixedKeysSaid : Prop := fnExactMixedKeysRow.holds Try.pinned (OpenSpec.ofChange fnExactMixedKeysSpec)

/-- ITS FALSE NEIGHBOUR: 'it returns false'. Refute it at one input. -/
def fnExactMixedKeysWrong : ChangeSpec := { name := "fnExactMixedKeys", fn := fun _ => fun
  | [d1, d2, d3] => { results := [.lit (.bool false)], args := [d1, d2, d3] }
  | _ => none }
def FnExactMixedKeysWrongFalsely : Prop := fnExactMixedKeysRow.holds Try.pinned (OpenSpec.ofChange fnExactMixedKeysWrong)

/-- 'laws.FnExactStopChamber': WHATEVER THE INPUT: true; the input reads as it did. -/
def fnExactStopChamberSpec : ChangeSpec := { name := "fnExactStopChamber", fn := fun _ => fun
  | [d1, d2, d3, d4] => { results := [.lit (.bool true)], args := [d1, d2, d3, d4] }
  | _ => none }
def fnExactStopChamberRow : OpenClaim := { program := "ytldlpkfjgackiaa", sum := "3f683f82e544e1206c81e9ed148841b5f7c7c26a9cb39674fefdfc430120beda", func := "loop.example/g00947/laws.FnExactStopChamber", spec := "fnExactStopChamber", unfollowed := true, recurses := true, apart := false }
def FnExactStopChamberSaid : Prop := fnExactStopChamberRow.holds Try.pinned (OpenSpec.ofChange fnExactStopChamberSpec)

/-- ITS FALSE NEIGHBOUR: 'it returns false'. Refute it at one input. -/
def fnExactStopChamberWrong : ChangeSpec := { name := "fnExactStopChamber", fn := fun _ => fun
  | [d1, d2, d3, d4] => { results := [.lit (.bool false)], args := [d1, d2, d3, d4] }
  | _ => none }
def FnExactStopChamberWrongFalsely : Prop := fnExactStopChamberRow.holds Try.pinned (OpenSpec.ofChange fnExactStopChamberWrong)

/-- 'laws.FnExactIsOpenPart': WHATEVER THE INPUT: true; the input reads as it did. -/
def fnExactIsOpenPartSpec : ChangeSpec := { name := "fnExactIsOpenPart", fn := fun _ => fun
  | [d1, d2] => { results := [.lit (.bool true)], args := [d1, d2] }
  | _ => none }
def fnExactIsOpenPartRow : OpenClaim := { program := "ytldlpkfjgackiaa", sum := "3f683f82e544e1206c81e9ed148841b5f7c7c26a9cb39674fefdfc430120beda", func := "loop.example/g00947/laws.FnExactIsOpenPart", spec := "fnExactIsOpenPart", unfollowed := true, recurses := true, apart := false }
def FnExactIsOpenPartSaid : Prop := fnExactIsOpenPartRow.holds Try.pinned (OpenSpec.ofChange fnExactIsOpenPartSpec)

/-- ITS FALSE NEIGHBOUR: 'it returns false'. Refute it at one input. -/
def fnExactIsOpenPartWrong : ChangeSpec := { name := "fnExactIsOpenPart", fn := fun _ => fun
  | [d1, d2] => { results := [.lit (.bool false)], args := [d1, d2] }
  | _ => none }
def FnExactIsOpenPartWrongFalsely : Prop := fnExactIsOpenPartRow.holds Try.pinned (OpenSpec.ofChange fnExactIsOpenPartWrong)

/-- 'laws.FnExactIsDesign': WHATEVER THE INPUT: true; the input reads as it did. -/
def fnExactIsDesignSpec : ChangeSpec := { name := "fnExactIsDesign", fn := fun _ => fun
  | [d1, d2] => { results := [.lit (.bool true)], args := [d1, d2] }
  | _ => none }
def fnExactIsDesignRow : OpenClaim := { program := "ytldlpkfjgackiaa", sum := "3f683f82e544e1206c81e9ed148841b5f7c7c26a9cb39674fefdfc430120beda", func := "loop.example/g00947/laws.FnExactIsDesign", spec := "fnExactIsDesign", unfollowed := true, recurses := true, apart := false }
def FnExactIsDesignSaid : Prop := fnExactIsDesignRow.holds Try.pinned (OpenSpec.ofChange fnExactIsDesignSpec)

/-- ITS FALSE NEIGHBOUR: 'it returns false'. Refute it at one input. -/
def fnExactIsDesignWrong : ChangeSpec := { name := "fnExactIsDesign", fn := fun _ => fun
  | [d1, d2] => { results := [.lit (.bool false)], args := [d1, d2] }
  | _ => none }
def FnExactIsDesignWrongFalsely : Prop := fnExactIsDesignRow.holds Try.pinned (OpenSpec.ofChange fnExactIsDesignWrong)

/-- 'laws.FnExactCountFalse': WHATEVER THE INPUT: true; the input reads as it did. -/
def fnExactCountFalseSpec : ChangeSpec := { name := "fnExactCountFalse", fn := fun _ => fun
  | [d1, d2] => { results := [.lit (.bool true)], args := [d1, d2] }
  | _ => none }
def fnExactCountFalseRow : OpenClaim := { program := "ytldlpkfjgackiaa", sum := "3f683f82e544e1206c81e9ed148841b5f7c7c26a9cb39674fefdfc430120beda", func := "loop.example/g00947/laws.FnExactCountFalse", spec := "fnExactCountFalse", unfollowed := true, recurses := true, apart := false }
def FnExactCountFalseSaid : Prop := fnExactCountFalseRow.holds Try.pinned (OpenSpec.ofChange fnExactCountFalseSpec)

/-- ITS FALSE NEIGHBOUR: 'it returns false'. Refute it at one input. -/
def fnExactCountFalseWrong : ChangeSpec := { name := "fnExactCountFalse", fn := fun _ => fun
  | [d1, d2] => { results := [.lit (.bool false)], args := [d1, d2] }
  | _ => none }
def FnExactCountFalseWrongFalsely : Prop := fnExactCountFalseRow.holds Try.pinned (OpenSpec.ofChange fnExactCountFalseWrong)

/-- 'laws.FnExactPartFault': WHATEVER THE INPUT: true; the input reads as it did. -/
def fnExactPartFaultSpec : ChangeSpec := { name := "fnExactPartFault", fn := fun _ => fun
  | [d1, d2] => { results := [.lit (.bool true)], args := [d1, d2] }
  | _ => none }
def fnExactPartFaultRow : OpenClaim := { program := "ytldlpkfjgackiaa", sum := "3f683f82e544e1206c81e9ed148841b5f7c7c26a9cb39674fefdfc430120beda", func := "loop.example/g00947/laws.FnExactPartFault", spec := "fnExactPartFault", unfollowed := true, recurses := true, apart := false }
def FnExactPartFaultSaid : Prop := fnExactPartFaultRow.holds Try.pinned (OpenSpec.ofChange fnExactPartFaultSpec)

/-- ITS FALSE NEIGHBOUR: 'it returns false'. Refute it at one input. -/
def fnExactPartFaultWrong : ChangeSpec := { name := "fnExactPartFault", fn := fun _ => fun
  | [d1, d2] => { results := [.lit (.bool false)], args := [d1, d2] }
  | _ => none }
def FnExactPartFaultWrongFalsely : Prop := fnExactPartFaultRow.holds Try.pinned (OpenSpec.ofChange fnExactPartFaultWrong)

/-- 'laws.FnExactLocksOf': WHATEVER THE INPUT: true; the input reads as it did. -/
def fnExactLocksOfSpec : ChangeSpec := { name := "fnExactLocksOf", fn := fun _ => fun
  | [d1, d2] => { results := [.lit (.bool true)], args := [d1, d2] }
  | _ => none }
def fnExactLocksOfRow : OpenClaim := { program := "ytldlpkfjgackiaa", sum := "3f683f82e544e1206c81e9ed148841b5f7c7c26a9cb39674fefdfc430120beda", func := "loop.example/g00947/laws.FnExactLocksOf", spec := "fnExactLocksOf", unfollowed := true, recurses := true, apart := false }
def FnExactLocksOfSaid : Prop := fnExactLocksOfRow.holds Try.pinned (OpenSpec.ofChange fnExactLocksOfSpec)

/-- ITS FALSE NEIGHBOUR: 'it returns false'. Refute it at one input. -/
def fnExactLocksOfWrong : ChangeSpec := { name := "fnExactLocksOf", fn := fun _ => fun
  | [d1, d2] => { results := [.lit (.bool false)], args := [d1, d2] }
  | _ => none }
def FnExactLocksOfWrongFalsely : Prop := fnExactLocksOfRow.holds Try.pinned (OpenSpec.ofChange fnExactLocksOfWrong)

/- THE SECOND FORM. 'bulk': how many values and letters a reading holds, each counted each time it is reached (what is shared counts as often as it is met; a slice's spare places count too). A statement '..UptoSaid' is the law's where the arguments, and the package variables that the reading takes, are together of bulk at most 1048576: NARROWER than '..Said'. Prove '..Said' where nothing that the law and all that it calls make is longer than what came in: it says more and counts as full. Else prove '..UptoSaid'. A law counts once. -/
mutual
def uptoBulk {H : Type} : DataW H → Nat
  | .lit (.string bytes) => bytes.length + 1
  | .lit _ => 1
  | .nil => 1
  | .ptr d => uptoBulk d + 1
  | .slice elems spare => uptoBulkAll elems + uptoBulkAll spare + 1
  | .agg parts => uptoBulkAll parts + 1
  | .iface _ d => uptoBulk d + 1
  | .map entries => uptoBulkEntries entries + 1
  | .held _ => 1
def uptoBulkAll {H : Type} : List (DataW H) → Nat
  | [] => 0
  | d :: r => uptoBulk d + uptoBulkAll r
def uptoBulkEntries {H : Type} : List (Lit × DataW H) → Nat
  | [] => 0
  | x :: r => uptoBulkEntry x + uptoBulkEntries r
def uptoBulkEntry {H : Type} : Lit × DataW H → Nat
  | (.string bytes, d) => bytes.length + uptoBulk d + 1
  | (_, d) => uptoBulk d + 1
 end
def uptoSmall : (H : Type) → List (DataW H) → Bool := fun _ ds => decide (uptoBulkAll ds ≤ 1048576)
def OpenSpec.upto (s : _root_.Go.ChangeSpec) : _root_.Go.OpenSpec := { _root_.Go.OpenSpec.ofChange s with cond := some uptoSmall }

/-- 'laws.FnExactCountKeysAt', WHERE WHAT IT READS IS OF BULK AT MOST 1048576: true; the input reads as it did. -/
def fnExactCountKeysAtUptoRow : OpenClaim := { program := "ytldlpkfjgackiaa", sum := "3f683f82e544e1206c81e9ed148841b5f7c7c26a9cb39674fefdfc430120beda", func := "loop.example/g00947/laws.FnExactCountKeysAt", spec := "fnExactCountKeysAt", unfollowed := true, recurses := true, apart := false, narrowed := true }
def FnExactCountKeysAtUptoSaid : Prop := fnExactCountKeysAtUptoRow.holds Try.pinned (OpenSpec.upto fnExactCountKeysAtSpec)

/-- 'laws.FnExactSwapKeys', WHERE WHAT IT READS IS OF BULK AT MOST 1048576: true; the input reads as it did. -/
def fnExactSwapKeysUptoRow : OpenClaim := { program := "ytldlpkfjgackiaa", sum := "3f683f82e544e1206c81e9ed148841b5f7c7c26a9cb39674fefdfc430120beda", func := "loop.example/g00947/laws.FnExactSwapKeys", spec := "fnExactSwapKeys", unfollowed := true, recurses := true, apart := false, narrowed := true }
def FnExactSwapKeysUptoSaid : Prop := fnExactSwapKeysUptoRow.holds Try.pinned (OpenSpec.upto fnExactSwapKeysSpec)

/-- 'laws.FnExactLockAt', WHERE WHAT IT READS IS OF BULK AT MOST 1048576: true; the input reads as it did. -/
def fnExactLockAtUptoRow : OpenClaim := { program := "ytldlpkfjgackiaa", sum := "3f683f82e544e1206c81e9ed148841b5f7c7c26a9cb39674fefdfc430120beda", func := "loop.example/g00947/laws.FnExactLockAt", spec := "fnExactLockAt", recurses := true, apart := false, narrowed := true }
def FnExactLockAtUptoSaid : Prop := fnExactLockAtUptoRow.holds Try.pinned (OpenSpec.upto fnExactLockAtSpec)

/-- 'laws.FnExactChangeLock', WHERE WHAT IT READS IS OF BULK AT MOST 1048576: true; the input reads as it did. -/
def fnExactChangeLockUptoRow : OpenClaim := { program := "ytldlpkfjgackiaa", sum := "3f683f82e544e1206c81e9ed148841b5f7c7c26a9cb39674fefdfc430120beda", func := "loop.example/g00947/laws.FnExactChangeLock", spec := "fnExactChangeLock", unfollowed := true, recurses := true, apart := false, narrowed := true }
def FnExactChangeLockUptoSaid : Prop := fnExactChangeLockUptoRow.holds Try.pinned (OpenSpec.upto fnExactChangeLockSpec)

/-- 'laws.FnExactMixedKeys', WHERE WHAT IT READS IS OF BULK AT MOST 1048576: true; the input reads as it did. -/
def fnExactMixedKeysUptoRow : OpenClaim := { program := "ytldlpkfjgackiaa", sum := "3f683f82e544e1206c81e9ed148841b5f7c7c26a9cb39674fefdfc430120beda", func := "loop.example/g00947/laws.FnExactMixedKeys", spec := "fnExactMixedKeys", unfollowed := true, recurses := true, apart := false, narrowed := true }
def FnExactMixedKeysUptoSaid : Prop := fnExactMixedKeysUptoRow.holds Try.pinned (OpenSpec.upto fnExactMixedKeysSpec)

/-- 'laws.FnExactStopChamber', WHERE WHAT IT READS IS OF BULK AT MOST 1048576: true; the input reads as it did. -/
def fnExactStopChamberUptoRow : OpenClaim := { program := "ytldlpkfjgackiaa", sum := "3f683f82e544e1206c81e9ed148841b5f7c7c26a9cb39674fefdfc430120beda", func := "loop.example/g00947/laws.FnExactStopChamber", spec := "fnExactStopChamber", unfollowed := true, recurses := true, apart := false, narrowed := true }
def FnExactStopChamberUptoSaid : Prop := fnExactStopChamberUptoRow.holds Try.pinned (OpenSpec.upto fnExactStopChamberSpec)

/-- 'laws.FnExactIsOpenPart', WHERE WHAT IT READS IS OF BULK AT MOST 1048576: true; the input reads as it did. -/
def fnExactIsOpenPartUptoRow : OpenClaim := { program := "ytldlpkfjgackiaa", sum := "3f683f82e544e1206c81e9ed148841b5f7c7c26a9cb39674fefdfc430120beda", func := "loop.example/g00947/laws.FnExactIsOpenPart", spec := "fnExactIsOpenPart", unfollowed := true, recurses := true, apart := false, narrowed := true }
def FnExactIsOpenPartUptoSaid : Prop := fnExactIsOpenPartUptoRow.holds Try.pinned (OpenSpec.upto fnExactIsOpenPartSpec)

/-- 'laws.FnExactIsDesign', WHERE WHAT IT READS IS OF BULK AT MOST 1048576: true; the input reads as it did. -/
def fnExactIsDesignUptoRow : OpenClaim := { program := "ytldlpkfjgackiaa", sum := "3f683f82e544e1206c81e9ed148841b5f7c7c26a9cb39674fefdfc430120beda", func := "loop.example/g00947/laws.FnExactIsDesign", spec := "fnExactIsDesign", unfollowed := true, recurses := true, apart := false, narrowed := true }
def FnExactIsDesignUptoSaid : Prop := fnExactIsDesignUptoRow.holds Try.pinned (OpenSpec.upto fnExactIsDesignSpec)

/-- 'laws.FnExactCountFalse', WHERE WHAT IT READS IS OF BULK AT MOST 1048576: true; the input reads as it did. -/
def fnExactCountFalseUptoRow : OpenClaim := { program := "ytldlpkfjgackiaa", sum := "3f683f82e544e1206c81e9ed148841b5f7c7c26a9cb39674fefdfc430120beda", func := "loop.example/g00947/laws.FnExactCountFalse", spec := "fnExactCountFalse", unfollowed := true, recurses := true, apart := false, narrowed := true }
def FnExactCountFalseUptoSaid : Prop := fnExactCountFalseUptoRow.holds Try.pinned (OpenSpec.upto fnExactCountFalseSpec)

/-- 'laws.FnExactPartFault', WHERE WHAT IT READS IS OF BULK AT MOST 1048576: true; the input reads as it did. -/
def fnExactPartFaultUptoRow : OpenClaim := { program := "ytldlpkfjgackiaa", sum := "3f683f82e544e1206c81e9ed148841b5f7c7c26a9cb39674fefdfc430120beda", func := "loop.example/g00947/laws.FnExactPartFault", spec := "fnExactPartFault", unfollowed := true, recurses := true, apart := false, narrowed := true }
def FnExactPartFaultUptoSaid : Prop := fnExactPartFaultUptoRow.holds Try.pinned (OpenSpec.upto fnExactPartFaultSpec)

/-- 'laws.FnExactLocksOf', WHERE WHAT IT READS IS OF BULK AT MOST 1048576: true; the input reads as it did. -/
def fnExactLocksOfUptoRow : OpenClaim := { program := "ytldlpkfjgackiaa", sum := "3f683f82e544e1206c81e9ed148841b5f7c7c26a9cb39674fefdfc430120beda", func := "loop.example/g00947/laws.FnExactLocksOf", spec := "fnExactLocksOf", unfollowed := true, recurses := true, apart := false, narrowed := true }
def FnExactLocksOfUptoSaid : Prop := fnExactLocksOfUptoRow.holds Try.pinned (OpenSpec.upto fnExactLocksOfSpec)

end Rows
end Go.Proofs.Ytldlpkfjgackiaa
