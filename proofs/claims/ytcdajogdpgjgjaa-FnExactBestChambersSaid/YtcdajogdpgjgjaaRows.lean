/-
  No cell of these rows narrows 'for every input' (looked for: loops, veiled, ifaces, maps, wideKeys, modest, calm, conditions, laid).
  DERIVED. THE GIVEN ROWS OF THIS SEAT. 12 by the template 'for every input the law returns true; each argument reads behind the call as it read before'; 0 by the template 'total and deterministic' (their statements: YtcdajogdpgjgjaaTotals.lean).
  GIVEN WITH THE SEED: the statements are not yours to turn. If you find one false, say at which input.
  Laid BY PROGRAM, IN A SANDBOX (cutbox-rows.mjs): the forced cells as the released guide's own fill.sh prints them over the translation c28671308336f039… (all of the seat's roots in one cut). By AI agents, Wed Nov 11 2026. No macro, syntax, notation, axiom, sorry.
-/
import Derived.Test.YtcdajogdpgjgjaaChecked
import GoSem.Claim
import GoSem.ClaimJoined
import GoSem.ClaimMapViews
import Derived.JoinedTies
import Derived.KernelRfl
namespace Go.Proofs.Ytcdajogdpgjgjaa
/- THE CELL 'sum', in the pinned program and in every row, IS THE sha256 OF THE DUMP (.gsa) THAT YtcdajogdpgjgjaaProg.lean LOADS. Nothing in Lean hashes anything: it is a label: what it is worth is what the hold of that sum in a sandbox is worth. -/
noncomputable def Try.pinned : Pinned := { name := "ytcdajogdpgjgjaa", sum := "c28671308336f03935036b61251ee015fbf19fb658c6a08e33676ac8ad792c2e", checked := Try.checked }
namespace Rows
def none {H : Type} : Left H := { results := [], args := [] }

/-- 'laws.FnExactCountKeysAt': WHATEVER THE INPUT: true; the input reads as it did. -/
def fnExactCountKeysAtSpec : ChangeSpec := { name := "fnExactCountKeysAt", fn := fun _ => fun
  | [d1, d2, d3, d4] => { results := [.lit (.bool true)], args := [d1, d2, d3, d4] }
  | _ => none }
def fnExactCountKeysAtRow : OpenClaim := { program := "ytcdajogdpgjgjaa", sum := "c28671308336f03935036b61251ee015fbf19fb658c6a08e33676ac8ad792c2e", func := "loop.example/g00947/laws.FnExactCountKeysAt", spec := "fnExactCountKeysAt", unfollowed := true, recurses := true, apart := false }
def FnExactCountKeysAtSaid : Prop := fnExactCountKeysAtRow.holds Try.pinned (OpenSpec.ofChange fnExactCountKeysAtSpec)

/-- ITS FALSE NEIGHBOUR: 'it returns false'. Refute it at one input. -/
def fnExactCountKeysAtWrong : ChangeSpec := { name := "fnExactCountKeysAt", fn := fun _ => fun
  | [d1, d2, d3, d4] => { results := [.lit (.bool false)], args := [d1, d2, d3, d4] }
  | _ => none }
def FnExactCountKeysAtWrongFalsely : Prop := fnExactCountKeysAtRow.holds Try.pinned (OpenSpec.ofChange fnExactCountKeysAtWrong)

/-- 'laws.FnExactCountChanges': WHATEVER THE INPUT: true; the input reads as it did. -/
def fnExactCountChangesSpec : ChangeSpec := { name := "fnExactCountChanges", fn := fun _ => fun
  | [d1, d2] => { results := [.lit (.bool true)], args := [d1, d2] }
  | _ => none }
def fnExactCountChangesRow : OpenClaim := { program := "ytcdajogdpgjgjaa", sum := "c28671308336f03935036b61251ee015fbf19fb658c6a08e33676ac8ad792c2e", func := "loop.example/g00947/laws.FnExactCountChanges", spec := "fnExactCountChanges", unfollowed := true, recurses := true, apart := false }
def FnExactCountChangesSaid : Prop := fnExactCountChangesRow.holds Try.pinned (OpenSpec.ofChange fnExactCountChangesSpec)

/-- ITS FALSE NEIGHBOUR: 'it returns false'. Refute it at one input. -/
def fnExactCountChangesWrong : ChangeSpec := { name := "fnExactCountChanges", fn := fun _ => fun
  | [d1, d2] => { results := [.lit (.bool false)], args := [d1, d2] }
  | _ => none }
def FnExactCountChangesWrongFalsely : Prop := fnExactCountChangesRow.holds Try.pinned (OpenSpec.ofChange fnExactCountChangesWrong)

/-- 'laws.FnExactBestChambers': WHATEVER THE INPUT: true; the input reads as it did. -/
def fnExactBestChambersSpec : ChangeSpec := { name := "fnExactBestChambers", fn := fun _ => fun
  | [d1, d2, d3, d4] => { results := [.lit (.bool true)], args := [d1, d2, d3, d4] }
  | _ => none }
def fnExactBestChambersRow : OpenClaim := { program := "ytcdajogdpgjgjaa", sum := "c28671308336f03935036b61251ee015fbf19fb658c6a08e33676ac8ad792c2e", func := "loop.example/g00947/laws.FnExactBestChambers", spec := "fnExactBestChambers", unfollowed := true, recurses := true, apart := false }
def FnExactBestChambersSaid : Prop := fnExactBestChambersRow.holds Try.pinned (OpenSpec.ofChange fnExactBestChambersSpec)

/-- ITS FALSE NEIGHBOUR: 'it returns false'. Refute it at one input. -/
def fnExactBestChambersWrong : ChangeSpec := { name := "fnExactBestChambers", fn := fun _ => fun
  | [d1, d2, d3, d4] => { results := [.lit (.bool false)], args := [d1, d2, d3, d4] }
  | _ => none }
def FnExactBestChambersWrongFalsely : Prop := fnExactBestChambersRow.holds Try.pinned (OpenSpec.ofChange fnExactBestChambersWrong)

/-- 'laws.FnExactChangeKeys': WHATEVER THE INPUT: true; the input reads as it did. -/
def fnExactChangeKeysSpec : ChangeSpec := { name := "fnExactChangeKeys", fn := fun _ => fun
  | [d1, d2, d3] => { results := [.lit (.bool true)], args := [d1, d2, d3] }
  | _ => none }
def fnExactChangeKeysRow : OpenClaim := { program := "ytcdajogdpgjgjaa", sum := "c28671308336f03935036b61251ee015fbf19fb658c6a08e33676ac8ad792c2e", func := "loop.example/g00947/laws.FnExactChangeKeys", spec := "fnExactChangeKeys", unfollowed := true, recurses := true, apart := false }
def FnExactChangeKeysSaid : Prop := fnExactChangeKeysRow.holds Try.pinned (OpenSpec.ofChange fnExactChangeKeysSpec)

/-- ITS FALSE NEIGHBOUR: 'it returns false'. Refute it at one input. -/
def fnExactChangeKeysWrong : ChangeSpec := { name := "fnExactChangeKeys", fn := fun _ => fun
  | [d1, d2, d3] => { results := [.lit (.bool false)], args := [d1, d2, d3] }
  | _ => none }
def FnExactChangeKeysWrongFalsely : Prop := fnExactChangeKeysRow.holds Try.pinned (OpenSpec.ofChange fnExactChangeKeysWrong)

/-- 'laws.FnExactIsGhost': WHATEVER THE INPUT: true; the input reads as it did. -/
def fnExactIsGhostSpec : ChangeSpec := { name := "fnExactIsGhost", fn := fun _ => fun
  | [d1, d2, d3, d4] => { results := [.lit (.bool true)], args := [d1, d2, d3, d4] }
  | _ => none }
def fnExactIsGhostRow : OpenClaim := { program := "ytcdajogdpgjgjaa", sum := "c28671308336f03935036b61251ee015fbf19fb658c6a08e33676ac8ad792c2e", func := "loop.example/g00947/laws.FnExactIsGhost", spec := "fnExactIsGhost", unfollowed := true, recurses := true, apart := false }
def FnExactIsGhostSaid : Prop := fnExactIsGhostRow.holds Try.pinned (OpenSpec.ofChange fnExactIsGhostSpec)

/-- ITS FALSE NEIGHBOUR: 'it returns false'. Refute it at one input. -/
def fnExactIsGhostWrong : ChangeSpec := { name := "fnExactIsGhost", fn := fun _ => fun
  | [d1, d2, d3, d4] => { results := [.lit (.bool false)], args := [d1, d2, d3, d4] }
  | _ => none }
def FnExactIsGhostWrongFalsely : Prop := fnExactIsGhostRow.holds Try.pinned (OpenSpec.ofChange fnExactIsGhostWrong)

/-- 'laws.FnExactSwapKeys': WHATEVER THE INPUT: true; the input reads as it did. -/
def fnExactSwapKeysSpec : ChangeSpec := { name := "fnExactSwapKeys", fn := fun _ => fun
  | [d1, d2, d3, d4] => { results := [.lit (.bool true)], args := [d1, d2, d3, d4] }
  | _ => none }
def fnExactSwapKeysRow : OpenClaim := { program := "ytcdajogdpgjgjaa", sum := "c28671308336f03935036b61251ee015fbf19fb658c6a08e33676ac8ad792c2e", func := "loop.example/g00947/laws.FnExactSwapKeys", spec := "fnExactSwapKeys", unfollowed := true, recurses := true, apart := false }
def FnExactSwapKeysSaid : Prop := fnExactSwapKeysRow.holds Try.pinned (OpenSpec.ofChange fnExactSwapKeysSpec)

/-- ITS FALSE NEIGHBOUR: 'it returns false'. Refute it at one input. -/
def fnExactSwapKeysWrong : ChangeSpec := { name := "fnExactSwapKeys", fn := fun _ => fun
  | [d1, d2, d3, d4] => { results := [.lit (.bool false)], args := [d1, d2, d3, d4] }
  | _ => none }
def FnExactSwapKeysWrongFalsely : Prop := fnExactSwapKeysRow.holds Try.pinned (OpenSpec.ofChange fnExactSwapKeysWrong)

/-- 'laws.FnExactMirrorCuts': WHATEVER THE INPUT: true; the input reads as it did. -/
def fnExactMirrorCutsSpec : ChangeSpec := { name := "fnExactMirrorCuts", fn := fun _ => fun
  | [d1, d2] => { results := [.lit (.bool true)], args := [d1, d2] }
  | _ => none }
def fnExactMirrorCutsRow : OpenClaim := { program := "ytcdajogdpgjgjaa", sum := "c28671308336f03935036b61251ee015fbf19fb658c6a08e33676ac8ad792c2e", func := "loop.example/g00947/laws.FnExactMirrorCuts", spec := "fnExactMirrorCuts", unfollowed := true, recurses := true, apart := false }
def FnExactMirrorCutsSaid : Prop := fnExactMirrorCutsRow.holds Try.pinned (OpenSpec.ofChange fnExactMirrorCutsSpec)

/-- ITS FALSE NEIGHBOUR: 'it returns false'. Refute it at one input. -/
def fnExactMirrorCutsWrong : ChangeSpec := { name := "fnExactMirrorCuts", fn := fun _ => fun
  | [d1, d2] => { results := [.lit (.bool false)], args := [d1, d2] }
  | _ => none }
def FnExactMirrorCutsWrongFalsely : Prop := fnExactMirrorCutsRow.holds Try.pinned (OpenSpec.ofChange fnExactMirrorCutsWrong)

/-- 'laws.FnExactGhostBound': WHATEVER THE INPUT: true; the input reads as it did. -/
def fnExactGhostBoundSpec : ChangeSpec := { name := "fnExactGhostBound", fn := fun _ => fun
  | [d1, d2, d3] => { results := [.lit (.bool true)], args := [d1, d2, d3] }
  | _ => none }
def fnExactGhostBoundRow : OpenClaim := { program := "ytcdajogdpgjgjaa", sum := "c28671308336f03935036b61251ee015fbf19fb658c6a08e33676ac8ad792c2e", func := "loop.example/g00947/laws.FnExactGhostBound", spec := "fnExactGhostBound", unfollowed := true, recurses := true, apart := false }
def FnExactGhostBoundSaid : Prop := fnExactGhostBoundRow.holds Try.pinned (OpenSpec.ofChange fnExactGhostBoundSpec)

/-- ITS FALSE NEIGHBOUR: 'it returns false'. Refute it at one input. -/
def fnExactGhostBoundWrong : ChangeSpec := { name := "fnExactGhostBound", fn := fun _ => fun
  | [d1, d2, d3] => { results := [.lit (.bool false)], args := [d1, d2, d3] }
  | _ => none }
def FnExactGhostBoundWrongFalsely : Prop := fnExactGhostBoundRow.holds Try.pinned (OpenSpec.ofChange fnExactGhostBoundWrong)

/-- 'laws.FnExactCountGhosts': WHATEVER THE INPUT: true; the input reads as it did. -/
def fnExactCountGhostsSpec : ChangeSpec := { name := "fnExactCountGhosts", fn := fun _ => fun
  | [d1, d2, d3] => { results := [.lit (.bool true)], args := [d1, d2, d3] }
  | _ => none }
def fnExactCountGhostsRow : OpenClaim := { program := "ytcdajogdpgjgjaa", sum := "c28671308336f03935036b61251ee015fbf19fb658c6a08e33676ac8ad792c2e", func := "loop.example/g00947/laws.FnExactCountGhosts", spec := "fnExactCountGhosts", unfollowed := true, recurses := true, apart := false }
def FnExactCountGhostsSaid : Prop := fnExactCountGhostsRow.holds Try.pinned (OpenSpec.ofChange fnExactCountGhostsSpec)

/-- ITS FALSE NEIGHBOUR: 'it returns false'. Refute it at one input. -/
def fnExactCountGhostsWrong : ChangeSpec := { name := "fnExactCountGhosts", fn := fun _ => fun
  | [d1, d2, d3] => { results := [.lit (.bool false)], args := [d1, d2, d3] }
  | _ => none }
def FnExactCountGhostsWrongFalsely : Prop := fnExactCountGhostsRow.holds Try.pinned (OpenSpec.ofChange fnExactCountGhostsWrong)

/-- 'laws.FnExactHarmlessDepths': WHATEVER THE INPUT: true; the input reads as it did. -/
def fnExactHarmlessDepthsSpec : ChangeSpec := { name := "fnExactHarmlessDepths", fn := fun _ => fun
  | [d1, d2, d3] => { results := [.lit (.bool true)], args := [d1, d2, d3] }
  | _ => none }
def fnExactHarmlessDepthsRow : OpenClaim := { program := "ytcdajogdpgjgjaa", sum := "c28671308336f03935036b61251ee015fbf19fb658c6a08e33676ac8ad792c2e", func := "loop.example/g00947/laws.FnExactHarmlessDepths", spec := "fnExactHarmlessDepths", unfollowed := true, recurses := true, apart := false }
def FnExactHarmlessDepthsSaid : Prop := fnExactHarmlessDepthsRow.holds Try.pinned (OpenSpec.ofChange fnExactHarmlessDepthsSpec)

/-- ITS FALSE NEIGHBOUR: 'it returns false'. Refute it at one input. -/
def fnExactHarmlessDepthsWrong : ChangeSpec := { name := "fnExactHarmlessDepths", fn := fun _ => fun
  | [d1, d2, d3] => { results := [.lit (.bool false)], args := [d1, d2, d3] }
  | _ => none }
def FnExactHarmlessDepthsWrongFalsely : Prop := fnExactHarmlessDepthsRow.holds Try.pinned (OpenSpec.ofChange fnExactHarmlessDepthsWrong)

/-- 'laws.FnExactGhostsOf': WHATEVER THE INPUT: true; the input reads as it did. -/
def fnExactGhostsOfSpec : ChangeSpec := { name := "fnExactGhostsOf", fn := fun _ => fun
  | [d1, d2, d3, d4] => { results := [.lit (.bool true)], args := [d1, d2, d3, d4] }
  | _ => none }
def fnExactGhostsOfRow : OpenClaim := { program := "ytcdajogdpgjgjaa", sum := "c28671308336f03935036b61251ee015fbf19fb658c6a08e33676ac8ad792c2e", func := "loop.example/g00947/laws.FnExactGhostsOf", spec := "fnExactGhostsOf", unfollowed := true, recurses := true, apart := false }
def FnExactGhostsOfSaid : Prop := fnExactGhostsOfRow.holds Try.pinned (OpenSpec.ofChange fnExactGhostsOfSpec)

/-- ITS FALSE NEIGHBOUR: 'it returns false'. Refute it at one input. -/
def fnExactGhostsOfWrong : ChangeSpec := { name := "fnExactGhostsOf", fn := fun _ => fun
  | [d1, d2, d3, d4] => { results := [.lit (.bool false)], args := [d1, d2, d3, d4] }
  | _ => none }
def FnExactGhostsOfWrongFalsely : Prop := fnExactGhostsOfRow.holds Try.pinned (OpenSpec.ofChange fnExactGhostsOfWrong)

/-- 'laws.FnExactNearestGhost': WHATEVER THE INPUT: true; the input reads as it did. -/
def fnExactNearestGhostSpec : ChangeSpec := { name := "fnExactNearestGhost", fn := fun _ => fun
  | [d1, d2, d3, d4] => { results := [.lit (.bool true)], args := [d1, d2, d3, d4] }
  | _ => none }
def fnExactNearestGhostRow : OpenClaim := { program := "ytcdajogdpgjgjaa", sum := "c28671308336f03935036b61251ee015fbf19fb658c6a08e33676ac8ad792c2e", func := "loop.example/g00947/laws.FnExactNearestGhost", spec := "fnExactNearestGhost", unfollowed := true, recurses := true, apart := false }
def FnExactNearestGhostSaid : Prop := fnExactNearestGhostRow.holds Try.pinned (OpenSpec.ofChange fnExactNearestGhostSpec)

/-- ITS FALSE NEIGHBOUR: 'it returns false'. Refute it at one input. -/
def fnExactNearestGhostWrong : ChangeSpec := { name := "fnExactNearestGhost", fn := fun _ => fun
  | [d1, d2, d3, d4] => { results := [.lit (.bool false)], args := [d1, d2, d3, d4] }
  | _ => none }
def FnExactNearestGhostWrongFalsely : Prop := fnExactNearestGhostRow.holds Try.pinned (OpenSpec.ofChange fnExactNearestGhostWrong)

/- THE SECOND FORM. 'bulk': how many values and letters a reading holds, each counted each time it is reached (what is shared counts as often as it is met; a slice's spare places count too). A statement '..UptoSaid' is the law's where the arguments, and the package variables that the reading takes, are together of bulk at most 1048576: NARROWER than '..Said'. Prove '..Said' where nothing that the law and all that it calls make is longer than what came in: it says more and counts as full. Else prove '..UptoSaid'. A law counts once. -/
mutual
def uptoBulk {H : Type} : DataW H → Nat
  | .lit (.string bytes) => bytes.length + 1
  | .lit _ => 1
  | .nil => 1
  | .ptr d => uptoBulk d + 1
  | .slice elems spare => uptoBulkAll elems + uptoBulkAll spare + 1
  | .agg parts => uptoBulkAll parts + 1
  | .iface _ d => uptoBulk d + 1
  | .map entries => uptoBulkEntries entries + 1
  | .held _ => 1
def uptoBulkAll {H : Type} : List (DataW H) → Nat
  | [] => 0
  | d :: r => uptoBulk d + uptoBulkAll r
def uptoBulkEntries {H : Type} : List (Lit × DataW H) → Nat
  | [] => 0
  | x :: r => uptoBulkEntry x + uptoBulkEntries r
def uptoBulkEntry {H : Type} : Lit × DataW H → Nat
  | (.string bytes, d) => bytes.length + uptoBulk d + 1
  | (_, d) => uptoBulk d + 1
 end
def uptoSmall : (H : Type) → List (DataW H) → Bool := fun _ ds => decide (uptoBulkAll ds ≤ 1048576)
def OpenSpec.upto (s : _root_.Go.ChangeSpec) : _root_.Go.OpenSpec := { _root_.Go.OpenSpec.ofChange s with cond := some uptoSmall }

/-- 'laws.FnExactCountKeysAt', WHERE WHAT IT READS IS OF BULK AT MOST 1048576: true; the input reads as it did. -/
def fnExactCountKeysAtUptoRow : OpenClaim := { program := "ytcdajogdpgjgjaa", sum := "c28671308336f03935036b61251ee015fbf19fb658c6a08e33676ac8ad792c2e", func := "loop.example/g00947/laws.FnExactCountKeysAt", spec := "fnExactCountKeysAt", unfollowed := true, recurses := true, apart := false, narrowed := true }
def FnExactCountKeysAtUptoSaid : Prop := fnExactCountKeysAtUptoRow.holds Try.pinned (OpenSpec.upto fnExactCountKeysAtSpec)

/-- 'laws.FnExactCountChanges', WHERE WHAT IT READS IS OF BULK AT MOST 1048576: true; the input reads as it did. -/
def fnExactCountChangesUptoRow : OpenClaim := { program := "ytcdajogdpgjgjaa", sum := "c28671308336f03935036b61251ee015fbf19fb658c6a08e33676ac8ad792c2e", func := "loop.example/g00947/laws.FnExactCountChanges", spec := "fnExactCountChanges", unfollowed := true, recurses := true, apart := false, narrowed := true }
def FnExactCountChangesUptoSaid : Prop := fnExactCountChangesUptoRow.holds Try.pinned (OpenSpec.upto fnExactCountChangesSpec)

/-- 'laws.FnExactBestChambers', WHERE WHAT IT READS IS OF BULK AT MOST 1048576: true; the input reads as it did. -/
def fnExactBestChambersUptoRow : OpenClaim := { program := "ytcdajogdpgjgjaa", sum := "c28671308336f03935036b61251ee015fbf19fb658c6a08e33676ac8ad792c2e", func := "loop.example/g00947/laws.FnExactBestChambers", spec := "fnExactBestChambers", unfollowed := true, recurses := true, apart := false, narrowed := true }
def FnExactBestChambersUptoSaid : Prop := fnExactBestChambersUptoRow.holds Try.pinned (OpenSpec.upto fnExactBestChambersSpec)

/-- 'laws.FnExactChangeKeys', WHERE WHAT IT READS IS OF BULK AT MOST 1048576: true; the input reads as it did. -/
def fnExactChangeKeysUptoRow : OpenClaim := { program := "ytcdajogdpgjgjaa", sum := "c28671308336f03935036b61251ee015fbf19fb658c6a08e33676ac8ad792c2e", func := "loop.example/g00947/laws.FnExactChangeKeys", spec := "fnExactChangeKeys", unfollowed := true, recurses := true, apart := false, narrowed := true }
def FnExactChangeKeysUptoSaid : Prop := fnExactChangeKeysUptoRow.holds Try.pinned (OpenSpec.upto fnExactChangeKeysSpec)

/-- 'laws.FnExactIsGhost', WHERE WHAT IT READS IS OF BULK AT MOST 1048576: true; the input reads as it did. -/
def fnExactIsGhostUptoRow : OpenClaim := { program := "ytcdajogdpgjgjaa", sum := "c28671308336f03935036b61251ee015fbf19fb658c6a08e33676ac8ad792c2e", func := "loop.example/g00947/laws.FnExactIsGhost", spec := "fnExactIsGhost", unfollowed := true, recurses := true, apart := false, narrowed := true }
def FnExactIsGhostUptoSaid : Prop := fnExactIsGhostUptoRow.holds Try.pinned (OpenSpec.upto fnExactIsGhostSpec)

/-- 'laws.FnExactSwapKeys', WHERE WHAT IT READS IS OF BULK AT MOST 1048576: true; the input reads as it did. -/
def fnExactSwapKeysUptoRow : OpenClaim := { program := "ytcdajogdpgjgjaa", sum := "c28671308336f03935036b61251ee015fbf19fb658c6a08e33676ac8ad792c2e", func := "loop.example/g00947/laws.FnExactSwapKeys", spec := "fnExactSwapKeys", unfollowed := true, recurses := true, apart := false, narrowed := true }
def FnExactSwapKeysUptoSaid : Prop := fnExactSwapKeysUptoRow.holds Try.pinned (OpenSpec.upto fnExactSwapKeysSpec)

/-- 'laws.FnExactMirrorCuts', WHERE WHAT IT READS IS OF BULK AT MOST 1048576: true; the input reads as it did. -/
def fnExactMirrorCutsUptoRow : OpenClaim := { program := "ytcdajogdpgjgjaa", sum := "c28671308336f03935036b61251ee015fbf19fb658c6a08e33676ac8ad792c2e", func := "loop.example/g00947/laws.FnExactMirrorCuts", spec := "fnExactMirrorCuts", unfollowed := true, recurses := true, apart := false, narrowed := true }
def FnExactMirrorCutsUptoSaid : Prop := fnExactMirrorCutsUptoRow.holds Try.pinned (OpenSpec.upto fnExactMirrorCutsSpec)

/-- 'laws.FnExactGhostBound', WHERE WHAT IT READS IS OF BULK AT MOST 1048576: true; the input reads as it did. -/
def fnExactGhostBoundUptoRow : OpenClaim := { program := "ytcdajogdpgjgjaa", sum := "c28671308336f03935036b61251ee015fbf19fb658c6a08e33676ac8ad792c2e", func := "loop.example/g00947/laws.FnExactGhostBound", spec := "fnExactGhostBound", unfollowed := true, recurses := true, apart := false, narrowed := true }
def FnExactGhostBoundUptoSaid : Prop := fnExactGhostBoundUptoRow.holds Try.pinned (OpenSpec.upto fnExactGhostBoundSpec)

/-- 'laws.FnExactCountGhosts', WHERE WHAT IT READS IS OF BULK AT MOST 1048576: true; the input reads as it did. -/
def fnExactCountGhostsUptoRow : OpenClaim := { program := "ytcdajogdpgjgjaa", sum := "c28671308336f03935036b61251ee015fbf19fb658c6a08e33676ac8ad792c2e", func := "loop.example/g00947/laws.FnExactCountGhosts", spec := "fnExactCountGhosts", unfollowed := true, recurses := true, apart := false, narrowed := true }
def FnExactCountGhostsUptoSaid : Prop := fnExactCountGhostsUptoRow.holds Try.pinned (OpenSpec.upto fnExactCountGhostsSpec)

/-- 'laws.FnExactHarmlessDepths', WHERE WHAT IT READS IS OF BULK AT MOST 1048576: true; the input reads as it did. -/
def fnExactHarmlessDepthsUptoRow : OpenClaim := { program := "ytcdajogdpgjgjaa", sum := "c28671308336f03935036b61251ee015fbf19fb658c6a08e33676ac8ad792c2e", func := "loop.example/g00947/laws.FnExactHarmlessDepths", spec := "fnExactHarmlessDepths", unfollowed := true, recurses := true, apart := false, narrowed := true }
def FnExactHarmlessDepthsUptoSaid : Prop := fnExactHarmlessDepthsUptoRow.holds Try.pinned (OpenSpec.upto fnExactHarmlessDepthsSpec)

/-- 'laws.FnExactGhostsOf', WHERE WHAT IT READS IS OF BULK AT MOST 1048576: true; the input reads as it did. -/
def fnExactGhostsOfUptoRow : OpenClaim := { program := "ytcdajogdpgjgjaa", sum := "c28671308336f03935036b61251ee015fbf19fb658c6a08e33676ac8ad792c2e", func := "loop.example/g00947/laws.FnExactGhostsOf", spec := "fnExactGhostsOf", unfollowed := true, recurses := true, apart := false, narrowed := true }
def FnExactGhostsOfUptoSaid : Prop := fnExactGhostsOfUptoRow.holds Try.pinned (OpenSpec.upto fnExactGhostsOfSpec)

/-- 'laws.FnExactNearestGhost', WHERE WHAT IT READS IS OF BULK AT MOST 1048576: true; the input reads as it did. -/
def fnExactNearestGhostUptoRow : OpenClaim := { program := "ytcdajogdpgjgjaa", sum := "c28671308336f03935036b61251ee015fbf19fb658c6a08e33676ac8ad792c2e", func := "loop.example/g00947/laws.FnExactNearestGhost", spec := "fnExactNearestGhost", unfollowed := true, recurses := true, apart := false, narrowed := true }
def FnExactNearestGhostUptoSaid : Prop := fnExactNearestGhostUptoRow.holds Try.pinned (OpenSpec.upto fnExactNearestGhostSpec)

end Rows
end Go.Proofs.Ytcdajogdpgjgjaa
