/- Contracts of LevelSizes, LeastLevels. -/
import Derived.Test.YtdedajohkdbdkaaGreatFTable
namespace Go.Proofs.YtdedajohkdbdkaaGreat
set_option linter.unusedVariables false
open Go.RowKit
def sizesF (m : Mk) (ls : List Int) : List Int := ls.map fun x => powW (m.d - 1) x.toNat
def levelSizes (m : Mk) (ls : List Int) : List Int × Int := if isMaker m then (if areLevels m ls then (sizesF m ls, 0) else ([], 2)) else ([], 1)
theorem sizesF_succ (m : Mk) (ls : List Int) (k : Nat) (h : k < ls.length) : ints (sizesF m (ls.take (k + 1))) = ints (sizesF m (ls.take k)) ++ [.int .i64 (powW (m.d - 1) ls[k].toNat)] := by
  rw [List.take_succ_eq_append_getElem h]; simp only [sizesF, ints, List.map_append, List.map_cons, List.map_nil]
theorem sizesF_len (m : Mk) (ls : List Int) : (ints (sizesF m ls)).length = ls.length := by simp [ints, sizesF]
theorem allW_get {lo hi : Int} {xs : List Int} (h : allW lo hi xs = true) {k : Nat} (hk : k < xs.length) : lo ≤ xs[k] ∧ xs[k] ≤ hi := by
  unfold allW at h; rw [List.all_eq_true] at h; exact inB_iff.1 (h _ (List.getElem_mem hk))
theorem areLevels_get {m : Mk} {ls : List Int} (h : areLevels m ls = true) : 1 ≤ ls.length ∧ ls.length ≤ 4 ∧ ∀ k (hk : k < ls.length), 1 ≤ ls[k] ∧ ls[k] ≤ m.c := by
  simp only [areLevels, Bool.and_eq_true, decide_eq_true_eq] at h
  exact ⟨h.1, h.2.1, fun k hk => allW_get h.2.2.1 hk⟩
end Go.Proofs.YtdedajohkdbdkaaGreat
