/- Contracts of ChangeKeys. -/
import Derived.Test.YtdedajohkdbdkaaGreatFChanges
import Derived.Test.YtdedajohkdbdkaaGreatFFirst
namespace Go.Proofs.YtdedajohkdbdkaaGreat
set_option linter.unusedVariables false
open Go.RowKit
def chKeysR (m : Mk) (xs ys : List Int) (s : Int) (most : Int) : List (List Int) × Int := if isProgF m xs ys s = true then (if inB most 0 300 = true then ((changeKeys m xs ys s).take most.toNat, 0) else ([], 2)) else ([], 1)
theorem chk_1 {m : Mk} {xs ys : List Int} {s most : Int} (h : isProgF m xs ys s = false) : ([], 1) = chKeysR m xs ys s most := by unfold chKeysR; rw [if_neg (by rw [h]; simp)]
theorem chk_2 {m : Mk} {xs ys : List Int} {s most : Int} (h : isProgF m xs ys s = true) (h2 : inB most 0 300 = false) : ([], 2) = chKeysR m xs ys s most := by unfold chKeysR; rw [if_pos h, if_neg (by rw [h2]; simp)]
theorem chk_0 {m : Mk} {xs ys : List Int} {s most : Int} (h : isProgF m xs ys s = true) (h2 : inB most 0 300 = true) : ((changeKeys m xs ys s).take most.toNat, 0) = chKeysR m xs ys s most := by unfold chKeysR; rw [if_pos h, if_pos h2]
/-- keys are few and short -/
theorem keys_lens (m : Mk) (hm : isMaker m = true) (al : Nat → Int → Bool) (n : Nat) (hn : n ≤ 300) : ((keysG m al [] m.c.toNat [] false).take n).length ≤ 4194304 ∧ sumLen ((keysG m al [] m.c.toNat [] false).take n) ≤ 1048576 := by
  have c6 : m.c ≤ 6 := (mk_bounds hm).2.1
  have h1 : ∀ x, x ∈ (keysG m al [] m.c.toNat [] false).take n → x.length ≤ 6 := fun x hx => by
    have := (keysG_pref m al [] _ _ _ x (List.mem_of_mem_take hx)).1; simp at this; omega
  have h2 : ((keysG m al [] m.c.toNat [] false).take n).length ≤ 300 := by rw [List.length_take]; omega
  have h3 : ∀ ls : List (List Int), (∀ x, x ∈ ls → x.length ≤ 6) → sumLen ls ≤ 6 * ls.length := by
    intro ls
    induction ls with
    | nil => intro _; simp [sumLen]
    | cons x r ih =>
      intro h
      have := ih (fun y hy => h y (by simp [hy])); have := h x (by simp)
      unfold sumLen at *; rw [List.map_cons, List.sum_cons, List.length_cons]; omega
  have := h3 _ h1
  omega
end Go.Proofs.YtdedajohkdbdkaaGreat
