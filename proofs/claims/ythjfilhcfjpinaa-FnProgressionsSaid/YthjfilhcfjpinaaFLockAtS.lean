/- Contracts of l12Lock and of the reference's LockAt. -/
import Derived.Test.YthjfilhcfjpinaaFLockAt
namespace Go.Proofs.Ythjfilhcfjpinaa
set_option linter.unusedVariables false
open Go.RowKit
theorem colI_two (xs ys : List Int) (k : Nat) (h1 : k < xs.length) (h2 : k < ys.length) : colI [xs, ys] k = [xs[k], ys[k]] := by
  unfold colI
  simp [List.getD, List.getElem?_eq_getElem h1, List.getElem?_eq_getElem h2]
/-- One more row of the call's own, made of literal numbers. -/
theorem rows_push {N0 : Nat} {wr w' : World} {v0 v' : Value} {us : List Value} {xss : List (List Int)} {ys : List Int} {n : Nat} (hn : n = ys.length) (hn2 : n ≤ 1000) (h2 : N0 ≤ wr.heap.size)
    (h1 : us.length = xss.length) (k2 : OR wr N0 wr.heap.size 38 v0 us) (k3 : ∀ j (hj : j < xss.length), ∃ u, us[j]? = some u ∧ OR wr N0 wr.heap.size 2 u (ints xss[j]))
    (k4 : ∀ (i j : Nat) (u u' : Value), i ≠ j → us[i]? = some u → us[j]? = some u' → ∀ g, u.ownBlock = some g → u'.ownBlock ≠ some g)
    (ho : OV w' N0 38 v' (us ++ [.slice (some ⟨wr.heap.size, 0, none⟩) n n]))
    (hg : ((wr.alloc (.cells (ints ys).toArray 2)).alloc (.cells #[.slice (some ⟨wr.heap.size, 0, none⟩) n n] 38)).grownBy w' v0.ownBlock) :
    OII w' N0 w'.heap.size v' (xss ++ [ys]) ∧ ∀ a, Below N0 a wr → Below N0 a w' := by
  subst hn
  have b1 := (Below.refl wr.heap.size wr).alloc (Nat.le_refl _) (.cells (ints ys).toArray 2)
  have b2 := b1.alloc (by simp only [World.size_alloc]; omega) (.cells #[.slice (some ⟨wr.heap.size, 0, none⟩) ys.length ys.length] 38)
  have hu : OV (wr.alloc (.cells (ints ys).toArray 2)) wr.heap.size 2 (.slice (some ⟨wr.heap.size, 0, none⟩) ys.length ys.length) (ints ys) := by
    have := OV.new (w := wr) (B := wr.heap.size) (e := 2) (ints ys).toArray (Nat.le_refl _) (by simp [maxLen, ints_length]; omega)
    simpa [ints_length] using this
  exact ⟨OII.push1 (w := wr.alloc (.cells (ints ys).toArray 2)) (C := wr.heap.size) (ys := ys) h1 (k2.below b1) (fun j hj => by obtain ⟨u, a, b⟩ := k3 j hj; exact ⟨u, a, b.below b1⟩) k4 hu h2 (by simp) ho hg,
    fun a ha => ha.trans (belowG (b2.mono h2) hg (by simp only [World.size_alloc]; omega) (fun g hg1 => (k2.1.lt g hg1).1))⟩
end Go.Proofs.Ythjfilhcfjpinaa
