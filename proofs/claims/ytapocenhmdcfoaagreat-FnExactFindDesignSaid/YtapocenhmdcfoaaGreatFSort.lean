/- The library's Sort and Compact of a row of the call's own. -/
import Derived.Test.YtapocenhmdcfoaaGreatMem3
import Derived.Test.YtapocenhmdcfoaaGreatPHull
import Derived.Test.YtapocenhmdcfoaaGreatLaySort
import Derived.Shelf.SortG.AssemblyIn
import Derived.Shelf.SlicesG.CompactI
import Derived.Sort.EveryDepth
import Derived.Sort.OwnSortedInts
namespace Go.Proofs.YtapocenhmdcfoaaGreat
set_option linter.unusedVariables false
open Go.RowKit Go.Sort Go.Shelf
def sortI (xs : List Int) : List Int := xs.mergeSort fun x y => decide (x ≤ y)
theorem sortI_length (xs : List Int) : (sortI xs).length = xs.length := by simp [sortI]
theorem compact_length_le (xs : List Int) : (Lib.compact xs).length ≤ xs.length := by
  unfold Lib.compact Lib.compactUpTo
  rw [List.length_map]
  have := List.length_filter_le (Lib.keeps xs.toArray) (List.range xs.length)
  simpa using this
theorem sSort_any (v : Value) (xs : List Int) (B : Nat) (w : World) (ho : OV w B 2 v (ints xs)) (hn : ¬ v = .slice none 0 0) (hl : xs.length ≤ 1073741824) :
    Calls Tryz.prog 84 #[v] w fun e w' => e = .returned (.tuple #[]) ∧ OV w' B 2 v (ints (sortI xs)) ∧ w.grownBy w' v.ownBlock := by
  have ho2 := ho.2
  rw [ints_length] at ho2
  rcases ho2 with ⟨h, _⟩ | ⟨g, cap, cur, rfl, hB, hh, hnc, hm, hs, ht⟩
  · exact absurd h hn
  · have hg : g < w.heap.size := (Array.getElem?_eq_some_iff.1 hh).1
    have hH := holds_of_blockI (ss := xs) hh (by simpa [ints] using ht)
    have hc : Calls Tryz.prog 84 _ w _ := calls_of_every_depth fun D => AnySG.slices_Sort_int_in laySort D g 0 cap xs w hH hg (by omega)
    refine hc.mono ?_
    rintro e w' ⟨rfl, n, os, rfl⟩
    refine ⟨rfl, ?_, grownBy_sortedI _⟩
    have h1 := ownsRow_sortedI (n := n) (os := os) (ts := sortI xs) (sortI_length xs) hB hh hnc hm hs
    unfold OV
    rw [ints_length, sortI_length]
    exact h1
theorem sCompact_any (v : Value) (xs : List Int) (B : Nat) (w : World) (ho : OV w B 2 v (ints xs)) (hn : ¬ v = .slice none 0 0) (hl : xs.length ≤ 1073741824) :
    Calls Tryz.prog 85 #[v] w fun e w' => ∃ g cap, e = .returned (.slice (some ⟨g, 0, none⟩) (Lib.compact xs).length cap) ∧ v.ownBlock = some g ∧ OV w' B 2 (.slice (some ⟨g, 0, none⟩) (Lib.compact xs).length cap) (ints (Lib.compact xs)) ∧ w.grownBy w' v.ownBlock := by
  have ho2 := ho.2
  rw [ints_length] at ho2
  rcases ho2 with ⟨h, _⟩ | ⟨g, cap, cur, rfl, hB, hh, hnc, hm, hs, ht⟩
  · exact absurd h hn
  · have hg : g < w.heap.size := (Array.getElem?_eq_some_iff.1 hh).1
    have hH := holds_of_blockI (ss := xs) hh (by simpa [ints] using ht)
    have hc : Calls Tryz.prog 85 _ w _ := AnyG.slices_Compact_int layCompact g 0 cap xs w hH (by omega) hnc
    refine hc.mono ?_
    rintro e w' ⟨rfl, q, rfl⟩
    have hle := compact_length_le xs
    obtain ⟨ts, hts⟩ : ∃ ts, ts = Lib.compact xs ++ List.replicate (xs.length - (Lib.compact xs).length) 0 := ⟨_, rfl⟩
    have htl : ts.length = xs.length := by rw [hts]; simp; omega
    rw [← hts]
    have e0 : putRow (Value.int .i64) (Sort.ahead w q) g 0 ts.toArray = grow (putRow (Value.int .i64) (Sort.ahead w q) g 0 ts.toArray) #[] := by
      obtain ⟨W, hW⟩ : ∃ W, W = putRow (Value.int .i64) (Sort.ahead w q) g 0 ts.toArray := ⟨_, rfl⟩
      rw [← hW]; cases W; simp [grow]
    rw [e0]
    refine ⟨g, cap, rfl, rfl, ?_, grownBy_sortedI _⟩
    have h1 := ownsRow_sortedI (n := q) (os := #[]) (ts := ts) htl hB hh hnc hm hs
    rcases h1.2 with ⟨h', _⟩ | ⟨g', cap', cur', he, hB', hh', hnc', hm', hs', ht'⟩
    · cases h'
    · injection he with e1 e2 e3
      injection e1 with e1
      injection e1 with e1
      subst e1 e3
      refine ⟨by simp, .inr ⟨g, cap, cur', by rw [ints_length], hB, hh', by rw [ints_length]; omega, hm, hs', ?_⟩⟩
      rw [ints_length, Nat.mul_one]
      have := congrArg (List.take (Lib.compact xs).length) ht'
      rw [List.take_take, Nat.mul_one, Nat.min_eq_left hle] at this
      rw [this, hts]
      simp [ints]
end Go.Proofs.YtapocenhmdcfoaaGreat
