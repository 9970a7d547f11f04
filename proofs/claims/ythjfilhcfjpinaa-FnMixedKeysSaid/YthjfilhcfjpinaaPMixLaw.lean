/- Plain laws: mixed keys are at most as many as combinations; the best chambers. No program. -/
import Derived.Test.YthjfilhcfjpinaaPProgLaw
import Derived.Test.YthjfilhcfjpinaaFMixed
import Derived.Test.YthjfilhcfjpinaaFBest
import Derived.Test.YthjfilhcfjpinaaFFit
import Derived.Test.YthjfilhcfjpinaaPLaw14
namespace Go.Proofs.Ythjfilhcfjpinaa
set_option linter.unusedVariables false
open Go.RowKit
theorem nodup_le {α : Type} [BEq α] [LawfulBEq α] {xs ys : List α} (hx : xs.Nodup) (hy : ys.Nodup) (h : ∀ z ∈ xs, z ∈ ys) : xs.length ≤ ys.length := by
  have : xs.Perm (ys.filter (xs.contains ·)) := (List.perm_ext_iff_of_nodup hx (hy.filter _)).2 fun z => by
    rw [List.mem_filter, List.contains_iff_mem]; exact ⟨fun hz => ⟨h z hz, hz⟩, fun hz => hz.2⟩
  rw [this.length_eq]; exact List.length_filter_le _ _
theorem inc_nodup {hi : Int} : ∀ {xs : List Int} {lo : Int}, Inc lo hi xs → xs.Nodup
  | [], _, _ => List.nodup_nil
  | x :: r, lo, h => by
    rw [List.nodup_cons]
    exact ⟨fun hx => by have := inc_lo h.2.2 x hx; omega, inc_nodup h.2.2⟩
theorem inc_pair {hi : Int} : ∀ {xs : List Int} {lo : Int}, Inc lo hi xs → xs.Pairwise (· < ·)
  | [], _, _ => List.Pairwise.nil
  | x :: r, lo, h => by
    rw [List.pairwise_cons]
    exact ⟨fun y hy => by have := inc_lo h.2.2 y hy; omega, inc_pair h.2.2⟩
theorem inc_rising {n : Int} {xs : List Int} (h : Inc 0 n xs) : isRising n xs = true := by
  unfold isRising
  rw [List.all_eq_true]
  intro j hj
  have hj := List.mem_range.1 hj
  have h1 := inc_lo h _ (List.getElem_mem hj)
  match j, hj with
  | 0, hj => rw [risesAt_0 hj]; simp; omega
  | j + 1, hj =>
    rw [risesAt_s hj]
    have := List.pairwise_iff_getElem.1 (inc_pair h) j (j + 1) (by omega) hj (by omega)
    simp; omega
/-- as many of the first r chambers as change -/
def cntY (ys : List Int) (r : Nat) : Nat := ((List.range r).filter fun (i : Nat) => hasI ys (i : Int)).length
theorem cntY_succ (ys : List Int) (r : Nat) : cntY ys (r + 1) = cntY ys r + if hasI ys (r : Int) = true then 1 else 0 := by
  unfold cntY
  rw [List.range_succ, List.filter_append, List.length_append]
  congr 1
  by_cases h : hasI ys (r : Int) = true
  · simp [h]
  · simp [h]
theorem cntY_le {ys : List Int} (hy : ys.Nodup) (r : Nat) : cntY ys r ≤ ys.length := by
  have h1 : (((List.range r).filter fun (i : Nat) => hasI ys (i : Int)).map fun i : Nat => (i : Int)).length ≤ ys.length := by
    refine nodup_le ?_ hy fun z hz => ?_
    · exact List.pairwise_map.2 ((List.Pairwise.filter _ List.nodup_range).imp fun {a b} h e => h (by omega))
    · obtain ⟨i, hi, rfl⟩ := List.mem_map.1 hz
      exact hasI_iff.1 (List.mem_filter.1 hi).2
  rwa [List.length_map] at h1
theorem hull_two_len {m : Mk} {xs ys key : List Int} {s : Int} (hx : isKey m xs = true) (hk : isKey m key = true) (hc : isChange xs ys s key = true) {i : Nat} (hi : i < m.c.toNat) :
    ((hullF m.c.toNat m.d.toNat [xs, key]).getD i []).length ≤ if hasI ys (i : Int) = true then 2 else 1 := by
  rw [getD_row (by rw [hullF_length]; exact hi), hullF_at hi]
  have lx := isKey_len hx; have lk := isKey_len hk
  have k1 := key_at' hx (i := i) (by omega)
  have k2 := key_at' hk (i := i) (by omega)
  have e : colI [xs, key] i = [xs.getD i 0, key.getD i 0] := rfl
  rw [e, hullSet_two ⟨k1.1, by omega⟩ ⟨k2.1, by omega⟩]
  unfold isChange changeAt at hc
  rw [List.all_eq_true] at hc
  have f := hc i (List.mem_range.2 (by omega))
  unfold fits at f
  by_cases hy : hasI ys (i : Int) = true
  · rw [if_pos hy]
    split
    · simp
    · split <;> simp
  · rw [if_neg hy, beq_iff_eq] at f
    rw [if_neg hy, if_neg (by omega), if_neg (by omega)]; simp
theorem hull_prod {m : Mk} {xs ys key : List Int} {s : Int} (hx : isKey m xs = true) (hk : isKey m key = true) (hc : isChange xs ys s key = true) : ∀ r, r ≤ m.c.toNat → prodL (hullF m.c.toNat m.d.toNat [xs, key]) 0 r ≤ 2 ^ cntY ys r
  | 0, _ => by simp only [prodL]; exact Nat.one_le_two_pow
  | r + 1, h => by
    rw [prodL_snoc, Nat.zero_add, cntY_succ]
    have h1 := hull_prod hx hk hc r (by omega)
    have h2 := hull_two_len hx hk hc (i := r) (by omega)
    refine Nat.le_trans (Nat.mul_le_mul h1 h2) ?_
    split
    · rw [Nat.pow_succ]; exact Nat.le_refl _
    · simp
/-- between a master and a change key there are at most as many keys as combinations -/
theorem mixed_law {m : Mk} {xs ys key : List Int} {s : Int} (h : changeC m xs ys s key = 0) :
    ys.length ≤ 6 ∧ 0 ≤ ((openers m (hullF m.c.toNat m.d.toNat [xs, key])).length : Int) - 2 ∧ ((openers m (hullF m.c.toNat m.d.toNat [xs, key])).length : Int) - 2 ≤ ((2 ^ ys.length : Nat) : Int) - 2 := by
  have hcx : isProgF m xs ys s = true ∧ (isKey m key && isChange xs ys s key) = true := by
    unfold changeC at h
    by_cases h1 : isProgF m xs ys s = true
    · rw [if_pos h1] at h
      by_cases h2 : (isKey m key && isChange xs ys s key) = true
      · exact ⟨h1, h2⟩
      · rw [if_neg h2] at h; cases h
    · rw [if_neg h1] at h; cases h
  obtain ⟨hp, hkc⟩ := hcx
  rw [Bool.and_eq_true] at hkc
  obtain ⟨hm, hpr, hx⟩ := prog_key hp
  obtain ⟨_, hy0, hyr, hs1, hs2⟩ := isProg_iff.1 hpr
  have hb := mk_bounds hm
  have hinc := isRising_inc hyr
  have hy6 : ys.length ≤ 6 := by
    rcases inc_few hinc with h | h
    · omega
    · subst h; simp
  refine ⟨hy6, ?_, ?_⟩
  · have hne : xs ≠ key := by
      intro e
      subst e
      have hc := hkc.2
      unfold isChange changeAt at hc
      rw [List.all_eq_true] at hc
      have hy := inc_lo hinc ys[0] (List.getElem_mem hy0)
      have lx := isKey_len hx
      have f := hc ys[0].toNat (List.mem_range.2 (by omega))
      unfold fits at f
      rw [if_pos (by rw [hasI_iff, show ((ys[0].toNat : Nat) : Int) = ys[0] by omega]; exact List.getElem_mem hy0)] at f
      simp at f
    have h2 : [xs, key].length ≤ (openers m (hullF m.c.toNat m.d.toNat [xs, key])).length := by
      refine nodup_sub_len (by simpa using hne) (nodup_openers _ _) fun z hz => ?_
      rw [mem_openers (by omega)]
      simp at hz
      rcases hz with rfl | rfl
      · exact ⟨hx, hull_two_fst hx hkc.1⟩
      · exact ⟨hkc.1, hull_two_snd hx hkc.1⟩
    simp at h2; omega
  · have hlk := hull_lock hm (two_cuts hx hkc.1) (by simp)
    have h1 := keysG_prod m _ (lock_inc hlk) m.c.toNat []
    have h2 := hull_prod hx hkc.1 hkc.2 m.c.toNat (Nat.le_refl _)
    have h3 : 2 ^ cntY ys m.c.toNat ≤ 2 ^ ys.length := Nat.pow_le_pow_right (by decide) (cntY_le (inc_nodup hinc) _)
    have h4 : (openers m (hullF m.c.toNat m.d.toNat [xs, key])).length ≤ 2 ^ ys.length := Nat.le_trans h1 (Nat.le_trans h2 h3)
    omega
/-- the best chambers give as many change keys as told -/
theorem best_law {m : Mk} {ms : List Int} {n s : Int} (h : (bestChR m ms n s).2.2 = 0) : cChangesR m ms (bestChR m ms n s).1 s = ((bestChR m ms n s).2.1, 0) ∧ ((bestChR m ms n s).1.length : Int) = n := by
  unfold bestChR at h ⊢
  by_cases h1 : (isMaker m && isKey m ms) = true
  · rw [if_pos h1] at h ⊢
    by_cases h2 : (inB n 1 m.c && inB s 1 2) = true
    · rw [if_pos h2]
      rw [Bool.and_eq_true] at h1 h2
      have hb := mk_bounds h1.1
      have hn : 1 ≤ n ∧ n ≤ m.c := by simpa [inB] using h2.1
      have hs : 1 ≤ s ∧ s ≤ 2 := by simpa [inB] using h2.2
      have hne := choices_ne (k := n.toNat) (n := m.c.toNat) (by omega)
      have hbo := bestC_fold (cnt := cntCh m ms s) (fun y => by unfold cntCh; omega) (choices_sorted n.toNat m.c.toNat) [] (choices n.toNat m.c.toNat).length (Nat.le_refl _)
      rw [List.take_length] at hbo
      rcases hbo with ⟨e, _⟩ | ⟨e1, e2, _⟩
      · exact absurd e hne
      · have e1 : (bestSt m ms n s).1 ∈ choices n.toNat m.c.toNat := e1
        have e2 : (bestSt m ms n s).2 = cntCh m ms s (bestSt m ms n s).1 := e2
        have hch := (mem_choices _ _ _).1 e1
        have hlen : ((bestSt m ms n s).1.length : Int) = n := by omega
        refine ⟨?_, hlen⟩
        show cChangesR m ms (bestSt m ms n s).1 s = ((bestSt m ms n s).2, 0)
        have hp : isProgF m ms (bestSt m ms n s).1 s = true := by
          unfold isProgF
          rw [h1.1, Bool.true_and, isProg_iff]
          refine ⟨h1.2, by omega, ?_, hs⟩
          have := inc_rising hch.2
          rwa [show ((m.c.toNat : Nat) : Int) = m.c by omega] at this
        unfold cChangesR
        rw [if_pos hp, e2]; rfl
    · rw [if_neg h2] at h; cases h
  · rw [if_neg h1] at h; cases h
end Go.Proofs.Ythjfilhcfjpinaa
