/- Plain laws of FnLeastLevels: the least levels have enough numbers; no more keys below a path than it has paths. No program. -/
import Derived.Test.YtdkkkkfcpgkcnaaFLeast
import Derived.Test.YtdkkkkfcpgkcnaaFCountAt
import Derived.Test.YtdkkkkfcpgkcnaaPTab
namespace Go.Proofs.Ytdkkkkfcpgkcnaa
set_option linter.unusedVariables false
theorem sumAt_le {m : Mk} {ms ls ps : List Int} {M : Nat} (h : ∀ k : Nat, (keysAt m ms ls (ps ++ [(k : Int)])).length ≤ M) : ∀ n : Nat, sumAt m ms ls ps n ≤ n * M
  | 0 => by simp [sumAt]
  | n + 1 => by
    have := sumAt_le h n
    have := h n
    rw [Nat.succ_mul]
    unfold sumAt
    omega
theorem keysAt_few {m : Mk} {ms ls : List Int} (h : LvOK m ms ls) {B : Nat} (hB : (B : Int) = m.d - 1) : ∀ (r : Nat) (ps : List Int), ps.length + r = ls.length → (keysAt m ms ls ps).length ≤ B ^ (restSum ls - restSum (ls.take ps.length))
  | 0, ps, hr => by
    rw [keysAt_end h (by omega)]
    have : 1 ≤ B ^ (restSum ls - restSum (ls.take ps.length)) := Nat.one_le_pow _ _ (by have := h.d2; omega)
    split <;> omega
  | r + 1, ps, hr => by
    have hp : ps.length < ls.length := by omega
    have hn : ((B ^ ls[ps.length].toNat : Nat) : Int) = (m.d - 1) ^ ls[ps.length].toNat := by rw [Int.natCast_pow, hB]
    rw [← sumAt_all h hp hn]
    have hs := restSum_take_add ls ps.length hp
    have hle := restSum_le ls (ps.length + 1)
    have hM : ∀ k : Nat, (keysAt m ms ls (ps ++ [(k : Int)])).length ≤ B ^ (restSum ls - restSum (ls.take (ps.length + 1))) := fun k => by
      have := keysAt_few h hB r (ps ++ [(k : Int)]) (by simp; omega)
      rw [show (ps ++ [(k : Int)]).length = ps.length + 1 by simp] at this
      exact this
    refine Nat.le_trans (sumAt_le hM _) ?_
    rw [← Nat.pow_add]
    refine Nat.le_of_eq ?_
    congr 1
    omega
/-- the product of the levels' sizes from level p on, up to level k -/
def mostTo (m : Mk) (ls : List Int) (p k : Nat) : Int := (m.d - 1) ^ (restSum (ls.take k) - restSum (ls.take p))
theorem mostTo_0 (m : Mk) (ls : List Int) (p : Nat) : mostTo m ls p p = 1 := by simp [mostTo]
theorem restSum_mono {ls : List Int} {p k : Nat} (h : p ≤ k) : restSum (ls.take p) ≤ restSum (ls.take k) := by
  have := restSum_le (ls.take k) p
  rwa [List.take_take, Nat.min_eq_left h] at this
theorem mostTo_succ {m : Mk} {ls : List Int} {p k : Nat} (h : p ≤ k) (hk : k < ls.length) : mostTo m ls p (k + 1) = mostTo m ls p k * (m.d - 1) ^ ls[k].toNat := by
  unfold mostTo
  rw [restSum_take_add ls k hk, ← Int.pow_add]
  congr 1
  have := restSum_mono (ls := ls) h
  omega
theorem levels_ok {m : Mk} {ls : List Int} (hm : isMaker m = true) (hl : areLevels m ls = true) : levelSizes m ls = (sizesF m ls, 0) := by unfold levelSizes; rw [if_pos hm, if_pos hl]
theorem mostTo_in {m : Mk} {ls : List Int} (hm : isMaker m = true) (hl : areLevels m ls = true) (p k : Nat) : 1 ≤ mostTo m ls p k ∧ mostTo m ls p k ≤ 117649 := by
  have hb := mk_bounds hm
  have hr := levels_rest hm hl
  have := restSum_le ls k
  exact pow_few (by have := hb.2.2.1; omega) (by have := hb.2.2.2.1; omega) (by have := hb.2.1; omega)
theorem size_at {m : Mk} {ls : List Int} (hm : isMaker m = true) (hl : areLevels m ls = true) {k : Nat} (hk : k < ls.length) : (sizesF m ls)[k]'(by simp [sizesF]; exact hk) = (m.d - 1) ^ ls[k].toNat := by
  rw [sizesF_at m ls hk]
  have hb := mk_bounds hm
  have hr := levels_rest hm hl
  have h1 := restSum_le ls (k + 1)
  rw [restSum_take_add ls k hk] at h1
  exact powW_pow (by have := hb.2.2.1; omega) (by have := hb.2.2.2.1; omega) (by have := hb.2.1; omega)
/-- the law of counts -/
theorem count_law {m : Mk} {ms ls ps : List Int} (h : (countAtR m ms ls ps).2 = 0) : isMaker m = true ∧ areLevels m ls = true ∧ ps.length ≤ ls.length ∧ 0 ≤ (countAtR m ms ls ps).1 ∧ (countAtR m ms ls ps).1 ≤ mostTo m ls ps.length ls.length := by
  unfold countAtR at *
  by_cases hc : levelsCode m ms ls ps = 0
  · rw [if_pos hc]
    obtain ⟨hm, hk, hl, hp⟩ := lc_0_iff.1 hc
    have hpl := isPath_le hp
    have hL := lvOK_of hm hk hl
    refine ⟨hm, hl, hpl, by unfold cntKA; omega, ?_⟩
    have hB : (((m.d - 1).toNat : Nat) : Int) = m.d - 1 := by have := hL.d2; omega
    have := keysAt_few hL hB (ls.length - ps.length) ps (by omega)
    unfold cntKA mostTo
    rw [List.take_length, ← hB, ← Int.natCast_pow]
    omega
  · rw [if_neg hc] at h; exact absurd h hc
/-- what leastGo gives -/
theorem leastGo_law {b : Int} : ∀ (ns : List Int) (left : Int) (l : List Int), leastGo b ns left = some l → l.length = ns.length ∧ (∀ k (h1 : k < l.length) (h2 : k < ns.length), 1 ≤ l[k] ∧ l[k] ≤ left ∧ ns[k] ≤ powW b l[k].toNat) ∧ (ns ≠ [] → l.sum = left) ∧ (∀ x ∈ l, 1 ≤ x)
  | [], left, l, h => by
    simp only [leastGo] at h
    injection h with h; subst h
    exact ⟨rfl, fun k h1 => by simp at h1, fun h => absurd rfl h, by simp⟩
  | need :: rest, left, l, h => by
    rw [leastGo] at h
    obtain ⟨c, hc⟩ : ∃ c, c = if rest = [] then left else climbR b left need 1 := ⟨_, rfl⟩
    rw [← hc] at h
    by_cases hn : left < 1 ∨ powW b c.toNat < need
    · rw [if_pos hn] at h; cases h
    · rw [if_neg hn] at h
      cases hg : leastGo b rest (left - c) with
      | none => rw [hg] at h; cases h
      | some l' =>
        rw [hg] at h
        simp only [Option.map_some] at h
        injection h with h; subst h
        have hleft : 1 ≤ left := by omega
        have hc1 : 1 ≤ c ∧ c ≤ left := by
          rw [hc]
          split
          · omega
          · have := climbR_le (b := b) (left := left) (need := need) (c := 1); omega
        obtain ⟨i1, i2, i3, i4⟩ := leastGo_law rest (left - c) l' hg
        refine ⟨by simp [i1], fun k h1 h2 => ?_, fun _ => ?_, fun x hx => ?_⟩
        · cases k with
          | zero => simp only [List.getElem_cons_zero]; omega
          | succ k =>
            simp only [List.getElem_cons_succ]
            have := i2 k (by simpa using h1) (by simpa using h2)
            omega
        · by_cases hr : rest = []
          · subst hr
            have : l' = [] := List.length_eq_zero_iff.1 (by rw [i1]; rfl)
            subst this
            rw [if_pos rfl] at hc
            simp [hc]
          · have := i3 hr
            rw [List.sum_cons, this]; omega
        · rcases List.mem_cons.1 hx with rfl | hx
          · exact hc1.1
          · exact i4 x hx
/-- the law of least levels -/
theorem least_law {m : Mk} {ns : List Int} (h : (leastLevels m ns).2 = 0) : isMaker m = true ∧ areLevels m (leastLevels m ns).1 = true ∧ (leastLevels m ns).1.length = ns.length ∧ ∀ k (h1 : k < ns.length), ns[k] ≤ (sizesF m (leastLevels m ns).1).getD k 0 := by
  unfold leastLevels at *
  split at h
  · rename_i hm
    rw [if_pos hm]
    split at h
    · rename_i hn
      rw [if_pos hn]
      cases hg : leastGo (m.d - 1) ns m.c with
      | none => rw [hg] at h; simp at h
      | some l =>
        obtain ⟨i1, i2, i3, i4⟩ := leastGo_law ns m.c l hg
        have hb := mk_bounds hm
        have hc6 : m.c ≤ 6 := hb.2.1
        simp only
        have hle : ∀ k (h1 : k < l.length), 1 ≤ l[k] ∧ l[k] ≤ m.c := fun k h1 => ⟨(i2 k h1 (by omega)).1, (i2 k h1 (by omega)).2.1⟩
        have hw : allW 1 m.c l = true := by
          unfold allW; rw [List.all_eq_true]; intro x hx
          obtain ⟨k, hk, rfl⟩ := List.getElem_of_mem hx
          exact inB_iff.2 (hle k hk)
        have hs : sumI l = m.c := by
          have h0 : allW 0 6 l = true := by
            unfold allW; rw [List.all_eq_true]; intro x hx
            obtain ⟨k, hk, rfl⟩ := List.getElem_of_mem hx
            have := hle k hk
            exact inB_iff.2 (by omega)
          rw [sumI_eq (M := 6) (by omega) h0 (by omega)]
          exact i3 (by rintro rfl; simp at hn)
        refine ⟨hm, ?_, i1, fun k h1 => ?_⟩
        · unfold areLevels
          rw [hs, hw]
          simp; omega
        · have hk : k < l.length := by omega
          have e : (sizesF m l).getD k 0 = powW (m.d - 1) l[k].toNat := by
            rw [← sizesF_at m l hk]
            simp [List.getD, sizesF, hk]
          rw [e]
          exact (i2 k hk h1).2.2
    · simp at h
  · simp at h
end Go.Proofs.Ytdkkkkfcpgkcnaa
