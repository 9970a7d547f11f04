/- Plain laws: trimming, the nearest ghost. No program. -/
import Derived.Test.YtdedajohkdbdkaaGreatPLaw14
import Derived.Test.YtdedajohkdbdkaaGreatFTrim
import Derived.Test.YtdedajohkdbdkaaGreatFNearest
namespace Go.Proofs.YtdedajohkdbdkaaGreat
set_option linter.unusedVariables false
open Go.RowKit
/-- what opens the hull of keys that open a lock, opens the lock -/
theorem hull_opens {m : Mk} {l ks : List (List Int)} (hm : isMaker m = true) (hlen : (l.length : Int) = m.c) (hk : ∀ k ∈ ks, isKey m k = true ∧ opensL l k = true) {x : List Int} (hx : isKey m x = true) (ho : opensL (hullF m.c.toNat m.d.toNat ks) x = true) : opensL l x = true := by
  rw [opensL_iff] at ho ⊢
  intro i hi
  have h1 := ho i hi
  have hxl := isKey_len hx
  have hic : i < m.c.toNat := by omega
  unfold frees at h1
  rw [getD_row (by rw [hullF_length]; exact hic), hullF_at hic, hasI_iff, mem_hullSet] at h1
  obtain ⟨_, h2⟩ := h1
  unfold colI at h2
  obtain ⟨k, hkm, e⟩ := List.mem_map.1 h2
  have h3 := hk k hkm
  have h4 := opensL_iff.1 h3.2 i (by have := isKey_len h3.1; omega)
  rw [e] at h4
  exact h4
/-- trimming adds no ghosts -/
theorem trim_ghosts {m : Mk} {l al : List (List Int)} (h : (trimR m l al).2 = 0) : allowedC m l al [] = 0 ∧ allowedC m (trimR m l al).1 al [] = 0 ∧ (ghosts m (trimR m l al).1 al).length ≤ (ghosts m l al).length := by
  unfold trimR at h ⊢
  by_cases h1 : allowedC m l al [] = 0
  · rw [if_pos h1] at h ⊢
    by_cases h2 : (fitF l al).length = 0
    · rw [if_pos h2] at h; cases h
    · rw [if_neg h2]
      obtain ⟨hm, ha, _, hcu⟩ := allowed_trim h1
      obtain ⟨hl, hal, hks⟩ := allowedC_0 h1
      have hlk := hull_lock hm hcu (by omega)
      have hb := mk_bounds hm
      refine ⟨h1, ?_, ?_⟩
      · unfold allowedC
        rw [if_pos hlk, if_pos (by rw [hks]; simpa using hal)]
      · refine nodup_sub_len (nodup_ghosts _ _ _) (nodup_ghosts _ _ _) fun z hz => ?_
        unfold ghosts at hz ⊢
        rw [List.mem_filter, mem_openers (by omega)] at hz ⊢
        refine ⟨⟨hz.1.1, hull_opens hm (isLock_len hl) (fun k hk => ?_) hz.1.1 hz.1.2⟩, hz.2⟩
        have := mem_fitF.1 hk
        refine ⟨?_, this.2⟩
        rw [List.append_nil] at hks
        unfold areKeysF at hks; rw [List.all_eq_true] at hks
        exact hks k this.1
  · rw [if_neg h1] at h; exact absurd h h1
theorem near_ghost {m : Mk} {l al : List (List Int)} {kk : List Int} (h : (nearR m l al kk).2 = 0) : allowedC m l al [] = 0 ∧ isGhostR m l al (nearR m l al kk).1 = (true, 0) := by
  unfold nearR at h ⊢
  by_cases h1 : allowedC m l al [kk] = 0
  · have h0 : allowedC m l al [] = 0 := by
      by_cases h0 : allowedC m l al [] = 0
      · exact h0
      · rw [allowedC_keyn h0] at h1; exact absurd h1 h0
    rw [if_pos h1] at h ⊢
    refine ⟨h0, ?_⟩
    generalize hg : ghosts m l al = gs at h ⊢
    cases gs with
    | nil => cases h
    | cons k r =>
      refine (ghosts_each h0 ?_).1
      rw [hg]
      rcases near_mem kk (k :: r) k with e | e
      · show (k :: r).foldl (nearer kk) k ∈ _
        rw [e]; simp
      · exact e
  · rw [if_neg h1] at h; exact absurd h h1
end Go.Proofs.YtdedajohkdbdkaaGreat
