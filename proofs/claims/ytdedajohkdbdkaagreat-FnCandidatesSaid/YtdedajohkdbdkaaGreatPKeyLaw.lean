/- Plain laws: every maker has a key; the keys from given cuts on are keys. No program. -/
import Derived.Test.YtdedajohkdbdkaaGreatFGhost
namespace Go.Proofs.YtdedajohkdbdkaaGreat
set_option linter.unusedVariables false
/-- a key of c cuts and d depths: it climbs by one, then it sways -/
def zzAt (k i : Nat) : Int := if i < k then (i : Int) else if (i - k) % 2 = 0 then (k : Int) - 2 else (k : Int) - 1
def zz (c d : Nat) : List Int := (List.range c).map (zzAt (min c d))
def zzB (c d : Nat) : Bool := decide (c < 2) || decide (d < 2) || ((zz c d).length == c && allW 0 ((d : Int) - 1) (zz c d) && stepsOK 1 (zz c d) && runsOK 1 (zz c d) && decide (((min c d : Nat) : Int) ≤ kinds (zz c d)))
theorem zz_all : ((List.range 7).all fun c => (List.range 9).all fun d => zzB c d) = true := by decide +kernel
theorem zz_ok {c d : Nat} (hc : c < 7) (hd : d < 9) (hc2 : 2 ≤ c) (hd2 : 2 ≤ d) : (zz c d).length = c ∧ allW 0 ((d : Int) - 1) (zz c d) = true ∧ stepsOK 1 (zz c d) = true ∧ runsOK 1 (zz c d) = true ∧ ((min c d : Nat) : Int) ≤ kinds (zz c d) := by
  have h := zz_all
  rw [List.all_eq_true] at h
  have h1 := h c (List.mem_range.2 hc)
  rw [List.all_eq_true] at h1
  have h2 := h1 d (List.mem_range.2 hd)
  unfold zzB at h2
  rw [decide_eq_false (by omega), decide_eq_false (by omega)] at h2
  simp only [Bool.false_or, Bool.and_eq_true, beq_iff_eq, decide_eq_true_eq] at h2
  obtain ⟨⟨⟨⟨a, b⟩, e⟩, f⟩, g⟩ := h2
  exact ⟨a, b, e, f, g⟩
theorem steps_mono {a b : Int} {xs : List Int} (h : a ≤ b) (hs : stepsOK a xs = true) : stepsOK b xs = true := by
  unfold stepsOK at hs ⊢
  rw [List.all_eq_true] at hs ⊢
  intro i hi
  have := hs i hi
  unfold stepAt at this ⊢
  simp only [Bool.or_eq_true, beq_iff_eq, decide_eq_true_eq] at this ⊢
  omega
theorem runs_mono {a b : Int} {xs : List Int} (h : a ≤ b) (hs : runsOK a xs = true) : runsOK b xs = true := by
  unfold runsOK at hs ⊢
  rw [List.all_eq_true] at hs ⊢
  intro i hi
  have := hs i hi
  unfold runAt at this ⊢
  simp only [decide_eq_true_eq] at this ⊢
  omega
theorem key_exists {m : Mk} (hm : isMaker m = true) : isKey m (zz m.c.toNat m.d.toNat) = true := by
  have hb := mk_bounds hm
  obtain ⟨h1, h2, h3, h4, h5⟩ := zz_ok (c := m.c.toNat) (d := m.d.toNat) (by omega) (by omega) (by omega) (by omega)
  unfold isKey
  rw [beq_iff_eq, fault_zero_iff]
  refine ⟨by omega, ?_, steps_mono (by omega) h3, runs_mono (by omega) h4, by omega⟩
  rw [show m.d - 1 = ((m.d.toNat : Nat) : Int) - 1 by omega]
  exact h2
theorem allK_pos {m : Mk} (hm : isMaker m = true) : 0 < (allK m).length := by
  have := (allK_is hm).2 (key_exists hm)
  exact List.length_pos_of_mem this
theorem keysG_sub {m : Mk} {al : Nat → Int → Bool} {fr : List Int} (hf : ∀ k, 0 ≤ fr.getD k 0) : ∀ (r : Nat) (key : List Int) (t : Bool) (x : List Int), x ∈ keysG m al fr r key t → x ∈ keysG m al [] r key false
  | 0, key, t, x, h => by rw [keysG] at h ⊢; exact h
  | r + 1, key, t, x, h => by
    rw [keysG, List.mem_flatMap] at h ⊢
    obtain ⟨d, hd, hx⟩ := h
    have hd := mem_depths.1 hd
    refine ⟨d, mem_depths.2 ⟨?_, hd.2⟩, ?_⟩
    · rw [least_f]
      have : 0 ≤ least fr key t := by unfold least; split; exact hf _; omega
      omega
    · split at hx
      · rename_i hp
        rw [if_pos hp, Bool.false_and]
        exact keysG_sub hf r _ _ x hx
      · simp at hx
theorem keysT_key {m : Mk} {fr : List Int} (hm : isMaker m = true) (hf : ∀ i (h : i < fr.length), 0 ≤ fr[i] ∧ fr[i] < m.d) {x : List Int} (h : x ∈ keysG m allA fr m.c.toNat [] true) : isKey m x = true := by
  refine (allK_is hm).1 (keysG_sub (fun k => ?_) _ _ _ x h)
  by_cases hk : k < fr.length
  · simp [List.getD, List.getElem?_eq_getElem hk]; exact (hf k hk).1
  · simp [List.getD, List.getElem?_eq_none (show fr.length ≤ k by omega)]
end Go.Proofs.YtdedajohkdbdkaaGreat
