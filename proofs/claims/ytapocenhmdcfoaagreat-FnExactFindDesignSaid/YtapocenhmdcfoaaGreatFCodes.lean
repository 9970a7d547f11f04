/- Contracts of contains, locksCode, keysCode, allowedCode, of the program and of the reference. -/
import Derived.Test.YtapocenhmdcfoaaGreatFLock
import Derived.Test.YtapocenhmdcfoaaGreatFConcat
namespace Go.Proofs.YtapocenhmdcfoaaGreat
set_option linter.unusedVariables false
open Go.RowKit
/-! ### plain words -/
def areKeysF (m : Mk) (ks : List (List Int)) : Bool := ks.all (isKey m)
def keysC (m : Mk) (ks : List (List Int)) : Int := if isMaker m = true then (if areKeysF m ks = true then 0 else 2) else 1
def lockC (m : Mk) (l : List (List Int)) : Int := if isLockF m l = true then 0 else 1
def allowedC (m : Mk) (l al ks : List (List Int)) : Int := if isLockF m l = true then (if (decide (al.length ≤ 300) && areKeysF m (al ++ ks)) = true then 0 else 2) else 1
theorem areKeys_bad {m : Mk} {ks : List (List Int)} {k : Nat} (h : k < ks.length) (hp : isKey m ks[k] = false) : areKeysF m ks = false := all_false_at _ _ k h hp
theorem isLock_mk {m : Mk} {l : List (List Int)} (h : isLockF m l = true) : isMaker m = true := by unfold isLockF at h; rw [Bool.and_eq_true] at h; exact h.1
theorem isLock_len {m : Mk} {l : List (List Int)} (h : isLockF m l = true) : (l.length : Int) = m.c := by
  unfold isLockF lockOK at h; simp only [Bool.and_eq_true, decide_eq_true_eq] at h; exact h.2.2
theorem isKey_len {m : Mk} {xs : List Int} (h : isKey m xs = true) : (xs.length : Int) = m.c := by
  have := fault_zero_iff.1 (show fault m xs = 0 by simpa [isKey] using h); exact this.1
/-! ### a search among lists with a function -/
set_option maxRecDepth 100000 in
set_option maxHeartbeats 1000000 in
theorem sIndexFuncL_any (k : FuncId) (cap : Array Value) (A : Option Addr) (c : Nat) (ls : List (List Int)) (p : List Int → Bool) (w : World) (h : RII w A ls) (hk : Enters Tryz.prog k)
    (hf : ∀ j (hj : j < ls.length) W A' c', Below w.heap.size w W → ls[j].length ≤ c' → RI W A' ls[j] → Calls Tryz.prog k (#[.slice A' ls[j].length c'] ++ cap) W fun e W' => e = .returned (.bool (p ls[j])) ∧ Below W.heap.size W W') :
    Calls Tryz.prog 78 #[.slice A ls.length c, .func (.func k) #[] cap] w fun e w' => e = .returned (.int .i64 (findP p ls)) ∧ Below w.heap.size w w' := by
  have hle := h.le
  have HF := Lib.hid hf; clear hf
  unfold Enters at hk
  go_enter Tryz.func78, Tryz.ntmps78
  go_wp2_with fail
  go_loopw [5, 8] (fun _ i wr => ∃ j : Nat, j ≤ ls.length ∧ i = .int .i64 j ∧ (∀ i (hi : i < j) (hl : i < ls.length), p ls[i] = false) ∧ Below w.heap.size w wr) (fun _ i _ => ls.length - (intOf i).toNat)
  case atStart => exact ⟨0, by omega, rfl, fun i hi => by omega, Below.refl _ _⟩
  case round =>
    obtain ⟨j, hj, rfl, hn, hb⟩ := hrel
    have HN := Lib.hid hn; clear hn
    by_cases hlt : j < ls.length
    · obtain ⟨b, o, A', c', rfl, hc, hcc, hr⟩ := (h.below hb).at_ hlt
      have HC := Lib.hid (HF.out j hlt wr A' c' hb hcc hr)
      cases hp : p ls[j] with
      | true =>
        have HR := Lib.hid (findP_hit hlt hp (fun i hi => HN.out i hi (by omega)))
        rw [hp] at HC
        clear hp
        go_wp2_with fail
        refine HC.out.mono ?_
        rintro e w1 ⟨rfl, b1⟩
        go_wp2_with fail
        go_ret
        exact ⟨retI HR.out.symm, hb.trans (b1.mono hb.size)⟩
      | false =>
        rw [hp] at HC
        have HP := Lib.hid hp; clear hp
        go_wp2_with fail
        refine HC.out.mono ?_
        rintro e w1 ⟨rfl, b1⟩
        go_wp2_with fail
        go_roundw
        case rel => exact ⟨j + 1, by omega, by go_num, fun i hi hl => by
          by_cases e : i = j
          · subst e; exact HP.out
          · exact HN.out i (by omega) hl, hb.trans (b1.mono hb.size)⟩
        case measure => simp [intOf]; omega
    · obtain rfl : j = ls.length := by omega
      have HR := Lib.hid (findP_none (p := p) (fun i hi => HN.out i hi hi))
      go_wp2_with fail
      go_ret
      exact ⟨retI HR.out.symm, hb⟩
set_option maxHeartbeats 1000000 in
theorem sContainsFuncL_any (k : FuncId) (cap : Array Value) (A : Option Addr) (c : Nat) (ls : List (List Int)) (p : List Int → Bool) (w : World) (h : RII w A ls) (hk : Enters Tryz.prog k)
    (hf : ∀ j (hj : j < ls.length) W A' c', Below w.heap.size w W → ls[j].length ≤ c' → RI W A' ls[j] → Calls Tryz.prog k (#[.slice A' ls[j].length c'] ++ cap) W fun e W' => e = .returned (.bool (p ls[j])) ∧ Below W.heap.size W W') :
    Calls Tryz.prog 65 #[.slice A ls.length c, .func (.func k) #[] cap] w fun e w' => e = .returned (.bool (ls.any p)) ∧ Below w.heap.size w w' := by
  have HR := Lib.hid (findP_any p ls)
  have HC := Lib.hid (sIndexFuncL_any k cap A c ls p w h hk hf); clear hf
  go_enter Tryz.func65, Tryz.ntmps65
  go_wp2_with fail
  refine HC.out.mono ?_
  rintro e w1 ⟨rfl, b1⟩
  go_wp2_with fail
  go_ret
  exact ⟨retB (by rw [← HR.out]), b1⟩
/-! ### codes -/
end Go.Proofs.YtapocenhmdcfoaaGreat
