/- Contracts of contains, locksCode, keysCode, allowedCode, of the program and of the reference. -/
import Derived.Test.YtldlpkfjgackiaaFLock
import Derived.Test.YtldlpkfjgackiaaFConcat
namespace Go.Proofs.Ytldlpkfjgackiaa
set_option linter.unusedVariables false
open Go.RowKit
/-! ### plain words -/
def areKeysF (m : Mk) (ks : List (List Int)) : Bool := ks.all (isKey m)
def keysC (m : Mk) (ks : List (List Int)) : Int := if isMaker m = true then (if areKeysF m ks = true then 0 else 2) else 1
def lockC (m : Mk) (l : List (List Int)) : Int := if isLockF m l = true then 0 else 1
def allowedC (m : Mk) (l al ks : List (List Int)) : Int := if isLockF m l = true then (if (decide (al.length ≤ 300) && areKeysF m (al ++ ks)) = true then 0 else 2) else 1
theorem areKeys_bad {m : Mk} {ks : List (List Int)} {k : Nat} (h : k < ks.length) (hp : isKey m ks[k] = false) : areKeysF m ks = false := all_false_at _ _ k h hp
theorem isLock_mk {m : Mk} {l : List (List Int)} (h : isLockF m l = true) : isMaker m = true := by unfold isLockF at h; rw [Bool.and_eq_true] at h; exact h.1
theorem isLock_len {m : Mk} {l : List (List Int)} (h : isLockF m l = true) : (l.length : Int) = m.c := by
  unfold isLockF lockOK at h; simp only [Bool.and_eq_true, decide_eq_true_eq] at h; exact h.2.2
theorem isKey_len {m : Mk} {xs : List Int} (h : isKey m xs = true) : (xs.length : Int) = m.c := by
  have := fault_zero_iff.1 (show fault m xs = 0 by simpa [isKey] using h); exact this.1
/-! ### a search among lists with a function -/
set_option maxRecDepth 100000 in
set_option maxHeartbeats 1000000 in
theorem sIndexFuncL_any (k : FuncId) (cap : Array Value) (A : Option Addr) (c : Nat) (ls : List (List Int)) (p : List Int → Bool) (w : World) (h : RII w A ls) (hk : Enters Try.prog k)
    (hf : ∀ j (hj : j < ls.length) W A' c', Below w.heap.size w W → ls[j].length ≤ c' → RI W A' ls[j] → Calls Try.prog k (#[.slice A' ls[j].length c'] ++ cap) W fun e W' => e = .returned (.bool (p ls[j])) ∧ Below W.heap.size W W') :
    Calls Try.prog 151 #[.slice A ls.length c, .func (.func k) #[] cap] w fun e w' => e = .returned (.int .i64 (findP p ls)) ∧ Below w.heap.size w w' := by
  have hle := h.le
  have HF := Lib.hid hf; clear hf
  unfold Enters at hk
  go_enter Try.func151, Try.ntmps151
  go_wp2_with fail
  go_loopw [5, 8] (fun _ i wr => ∃ j : Nat, j ≤ ls.length ∧ i = .int .i64 j ∧ (∀ i (hi : i < j) (hl : i < ls.length), p ls[i] = false) ∧ Below w.heap.size w wr) (fun _ i _ => ls.length - (intOf i).toNat)
  case atStart => exact ⟨0, by omega, rfl, fun i hi => by omega, Below.refl _ _⟩
  case round =>
    obtain ⟨j, hj, rfl, hn, hb⟩ := hrel
    have HN := Lib.hid hn; clear hn
    by_cases hlt : j < ls.length
    · obtain ⟨b, o, A', c', rfl, hc, hcc, hr⟩ := (h.below hb).at_ hlt
      have HC := Lib.hid (HF.out j hlt wr A' c' hb hcc hr)
      cases hp : p ls[j] with
      | true =>
        have HR := Lib.hid (findP_hit hlt hp (fun i hi => HN.out i hi (by omega)))
        rw [hp] at HC
        clear hp
        go_wp2_with fail
        refine HC.out.mono ?_
        rintro e w1 ⟨rfl, b1⟩
        go_wp2_with fail
        go_ret
        exact ⟨retI HR.out.symm, hb.trans (b1.mono hb.size)⟩
      | false =>
        rw [hp] at HC
        have HP := Lib.hid hp; clear hp
        go_wp2_with fail
        refine HC.out.mono ?_
        rintro e w1 ⟨rfl, b1⟩
        go_wp2_with fail
        go_roundw
        case rel => exact ⟨j + 1, by omega, by go_num, fun i hi hl => by
          by_cases e : i = j
          · subst e; exact HP.out
          · exact HN.out i (by omega) hl, hb.trans (b1.mono hb.size)⟩
        case measure => simp [intOf]; omega
    · obtain rfl : j = ls.length := by omega
      have HR := Lib.hid (findP_none (p := p) (fun i hi => HN.out i hi hi))
      go_wp2_with fail
      go_ret
      exact ⟨retI HR.out.symm, hb⟩
set_option maxHeartbeats 1000000 in
theorem sContainsFuncL_any (k : FuncId) (cap : Array Value) (A : Option Addr) (c : Nat) (ls : List (List Int)) (p : List Int → Bool) (w : World) (h : RII w A ls) (hk : Enters Try.prog k)
    (hf : ∀ j (hj : j < ls.length) W A' c', Below w.heap.size w W → ls[j].length ≤ c' → RI W A' ls[j] → Calls Try.prog k (#[.slice A' ls[j].length c'] ++ cap) W fun e W' => e = .returned (.bool (p ls[j])) ∧ Below W.heap.size W W') :
    Calls Try.prog 141 #[.slice A ls.length c, .func (.func k) #[] cap] w fun e w' => e = .returned (.bool (ls.any p)) ∧ Below w.heap.size w w' := by
  have HR := Lib.hid (findP_any p ls)
  have HC := Lib.hid (sIndexFuncL_any k cap A c ls p w h hk hf); clear hf
  go_enter Try.func141, Try.ntmps141
  go_wp2_with fail
  refine HC.out.mono ?_
  rintro e w1 ⟨rfl, b1⟩
  go_wp2_with fail
  go_ret
  exact ⟨retB (by rw [← HR.out]), b1⟩
/-! ### codes -/
set_option maxRecDepth 100000 in
set_option maxHeartbeats 4000000 in
theorem l04Keys_any (m : Mk) (A : Option Addr) (c : Nat) (ks : List (List Int)) (w : World) (h : RII w A ks) (hm : isMaker m = true) :
    Calls Try.prog 128 #[.agg #[.int .i64 m.c, .int .i64 m.d, .int .i64 m.s, .int .i64 m.a, .int .i64 m.l], .slice A ks.length c] w fun e w' => e = .returned (.bool (areKeysF m ks && decide (ks.length ≤ 300))) ∧ Below w.heap.size w w' := by
  have B0 := (Below.refl w.heap.size w).alloc (Nat.le_refl _) (.cells #[.int .i64 m.c, .int .i64 m.d, .int .i64 m.s, .int .i64 m.a, .int .i64 m.l] 27)
  have bx : BoxC (w.alloc (.cells #[.int .i64 m.c, .int .i64 m.d, .int .i64 m.s, .int .i64 m.a, .int .i64 m.l] 27)) w.heap.size 0 [.int .i64 m.c, .int .i64 m.d, .int .i64 m.s, .int .i64 m.a, .int .i64 m.l] := by simp [BoxC, Go.World.cell?_alloc_at]
  have hle := h.le
  go_enter Try.func128, Try.ntmps128
  go_wp2_with fail
  go_loopw [5] (fun i wr => ∃ k : Nat, k ≤ ks.length ∧ i = .int .i64 k ∧ (ks.take k).all (isKey m) = true ∧ Below (w.alloc (.cells #[.int .i64 m.c, .int .i64 m.d, .int .i64 m.s, .int .i64 m.a, .int .i64 m.l] 27)).heap.size (w.alloc (.cells #[.int .i64 m.c, .int .i64 m.d, .int .i64 m.s, .int .i64 m.a, .int .i64 m.l] 27)) wr) (fun i _ => ks.length - (intOf i).toNat)
  case atStart => exact ⟨0, by omega, rfl, rfl, Below.refl _ _⟩
  case round =>
    obtain ⟨k, hk, rfl, hall, hb⟩ := hrel
    have HA := Lib.hid hall; clear hall
    have Bw := B0.trans (hb.mono B0.size)
    by_cases hlt : k < ks.length
    · obtain ⟨b, o, A', c', rfl, hc, hcc, hr⟩ := (h.below Bw).at_ hlt
      have i0 : (0 : Int) ≤ (k : Int) := by omega
      have i1 : (k : Int) < (ks.length : Int) := by omega
      have KS := Lib.hid (show ∀ w' : World, Below wr.heap.size wr w' → ((w'.cell? ⟨w.heap.size, 0, none⟩ = some (.int .i64 m.c) ∧ w'.cell? ⟨w.heap.size, 1, none⟩ = some (.int .i64 m.d) ∧ w'.cell? ⟨w.heap.size, 2, none⟩ = some (.int .i64 m.s) ∧ w'.cell? ⟨w.heap.size, 3, none⟩ = some (.int .i64 m.a) ∧ w'.cell? ⟨w.heap.size, 4, none⟩ = some (.int .i64 m.l) ∧ True) ∧ w'.cell? ⟨b, o + k, none⟩ = some (.slice A' ks[k].length c')) from fun w' hb' => ⟨(bx.below hb).below hb', (hb'.cell (World.block_lt_of_cell? wr _ hc)).trans hc⟩)
      have E5 := Lib.hid (fun W (hW : Below wr.heap.size wr W) => l02Fault_any m A' c' ks[k] W (hr.below hW) hcc hm)
      cases hp : isKey m ks[k] with
      | true =>
        have HO := Lib.hid (show (ks.take (k + 1)).all (isKey m) = true by rw [take_succ_all _ _ _ hlt, HA.out, hp]; rfl)
        have hz : (fault m ks[k] != 0) = false := by unfold isKey at hp; simpa using hp
        have HP := Lib.hid hp; clear hp
        go_wp2_with fail
        go_region_held3 (fun w' => (w'.cell? ⟨w.heap.size, 0, none⟩ = some (.int .i64 m.c) ∧ w'.cell? ⟨w.heap.size, 1, none⟩ = some (.int .i64 m.d) ∧ w'.cell? ⟨w.heap.size, 2, none⟩ = some (.int .i64 m.s) ∧ w'.cell? ⟨w.heap.size, 3, none⟩ = some (.int .i64 m.a) ∧ w'.cell? ⟨w.heap.size, 4, none⟩ = some (.int .i64 m.l) ∧ True) ∧ w'.cell? ⟨b, o + k, none⟩ = some (.slice A' ks[k].length c')) (first | (refine KS.out _ ?_; first | assumption | exact belowDrew0 _))
          (first | (go_at_call 100; refine (E5.out _ (belowDrew0 _)).mono ?_; rintro e w2 ⟨rfl, b2⟩; have b2 := belowDrew b2))
        go_wp2_with fail
        go_roundw
        case rel => exact ⟨k + 1, by omega, by go_num, HO.out, hb.trans (b2.mono hb.size)⟩
        case measure => simp [intOf]; omega
      | false =>
        have HR := Lib.hid (show areKeysF m ks = false from areKeys_bad hlt hp)
        have hz : (fault m ks[k] != 0) = true := by unfold isKey at hp; simpa using hp
        have HP := Lib.hid hp; clear hp
        go_wp2_with fail
        go_region_held3 (fun w' => (w'.cell? ⟨w.heap.size, 0, none⟩ = some (.int .i64 m.c) ∧ w'.cell? ⟨w.heap.size, 1, none⟩ = some (.int .i64 m.d) ∧ w'.cell? ⟨w.heap.size, 2, none⟩ = some (.int .i64 m.s) ∧ w'.cell? ⟨w.heap.size, 3, none⟩ = some (.int .i64 m.a) ∧ w'.cell? ⟨w.heap.size, 4, none⟩ = some (.int .i64 m.l) ∧ True) ∧ w'.cell? ⟨b, o + k, none⟩ = some (.slice A' ks[k].length c')) (first | (refine KS.out _ ?_; first | assumption | exact belowDrew0 _))
          (first | (go_at_call 100; refine (E5.out _ (belowDrew0 _)).mono ?_; rintro e w2 ⟨rfl, b2⟩; have b2 := belowDrew b2))
        go_wp2_with fail
        go_ret
        exact ⟨retB (by rw [HR.out]; rfl), Bw.trans (b2.mono Bw.size)⟩
    · obtain rfl : k = ks.length := by omega
      have HR := Lib.hid (show areKeysF m ks = true by have := HA.out; rwa [List.take_length] at this)
      go_wp2_with fail
      go_ret
      exact ⟨retB (by rw [HR.out, Bool.true_and]; simp; omega), Bw⟩
end Go.Proofs.Ytldlpkfjgackiaa
