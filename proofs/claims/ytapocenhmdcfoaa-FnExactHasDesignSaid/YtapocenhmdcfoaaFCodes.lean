/- Contracts of contains, locksCode, keysCode, allowedCode, of the program and of the reference. -/
import Derived.Test.YtapocenhmdcfoaaFLock
import Derived.Test.YtapocenhmdcfoaaFConcat
namespace Go.Proofs.Ytapocenhmdcfoaa
set_option linter.unusedVariables false
open Go.RowKit
/-! ### plain words -/
def areKeysF (m : Mk) (ks : List (List Int)) : Bool := ks.all (isKey m)
def keysC (m : Mk) (ks : List (List Int)) : Int := if isMaker m = true then (if areKeysF m ks = true then 0 else 2) else 1
def lockC (m : Mk) (l : List (List Int)) : Int := if isLockF m l = true then 0 else 1
def allowedC (m : Mk) (l al ks : List (List Int)) : Int := if isLockF m l = true then (if (decide (al.length ≤ 300) && areKeysF m (al ++ ks)) = true then 0 else 2) else 1
theorem areKeys_bad {m : Mk} {ks : List (List Int)} {k : Nat} (h : k < ks.length) (hp : isKey m ks[k] = false) : areKeysF m ks = false := all_false_at _ _ k h hp
theorem isLock_mk {m : Mk} {l : List (List Int)} (h : isLockF m l = true) : isMaker m = true := by unfold isLockF at h; rw [Bool.and_eq_true] at h; exact h.1
theorem isLock_len {m : Mk} {l : List (List Int)} (h : isLockF m l = true) : (l.length : Int) = m.c := by
  unfold isLockF lockOK at h; simp only [Bool.and_eq_true, decide_eq_true_eq] at h; exact h.2.2
theorem isKey_len {m : Mk} {xs : List Int} (h : isKey m xs = true) : (xs.length : Int) = m.c := by
  have := fault_zero_iff.1 (show fault m xs = 0 by simpa [isKey] using h); exact this.1
/-! ### a search among lists with a function -/
set_option maxRecDepth 100000 in
set_option maxHeartbeats 1000000 in
theorem sIndexFuncL_any (k : FuncId) (cap : Array Value) (A : Option Addr) (c : Nat) (ls : List (List Int)) (p : List Int → Bool) (w : World) (h : RII w A ls) (hk : Enters Try.prog k)
    (hf : ∀ j (hj : j < ls.length) W A' c', Below w.heap.size w W → ls[j].length ≤ c' → RI W A' ls[j] → Calls Try.prog k (#[.slice A' ls[j].length c'] ++ cap) W fun e W' => e = .returned (.bool (p ls[j])) ∧ Below W.heap.size W W') :
    Calls Try.prog 117 #[.slice A ls.length c, .func (.func k) #[] cap] w fun e w' => e = .returned (.int .i64 (findP p ls)) ∧ Below w.heap.size w w' := by
  have hle := h.le
  have HF := Lib.hid hf; clear hf
  unfold Enters at hk
  go_enter Try.func117, Try.ntmps117
  go_wp2_with fail
  go_loopw [5, 8] (fun _ i wr => ∃ j : Nat, j ≤ ls.length ∧ i = .int .i64 j ∧ (∀ i (hi : i < j) (hl : i < ls.length), p ls[i] = false) ∧ Below w.heap.size w wr) (fun _ i _ => ls.length - (intOf i).toNat)
  case atStart => exact ⟨0, by omega, rfl, fun i hi => by omega, Below.refl _ _⟩
  case round =>
    obtain ⟨j, hj, rfl, hn, hb⟩ := hrel
    have HN := Lib.hid hn; clear hn
    by_cases hlt : j < ls.length
    · obtain ⟨b, o, A', c', rfl, hc, hcc, hr⟩ := (h.below hb).at_ hlt
      have HC := Lib.hid (HF.out j hlt wr A' c' hb hcc hr)
      cases hp : p ls[j] with
      | true =>
        have HR := Lib.hid (findP_hit hlt hp (fun i hi => HN.out i hi (by omega)))
        rw [hp] at HC
        clear hp
        go_wp2_with fail
        refine HC.out.mono ?_
        rintro e w1 ⟨rfl, b1⟩
        go_wp2_with fail
        go_ret
        exact ⟨retI HR.out.symm, hb.trans (b1.mono hb.size)⟩
      | false =>
        rw [hp] at HC
        have HP := Lib.hid hp; clear hp
        go_wp2_with fail
        refine HC.out.mono ?_
        rintro e w1 ⟨rfl, b1⟩
        go_wp2_with fail
        go_roundw
        case rel => exact ⟨j + 1, by omega, by go_num, fun i hi hl => by
          by_cases e : i = j
          · subst e; exact HP.out
          · exact HN.out i (by omega) hl, hb.trans (b1.mono hb.size)⟩
        case measure => simp [intOf]; omega
    · obtain rfl : j = ls.length := by omega
      have HR := Lib.hid (findP_none (p := p) (fun i hi => HN.out i hi hi))
      go_wp2_with fail
      go_ret
      exact ⟨retI HR.out.symm, hb⟩
set_option maxHeartbeats 1000000 in
theorem sContainsFuncL_any (k : FuncId) (cap : Array Value) (A : Option Addr) (c : Nat) (ls : List (List Int)) (p : List Int → Bool) (w : World) (h : RII w A ls) (hk : Enters Try.prog k)
    (hf : ∀ j (hj : j < ls.length) W A' c', Below w.heap.size w W → ls[j].length ≤ c' → RI W A' ls[j] → Calls Try.prog k (#[.slice A' ls[j].length c'] ++ cap) W fun e W' => e = .returned (.bool (p ls[j])) ∧ Below W.heap.size W W') :
    Calls Try.prog 197 #[.slice A ls.length c, .func (.func k) #[] cap] w fun e w' => e = .returned (.bool (ls.any p)) ∧ Below w.heap.size w w' := by
  have HR := Lib.hid (findP_any p ls)
  have HC := Lib.hid (sIndexFuncL_any k cap A c ls p w h hk hf); clear hf
  go_enter Try.func197, Try.ntmps197
  go_wp2_with fail
  refine HC.out.mono ?_
  rintro e w1 ⟨rfl, b1⟩
  go_wp2_with fail
  go_ret
  exact ⟨retB (by rw [← HR.out]), b1⟩
set_option maxHeartbeats 1000000 in
theorem containsClo_any (bk : Nat) (A K : Option Addr) (c d : Nat) (ys xs : List Int) (w : World) (h : RI w A ys) (g : RI w K xs) (ck : w.cell? ⟨bk, 0, none⟩ = some (.slice K xs.length d)) :
    Calls Try.prog 198 #[.slice A ys.length c, .pointer (some ⟨bk, 0, none⟩)] w fun e w' => e = .returned (.bool (ys == xs)) ∧ Below w.heap.size w w' := by
  go_enter Try.func198, Try.ntmps198
  go_wp2_with fail
  refine (sEqual_any A K c d ys xs w h g).mono ?_
  rintro e w1 ⟨rfl, n1, rfl⟩
  go_wp2_with fail
  go_ret
  exact ⟨rfl, belowD (Below.refl _ _) n1⟩
theorem containsClo_enters : Enters Try.prog 198 := enters Try.func198 (by kernel_rfl) rfl
set_option maxHeartbeats 1000000 in
theorem contains_any (A K : Option Addr) (c d : Nat) (ls : List (List Int)) (xs : List Int) (w : World) (h : RII w A ls) (g : RI w K xs) :
    Calls Try.prog 154 #[.slice A ls.length c, .slice K xs.length d] w fun e w' => e = .returned (.bool (hasL ls xs)) ∧ Below w.heap.size w w' := by
  have B0 : Below w.heap.size w (w.alloc (.cells #[.slice K xs.length d] 56)) := (Below.refl w.heap.size w).alloc (Nat.le_refl _) _
  have HC := Lib.hid (sContainsFuncL_any 198 #[.pointer (some ⟨w.heap.size, 0, none⟩)] A c ls (fun y => y == xs) (w.alloc (.cells #[.slice K xs.length d] 56)) (h.below B0) containsClo_enters
    (fun j hj W A' c' hW hcc hr => containsClo_any w.heap.size A' K c' d ls[j] xs W hr ((g.below B0).below hW) ((hW.cell (by simp)).trans (by simp))))
  go_enter Try.func154, Try.ntmps154
  go_wp2_with fail
  refine HC.out.mono ?_
  rintro e w1 ⟨rfl, b1⟩
  go_wp2_with fail
  go_ret
  exact ⟨rfl, B0.trans (b1.mono B0.size)⟩
/-! ### codes -/
set_option maxRecDepth 100000 in
set_option maxHeartbeats 2000000 in
theorem locksCode1_any (m : Mk) (g : Nat) (A : Option Addr) (c : Nat) (l : List (List Int)) (w : World) (h : RII w A l) (hS : w.cell? ⟨g, 0, none⟩ = some (.slice A l.length c)) :
    Calls Try.prog 158 #[.agg #[.int .i64 m.c, .int .i64 m.d, .int .i64 m.s, .int .i64 m.a, .int .i64 m.l], .slice (some ⟨g, 0, none⟩) 1 1] w fun e w' => e = .returned (.int .i64 (lockC m l)) ∧ Below w.heap.size w w' := by
  have B0 := (Below.refl w.heap.size w).alloc (Nat.le_refl _) (.cells #[.int .i64 m.c, .int .i64 m.d, .int .i64 m.s, .int .i64 m.a, .int .i64 m.l] 29)
  have hg := World.block_lt_of_cell? w _ hS
  simp only at hg
  cases h1 : isMaker m with
  | false =>
    have HR := Lib.hid (show lockC m l = 1 by simp [lockC, isLockF, h1])
    go_enter Try.func158, Try.ntmps158
    go_wp2_with fail
    refine (implIsMaker_any m _).mono ?_
    rw [h1]
    rintro e w1 ⟨rfl, b1⟩
    go_wp2_with fail
    go_ret
    exact ⟨retI HR.out.symm, B0.trans (b1.mono B0.size)⟩
  | true =>
    go_enter Try.func158, Try.ntmps158
    go_wp2_with fail
    refine (implIsMaker_any m _).mono ?_
    rw [h1]
    rintro e w1 ⟨rfl, b1⟩
    have C := (bcell b1).1
    have B1 := B0.trans (b1.mono B0.size)
    have s0 : w.heap.size < w1.heap.size := by have := b1.size; simp only [World.size_alloc] at this; omega
    go_wp2_with fail
    go_loopw [6, 12] (fun _ i wr => (i = .int .i64 0 ∨ (i = .int .i64 1 ∧ lockOK m l = true)) ∧ Below w1.heap.size w1 wr) (fun _ i _ => 1 - (intOf i).toNat)
    case atStart => exact ⟨.inl rfl, Below.refl _ _⟩
    case round =>
      obtain ⟨hi, hb⟩ := hrel
      have Cr := (bcell hb).1
      have Brr := B1.trans (hb.mono B1.size)
      have hsz := hb.size
      rcases hi with rfl | ⟨rfl, hok⟩
      · have HI := Lib.hid (fun W (hW : Below w.heap.size w W) => isLock_any m A c l W (h.below hW))
        have hSr := (Brr.cell (p := ⟨g, 0, none⟩) hg).trans hS
        have s1 : w.heap.size < wr.heap.size := by omega
        have s2 : g < wr.heap.size := by omega
        cases hp : lockOK m l with
        | true =>
          go_wp2_with fail
          refine (HI.out _ (Brr.alloc (by omega) _)).mono ?_
          rw [hp]
          rintro e w2 ⟨rfl, b2⟩
          go_wp2_with fail
          go_roundw
          case rel => exact ⟨.inr ⟨by go_num, by first | exact hp | trivial⟩, (hb.alloc (by omega) _).trans (b2.mono (by simp; omega))⟩
          case measure => simp [intOf]
        | false =>
          have HR := Lib.hid (show lockC m l = 1 by simp [lockC, isLockF, hp])
          go_wp2_with fail
          refine (HI.out _ (Brr.alloc (by omega) _)).mono ?_
          rw [hp]
          rintro e w2 ⟨rfl, b2⟩
          go_wp2_with fail
          go_ret
          exact ⟨retI HR.out.symm, (Brr.alloc (by omega) _).trans (b2.mono (by simp; omega))⟩
      · have HR := Lib.hid (show lockC m l = 0 by simp [lockC, isLockF, hok, h1])
        go_wp2_with fail
        go_ret
        exact ⟨retI HR.out.symm, Brr⟩
set_option maxRecDepth 100000 in
set_option maxHeartbeats 2000000 in
theorem keysCode_any (m : Mk) (A : Option Addr) (c : Nat) (ks : List (List Int)) (w : World) (h : RII w A ks) :
    Calls Try.prog 189 #[.agg #[.int .i64 m.c, .int .i64 m.d, .int .i64 m.s, .int .i64 m.a, .int .i64 m.l], .slice A ks.length c] w fun e w' => e = .returned (.int .i64 (keysC m ks)) ∧ Below w.heap.size w w' := by
  have B0 := (Below.refl w.heap.size w).alloc (Nat.le_refl _) (.cells #[.int .i64 m.c, .int .i64 m.d, .int .i64 m.s, .int .i64 m.a, .int .i64 m.l] 29)
  have hle := h.le
  cases h1 : isMaker m with
  | false =>
    have HR := Lib.hid (show keysC m ks = 1 by simp [keysC, h1])
    go_enter Try.func189, Try.ntmps189
    go_wp2_with fail
    refine (implIsMaker_any m _).mono ?_
    rw [h1]
    rintro e w1 ⟨rfl, b1⟩
    go_wp2_with fail
    go_ret
    exact ⟨retI HR.out.symm, B0.trans (b1.mono B0.size)⟩
  | true =>
    go_enter Try.func189, Try.ntmps189
    go_wp2_with fail
    refine (implIsMaker_any m _).mono ?_
    rw [h1]
    rintro e w1 ⟨rfl, b1⟩
    have C := (bcell b1).1
    have B1 := B0.trans (b1.mono B0.size)
    have s0 : w.heap.size < w1.heap.size := by have := b1.size; simp only [World.size_alloc] at this; omega
    go_wp2_with fail
    go_loopw [6, 12] (fun _ i wr => ∃ k : Nat, k ≤ ks.length ∧ i = .int .i64 k ∧ (ks.take k).all (isKey m) = true ∧ Below w1.heap.size w1 wr) (fun _ i _ => ks.length - (intOf i).toNat)
    case atStart => exact ⟨0, by omega, rfl, rfl, Below.refl _ _⟩
    case round =>
      obtain ⟨k, hk, rfl, hall, hb⟩ := hrel
      have HA := Lib.hid hall; clear hall
      have Cr := (bcell hb).1
      have Brr := B1.trans (hb.mono B1.size)
      have hsz := hb.size
      by_cases hlt : k < ks.length
      · obtain ⟨b, o, A', c', rfl, hc, hcc, hr⟩ := (h.below Brr).at_ hlt
        have HI := Lib.hid (isKey_any m A' c' ks[k] wr hr hcc h1)
        cases hp : isKey m ks[k] with
        | true =>
          have HO := Lib.hid (show (ks.take (k + 1)).all (isKey m) = true by rw [take_succ_all _ _ _ hlt, HA.out, hp]; rfl)
          go_wp2_with fail
          refine HI.out.mono ?_
          rw [hp]
          rintro e w2 ⟨rfl, b2⟩
          go_wp2_with fail
          go_roundw
          case rel => exact ⟨k + 1, by omega, by go_num, HO.out, hb.trans (b2.mono hb.size)⟩
          case measure => simp [intOf]; omega
        | false =>
          have HR := Lib.hid (show keysC m ks = 2 by simp [keysC, h1, areKeys_bad hlt hp])
          go_wp2_with fail
          refine HI.out.mono ?_
          rw [hp]
          rintro e w2 ⟨rfl, b2⟩
          go_wp2_with fail
          go_ret
          exact ⟨retI HR.out.symm, Brr.trans (b2.mono Brr.size)⟩
      · obtain rfl : k = ks.length := by omega
        have HR := Lib.hid (show keysC m ks = 0 by
          have := HA.out; rw [List.take_length] at this
          unfold keysC areKeysF; rw [if_pos h1, if_pos this])
        go_wp2_with fail
        go_ret
        exact ⟨retI HR.out.symm, Brr⟩
set_option maxRecDepth 100000 in
set_option maxHeartbeats 4000000 in
theorem l04Keys_any (m : Mk) (A : Option Addr) (c : Nat) (ks : List (List Int)) (w : World) (h : RII w A ks) (hm : isMaker m = true) :
    Calls Try.prog 166 #[.agg #[.int .i64 m.c, .int .i64 m.d, .int .i64 m.s, .int .i64 m.a, .int .i64 m.l], .slice A ks.length c] w fun e w' => e = .returned (.bool (areKeysF m ks && decide (ks.length ≤ 300))) ∧ Below w.heap.size w w' := by
  have B0 := (Below.refl w.heap.size w).alloc (Nat.le_refl _) (.cells #[.int .i64 m.c, .int .i64 m.d, .int .i64 m.s, .int .i64 m.a, .int .i64 m.l] 29)
  have bx : BoxC (w.alloc (.cells #[.int .i64 m.c, .int .i64 m.d, .int .i64 m.s, .int .i64 m.a, .int .i64 m.l] 29)) w.heap.size 0 [.int .i64 m.c, .int .i64 m.d, .int .i64 m.s, .int .i64 m.a, .int .i64 m.l] := by simp [BoxC, Go.World.cell?_alloc_at]
  have hle := h.le
  go_enter Try.func166, Try.ntmps166
  go_wp2_with fail
  go_loopw [5] (fun i wr => ∃ k : Nat, k ≤ ks.length ∧ i = .int .i64 k ∧ (ks.take k).all (isKey m) = true ∧ Below (w.alloc (.cells #[.int .i64 m.c, .int .i64 m.d, .int .i64 m.s, .int .i64 m.a, .int .i64 m.l] 29)).heap.size (w.alloc (.cells #[.int .i64 m.c, .int .i64 m.d, .int .i64 m.s, .int .i64 m.a, .int .i64 m.l] 29)) wr) (fun i _ => ks.length - (intOf i).toNat)
  case atStart => exact ⟨0, by omega, rfl, rfl, Below.refl _ _⟩
  case round =>
    obtain ⟨k, hk, rfl, hall, hb⟩ := hrel
    have HA := Lib.hid hall; clear hall
    have Bw := B0.trans (hb.mono B0.size)
    by_cases hlt : k < ks.length
    · obtain ⟨b, o, A', c', rfl, hc, hcc, hr⟩ := (h.below Bw).at_ hlt
      have i0 : (0 : Int) ≤ (k : Int) := by omega
      have i1 : (k : Int) < (ks.length : Int) := by omega
      have KS := Lib.hid (show ∀ w' : World, Below wr.heap.size wr w' → ((w'.cell? ⟨w.heap.size, 0, none⟩ = some (.int .i64 m.c) ∧ w'.cell? ⟨w.heap.size, 1, none⟩ = some (.int .i64 m.d) ∧ w'.cell? ⟨w.heap.size, 2, none⟩ = some (.int .i64 m.s) ∧ w'.cell? ⟨w.heap.size, 3, none⟩ = some (.int .i64 m.a) ∧ w'.cell? ⟨w.heap.size, 4, none⟩ = some (.int .i64 m.l) ∧ True) ∧ w'.cell? ⟨b, o + k, none⟩ = some (.slice A' ks[k].length c')) from fun w' hb' => ⟨(bx.below hb).below hb', (hb'.cell (World.block_lt_of_cell? wr _ hc)).trans hc⟩)
      have E5 := Lib.hid (fun W (hW : Below wr.heap.size wr W) => l02Fault_any m A' c' ks[k] W (hr.below hW) hcc hm)
      cases hp : isKey m ks[k] with
      | true =>
        have HO := Lib.hid (show (ks.take (k + 1)).all (isKey m) = true by rw [take_succ_all _ _ _ hlt, HA.out, hp]; rfl)
        have hz : (fault m ks[k] != 0) = false := by unfold isKey at hp; simpa using hp
        have HP := Lib.hid hp; clear hp
        go_wp2_with fail
        go_region_held3 (fun w' => (w'.cell? ⟨w.heap.size, 0, none⟩ = some (.int .i64 m.c) ∧ w'.cell? ⟨w.heap.size, 1, none⟩ = some (.int .i64 m.d) ∧ w'.cell? ⟨w.heap.size, 2, none⟩ = some (.int .i64 m.s) ∧ w'.cell? ⟨w.heap.size, 3, none⟩ = some (.int .i64 m.a) ∧ w'.cell? ⟨w.heap.size, 4, none⟩ = some (.int .i64 m.l) ∧ True) ∧ w'.cell? ⟨b, o + k, none⟩ = some (.slice A' ks[k].length c')) (first | (refine KS.out _ ?_; first | assumption | exact belowDrew0 _))
          (first | (go_at_call 186; refine (E5.out _ (belowDrew0 _)).mono ?_; rintro e w2 ⟨rfl, b2⟩; have b2 := belowDrew b2))
        go_wp2_with fail
        go_roundw
        case rel => exact ⟨k + 1, by omega, by go_num, HO.out, hb.trans (b2.mono hb.size)⟩
        case measure => simp [intOf]; omega
      | false =>
        have HR := Lib.hid (show areKeysF m ks = false from areKeys_bad hlt hp)
        have hz : (fault m ks[k] != 0) = true := by unfold isKey at hp; simpa using hp
        have HP := Lib.hid hp; clear hp
        go_wp2_with fail
        go_region_held3 (fun w' => (w'.cell? ⟨w.heap.size, 0, none⟩ = some (.int .i64 m.c) ∧ w'.cell? ⟨w.heap.size, 1, none⟩ = some (.int .i64 m.d) ∧ w'.cell? ⟨w.heap.size, 2, none⟩ = some (.int .i64 m.s) ∧ w'.cell? ⟨w.heap.size, 3, none⟩ = some (.int .i64 m.a) ∧ w'.cell? ⟨w.heap.size, 4, none⟩ = some (.int .i64 m.l) ∧ True) ∧ w'.cell? ⟨b, o + k, none⟩ = some (.slice A' ks[k].length c')) (first | (refine KS.out _ ?_; first | assumption | exact belowDrew0 _))
          (first | (go_at_call 186; refine (E5.out _ (belowDrew0 _)).mono ?_; rintro e w2 ⟨rfl, b2⟩; have b2 := belowDrew b2))
        go_wp2_with fail
        go_ret
        exact ⟨retB (by rw [HR.out]; rfl), Bw.trans (b2.mono Bw.size)⟩
    · obtain rfl : k = ks.length := by omega
      have HR := Lib.hid (show areKeysF m ks = true by have := HA.out; rwa [List.take_length] at this)
      go_wp2_with fail
      go_ret
      exact ⟨retB (by rw [HR.out, Bool.true_and]; simp; omega), Bw⟩
end Go.Proofs.Ytapocenhmdcfoaa
