/- Contracts of isLock, opens, contains, locksCode, of the program and of the reference. -/
import Derived.Test.YtdedajohkdbdkaaGreatDoorFKey
import Derived.Test.YtdedajohkdbdkaaGreatDoorFSets
import Derived.Test.YtdedajohkdbdkaaGreatDoorFTable
import Derived.Test.YtdedajohkdbdkaaGreatDoorMem
namespace Go.Proofs.YtdedajohkdbdkaaGreatDoor
set_option linter.unusedVariables false
open Go.RowKit
/-! ### plain words -/
def setOK (m : Mk) (s : List Int) : Bool := decide (s.length ≠ 0) && isRising m.d s
def lockOK (m : Mk) (l : List (List Int)) : Bool := l.all (setOK m) && decide ((l.length : Int) = m.c)
def isLockF (m : Mk) (l : List (List Int)) : Bool := isMaker m && lockOK m l
def frees (l : List (List Int)) (i : Nat) (d : Int) : Bool := hasI (l.getD i []) d
def opensAt (l : List (List Int)) (xs : List Int) (i : Nat) : Bool := frees l i (xs.getD i 0)
def opensL (l : List (List Int)) (xs : List Int) : Bool := (List.range xs.length).all (opensAt l xs)
/-- is the list one of the lists? -/
def hasL (ls : List (List Int)) (xs : List Int) : Bool := ls.any fun y => y == xs
theorem getD_row {xss : List (List Int)} {k : Nat} (h : k < xss.length) : xss.getD k [] = xss[k] := by simp [List.getD, List.getElem?_eq_getElem h]
theorem opensAt_in {l : List (List Int)} {xs : List Int} {k : Nat} (h : k < l.length) (h2 : k < xs.length) : opensAt l xs k = hasI l[k] xs[k] := by
  unfold opensAt frees; rw [getD_row h]; simp [List.getD, List.getElem?_eq_getElem h2]
theorem lockOK_bad {m : Mk} {l : List (List Int)} {k : Nat} (h : k < l.length) (hp : setOK m l[k] = false) : lockOK m l = false := by
  unfold lockOK; rw [all_false_at _ _ k h hp]; rfl
theorem setOK_0 {m : Mk} {s : List Int} (h : s.length = 0) : setOK m s = false := by simp [setOK, h]
theorem setOK_r {m : Mk} {s : List Int} (h : ¬ s.length = 0) : setOK m s = isRising m.d s := by simp [setOK, h]
theorem hasL_succ (ls : List (List Int)) (xs : List Int) (k : Nat) (h : k < ls.length) (hn : (ls[k] == xs) = false) (h0 : hasL (ls.take k) xs = false) : hasL (ls.take (k + 1)) xs = false := by
  unfold hasL at *; rw [List.take_succ_eq_append_getElem h, List.any_append, h0]; simpa using hn
theorem hasL_at {ls : List (List Int)} {xs : List Int} {k : Nat} (h : k < ls.length) (hn : (ls[k] == xs) = true) : hasL ls xs = true := by
  unfold hasL; rw [List.any_eq_true]; exact ⟨_, List.getElem_mem h, hn⟩
/-! ### the walks -/
set_option maxRecDepth 100000 in
set_option maxHeartbeats 4000000 in
theorem isLock_any (m : Mk) (A : Option Addr) (c : Nat) (l : List (List Int)) (w : World) (h : RII w A l) :
    Calls Tryz.prog 50 #[.agg #[.int .i64 m.c, .int .i64 m.d, .int .i64 m.s, .int .i64 m.a, .int .i64 m.l], .agg #[.slice A l.length c]] w fun e w' => e = .returned (.bool (lockOK m l)) ∧ Below w.heap.size w w' := by
  have B0 := ((Below.refl w.heap.size w).alloc (Nat.le_refl _) (.cells #[.int .i64 m.c, .int .i64 m.d, .int .i64 m.s, .int .i64 m.a, .int .i64 m.l] 25)).alloc (by simp only [World.size_alloc]; omega) (.cells #[.slice A l.length c] 41)
  have hle := h.le
  go_enter Tryz.func50, Tryz.ntmps50
  go_wp2_with fail
  go_loopw [6, 10] (fun _ i wr => ∃ k n : Nat, k ≤ l.length ∧ i = .int .i64 k ∧ wr = ((w.alloc (.cells #[.int .i64 m.c, .int .i64 m.d, .int .i64 m.s, .int .i64 m.a, .int .i64 m.l] 25)).alloc (.cells #[.slice A l.length c] 41)).drewN n ∧ (l.take k).all (setOK m) = true) (fun _ i _ => l.length - (intOf i).toNat)
  case atStart => exact ⟨0, 0, by omega, rfl, rfl, rfl⟩
  case round =>
    obtain ⟨k, n, hk, rfl, rfl, hst⟩ := hrel
    have Hst := Lib.hid hst; clear hst
    by_cases hlt : k < l.length
    · obtain ⟨b, o, A', c', rfl, hc, hcc, hr⟩ := h.at_ hlt
      have hbw : b < w.heap.size := World.block_lt_of_cell? w _ hc
      by_cases h0 : l[k].length = 0
      · have HR := Lib.hid (lockOK_bad (m := m) hlt (setOK_0 h0))
        have t1 : (((l[k].length : Nat) : Int) == 0) = true := by simp [h0]
        have H0 := Lib.hid h0; clear h0
        go_wp2_with fail
        go_ret
        exact ⟨retB HR.out.symm, belowD B0 _⟩
      · have t1 : (((l[k].length : Nat) : Int) == 0) = false := by simp [h0]
        have HS := Lib.hid (setOK_r (m := m) h0)
        have H0 := Lib.hid h0; clear h0
        have E1 := Lib.hid (fun W (hW : Below w.heap.size w W) => implIsRising_any A' c' l[k] m.d W (hr.below hW))
        cases hp : isRising m.d l[k] with
        | false =>
          have HR := Lib.hid (lockOK_bad (m := m) hlt (by rw [HS.out, hp]))
          go_wp2_with (go_at_call 67; refine (E1.out _ (belowD B0 _)).mono ?_; rw [hp]; rintro e w' ⟨rfl, n', rfl⟩)
          go_ret
          exact ⟨retB HR.out.symm, by first | exact belowD B0 _ | exact belowD (belowD B0 _) _⟩
        | true =>
          have HO := Lib.hid (show (l.take (k + 1)).all (setOK m) = true by rw [take_succ_all _ _ _ hlt, Hst.out, HS.out, hp]; rfl)
          go_wp2_with (go_at_call 67; refine (E1.out _ (belowD B0 _)).mono ?_; rw [hp]; rintro e w' ⟨rfl, n', rfl⟩)
          go_roundw
          case rel => exact ⟨k + 1, _, by omega, by go_num, by first | rfl | exact World.drewN_drewN _ _ _, HO.out⟩
          case measure => simp [intOf]; omega
    · obtain rfl : k = l.length := by omega
      have HR := Lib.hid (show lockOK m l = ((l.length : Int) == m.c) by
        have := Hst.out; rw [List.take_length] at this; unfold lockOK; rw [this, Bool.true_and]; rfl)
      go_wp2_with fail
      go_ret
      exact ⟨retB HR.out.symm, belowD B0 _⟩
set_option maxRecDepth 100000 in
set_option maxHeartbeats 2000000 in
theorem opens_any (A : Option Addr) (c : Nat) (l : List (List Int)) (K : Option Addr) (d : Nat) (xs : List Int) (w : World) (h : RII w A l) (g : RI w K xs) (hl : xs.length ≤ l.length) :
    Calls Tryz.prog 33 #[.agg #[.slice A l.length c], .slice K xs.length d] w fun e w' => e = .returned (.bool (opensL l xs)) ∧ Below w.heap.size w w' := by
  have B0 := (Below.refl w.heap.size w).alloc (Nat.le_refl _) (.cells #[.slice A l.length c] 41)
  have hle := g.le
  go_enter Tryz.func33, Tryz.ntmps33
  go_wp2_with fail
  go_loop [5, 6, 9] (fun _ _ i => ∃ k : Nat, k ≤ xs.length ∧ i = .int .i64 k ∧ (List.range k).all (opensAt l xs) = true) (fun _ _ i => xs.length - (intOf i).toNat)
  case atStart => exact ⟨0, by omega, rfl, rfl⟩
  case round =>
    obtain ⟨k, hk, rfl, hst⟩ := hrel
    have Hst := Lib.hid hst; clear hst
    by_cases hlt : k < xs.length
    · have hlt2 : k < l.length := by omega
      obtain ⟨b2, o2, rfl, hc2⟩ := g.at_ hlt
      obtain ⟨b, o, A', c', rfl, hc, hcc, hr⟩ := h.at_ hlt2
      have hbw : b < w.heap.size := World.block_lt_of_cell? w _ hc
      have hbw2 : b2 < w.heap.size := World.block_lt_of_cell? w _ hc2
      have i0 : (0 : Int) ≤ (k : Int) := by omega
      have i1 : (k : Int) < (l.length : Int) := by omega
      have HS := Lib.hid (opensAt_in hlt2 hlt)
      have E1 := Lib.hid (sContains_any A' c' l[k] xs[k] _ (hr.below B0))
      cases hp : hasI l[k] xs[k] with
      | false =>
        have HR := Lib.hid (show opensL l xs = false from rangeAll_bad hlt (by rw [HS.out, hp]))
        go_wp2_with fail
        refine E1.out.mono ?_
        rw [hp]
        rintro e w1 ⟨rfl, rfl⟩
        go_wp2_with fail
        go_ret
        exact ⟨retB HR.out.symm, B0⟩
      | true =>
        have HO := Lib.hid (show (List.range (k + 1)).all (opensAt l xs) = true by rw [rangeAll_next, Hst.out, HS.out, hp]; rfl)
        go_wp2_with fail
        refine E1.out.mono ?_
        rw [hp]
        rintro e w1 ⟨rfl, rfl⟩
        go_wp2_with fail
        go_round
        case rel => exact ⟨k + 1, by omega, by go_num, HO.out⟩
        case measure => simp [intOf]; omega
    · obtain rfl : k = xs.length := by omega
      go_wp2_with fail
      go_ret
      exact ⟨retB (by have := Hst.out; exact this.symm), B0⟩
end Go.Proofs.YtdedajohkdbdkaaGreatDoor

/- Contracts of contains, locksCode, keysCode, allowedCode, of the program and of the reference. -/
namespace Go.Proofs.YtdedajohkdbdkaaGreatDoor
set_option linter.unusedVariables false
open Go.RowKit
/-! ### plain words -/
def areKeysF (m : Mk) (ks : List (List Int)) : Bool := ks.all (isKey m)
def keysC (m : Mk) (ks : List (List Int)) : Int := if isMaker m = true then (if areKeysF m ks = true then 0 else 2) else 1
def lockC (m : Mk) (l : List (List Int)) : Int := if isLockF m l = true then 0 else 1
def allowedC (m : Mk) (l al ks : List (List Int)) : Int := if isLockF m l = true then (if (decide (al.length ≤ 300) && areKeysF m (al ++ ks)) = true then 0 else 2) else 1
theorem areKeys_bad {m : Mk} {ks : List (List Int)} {k : Nat} (h : k < ks.length) (hp : isKey m ks[k] = false) : areKeysF m ks = false := all_false_at _ _ k h hp
theorem isLock_mk {m : Mk} {l : List (List Int)} (h : isLockF m l = true) : isMaker m = true := by unfold isLockF at h; rw [Bool.and_eq_true] at h; exact h.1
theorem isLock_len {m : Mk} {l : List (List Int)} (h : isLockF m l = true) : (l.length : Int) = m.c := by
  unfold isLockF lockOK at h; simp only [Bool.and_eq_true, decide_eq_true_eq] at h; exact h.2.2
theorem isKey_len {m : Mk} {xs : List Int} (h : isKey m xs = true) : (xs.length : Int) = m.c := by
  have := fault_zero_iff.1 (show fault m xs = 0 by simpa [isKey] using h); exact this.1
/-! ### a search among lists with a function -/
set_option maxRecDepth 100000 in
set_option maxHeartbeats 1000000 in
theorem sIndexFuncL_any (k : FuncId) (cap : Array Value) (A : Option Addr) (c : Nat) (ls : List (List Int)) (p : List Int → Bool) (w : World) (h : RII w A ls) (hk : Enters Tryz.prog k)
    (hf : ∀ j (hj : j < ls.length) W A' c', Below w.heap.size w W → ls[j].length ≤ c' → RI W A' ls[j] → Calls Tryz.prog k (#[.slice A' ls[j].length c'] ++ cap) W fun e W' => e = .returned (.bool (p ls[j])) ∧ Below W.heap.size W W') :
    Calls Tryz.prog 77 #[.slice A ls.length c, .func (.func k) #[] cap] w fun e w' => e = .returned (.int .i64 (findP p ls)) ∧ Below w.heap.size w w' := by
  have hle := h.le
  have HF := Lib.hid hf; clear hf
  unfold Enters at hk
  go_enter Tryz.func77, Tryz.ntmps77
  go_wp2_with fail
  go_loopw [5, 8] (fun _ i wr => ∃ j : Nat, j ≤ ls.length ∧ i = .int .i64 j ∧ (∀ i (hi : i < j) (hl : i < ls.length), p ls[i] = false) ∧ Below w.heap.size w wr) (fun _ i _ => ls.length - (intOf i).toNat)
  case atStart => exact ⟨0, by omega, rfl, fun i hi => by omega, Below.refl _ _⟩
  case round =>
    obtain ⟨j, hj, rfl, hn, hb⟩ := hrel
    have HN := Lib.hid hn; clear hn
    by_cases hlt : j < ls.length
    · obtain ⟨b, o, A', c', rfl, hc, hcc, hr⟩ := (h.below hb).at_ hlt
      have HC := Lib.hid (HF.out j hlt wr A' c' hb hcc hr)
      cases hp : p ls[j] with
      | true =>
        have HR := Lib.hid (findP_hit hlt hp (fun i hi => HN.out i hi (by omega)))
        rw [hp] at HC
        clear hp
        go_wp2_with fail
        refine HC.out.mono ?_
        rintro e w1 ⟨rfl, b1⟩
        go_wp2_with fail
        go_ret
        exact ⟨retI HR.out.symm, hb.trans (b1.mono hb.size)⟩
      | false =>
        rw [hp] at HC
        have HP := Lib.hid hp; clear hp
        go_wp2_with fail
        refine HC.out.mono ?_
        rintro e w1 ⟨rfl, b1⟩
        go_wp2_with fail
        go_roundw
        case rel => exact ⟨j + 1, by omega, by go_num, fun i hi hl => by
          by_cases e : i = j
          · subst e; exact HP.out
          · exact HN.out i (by omega) hl, hb.trans (b1.mono hb.size)⟩
        case measure => simp [intOf]; omega
    · obtain rfl : j = ls.length := by omega
      have HR := Lib.hid (findP_none (p := p) (fun i hi => HN.out i hi hi))
      go_wp2_with fail
      go_ret
      exact ⟨retI HR.out.symm, hb⟩
set_option maxHeartbeats 1000000 in
theorem sContainsFuncL_any (k : FuncId) (cap : Array Value) (A : Option Addr) (c : Nat) (ls : List (List Int)) (p : List Int → Bool) (w : World) (h : RII w A ls) (hk : Enters Tryz.prog k)
    (hf : ∀ j (hj : j < ls.length) W A' c', Below w.heap.size w W → ls[j].length ≤ c' → RI W A' ls[j] → Calls Tryz.prog k (#[.slice A' ls[j].length c'] ++ cap) W fun e W' => e = .returned (.bool (p ls[j])) ∧ Below W.heap.size W W') :
    Calls Tryz.prog 57 #[.slice A ls.length c, .func (.func k) #[] cap] w fun e w' => e = .returned (.bool (ls.any p)) ∧ Below w.heap.size w w' := by
  have HR := Lib.hid (findP_any p ls)
  have HC := Lib.hid (sIndexFuncL_any k cap A c ls p w h hk hf); clear hf
  go_enter Tryz.func57, Tryz.ntmps57
  go_wp2_with fail
  refine HC.out.mono ?_
  rintro e w1 ⟨rfl, b1⟩
  go_wp2_with fail
  go_ret
  exact ⟨retB (by rw [← HR.out]), b1⟩
/-! ### codes -/
set_option maxRecDepth 100000 in
set_option maxHeartbeats 2000000 in
theorem locksCode1_any (m : Mk) (g : Nat) (A : Option Addr) (c : Nat) (l : List (List Int)) (w : World) (h : RII w A l) (hS : w.cell? ⟨g, 0, none⟩ = some (.slice A l.length c)) :
    Calls Tryz.prog 31 #[.agg #[.int .i64 m.c, .int .i64 m.d, .int .i64 m.s, .int .i64 m.a, .int .i64 m.l], .slice (some ⟨g, 0, none⟩) 1 1] w fun e w' => e = .returned (.int .i64 (lockC m l)) ∧ Below w.heap.size w w' := by
  have B0 := (Below.refl w.heap.size w).alloc (Nat.le_refl _) (.cells #[.int .i64 m.c, .int .i64 m.d, .int .i64 m.s, .int .i64 m.a, .int .i64 m.l] 25)
  have hg := World.block_lt_of_cell? w _ hS
  simp only at hg
  cases h1 : isMaker m with
  | false =>
    have HR := Lib.hid (show lockC m l = 1 by simp [lockC, isLockF, h1])
    go_enter Tryz.func31, Tryz.ntmps31
    go_wp2_with fail
    refine (implIsMaker_any m _).mono ?_
    rw [h1]
    rintro e w1 ⟨rfl, b1⟩
    go_wp2_with fail
    go_ret
    exact ⟨retI HR.out.symm, B0.trans (b1.mono B0.size)⟩
  | true =>
    go_enter Tryz.func31, Tryz.ntmps31
    go_wp2_with fail
    refine (implIsMaker_any m _).mono ?_
    rw [h1]
    rintro e w1 ⟨rfl, b1⟩
    have C := (bcell b1).1
    have B1 := B0.trans (b1.mono B0.size)
    have s0 : w.heap.size < w1.heap.size := by have := b1.size; simp only [World.size_alloc] at this; omega
    go_wp2_with fail
    go_loopw [6, 12] (fun _ i wr => (i = .int .i64 0 ∨ (i = .int .i64 1 ∧ lockOK m l = true)) ∧ Below w1.heap.size w1 wr) (fun _ i _ => 1 - (intOf i).toNat)
    case atStart => exact ⟨.inl rfl, Below.refl _ _⟩
    case round =>
      obtain ⟨hi, hb⟩ := hrel
      have Cr := (bcell hb).1
      have Brr := B1.trans (hb.mono B1.size)
      have hsz := hb.size
      rcases hi with rfl | ⟨rfl, hok⟩
      · have HI := Lib.hid (fun W (hW : Below w.heap.size w W) => isLock_any m A c l W (h.below hW))
        have hSr := (Brr.cell (p := ⟨g, 0, none⟩) hg).trans hS
        have s1 : w.heap.size < wr.heap.size := by omega
        have s2 : g < wr.heap.size := by omega
        cases hp : lockOK m l with
        | true =>
          go_wp2_with fail
          refine (HI.out _ (Brr.alloc (by omega) _)).mono ?_
          rw [hp]
          rintro e w2 ⟨rfl, b2⟩
          go_wp2_with fail
          go_roundw
          case rel => exact ⟨.inr ⟨by go_num, by first | exact hp | trivial⟩, (hb.alloc (by omega) _).trans (b2.mono (by simp; omega))⟩
          case measure => simp [intOf]
        | false =>
          have HR := Lib.hid (show lockC m l = 1 by simp [lockC, isLockF, hp])
          go_wp2_with fail
          refine (HI.out _ (Brr.alloc (by omega) _)).mono ?_
          rw [hp]
          rintro e w2 ⟨rfl, b2⟩
          go_wp2_with fail
          go_ret
          exact ⟨retI HR.out.symm, (Brr.alloc (by omega) _).trans (b2.mono (by simp; omega))⟩
      · have HR := Lib.hid (show lockC m l = 0 by simp [lockC, isLockF, hok, h1])
        go_wp2_with fail
        go_ret
        exact ⟨retI HR.out.symm, Brr⟩
set_option maxRecDepth 100000 in
set_option maxHeartbeats 4000000 in
theorem l04Keys_any (m : Mk) (A : Option Addr) (c : Nat) (ks : List (List Int)) (w : World) (h : RII w A ks) (hm : isMaker m = true) :
    Calls Tryz.prog 61 #[.agg #[.int .i64 m.c, .int .i64 m.d, .int .i64 m.s, .int .i64 m.a, .int .i64 m.l], .slice A ks.length c] w fun e w' => e = .returned (.bool (areKeysF m ks && decide (ks.length ≤ 300))) ∧ Below w.heap.size w w' := by
  have B0 := (Below.refl w.heap.size w).alloc (Nat.le_refl _) (.cells #[.int .i64 m.c, .int .i64 m.d, .int .i64 m.s, .int .i64 m.a, .int .i64 m.l] 25)
  have bx : BoxC (w.alloc (.cells #[.int .i64 m.c, .int .i64 m.d, .int .i64 m.s, .int .i64 m.a, .int .i64 m.l] 25)) w.heap.size 0 [.int .i64 m.c, .int .i64 m.d, .int .i64 m.s, .int .i64 m.a, .int .i64 m.l] := by simp [BoxC, Go.World.cell?_alloc_at]
  have hle := h.le
  go_enter Tryz.func61, Tryz.ntmps61
  go_wp2_with fail
  go_loopw [5] (fun i wr => ∃ k : Nat, k ≤ ks.length ∧ i = .int .i64 k ∧ (ks.take k).all (isKey m) = true ∧ Below (w.alloc (.cells #[.int .i64 m.c, .int .i64 m.d, .int .i64 m.s, .int .i64 m.a, .int .i64 m.l] 25)).heap.size (w.alloc (.cells #[.int .i64 m.c, .int .i64 m.d, .int .i64 m.s, .int .i64 m.a, .int .i64 m.l] 25)) wr) (fun i _ => ks.length - (intOf i).toNat)
  case atStart => exact ⟨0, by omega, rfl, rfl, Below.refl _ _⟩
  case round =>
    obtain ⟨k, hk, rfl, hall, hb⟩ := hrel
    have HA := Lib.hid hall; clear hall
    have Bw := B0.trans (hb.mono B0.size)
    by_cases hlt : k < ks.length
    · obtain ⟨b, o, A', c', rfl, hc, hcc, hr⟩ := (h.below Bw).at_ hlt
      have i0 : (0 : Int) ≤ (k : Int) := by omega
      have i1 : (k : Int) < (ks.length : Int) := by omega
      have KS := Lib.hid (show ∀ w' : World, Below wr.heap.size wr w' → ((w'.cell? ⟨w.heap.size, 0, none⟩ = some (.int .i64 m.c) ∧ w'.cell? ⟨w.heap.size, 1, none⟩ = some (.int .i64 m.d) ∧ w'.cell? ⟨w.heap.size, 2, none⟩ = some (.int .i64 m.s) ∧ w'.cell? ⟨w.heap.size, 3, none⟩ = some (.int .i64 m.a) ∧ w'.cell? ⟨w.heap.size, 4, none⟩ = some (.int .i64 m.l) ∧ True) ∧ w'.cell? ⟨b, o + k, none⟩ = some (.slice A' ks[k].length c')) from fun w' hb' => ⟨(bx.below hb).below hb', (hb'.cell (World.block_lt_of_cell? wr _ hc)).trans hc⟩)
      have E5 := Lib.hid (fun W (hW : Below wr.heap.size wr W) => l02Fault_any m A' c' ks[k] W (hr.below hW) hcc hm)
      cases hp : isKey m ks[k] with
      | true =>
        have HO := Lib.hid (show (ks.take (k + 1)).all (isKey m) = true by rw [take_succ_all _ _ _ hlt, HA.out, hp]; rfl)
        have hz : (fault m ks[k] != 0) = false := by unfold isKey at hp; simpa using hp
        have HP := Lib.hid hp; clear hp
        go_wp2_with fail
        go_region_held3 (fun w' => (w'.cell? ⟨w.heap.size, 0, none⟩ = some (.int .i64 m.c) ∧ w'.cell? ⟨w.heap.size, 1, none⟩ = some (.int .i64 m.d) ∧ w'.cell? ⟨w.heap.size, 2, none⟩ = some (.int .i64 m.s) ∧ w'.cell? ⟨w.heap.size, 3, none⟩ = some (.int .i64 m.a) ∧ w'.cell? ⟨w.heap.size, 4, none⟩ = some (.int .i64 m.l) ∧ True) ∧ w'.cell? ⟨b, o + k, none⟩ = some (.slice A' ks[k].length c')) (first | (refine KS.out _ ?_; first | assumption | exact belowDrew0 _))
          (first | (go_at_call 80; refine (E5.out _ (belowDrew0 _)).mono ?_; rintro e w2 ⟨rfl, b2⟩; have b2 := belowDrew b2))
        go_wp2_with fail
        go_roundw
        case rel => exact ⟨k + 1, by omega, by go_num, HO.out, hb.trans (b2.mono hb.size)⟩
        case measure => simp [intOf]; omega
      | false =>
        have HR := Lib.hid (show areKeysF m ks = false from areKeys_bad hlt hp)
        have hz : (fault m ks[k] != 0) = true := by unfold isKey at hp; simpa using hp
        have HP := Lib.hid hp; clear hp
        go_wp2_with fail
        go_region_held3 (fun w' => (w'.cell? ⟨w.heap.size, 0, none⟩ = some (.int .i64 m.c) ∧ w'.cell? ⟨w.heap.size, 1, none⟩ = some (.int .i64 m.d) ∧ w'.cell? ⟨w.heap.size, 2, none⟩ = some (.int .i64 m.s) ∧ w'.cell? ⟨w.heap.size, 3, none⟩ = some (.int .i64 m.a) ∧ w'.cell? ⟨w.heap.size, 4, none⟩ = some (.int .i64 m.l) ∧ True) ∧ w'.cell? ⟨b, o + k, none⟩ = some (.slice A' ks[k].length c')) (first | (refine KS.out _ ?_; first | assumption | exact belowDrew0 _))
          (first | (go_at_call 80; refine (E5.out _ (belowDrew0 _)).mono ?_; rintro e w2 ⟨rfl, b2⟩; have b2 := belowDrew b2))
        go_wp2_with fail
        go_ret
        exact ⟨retB (by rw [HR.out]; rfl), Bw.trans (b2.mono Bw.size)⟩
    · obtain rfl : k = ks.length := by omega
      have HR := Lib.hid (show areKeysF m ks = true by have := HA.out; rwa [List.take_length] at this)
      go_wp2_with fail
      go_ret
      exact ⟨retB (by rw [HR.out, Bool.true_and]; simp; omega), Bw⟩
end Go.Proofs.YtdedajohkdbdkaaGreatDoor

/- Contracts of areKeys, cutsCode, l15Cuts, l15Code, l02Code. -/
namespace Go.Proofs.YtdedajohkdbdkaaGreatDoor
set_option linter.unusedVariables false
open Go.RowKit
def cutsC (m : Mk) (t cuts : List (List Int)) : Int := if isSystem m t = true then (if (decide (cuts.length = t.length) && areKeysF m cuts) = true then 0 else 2) else 1
theorem sys_facts {m : Mk} {t : List (List Int)} (h : isSystem m t = true) : isMaker m = true ∧ 0 < t.length ∧ t.length ≤ 10 := by
  unfold isSystem at h; rw [Bool.and_eq_true, Bool.and_eq_true] at h
  have := isTable_get h.1.2
  exact ⟨h.1.1, by have := this.1; omega, this.2.1⟩
theorem cutsC_0 {m : Mk} {t cuts : List (List Int)} (h : cutsC m t cuts = 0) : isSystem m t = true ∧ cuts.length = t.length ∧ areKeysF m cuts = true := by
  unfold cutsC at h
  split at h
  · rename_i h1
    split at h
    · rename_i h2; rw [Bool.and_eq_true, decide_eq_true_eq] at h2; exact ⟨h1, h2.1, h2.2⟩
    · cases h
  · cases h
theorem not_any_not (m : Mk) : ∀ ks : List (List Int), (!(ks.any fun k => !isKey m k)) = areKeysF m ks
  | [] => rfl
  | k :: r => by
    have := not_any_not m r
    unfold areKeysF at *
    rw [List.any_cons, List.all_cons, ← this]
    cases isKey m k <;> simp
set_option maxHeartbeats 1000000 in
theorem areKeysClo_any (m : Mk) (g : Nat) (A : Option Addr) (c : Nat) (xs : List Int) (w : World) (h : RI w A xs) (hcap : xs.length ≤ c) (hm : isMaker m = true) (hb : BoxC w g 0 [.int .i64 m.c, .int .i64 m.d, .int .i64 m.s, .int .i64 m.a, .int .i64 m.l]) :
    Calls Tryz.prog 58 #[.slice A xs.length c, .pointer (some ⟨g, 0, none⟩)] w fun e w' => e = .returned (.bool (!isKey m xs)) ∧ Below w.heap.size w w' := by
  obtain ⟨q0, q1, q2, q3, q4, _⟩ := hb
  have HK := Lib.hid (isKey_any m A c xs w h hcap hm)
  go_enter Tryz.func58, Tryz.ntmps58
  go_wp2_with fail
  refine HK.out.mono ?_
  rintro e w1 ⟨rfl, b1⟩
  go_wp2_with fail
  go_ret
  exact ⟨rfl, b1⟩
set_option maxHeartbeats 1000000 in
theorem areKeys_any (m : Mk) (A : Option Addr) (c : Nat) (ks : List (List Int)) (w : World) (h : RII w A ks) (hm : isMaker m = true) :
    Calls Tryz.prog 40 #[.agg #[.int .i64 m.c, .int .i64 m.d, .int .i64 m.s, .int .i64 m.a, .int .i64 m.l], .slice A ks.length c] w fun e w' => e = .returned (.bool (areKeysF m ks)) ∧ Below w.heap.size w w' := by
  have B0 := (Below.refl w.heap.size w).alloc (Nat.le_refl _) (.cells #[.int .i64 m.c, .int .i64 m.d, .int .i64 m.s, .int .i64 m.a, .int .i64 m.l] 25)
  have bm : BoxC (w.alloc (.cells #[.int .i64 m.c, .int .i64 m.d, .int .i64 m.s, .int .i64 m.a, .int .i64 m.l] 25)) w.heap.size 0 [.int .i64 m.c, .int .i64 m.d, .int .i64 m.s, .int .i64 m.a, .int .i64 m.l] := by simp [BoxC, Go.World.cell?_alloc_at]
  have HC := Lib.hid (sContainsFuncL_any 58 #[.pointer (some ⟨w.heap.size, 0, none⟩)] A c ks (fun k => !isKey m k) (w.alloc (.cells #[.int .i64 m.c, .int .i64 m.d, .int .i64 m.s, .int .i64 m.a, .int .i64 m.l] 25)) (h.below B0) (enters Tryz.func58 (by kernel_rfl) rfl)
    (fun j hj W A' c' hW hcc hr => areKeysClo_any m w.heap.size A' c' ks[j] W hr hcc hm (bm.below hW)))
  have HN := Lib.hid (not_any_not m ks)
  clear bm
  go_enter Tryz.func40, Tryz.ntmps40
  go_wp2_with fail
  refine HC.out.mono ?_
  rintro e w1 ⟨rfl, b1⟩
  go_wp2_with fail
  go_ret
  exact ⟨retB HN.out, B0.trans (b1.mono B0.size)⟩
set_option maxRecDepth 100000 in
set_option maxHeartbeats 2000000 in
theorem cutsCode_any (m : Mk) (A : Option Addr) (c : Nat) (t : List (List Int)) (B : Option Addr) (d : Nat) (cuts : List (List Int)) (w : World) (h : RII w A t) (g : RII w B cuts) :
    Calls Tryz.prog 18 #[.agg #[.int .i64 m.c, .int .i64 m.d, .int .i64 m.s, .int .i64 m.a, .int .i64 m.l, .slice A t.length c], .slice B cuts.length d] w fun e w' => e = .returned (.int .i64 (cutsC m t cuts)) ∧ Below w.heap.size w w' := by
  have B0 := (Below.refl w.heap.size w).alloc (Nat.le_refl _) (.cells #[.int .i64 m.c, .int .i64 m.d, .int .i64 m.s, .int .i64 m.a, .int .i64 m.l, .slice A t.length c] 28)
  have bx : BoxC (w.alloc (.cells #[.int .i64 m.c, .int .i64 m.d, .int .i64 m.s, .int .i64 m.a, .int .i64 m.l, .slice A t.length c] 28)) w.heap.size 0 [.int .i64 m.c, .int .i64 m.d, .int .i64 m.s, .int .i64 m.a, .int .i64 m.l, .slice A t.length c] := by simp [BoxC, Go.World.cell?_alloc_at]
  have HS := implIsSystem_any m A c t (w.alloc (.cells #[.int .i64 m.c, .int .i64 m.d, .int .i64 m.s, .int .i64 m.a, .int .i64 m.l, .slice A t.length c] 28)) (h.below B0)
  have hle := g.le
  have hle2 := h.le
  cases h1 : isSystem m t with
  | false =>
    have HR := Lib.hid (show cutsC m t cuts = 1 by simp [cutsC, h1])
    rw [h1] at HS
    have HSS := Lib.hid HS; clear HS
    go_enter Tryz.func18, Tryz.ntmps18
    go_wp2_with fail
    refine HSS.out.mono ?_
    rintro e w1 ⟨rfl, b1⟩
    go_wp2_with fail
    go_ret
    exact ⟨retI HR.out.symm, B0.trans (b1.mono B0.size)⟩
  | true =>
  rw [h1] at HS
  have HSS := Lib.hid HS; clear HS
  have HF := Lib.hid (sys_facts h1)
  have H1 := Lib.hid h1; clear h1
  by_cases h2 : cuts.length = t.length
  · have hne : ((cuts.length : Int) != (t.length : Int)) = false := by simp [h2]
    have HL := Lib.hid h2; clear h2
    have HAK := fun W hW => areKeys_any m B d cuts W (g.below hW) HF.out.1
    cases h3 : areKeysF m cuts with
    | true =>
      have HR := Lib.hid (show cutsC m t cuts = 0 by unfold cutsC; rw [if_pos H1.out, if_pos (by rw [h3]; simpa using HL.out)])
      rw [h3] at HAK
      have HA := Lib.hid HAK; clear HAK h3
      go_enter Tryz.func18, Tryz.ntmps18
      go_wp2_with fail
      refine HSS.out.mono ?_
      rintro e w1 ⟨rfl, b1⟩
      have B1 := B0.trans (b1.mono B0.size)
      obtain ⟨q0, q1, q2, q3, q4, q5, _⟩ := bx.below b1
      go_wp2_with fail
      refine (HA.out _ B1).mono ?_
      rintro e w2 ⟨rfl, b2⟩
      go_wp2_with fail
      go_ret
      exact ⟨retI HR.out.symm, B1.trans (b2.mono B1.size)⟩
    | false =>
      have HR := Lib.hid (show cutsC m t cuts = 2 by unfold cutsC; rw [if_pos H1.out, if_neg (by rw [h3]; simp)])
      rw [h3] at HAK
      have HA := Lib.hid HAK; clear HAK h3
      go_enter Tryz.func18, Tryz.ntmps18
      go_wp2_with fail
      refine HSS.out.mono ?_
      rintro e w1 ⟨rfl, b1⟩
      have B1 := B0.trans (b1.mono B0.size)
      obtain ⟨q0, q1, q2, q3, q4, q5, _⟩ := bx.below b1
      go_wp2_with fail
      refine (HA.out _ B1).mono ?_
      rintro e w2 ⟨rfl, b2⟩
      go_wp2_with fail
      go_ret
      exact ⟨retI HR.out.symm, B1.trans (b2.mono B1.size)⟩
  · have hne : ((cuts.length : Int) != (t.length : Int)) = true := by simp; omega
    have HR := Lib.hid (show cutsC m t cuts = 2 by unfold cutsC; rw [if_pos H1.out, if_neg (by simp [h2])])
    have HL := Lib.hid h2; clear h2
    go_enter Tryz.func18, Tryz.ntmps18
    go_wp2_with fail
    refine HSS.out.mono ?_
    rintro e w1 ⟨rfl, b1⟩
    obtain ⟨q0, q1, q2, q3, q4, q5, _⟩ := bx.below b1
    go_wp2_with fail
    go_ret
    exact ⟨retI HR.out.symm, B0.trans (b1.mono B0.size)⟩
set_option maxRecDepth 100000 in
set_option maxHeartbeats 2000000 in
theorem l15Cuts_any (m : Mk) (A : Option Addr) (c : Nat) (t : List (List Int)) (B : Option Addr) (d : Nat) (cuts : List (List Int)) (w : World) (h : RII w A t) (g : RII w B cuts) (hm : isMaker m = true) (ht : t.length ≤ 300) :
    Calls Tryz.prog 42 #[.agg #[.int .i64 m.c, .int .i64 m.d, .int .i64 m.s, .int .i64 m.a, .int .i64 m.l, .slice A t.length c], .slice B cuts.length d] w fun e w' => e = .returned (.bool (decide (cuts.length = t.length) && areKeysF m cuts)) ∧ Below w.heap.size w w' := by
  have B0 := (Below.refl w.heap.size w).alloc (Nat.le_refl _) (.cells #[.int .i64 m.c, .int .i64 m.d, .int .i64 m.s, .int .i64 m.a, .int .i64 m.l, .slice A t.length c] 28)
  have hle := g.le
  have hle2 := h.le
  by_cases h2 : cuts.length = t.length
  · have hne : ((cuts.length : Int) == (t.length : Int)) = true := by simp [h2]
    have HK := l04Keys_any m B d cuts (w.alloc (.cells #[.int .i64 m.c, .int .i64 m.d, .int .i64 m.s, .int .i64 m.a, .int .i64 m.l, .slice A t.length c] 28)) (g.below B0) hm
    rw [show decide (cuts.length ≤ 300) = true from decide_eq_true (by omega), Bool.and_true] at HK
    have HR := Lib.hid (show (decide (cuts.length = t.length) && areKeysF m cuts) = areKeysF m cuts by rw [decide_eq_true h2]; rfl)
    have HKK := Lib.hid HK
    have HL := Lib.hid h2; clear h2 HK
    go_enter Tryz.func42, Tryz.ntmps42
    go_wp2_with fail
    refine HKK.out.mono ?_
    rintro e w1 ⟨rfl, b1⟩
    go_wp2_with fail
    go_ret
    exact ⟨retB HR.out.symm, B0.trans (b1.mono B0.size)⟩
  · have hne : ((cuts.length : Int) == (t.length : Int)) = false := by simp; omega
    have HR := Lib.hid (show (decide (cuts.length = t.length) && areKeysF m cuts) = false by rw [decide_eq_false h2]; rfl)
    have HL := Lib.hid h2; clear h2
    go_enter Tryz.func42, Tryz.ntmps42
    go_wp2_with fail
    go_ret
    exact ⟨retB HR.out.symm, B0⟩
set_option maxRecDepth 100000 in
set_option maxHeartbeats 2000000 in
theorem l15Code_any (m : Mk) (A : Option Addr) (c : Nat) (t : List (List Int)) (B : Option Addr) (d : Nat) (cuts : List (List Int)) (w : World) (h : RII w A t) (g : RII w B cuts) :
    Calls Tryz.prog 20 #[.agg #[.int .i64 m.c, .int .i64 m.d, .int .i64 m.s, .int .i64 m.a, .int .i64 m.l, .slice A t.length c], .slice B cuts.length d] w fun e w' => e = .returned (.int .i64 (cutsC m t cuts)) ∧ Below w.heap.size w w' := by
  have B0 := (Below.refl w.heap.size w).alloc (Nat.le_refl _) (.cells #[.int .i64 m.c, .int .i64 m.d, .int .i64 m.s, .int .i64 m.a, .int .i64 m.l, .slice A t.length c] 28)
  have bx : BoxC (w.alloc (.cells #[.int .i64 m.c, .int .i64 m.d, .int .i64 m.s, .int .i64 m.a, .int .i64 m.l, .slice A t.length c] 28)) w.heap.size 0 [.int .i64 m.c, .int .i64 m.d, .int .i64 m.s, .int .i64 m.a, .int .i64 m.l, .slice A t.length c] := by simp [BoxC, Go.World.cell?_alloc_at]
  have HS := specIsSystem_any m A c t (w.alloc (.cells #[.int .i64 m.c, .int .i64 m.d, .int .i64 m.s, .int .i64 m.a, .int .i64 m.l, .slice A t.length c] 28)) (h.below B0)
  have hle := g.le
  have hle2 := h.le
  cases h1 : isSystem m t with
  | false =>
    have HR := Lib.hid (show cutsC m t cuts = 1 by simp [cutsC, h1])
    rw [h1] at HS
    have HSS := Lib.hid HS; clear HS
    go_enter Tryz.func20, Tryz.ntmps20
    go_wp2_with fail
    refine HSS.out.mono ?_
    rintro e w1 ⟨rfl, b1⟩
    go_wp2_with fail
    go_ret
    exact ⟨retI HR.out.symm, B0.trans (b1.mono B0.size)⟩
  | true =>
  rw [h1] at HS
  have HSS := Lib.hid HS; clear HS
  have HF := Lib.hid (sys_facts h1)
  have H1 := Lib.hid h1; clear h1
  have HAK := fun W hW => l15Cuts_any m A c t B d cuts W (h.below hW) (g.below hW) HF.out.1 (by have := HF.out.2.2; omega)
  cases h3 : (decide (cuts.length = t.length) && areKeysF m cuts) with
  | true =>
    have HR := Lib.hid (show cutsC m t cuts = 0 by unfold cutsC; rw [if_pos H1.out, h3]; rfl)
    rw [h3] at HAK
    have HA := Lib.hid HAK; clear HAK h3
    go_enter Tryz.func20, Tryz.ntmps20
    go_wp2_with fail
    refine HSS.out.mono ?_
    rintro e w1 ⟨rfl, b1⟩
    have B1 := B0.trans (b1.mono B0.size)
    obtain ⟨q0, q1, q2, q3, q4, q5, _⟩ := bx.below b1
    go_wp2_with fail
    refine (HA.out _ B1).mono ?_
    rintro e w2 ⟨rfl, b2⟩
    go_wp2_with fail
    go_ret
    exact ⟨retI HR.out.symm, B1.trans (b2.mono B1.size)⟩
  | false =>
    have HR := Lib.hid (show cutsC m t cuts = 2 by unfold cutsC; rw [if_pos H1.out, h3]; rfl)
    rw [h3] at HAK
    have HA := Lib.hid HAK; clear HAK h3
    go_enter Tryz.func20, Tryz.ntmps20
    go_wp2_with fail
    refine HSS.out.mono ?_
    rintro e w1 ⟨rfl, b1⟩
    have B1 := B0.trans (b1.mono B0.size)
    obtain ⟨q0, q1, q2, q3, q4, q5, _⟩ := bx.below b1
    go_wp2_with fail
    refine (HA.out _ B1).mono ?_
    rintro e w2 ⟨rfl, b2⟩
    go_wp2_with fail
    go_ret
    exact ⟨retI HR.out.symm, B1.trans (b2.mono B1.size)⟩
end Go.Proofs.YtdedajohkdbdkaaGreatDoor
