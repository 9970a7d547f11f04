/- Contracts of the small functions on numbers and lists of numbers, of the program and of the reference. No condition but that the lists are readable. -/
import Derived.Test.YtapocenhmdcfoaaRows
import Derived.Test.YtapocenhmdcfoaaMem
namespace Go.Proofs.Ytapocenhmdcfoaa
set_option linter.unusedVariables false
open Go.RowKit

/-! ### plain words -/
def inB (a b c : Int) : Bool := decide (b ≤ a ∧ a ≤ c)
def allW (lo hi : Int) (xs : List Int) : Bool := xs.all fun x => inB x lo hi
/-- does the list hold the number? (a plain word: the walk's simp does not open it) -/
def hasI (xs : List Int) (x : Int) : Bool := xs.contains x
theorem hasI_iff {xs : List Int} {x : Int} : hasI xs x = true ↔ x ∈ xs := by simp [hasI]
theorem hasI_not {xs : List Int} {x : Int} : hasI xs x = false ↔ x ∉ xs := by rw [← hasI_iff, Bool.not_eq_true]
def sumI (xs : List Int) : Int := xs.foldl (fun a x => wrap64 (a + x)) 0
theorem take_succ_all {α : Type} (p : α → Bool) (xs : List α) (k : Nat) (h : k < xs.length) : (xs.take (k + 1)).all p = ((xs.take k).all p && p xs[k]) := by
  rw [List.take_succ_eq_append_getElem h]; simp only [List.all_append, List.all_cons, List.all_nil, Bool.and_true]
theorem all_false_at {α : Type} (p : α → Bool) (xs : List α) (k : Nat) (h : k < xs.length) (hp : p xs[k] = false) : xs.all p = false := by
  rw [Bool.eq_false_iff]; intro ha; rw [List.all_eq_true] at ha; have := ha _ (List.getElem_mem h); rw [hp] at this; cases this

set_option maxHeartbeats 400000 in
theorem within_any (a b c : Int) (w : World) :
    Calls Try.prog 88 #[.int .i64 a, .int .i64 b, .int .i64 c] w fun e w' => e = .returned (.bool (inB a b c)) ∧ w = w' := by
  by_cases h1 : b ≤ a
  · by_cases h2 : a ≤ c
    · go_enter Try.func88, Try.ntmps88
      go_wp2
      go_ret
      simp [inB, h1, h2]
    · go_enter Try.func88, Try.ntmps88
      go_wp2
      go_ret
      simp [inB, h1]; omega
  · go_enter Try.func88, Try.ntmps88
    go_wp2
    go_ret
    simp [inB]; omega
set_option maxHeartbeats 400000 in
theorem l01In_any (a b c : Int) (w : World) :
    Calls Try.prog 98 #[.int .i64 a, .int .i64 b, .int .i64 c] w fun e w' => e = .returned (.bool (inB a b c)) ∧ w = w' := by
  by_cases h1 : b ≤ a
  · by_cases h2 : a ≤ c
    · go_enter Try.func98, Try.ntmps98
      go_wp2
      go_ret
      simp [inB, h1, h2]
    · go_enter Try.func98, Try.ntmps98
      go_wp2
      go_ret
      simp [inB, h1]; omega
  · go_enter Try.func98, Try.ntmps98
    go_wp2
    go_ret
    simp [inB]; omega
set_option maxHeartbeats 400000 in
theorem allWithin_any (A : Option Addr) (c : Nat) (xs : List Int) (lo hi : Int) (w : World) (h : RI w A xs) :
    Calls Try.prog 121 #[.slice A xs.length c, .int .i64 lo, .int .i64 hi] w fun e w' => e = .returned (.bool (allW lo hi xs)) ∧ w = w' := by
  have hle := h.le
  go_enter Try.func121, Try.ntmps121
  go_wp2
  go_loop [11] (fun i => ∃ k : Nat, k ≤ xs.length ∧ i = .int .i64 k ∧ allW lo hi (xs.take k) = true) (fun i => xs.length - (intOf i).toNat)
  case atStart => exact ⟨0, by omega, rfl, rfl⟩
  case round =>
    obtain ⟨k, hk, rfl, hrel⟩ := hrel
    have Hrel := Lib.hid hrel; clear hrel
    by_cases hlt : k < xs.length
    · obtain ⟨b, o, rfl, hc⟩ := h.at_ hlt
      cases hp : inB xs[k] lo hi with
      | true =>
        go_wp2_with (go_at_call 88; refine (within_any _ _ _ _).mono ?_; rintro e w' ⟨rfl, rfl⟩)
        go_round
        case rel => exact ⟨k + 1, by omega, by go_num, by unfold allW at *; rw [take_succ_all _ _ _ hlt, Hrel.out, hp]; rfl⟩
        case measure => simp [intOf]; omega
      | false =>
        have hf := Lib.hid (all_false_at (fun x => inB x lo hi) xs k hlt hp)
        go_wp2_with (go_at_call 88; refine (within_any _ _ _ _).mono ?_; rintro e w' ⟨rfl, rfl⟩)
        go_ret
        exact ⟨retB hf.out.symm, rfl⟩
    · obtain rfl : k = xs.length := by omega
      go_wp2
      go_ret
      exact ⟨retB (by have := Hrel.out; rw [List.take_length] at this; exact this.symm), rfl⟩
set_option maxHeartbeats 400000 in
theorem l01Has_any (A : Option Addr) (c : Nat) (xs : List Int) (x : Int) (w : World) (h : RI w A xs) :
    Calls Try.prog 149 #[.slice A xs.length c, .int .i64 x] w fun e w' => e = .returned (.bool (hasI xs x)) ∧ w = w' := by
  have hle := h.le
  go_enter Try.func149, Try.ntmps149
  go_wp2
  go_loop [5] (fun i => ∃ k : Nat, k ≤ xs.length ∧ i = .int .i64 k ∧ x ∉ xs.take k) (fun i => xs.length - (intOf i).toNat)
  case atStart => exact ⟨0, by omega, rfl, by simp⟩
  case round =>
    obtain ⟨k, hk, rfl, hrel⟩ := hrel
    have Hrel := Lib.hid hrel; clear hrel
    by_cases hlt : k < xs.length
    · obtain ⟨b, o, rfl, hc⟩ := h.at_ hlt
      cases hp : (xs[k] == x) with
      | true =>
        go_wp2
        go_ret
        refine ⟨?_, rfl⟩
        have : x ∈ xs := by rw [← beq_iff_eq.1 hp]; exact List.getElem_mem hlt
        exact retB (hasI_iff.2 this).symm
      | false =>
        go_wp2
        go_round
        case rel => exact ⟨k + 1, by omega, by go_num, by
          have h1 := beq_eq_false_iff_ne.1 hp
          rw [List.take_succ_eq_append_getElem hlt, List.mem_append, List.mem_singleton]; exact fun h => h.elim Hrel.out fun h => h1 h.symm⟩
        case measure => simp [intOf]; omega
    · obtain rfl : k = xs.length := by omega
      have H2 : x ∉ xs := by have := Hrel.out; rwa [List.take_length] at this
      go_wp2
      go_ret
      exact ⟨retB (hasI_not.2 H2).symm, rfl⟩
set_option maxHeartbeats 400000 in
theorem l01Same_any (A B : Option Addr) (c d : Nat) (xs ys : List Int) (w : World) (h : RI w A xs) (g : RI w B ys) :
    Calls Try.prog 120 #[.slice A xs.length c, .slice B ys.length d] w fun e w' => e = .returned (.bool (xs == ys)) ∧ ∃ n, w' = w.drewN n := by
  have hle := h.le
  by_cases hlen : xs.length = ys.length
  · have hnb : (((xs.length : Nat) : Int) != ((ys.length : Nat) : Int)) = false := by simp [hlen]
    have HL := Lib.hid hlen; clear hlen
    go_enter Try.func120, Try.ntmps120
    go_wp2
    go_loopw [5] (fun i wr => ∃ k n : Nat, k ≤ xs.length ∧ i = .int .i64 k ∧ wr = w.drewN n ∧ xs.take k = ys.take k) (fun i _ => xs.length - (intOf i).toNat)
    case atStart => exact ⟨0, 0, by omega, rfl, rfl, rfl⟩
    case round =>
      obtain ⟨k, n, hk, rfl, rfl, hrel⟩ := hrel
      have Hrel := Lib.hid hrel; clear hrel
      by_cases hlt : k < xs.length
      · have hlt2 : k < ys.length := by rw [← HL.out]; exact hlt
        obtain ⟨b, o, rfl, hc⟩ := h.at_ hlt
        obtain ⟨b', o', rfl, hc'⟩ := g.at_ hlt2
        have i0 : (0 : Int) ≤ (k : Int) := by omega
        have i1 : (k : Int) < (xs.length : Int) := by omega
        have i2 : (k : Int) < (ys.length : Int) := by omega
        cases hp : (xs[k] != ys[k]) with
        | true =>
          go_wp2
          go_quiet (fail)
          go_wp2
          go_ret
          refine ⟨retB ?_, drewEx⟩
          have h1 : xs[k] ≠ ys[k] := by simpa using hp
          symm; rw [beq_eq_false_iff_ne]; rintro rfl; exact h1 rfl
        | false =>
          go_wp2
          go_quiet (fail)
          go_wp2
          go_roundw
          case rel => exact ⟨k + 1, _, by omega, by go_num, rfl, by
            have h1 : xs[k] = ys[k] := by simpa using hp
            rw [List.take_succ_eq_append_getElem hlt, List.take_succ_eq_append_getElem hlt2, Hrel.out, h1]⟩
          case measure => simp [intOf]; omega
      · obtain rfl : k = xs.length := by omega
        go_wp2
        go_ret
        refine ⟨retB ?_, _, rfl⟩
        have := Hrel.out; rw [List.take_length, HL.out, List.take_length] at this
        symm; rw [beq_iff_eq]; exact this
  · have hnb : (((xs.length : Nat) : Int) != ((ys.length : Nat) : Int)) = true := by simp; omega
    have HL := Lib.hid hlen; clear hlen
    go_enter Try.func120, Try.ntmps120
    go_wp2
    go_ret
    refine ⟨retB ?_, 0, rfl⟩
    symm; rw [beq_eq_false_iff_ne]; rintro rfl; exact HL.out rfl
set_option maxHeartbeats 400000 in
theorem eqInt64S_any (A B : Option Addr) (c d : Nat) (xs ys : List Int) (w : World) (h : RI w A xs) (g : RI w B ys) :
    Calls Try.prog 91 #[.slice A xs.length c, .slice B ys.length d] w fun e w' => e = .returned (.bool (xs == ys)) ∧ ∃ n, w' = w.drewN n := by
  have hle := h.le
  by_cases hlen : xs.length = ys.length
  · have hnb : (((xs.length : Nat) : Int) != ((ys.length : Nat) : Int)) = false := by simp [hlen]
    have HL := Lib.hid hlen; clear hlen
    go_enter Try.func91, Try.ntmps91
    go_wp2
    go_loopw [5] (fun i wr => ∃ k n : Nat, k ≤ xs.length ∧ i = .int .i64 k ∧ wr = w.drewN n ∧ xs.take k = ys.take k) (fun i _ => xs.length - (intOf i).toNat)
    case atStart => exact ⟨0, 0, by omega, rfl, rfl, rfl⟩
    case round =>
      obtain ⟨k, n, hk, rfl, rfl, hrel⟩ := hrel
      have Hrel := Lib.hid hrel; clear hrel
      by_cases hlt : k < xs.length
      · have hlt2 : k < ys.length := by rw [← HL.out]; exact hlt
        obtain ⟨b, o, rfl, hc⟩ := h.at_ hlt
        obtain ⟨b', o', rfl, hc'⟩ := g.at_ hlt2
        have i0 : (0 : Int) ≤ (k : Int) := by omega
        have i1 : (k : Int) < (xs.length : Int) := by omega
        have i2 : (k : Int) < (ys.length : Int) := by omega
        cases hp : (xs[k] != ys[k]) with
        | true =>
          go_wp2
          go_quiet (fail)
          go_wp2
          go_ret
          refine ⟨retB ?_, drewEx⟩
          have h1 : xs[k] ≠ ys[k] := by simpa using hp
          symm; rw [beq_eq_false_iff_ne]; rintro rfl; exact h1 rfl
        | false =>
          go_wp2
          go_quiet (fail)
          go_wp2
          go_roundw
          case rel => exact ⟨k + 1, _, by omega, by go_num, rfl, by
            have h1 : xs[k] = ys[k] := by simpa using hp
            rw [List.take_succ_eq_append_getElem hlt, List.take_succ_eq_append_getElem hlt2, Hrel.out, h1]⟩
          case measure => simp [intOf]; omega
      · obtain rfl : k = xs.length := by omega
        go_wp2
        go_ret
        refine ⟨retB ?_, _, rfl⟩
        have := Hrel.out; rw [List.take_length, HL.out, List.take_length] at this
        symm; rw [beq_iff_eq]; exact this
  · have hnb : (((xs.length : Nat) : Int) != ((ys.length : Nat) : Int)) = true := by simp; omega
    have HL := Lib.hid hlen; clear hlen
    go_enter Try.func91, Try.ntmps91
    go_wp2
    go_ret
    refine ⟨retB ?_, 0, rfl⟩
    symm; rw [beq_eq_false_iff_ne]; rintro rfl; exact HL.out rfl
set_option maxHeartbeats 400000 in
theorem sEqual_any (A B : Option Addr) (c d : Nat) (xs ys : List Int) (w : World) (h : RI w A xs) (g : RI w B ys) :
    Calls Try.prog 119 #[.slice A xs.length c, .slice B ys.length d] w fun e w' => e = .returned (.bool (xs == ys)) ∧ ∃ n, w' = w.drewN n := by
  have hle := h.le
  by_cases hlen : xs.length = ys.length
  · have hnb : (((xs.length : Nat) : Int) != ((ys.length : Nat) : Int)) = false := by simp [hlen]
    have HL := Lib.hid hlen; clear hlen
    go_enter Try.func119, Try.ntmps119
    go_wp2
    go_loopw [13] (fun i wr => ∃ k n : Nat, k ≤ xs.length ∧ i = .int .i64 k ∧ wr = w.drewN n ∧ xs.take k = ys.take k) (fun i _ => xs.length - (intOf i).toNat)
    case atStart => exact ⟨0, 0, by omega, rfl, rfl, rfl⟩
    case round =>
      obtain ⟨k, n, hk, rfl, rfl, hrel⟩ := hrel
      have Hrel := Lib.hid hrel; clear hrel
      by_cases hlt : k < xs.length
      · have hlt2 : k < ys.length := by rw [← HL.out]; exact hlt
        obtain ⟨b, o, rfl, hc⟩ := h.at_ hlt
        obtain ⟨b', o', rfl, hc'⟩ := g.at_ hlt2
        have i0 : (0 : Int) ≤ (k : Int) := by omega
        have i1 : (k : Int) < (xs.length : Int) := by omega
        have i2 : (k : Int) < (ys.length : Int) := by omega
        cases hp : (xs[k] != ys[k]) with
        | true =>
          go_wp2
          go_quiet (fail)
          go_wp2
          go_ret
          refine ⟨retB ?_, drewEx⟩
          have h1 : xs[k] ≠ ys[k] := by simpa using hp
          symm; rw [beq_eq_false_iff_ne]; rintro rfl; exact h1 rfl
        | false =>
          go_wp2
          go_quiet (fail)
          go_wp2
          go_roundw
          case rel => exact ⟨k + 1, _, by omega, by go_num, rfl, by
            have h1 : xs[k] = ys[k] := by simpa using hp
            rw [List.take_succ_eq_append_getElem hlt, List.take_succ_eq_append_getElem hlt2, Hrel.out, h1]⟩
          case measure => simp [intOf]; omega
      · obtain rfl : k = xs.length := by omega
        go_wp2
        go_ret
        refine ⟨retB ?_, _, rfl⟩
        have := Hrel.out; rw [List.take_length, HL.out, List.take_length] at this
        symm; rw [beq_iff_eq]; exact this
  · have hnb : (((xs.length : Nat) : Int) != ((ys.length : Nat) : Int)) = true := by simp; omega
    have HL := Lib.hid hlen; clear hlen
    go_enter Try.func119, Try.ntmps119
    go_wp2
    go_ret
    refine ⟨retB ?_, 0, rfl⟩
    symm; rw [beq_eq_false_iff_ne]; rintro rfl; exact HL.out rfl

/-! ### a search, a sum, a power -/
def idx (x : Int) (xs : List Int) : Int := if x ∈ xs then (xs.idxOf x : Int) else -1
def powW (b : Int) : Nat → Int
  | 0 => 1
  | n + 1 => wrap64 (powW b n * b)
theorem sumI_succ (xs : List Int) (k : Nat) (h : k < xs.length) : sumI (xs.take (k + 1)) = wrap64 (sumI (xs.take k) + xs[k]) := by
  unfold sumI; rw [List.take_succ_eq_append_getElem h, List.foldl_append]; rfl
theorem idx_hit {x : Int} {xs : List Int} {k : Nat} (h : k < xs.length) (hn : x ∉ xs.take k) (hk : xs[k] = x) : idx x xs = k := by
  have hm : x ∈ xs := by rw [← hk]; exact List.getElem_mem h
  unfold idx; rw [if_pos hm]
  have e : xs = xs.take k ++ (x :: xs.drop (k + 1)) := by
    conv => lhs; rw [← List.take_append_drop k xs, List.drop_eq_getElem_cons h, hk]
  have : List.idxOf x xs = k := by
    rw [e, List.idxOf_append, if_neg hn, List.idxOf_cons_self]; simp; omega
  omega
theorem idx_none {x : Int} {xs : List Int} (h : x ∉ xs) : idx x xs = -1 := by unfold idx; rw [if_neg h]
theorem idx_ge (x : Int) (xs : List Int) : (decide (idx x xs ≥ 0) : Bool) = hasI xs x := by
  unfold idx hasI
  by_cases h : x ∈ xs
  · rw [if_pos h]; simp [h]
  · rw [if_neg h]; simp [h]
set_option maxHeartbeats 400000 in
theorem sIndex_any (A : Option Addr) (c : Nat) (xs : List Int) (x : Int) (w : World) (h : RI w A xs) :
    Calls Try.prog 220 #[.slice A xs.length c, .int .i64 x] w fun e w' => e = .returned (.int .i64 (idx x xs)) ∧ w = w' := by
  have hle := h.le
  go_enter Try.func220, Try.ntmps220
  go_wp2
  go_loop [8] (fun i => ∃ k : Nat, k ≤ xs.length ∧ i = .int .i64 k ∧ x ∉ xs.take k) (fun i => xs.length - (intOf i).toNat)
  case atStart => exact ⟨0, by omega, rfl, by simp⟩
  case round =>
    obtain ⟨k, hk, rfl, hrel⟩ := hrel
    have Hrel := Lib.hid hrel; clear hrel
    by_cases hlt : k < xs.length
    · obtain ⟨b, o, rfl, hc⟩ := h.at_ hlt
      cases hp : (x == xs[k]) with
      | true =>
        have hi := Lib.hid (idx_hit hlt Hrel.out (beq_iff_eq.1 hp).symm)
        go_wp2
        go_ret
        exact ⟨retI hi.out.symm, rfl⟩
      | false =>
        go_wp2
        go_round
        case rel => exact ⟨k + 1, by omega, by go_num, by
          have h1 := beq_eq_false_iff_ne.1 hp
          rw [List.take_succ_eq_append_getElem hlt, List.mem_append, List.mem_singleton]; exact fun h => h.elim Hrel.out h1⟩
        case measure => simp [intOf]; omega
    · obtain rfl : k = xs.length := by omega
      have H2 := Lib.hid (idx_none (x := x) (xs := xs) (by have := Hrel.out; rwa [List.take_length] at this))
      go_wp2
      go_ret
      exact ⟨retI H2.out.symm, rfl⟩
set_option maxHeartbeats 400000 in
theorem sContains_any (A : Option Addr) (c : Nat) (xs : List Int) (x : Int) (w : World) (h : RI w A xs) :
    Calls Try.prog 192 #[.slice A xs.length c, .int .i64 x] w fun e w' => e = .returned (.bool (hasI xs x)) ∧ w = w' := by
  have hg := Lib.hid (idx_ge x xs)
  go_enter Try.func192, Try.ntmps192
  go_wp2_with (go_at_call 220; refine (sIndex_any _ _ _ _ _ h).mono ?_; rintro e w' ⟨rfl, rfl⟩)
  go_ret
  exact ⟨retB hg.out, rfl⟩
set_option maxHeartbeats 400000 in
theorem l01Sum_any (A : Option Addr) (c : Nat) (xs : List Int) (w : World) (h : RI w A xs) :
    Calls Try.prog 116 #[.slice A xs.length c] w fun e w' => e = .returned (.int .i64 (sumI xs)) ∧ w = w' := by
  have hle := h.le
  go_enter Try.func116, Try.ntmps116
  go_wp2
  go_loop [3, 4] (fun a i => ∃ k : Nat, k ≤ xs.length ∧ i = .int .i64 k ∧ a = .int .i64 (sumI (xs.take k))) (fun _ i => xs.length - (intOf i).toNat)
  case atStart => exact ⟨0, by omega, rfl, rfl⟩
  case round =>
    obtain ⟨k, hk, rfl, rfl⟩ := hrel
    by_cases hlt : k < xs.length
    · obtain ⟨b, o, rfl, hc⟩ := h.at_ hlt
      have hs := Lib.hid (sumI_succ xs k hlt)
      go_wp2
      go_round
      case rel => exact ⟨k + 1, by omega, by go_num, by rw [hs.out]⟩
      case measure => simp [intOf]; omega
    · obtain rfl : k = xs.length := by omega
      go_wp2
      go_ret
      exact ⟨rfl, rfl⟩
set_option maxHeartbeats 400000 in
theorem sum_any (A : Option Addr) (c : Nat) (xs : List Int) (w : World) (h : RI w A xs) :
    Calls Try.prog 115 #[.slice A xs.length c] w fun e w' => e = .returned (.int .i64 (sumI xs)) ∧ w = w' := by
  have hle := h.le
  go_enter Try.func115, Try.ntmps115
  go_wp2
  go_loop [3, 8] (fun a i => ∃ k : Nat, k ≤ xs.length ∧ i = .int .i64 k ∧ a = .int .i64 (sumI (xs.take k))) (fun _ i => xs.length - (intOf i).toNat)
  case atStart => exact ⟨0, by omega, rfl, rfl⟩
  case round =>
    obtain ⟨k, hk, rfl, rfl⟩ := hrel
    by_cases hlt : k < xs.length
    · obtain ⟨b, o, rfl, hc⟩ := h.at_ hlt
      have hs := Lib.hid (sumI_succ xs k hlt)
      go_wp2
      go_round
      case rel => exact ⟨k + 1, by omega, by go_num, by rw [hs.out]⟩
      case measure => simp [intOf]; omega
    · obtain rfl : k = xs.length := by omega
      go_wp2
      go_ret
      exact ⟨rfl, rfl⟩
set_option maxHeartbeats 400000 in
theorem powerOf_any (b n : Int) (w : World) (hn : n ≤ 9223372036854775807) :
    Calls Try.prog 134 #[.int .i64 b, .int .i64 n] w fun e w' => e = .returned (.int .i64 (powW b n.toNat)) ∧ w = w' := by
  go_enter Try.func134, Try.ntmps134
  go_wp2
  go_loop [5, 7] (fun p i => ∃ k : Nat, k ≤ n.toNat ∧ i = .int .i64 k ∧ p = .int .i64 (powW b k)) (fun _ i => n.toNat - (intOf i).toNat)
  case atStart => exact ⟨0, by omega, rfl, rfl⟩
  case round =>
    obtain ⟨k, hk, rfl, rfl⟩ := hrel
    by_cases hlt : (k : Int) < n
    · go_wp2
      go_round
      case rel => exact ⟨k + 1, by omega, by go_num, rfl⟩
      case measure => simp [intOf]; omega
    · obtain rfl : k = n.toNat := by omega
      go_wp2
      go_ret
      exact ⟨rfl, rfl⟩
set_option maxHeartbeats 400000 in
theorem l07Power_any (b n : Int) (w : World) (hn : n ≤ 9223372036854775807) :
    Calls Try.prog 136 #[.int .i64 b, .int .i64 n] w fun e w' => e = .returned (.int .i64 (powW b n.toNat)) ∧ w = w' := by
  go_enter Try.func136, Try.ntmps136
  go_wp2
  go_loop [1, 5] (fun i p => ∃ k : Nat, k ≤ n.toNat ∧ i = .int .i64 (n - k) ∧ p = .int .i64 (powW b k)) (fun i _ => (intOf i).toNat)
  case atStart => exact ⟨0, by omega, by simp, rfl⟩
  case round =>
    obtain ⟨k, hk, rfl, rfl⟩ := hrel
    by_cases hlt : (0 : Int) < n - (k : Int)
    · go_wp2
      go_round
      case rel => exact ⟨k + 1, by omega, by go_num, rfl⟩
      case measure => simp [intOf]; omega
    · go_wp2
      go_ret
      exact ⟨retI (by rw [show n.toNat = k by omega]), rfl⟩
end Go.Proofs.Ytapocenhmdcfoaa
