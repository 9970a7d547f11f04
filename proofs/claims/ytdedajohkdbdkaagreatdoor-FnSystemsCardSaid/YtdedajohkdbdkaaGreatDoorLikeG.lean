/- Contracts of likeInts and hasList, of any lists. -/
import Derived.Test.YtdedajohkdbdkaaGreatDoorLike
import Derived.Test.YtdedajohkdbdkaaGreatDoorFCodes
namespace Go.Proofs.YtdedajohkdbdkaaGreatDoor
set_option linter.unusedVariables false
open Go.RowKit
set_option maxHeartbeats 400000 in
theorem likeInts_any (A B : Option Addr) (c d : Nat) (xs ys : List Int) (w : World) (h : RI w A xs) (g : RI w B ys) :
    Calls Tryz.prog 44 #[.slice A xs.length c, .slice B ys.length d] w fun e w' => e = .returned (.bool (xs == ys)) ∧ ∃ n, w' = w.drewN n := by
  have hle := h.le
  by_cases hlen : xs.length = ys.length
  · have hnb : (((xs.length : Nat) : Int) != ((ys.length : Nat) : Int)) = false := by simp [hlen]
    have HL := Lib.hid hlen; clear hlen
    go_enter Tryz.func44, Tryz.ntmps44
    go_wp2
    go_loopw [5] (fun i wr => ∃ k n : Nat, k ≤ xs.length ∧ i = .int .i64 k ∧ wr = w.drewN n ∧ xs.take k = ys.take k) (fun i _ => xs.length - (intOf i).toNat)
    case atStart => exact ⟨0, 0, by omega, rfl, rfl, rfl⟩
    case round =>
      obtain ⟨k, n, hk, rfl, rfl, hrel⟩ := hrel
      have Hrel := Lib.hid hrel; clear hrel
      by_cases hlt : k < xs.length
      · have hlt2 : k < ys.length := by rw [← HL.out]; exact hlt
        obtain ⟨b, o, rfl, hc⟩ := h.at_ hlt
        obtain ⟨b', o', rfl, hc'⟩ := g.at_ hlt2
        have i0 : (0 : Int) ≤ (k : Int) := by omega
        have i1 : (k : Int) < (xs.length : Int) := by omega
        have i2 : (k : Int) < (ys.length : Int) := by omega
        cases hp : (xs[k] != ys[k]) with
        | true =>
          go_wp2
          go_quiet (fail)
          go_wp2
          go_ret
          refine ⟨retB ?_, drewEx⟩
          have h1 : xs[k] ≠ ys[k] := by simpa using hp
          symm; rw [beq_eq_false_iff_ne]; rintro rfl; exact h1 rfl
        | false =>
          go_wp2
          go_quiet (fail)
          go_wp2
          go_roundw
          case rel => exact ⟨k + 1, _, by omega, by go_num, rfl, by
            have h1 : xs[k] = ys[k] := by simpa using hp
            rw [List.take_succ_eq_append_getElem hlt, List.take_succ_eq_append_getElem hlt2, Hrel.out, h1]⟩
          case measure => simp [intOf]; omega
      · obtain rfl : k = xs.length := by omega
        go_wp2
        go_ret
        refine ⟨retB ?_, _, rfl⟩
        have := Hrel.out; rw [List.take_length, HL.out, List.take_length] at this
        symm; rw [beq_iff_eq]; exact this
  · have hnb : (((xs.length : Nat) : Int) != ((ys.length : Nat) : Int)) = true := by simp; omega
    have HL := Lib.hid hlen; clear hlen
    go_enter Tryz.func44, Tryz.ntmps44
    go_wp2
    go_ret
    refine ⟨retB ?_, 0, rfl⟩
    symm; rw [beq_eq_false_iff_ne]; rintro rfl; exact HL.out rfl
theorem likeIntsB {A B : Option Addr} {c d : Nat} {xs : List Int} {w : World} (h : RI w A xs) (g : RI w B xs) :
    Calls Tryz.prog 44 #[.slice A xs.length c, .slice B xs.length d] w fun e w' => e = .returned (.bool true) ∧ Below w.heap.size w w' :=
  (likeInts_same A B c d xs w h g).mono fun e w' ⟨h1, n, h2⟩ => ⟨h1, by rw [h2]; exact belowD (Below.refl _ _) n⟩
theorem likeListsB {A B : Option Addr} {c d : Nat} {xss : List (List Int)} {w : World} (h : RII w A xss) (g : RII w B xss) :
    Calls Tryz.prog 30 #[.slice A xss.length c, .slice B xss.length d] w fun e w' => e = .returned (.bool true) ∧ Below w.heap.size w w' :=
  (likeLists_same A B c d xss w h g).mono fun e w' ⟨h1, n, h2⟩ => ⟨h1, by rw [h2]; exact belowD (Below.refl _ _) n⟩
set_option maxHeartbeats 4000000 in
theorem likeLocksB {A B : Option Addr} {c d : Nat} {xss : List (List Int)} {w : World} (h : RII w A xss) (g : RII w B xss) :
    Calls Tryz.prog 14 #[.agg #[.slice A xss.length c], .agg #[.slice B xss.length d]] w fun e w' => e = .returned (.bool true) ∧ Below w.heap.size w w' := by
  obtain ⟨w1, hw1⟩ : ∃ w1, w1 = (w.alloc (.cells #[.slice A xss.length c] 41)).alloc (.cells #[.slice B xss.length d] 41) := ⟨_, rfl⟩
  have hb : Below w.heap.size w w1 := by rw [hw1]; exact ((Below.refl w.heap.size w).alloc (Nat.le_refl _) _).alloc (by simp only [World.size_alloc]; omega) _
  have HB := Lib.hid hb
  have HL := Lib.hid (likeLists_same A B c d xss w1 (h.below hb) (g.below hb))
  have x0 : w1.cell? ⟨w.heap.size, 0, none⟩ = some (.slice A xss.length c) := by
    have : BoxC (w.alloc (.cells #[.slice A xss.length c] 41)) w.heap.size 0 [.slice A xss.length c] := BoxC.new [.slice A xss.length c] rfl
    rw [hw1]; exact (this.below ((Below.refl _ _).alloc (Nat.le_refl _) _)).1
  have x1 : w1.cell? ⟨w.heap.size + 1, 0, none⟩ = some (.slice B xss.length d) := by
    have : BoxC ((w.alloc (.cells #[.slice A xss.length c] 41)).alloc (.cells #[.slice B xss.length d] 41)) (w.alloc (.cells #[.slice A xss.length c] 41)).heap.size 0 [.slice B xss.length d] := BoxC.new [.slice B xss.length d] rfl
    simp only [World.size_alloc] at this
    rw [hw1]; exact this.1
  clear h g hb
  go_enter Tryz.func14, Tryz.ntmps14
  go_wp2_with fail
  rw [← hw1]
  clear hw1
  go_wp2_with fail
  refine HL.out.mono ?_
  rintro e w2 ⟨rfl, n, rfl⟩
  go_wp2_with fail
  go_ret
  exact ⟨rfl, belowD HB.out n⟩
end Go.Proofs.YtdedajohkdbdkaaGreatDoor
