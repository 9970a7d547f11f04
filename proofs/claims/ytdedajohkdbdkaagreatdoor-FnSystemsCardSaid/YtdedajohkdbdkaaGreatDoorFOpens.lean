/- Contracts of the program's Opens and CountOpeners. -/
import Derived.Test.YtdedajohkdbdkaaGreatDoorFFrees
namespace Go.Proofs.YtdedajohkdbdkaaGreatDoor
set_option linter.unusedVariables false
open Go.RowKit
def opensR (m : Mk) (l : List (List Int)) (key : List Int) : Bool × Int := if isLockF m l = true then (if isKey m key = true then (opensL l key, 0) else (false, 2)) else (false, 1)
def cOpenersR (m : Mk) (l : List (List Int)) : Int × Int := if isLockF m l = true then (((openers m l).length : Int), 0) else (0, 1)
set_option maxRecDepth 100000 in
set_option maxHeartbeats 4000000 in
theorem implOpens_any (m : Mk) (D : Option Addr) (q : Nat) (l : List (List Int)) (K : Option Addr) (d : Nat) (key : List Int) (w : World) (h : RII w D l) (k : RI w K key) (hcap : key.length ≤ d) :
    Calls Tryz.prog 15 #[.agg #[.int .i64 m.c, .int .i64 m.d, .int .i64 m.s, .int .i64 m.a, .int .i64 m.l], .agg #[.slice D l.length q], .slice K key.length d] w (ResBC w (opensR m l key)) := by
  have Ba := ((Below.refl w.heap.size w).alloc (Nat.le_refl _) (.cells #[.int .i64 m.c, .int .i64 m.d, .int .i64 m.s, .int .i64 m.a, .int .i64 m.l] 25)).alloc (by simp only [World.size_alloc]; omega) (.cells #[.slice D l.length q] 41)
  have B0 := Ba.alloc (by simp only [World.size_alloc]; omega) (.cells #[.slice D l.length q] 41)
  have bx : BoxC ((w.alloc (.cells #[.int .i64 m.c, .int .i64 m.d, .int .i64 m.s, .int .i64 m.a, .int .i64 m.l] 25)).alloc (.cells #[.slice D l.length q] 41)) (w.heap.size + 1) 0 [.slice D l.length q] := by simp [BoxC, Go.World.cell?_alloc_at]
  have bm : BoxC ((w.alloc (.cells #[.int .i64 m.c, .int .i64 m.d, .int .i64 m.s, .int .i64 m.a, .int .i64 m.l] 25)).alloc (.cells #[.slice D l.length q] 41)) w.heap.size 0 [.int .i64 m.c, .int .i64 m.d, .int .i64 m.s, .int .i64 m.a, .int .i64 m.l] := by
    have : BoxC (w.alloc (.cells #[.int .i64 m.c, .int .i64 m.d, .int .i64 m.s, .int .i64 m.a, .int .i64 m.l] 25)) w.heap.size 0 [.int .i64 m.c, .int .i64 m.d, .int .i64 m.s, .int .i64 m.a, .int .i64 m.l] := by simp [BoxC, Go.World.cell?_alloc_at]
    exact this.below ((Below.refl _ _).alloc (Nat.le_refl _) _)
  have HL := locksCode1_any m (w.heap.size + 1 + 1) D q l (((w.alloc (.cells #[.int .i64 m.c, .int .i64 m.d, .int .i64 m.s, .int .i64 m.a, .int .i64 m.l] 25)).alloc (.cells #[.slice D l.length q] 41)).alloc (.cells #[.slice D l.length q] 41)) (h.below B0) (by simp [Go.World.cell?_alloc_at])
  cases h1 : isLockF m l with
  | false =>
    have HR := Lib.hid (show (false, 1) = opensR m l key by simp [opensR, h1])
    rw [lockC_1 h1] at HL
    have HLL := Lib.hid HL; clear HL
    go_enter Tryz.func15, Tryz.ntmps15
    go_wp2_with fail
    refine HLL.out.mono ?_
    rintro e w1 ⟨rfl, b1⟩
    go_wp2_with fail
    go_ret2
    exact resBC_of HR.out (B0.trans (b1.mono B0.size))
  | true =>
    have hmk := isLock_mk h1
    rw [lockC_0 h1] at HL
    have HLL := Lib.hid HL; clear HL
    have HLN := Lib.hid (isLock_len h1)
    go_enter Tryz.func15, Tryz.ntmps15
    go_wp2_with fail
    refine HLL.out.mono ?_
    rintro e w1 ⟨rfl, b1⟩
    have HB1 := Lib.hid (B0.trans (b1.mono B0.size))
    have bM : Below ((w.alloc (.cells #[.int .i64 m.c, .int .i64 m.d, .int .i64 m.s, .int .i64 m.a, .int .i64 m.l] 25)).alloc (.cells #[.slice D l.length q] 41)).heap.size ((w.alloc (.cells #[.int .i64 m.c, .int .i64 m.d, .int .i64 m.s, .int .i64 m.a, .int .i64 m.l] 25)).alloc (.cells #[.slice D l.length q] 41)) w1 := ((Below.refl _ _).alloc (Nat.le_refl _) (.cells #[.slice D l.length q] 41)).trans (b1.mono (by simp only [World.size_alloc]; omega))
    obtain ⟨q0, q1, q2, q3, q4, _⟩ := bm.below bM
    simp only [Nat.zero_add] at q1 q2 q3 q4
    have HX1 := Lib.hid (bx.below bM)
    have HK := Lib.hid (isKey_any m K d key w1 (k.below HB1.out) hcap hmk)
    clear b1 bM
    go_wp2_with fail
    clear q0 q1 q2 q3 q4
    refine HK.out.mono ?_
    rintro e w2 ⟨rfl, b2⟩
    have HB2 := Lib.hid (HB1.out.trans (b2.mono HB1.out.size))
    obtain ⟨y0, _⟩ := HX1.out.below b2
    clear b2
    cases hk : isKey m key with
    | false =>
      have HR := Lib.hid (show (false, 2) = opensR m l key by simp [opensR, h1, hk])
      go_wp2_with fail
      go_ret2
      exact resBC_of HR.out HB2.out
    | true =>
      have HR := Lib.hid (show (opensL l key, 0) = opensR m l key by simp [opensR, h1, hk])
      have HO := Lib.hid (opens_any D q l K d key w2 (h.below HB2.out) (k.below HB2.out) (by have := isKey_len hk; have := HLN.out; omega))
      go_wp2_with fail
      clear y0
      refine HO.out.mono ?_
      rintro e w3 ⟨rfl, b3⟩
      go_wp2_with fail
      go_ret2
      exact resBC_of HR.out (HB2.out.trans (b3.mono HB2.out.size))
end Go.Proofs.YtdedajohkdbdkaaGreatDoor
