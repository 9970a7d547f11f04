/- Contracts of LevelSizes, LeastLevels. -/
import Derived.Test.YtdkkkkfcpgkcnaaFTable
namespace Go.Proofs.Ytdkkkkfcpgkcnaa
set_option linter.unusedVariables false
open Go.RowKit
def sizesF (m : Mk) (ls : List Int) : List Int := ls.map fun x => powW (m.d - 1) x.toNat
def levelSizes (m : Mk) (ls : List Int) : List Int × Int := if isMaker m then (if areLevels m ls then (sizesF m ls, 0) else ([], 2)) else ([], 1)
theorem sizesF_succ (m : Mk) (ls : List Int) (k : Nat) (h : k < ls.length) : ints (sizesF m (ls.take (k + 1))) = ints (sizesF m (ls.take k)) ++ [.int .i64 (powW (m.d - 1) ls[k].toNat)] := by
  rw [List.take_succ_eq_append_getElem h]; simp only [sizesF, ints, List.map_append, List.map_cons, List.map_nil]
theorem sizesF_len (m : Mk) (ls : List Int) : (ints (sizesF m ls)).length = ls.length := by simp [ints, sizesF]
theorem allW_get {lo hi : Int} {xs : List Int} (h : allW lo hi xs = true) {k : Nat} (hk : k < xs.length) : lo ≤ xs[k] ∧ xs[k] ≤ hi := by
  unfold allW at h; rw [List.all_eq_true] at h; exact inB_iff.1 (h _ (List.getElem_mem hk))
theorem areLevels_get {m : Mk} {ls : List Int} (h : areLevels m ls = true) : 1 ≤ ls.length ∧ ls.length ≤ 4 ∧ ∀ k (hk : k < ls.length), 1 ≤ ls[k] ∧ ls[k] ≤ m.c := by
  simp only [areLevels, Bool.and_eq_true, decide_eq_true_eq] at h
  exact ⟨h.1, h.2.1, fun k hk => allW_get h.2.2.1 hk⟩
set_option maxHeartbeats 1000000 in
theorem implLevelSizes_any (m : Mk) (A : Option Addr) (c : Nat) (ls : List Int) (w : World) (h : RI w A ls) :
    Calls Try.prog 46 #[.agg #[.int .i64 m.c, .int .i64 m.d, .int .i64 m.s, .int .i64 m.a, .int .i64 m.l], .slice A ls.length c] w (ResIC w (levelSizes m ls)) := by
  have HB := Lib.hid ((Below.refl w.heap.size w).alloc (Nat.le_refl _) (.cells #[.int .i64 m.c, .int .i64 m.d, .int .i64 m.s, .int .i64 m.a, .int .i64 m.l] 45))
  have hle := h.le
  cases h1 : isMaker m with
  | false =>
    have HR := Lib.hid (show ([], 1) = levelSizes m ls by simp [levelSizes, h1])
    go_enter Try.func46, Try.ntmps46
    go_wp2_with (go_at_call 119; refine (implIsMaker_any _ _).mono ?_; rintro e w1 ⟨rfl, hb1⟩)
    go_ret2
    exact resIC_nil HR.out (HB.out.trans (hb1.mono (by simp)))
  | true =>
  have hm := isMaker_iff.1 h1
  cases h2 : areLevels m ls with
  | false =>
    have HR := Lib.hid (show ([], 2) = levelSizes m ls by simp [levelSizes, h1, h2])
    go_enter Try.func46, Try.ntmps46
    go_wp2_with fail
    refine (implIsMaker_any _ _).mono ?_
    rintro e w1 ⟨rfl, hb1⟩
    have C1 := (bcell hb1).1
    go_wp2_with fail
    refine (areLevels_any m A c ls _ ((h.alloc _).below hb1)).mono ?_
    rintro e w2 ⟨rfl, hb2⟩
    go_wp2_with fail
    go_ret2
    exact resIC_nil HR.out (HB.out.trans ((hb1.trans (hb2.mono hb1.size)).mono (by simp)))
  | true =>
    have HR := Lib.hid (show (sizesF m ls, 0) = levelSizes m ls by simp [levelSizes, h1, h2])
    have hlv := areLevels_get h2
    go_enter Try.func46, Try.ntmps46
    go_wp2_with fail
    refine (implIsMaker_any _ _).mono ?_
    rintro e w1 ⟨rfl, hb1⟩
    have C1 := (bcell hb1).1
    go_wp2_with fail
    refine (areLevels_any m A c ls _ ((h.alloc _).below hb1)).mono ?_
    rintro e w2 ⟨rfl, hb2⟩
    have hb12 := hb1.trans (hb2.mono hb1.size)
    have hA2 := ((h.alloc (.cells #[.int .i64 m.c, .int .i64 m.d, .int .i64 m.s, .int .i64 m.a, .int .i64 m.l] 45)).below hb12)
    have hs2 := hb12.size
    simp only [World.size_alloc] at hs2
    clear C1
    go_wp2_with fail
    go_loopw [6, 19] (fun v i wr => ∃ k : Nat, k ≤ ls.length ∧ i = .int .i64 k ∧ OV wr (w.heap.size + 1) 2 v (ints (sizesF m (ls.take k))) ∧ Below (w.heap.size + 1) (w.alloc (.cells #[.int .i64 m.c, .int .i64 m.d, .int .i64 m.s, .int .i64 m.a, .int .i64 m.l] 45)) wr)
      (fun _ i _ => ls.length - (intOf i).toNat)
    case atStart => exact ⟨0, by omega, rfl, OV.new #[] (by omega) (by simp), (hb12.mono (by simp)).alloc (by omega) _⟩
    case round =>
      obtain ⟨k, hk, rfl, ho, hb⟩ := hrel
      have hsz := hb.size
      simp only [World.size_alloc] at hsz
      by_cases hlt : k < ls.length
      · obtain ⟨b, o, rfl, hc⟩ := (((h.alloc (.cells #[.int .i64 m.c, .int .i64 m.d, .int .i64 m.s, .int .i64 m.a, .int .i64 m.l] 45)).below (hb.mono (Nat.le_refl _) |> (by simpa using ·)))).at_ hlt
        have C := (bcell (W := w.alloc (.cells #[.int .i64 m.c, .int .i64 m.d, .int .i64 m.s, .int .i64 m.a, .int .i64 m.l] 45)) (by simpa using hb)).1
        have hx := hlv.2.2 k hlt
        have hs := Lib.hid (sizesF_succ m ls k hlt)
        have hl := sizesF_len m (ls.take k)
        have HL := Lib.hid hl; clear hl
        go_wp2_with (first
          | (go_at_call 120; refine (powerOf_any _ _ _ (by omega)).mono ?_; rintro e w' ⟨rfl, rfl⟩)
          | (at_builtin; refine wpList_app1 _ rfl _ _ _ rfl (w.heap.size + 1) 2 _ 8 Try.underlying30 info_int rfl (by omega) _ _ rfl (ho.alloc _) _ _ rfl (one_cell _ _ _) rfl (by rw [HL.out]; simp; omega) (by simp; omega) ?_; intro v' w3 ho3 hg3 hn3 hat3))
        go_roundw
        case rel => exact ⟨k + 1, by omega, by go_num, by rw [hs.out]; exact ho3, (ho.alloc _).own (Nat.le_refl _) (hb.alloc (by omega) _) hg3 (by simp; omega)⟩
        case measure => simp [intOf]; omega
      · obtain rfl : k = ls.length := by omega
        rw [List.take_length] at ho
        go_wp2_with fail
        go_ret2
        exact resIC_own HR.out ho (by omega) (HB.out.trans (hb.mono (by omega)))
set_option maxRecDepth 100000 in
set_option maxHeartbeats 1000000 in
theorem l12Sizes_any (m : Mk) (A : Option Addr) (c : Nat) (ls : List Int) (w : World) (h : RI w A ls) (hn : ls.length ≤ 1073741824) (hx : ∀ k (hk : k < ls.length), ls[k] ≤ 9223372036854775807) (hd : 0 ≤ m.d ∧ m.d ≤ 100) :
    Calls Try.prog 129 #[.agg #[.int .i64 m.c, .int .i64 m.d, .int .i64 m.s, .int .i64 m.a, .int .i64 m.l], .slice A ls.length c] w (ResI w (sizesF m ls)) := by
  have HB := Lib.hid ((Below.refl w.heap.size w).alloc (Nat.le_refl _) (.cells #[.int .i64 m.c, .int .i64 m.d, .int .i64 m.s, .int .i64 m.a, .int .i64 m.l] 45))
  go_enter Try.func129, Try.ntmps129
  go_wp2_with fail
  go_loopw [5, 6] (fun v i wr => ∃ k : Nat, k ≤ ls.length ∧ i = .int .i64 k ∧ OV wr (w.heap.size + 1) 2 v (ints (sizesF m (ls.take k))) ∧ Below (w.heap.size + 1) (w.alloc (.cells #[.int .i64 m.c, .int .i64 m.d, .int .i64 m.s, .int .i64 m.a, .int .i64 m.l] 45)) wr)
    (fun _ i _ => ls.length - (intOf i).toNat)
  case atStart => exact ⟨0, by omega, rfl, by simpa [ints, sizesF] using OV.new (e := 2) (B := w.heap.size + 1) (w := w.alloc (.cells #[.int .i64 m.c, .int .i64 m.d, .int .i64 m.s, .int .i64 m.a, .int .i64 m.l] 45)) #[] (by simp) (by simp), Below.alloc (B := w.heap.size + 1) (w := w.alloc (.cells #[.int .i64 m.c, .int .i64 m.d, .int .i64 m.s, .int .i64 m.a, .int .i64 m.l] 45)) (Below.refl (w.heap.size + 1) _) (Nat.le_of_eq (World.size_alloc _ _).symm) _⟩
  case round =>
    obtain ⟨k, hk, rfl, ho, hb⟩ := hrel
    have hsz := hb.size
    simp only [World.size_alloc] at hsz
    by_cases hlt : k < ls.length
    · obtain ⟨b, o, rfl, hc0⟩ := h.at_ hlt
      have hbw : b < w.heap.size := World.block_lt_of_cell? w _ hc0
      have hm0 : (w.alloc (.cells #[.int .i64 m.c, .int .i64 m.d, .int .i64 m.s, .int .i64 m.a, .int .i64 m.l] 45)).cell? ⟨w.heap.size, 1, none⟩ = some (.int .i64 m.d) := by simp
      have hc1 : (w.alloc (.cells #[.int .i64 m.c, .int .i64 m.d, .int .i64 m.s, .int .i64 m.a, .int .i64 m.l] 45)).cell? ⟨b, o + k, none⟩ = some (.int .i64 ls[k]) := (World.cell?_alloc_lt w _ _ hbw).trans hc0
      have hc := cell_in hb (show b < _ by omega) hc1
      have hcm := cell_in hb (show w.heap.size < _ by omega) hm0
      have Hm0 := Lib.hid hm0; have Hc1 := Lib.hid hc1; clear hm0 hc1 hc0
      have hxk := hx k hlt
      have hs := Lib.hid (sizesF_succ m ls k hlt)
      have hl := sizesF_len m (ls.take k)
      have HL := Lib.hid hl; clear hl
      have hw1 : IntKind.i64.wrap (m.d - 1) = m.d - 1 := IntWalk.i64_in _ (by omega)
      have n1 := World.new_ne wr _ hc
      have n2 := World.new_ne wr _ hcm
      have i0 : (0 : Int) ≤ (k : Int) := by omega
      have i1 : (k : Int) < (ls.length : Int) := by omega
      go_wp2_with fail
      go_region_held3 (fun w' => w'.cell? ⟨w.heap.size, 1, none⟩ = some (.int .i64 m.d) ∧ w'.cell? ⟨b, o + k, none⟩ = some (.int .i64 ls[k])) (first | go_keep | exact ⟨cell_in hb3 (by simp) Hm0.out, cell_in hb3 (by simp; omega) Hc1.out⟩)
        (first
          | (go_at_call 123; refine (l07Power_any _ _ _ (by omega)).mono ?_; rintro e w' ⟨rfl, rfl⟩)
          | (refine step_app1 _ (by rfl) _ _ _ (by rfl) (w.heap.size + 1) 2 _ 8 Try.underlying30 info_int rfl (by omega) _ _ (by rfl) ((ho.alloc _).drewN 1) _ _ (by rfl) (one_cell _ _ _) rfl (by rw [HL.out]; simp; omega) (by simp; omega) ?_; intro v' w3 ho3 hg3 hn3 hat3; have hb3 := ((ho.alloc _).drewN 1).own (Nat.le_refl _) (belowD (hb.alloc (by omega) _) 1) hg3 (by simp; omega)))
      go_wp2_with fail
      go_roundw
      case rel => exact ⟨k + 1, by omega, by go_num, by rw [hs.out]; exact ho3, hb3⟩
      case measure => simp [intOf]; omega
    · obtain rfl : k = ls.length := by omega
      rw [List.take_length] at ho
      go_wp2_with fail
      go_ret
      exact resI_own ho (by omega) (HB.out.trans (hb.mono (by omega)))
set_option maxHeartbeats 1000000 in
theorem specLevelSizes_any (m : Mk) (A : Option Addr) (c : Nat) (ls : List Int) (w : World) (h : RI w A ls) :
    Calls Try.prog 47 #[.agg #[.int .i64 m.c, .int .i64 m.d, .int .i64 m.s, .int .i64 m.a, .int .i64 m.l], .slice A ls.length c] w (ResIC w (levelSizes m ls)) := by
  have HB := Lib.hid ((Below.refl w.heap.size w).alloc (Nat.le_refl _) (.cells #[.int .i64 m.c, .int .i64 m.d, .int .i64 m.s, .int .i64 m.a, .int .i64 m.l] 45))
  cases h1 : isMaker m with
  | false =>
    have HR := Lib.hid (show ([], 1) = levelSizes m ls by simp [levelSizes, h1])
    go_enter Try.func47, Try.ntmps47
    go_wp2_with (go_at_call 121; refine (specIsMaker_any _ _).mono ?_; rintro e w1 ⟨rfl, hb1⟩)
    go_ret2
    exact resIC_nil HR.out (HB.out.trans (hb1.mono (by simp)))
  | true =>
  have hm := isMaker_iff.1 h1
  cases h2 : areLevels m ls with
  | false =>
    have HR := Lib.hid (show ([], 2) = levelSizes m ls by simp [levelSizes, h1, h2])
    go_enter Try.func47, Try.ntmps47
    go_wp2_with fail
    refine (specIsMaker_any _ _).mono ?_
    rintro e w1 ⟨rfl, hb1⟩
    have C1 := (bcell hb1).1
    go_wp2_with fail
    refine (l12Levels_any m A c ls _ ((h.alloc _).below hb1)).mono ?_
    rintro e w2 ⟨rfl, hb2⟩
    go_wp2_with fail
    go_ret2
    exact resIC_nil HR.out (HB.out.trans ((hb1.trans (hb2.mono hb1.size)).mono (by simp)))
  | true =>
    have HR := Lib.hid (show levelSizes m ls = (sizesF m ls, 0) by simp [levelSizes, h1, h2])
    have hlv := areLevels_get h2
    go_enter Try.func47, Try.ntmps47
    go_wp2_with fail
    refine (specIsMaker_any _ _).mono ?_
    rintro e w1 ⟨rfl, hb1⟩
    have C1 := (bcell hb1).1
    go_wp2_with fail
    refine (l12Levels_any m A c ls _ ((h.alloc _).below hb1)).mono ?_
    rintro e w2 ⟨rfl, hb2⟩
    have hb12 := hb1.trans (hb2.mono hb1.size)
    clear C1
    have C2 := (bcell hb12).1
    have hs2 := hb12.size
    simp only [World.size_alloc] at hs2
    go_wp2_with fail
    refine (l12Sizes_any m A c ls _ ((h.alloc _).below hb12) (by omega) (fun k hk => by have := hlv.2.2 k hk; omega) (by omega)).mono ?_
    rintro e w3 ⟨A3, c3, rfl, hc3, hr3, ho3, hb3⟩
    go_wp2_with fail
    go_ret2
    rw [HR.out]
    exact ⟨_, _, rfl, hc3, hr3, ho3.wide (by omega) (Nat.le_refl _), HB.out.trans ((hb12.trans (hb3.mono hb12.size)).mono (by simp))⟩
end Go.Proofs.Ytdkkkkfcpgkcnaa
