/- Contracts of the statements' own helpers: copies, comparisons, marks. -/
import Derived.Test.YtlpkcjnifbdfdaaNum
namespace Go.Proofs.Ytlpkcjnifbdfdaa
open Go.RowKit

theorem info_int : (Try.prog.info? 2).map (fun i => (i.zero, i.size, i.bytes)) = some (some (.int .i64 0), 1, 8) := by kernel_rfl
theorem make_ints (n : Nat) (hn : n ≤ 1048576) (w : World) : (Instr.makeSlice 22 (.int .i64 (n : Int)) (.int .i64 (n : Int))).run Try.prog w = .ok (.slice (some ⟨w.heap.size, 0, none⟩) n n) (w.alloc (.cells (madeCells #[.int .i64 0] n) 2)) := by
  obtain ⟨i0, hi0, hz0, hz1, hz2⟩ := info_parts info_int
  have hr := run_make (P := Try.prog) w 22 2 i0 _ Try.underlying22 hi0 hz0 .i64 .i64 n n (by omega) (by omega) (by rw [hz2]; omega) (by omega)
  simpa [hz1, Value.cells] using hr
set_option maxHeartbeats 400000 in
theorem toI_w (A : Option Addr) (c : Nat) (xs : List Int) (w : World) (h : RI w A xs) (hn : xs.length ≤ 1048576) :
    Calls Try.prog 16 #[.slice A xs.length c] w fun e w' => e = .returned (.slice (some ⟨w.heap.size, 0, none⟩) xs.length xs.length) ∧ w' = w.alloc (.cells (ints xs).toArray 2) := by
  have hmk := make_ints xs.length hn
  go_enter Try.func16, Try.ntmps16
  go_wp2
  go_loopw [4] (fun i wr => ∃ k : Nat, k ≤ xs.length ∧ i = .int .i64 k ∧ wr = w.alloc (.cells (fill xs k) 2)) (fun i _ => xs.length - (intOf i).toNat)
  case atStart => exact ⟨0, by omega, rfl, by rw [fill_zero]⟩
  case round =>
    obtain ⟨k, hk, rfl, rfl⟩ := hrel
    by_cases hlt : k < xs.length
    · obtain ⟨b, o, rfl, hc⟩ := h.at_ hlt
      have hcb : b < w.heap.size := World.block_lt_of_cell? w _ hc
      have hfs := fill_size xs k hk
      have hst := fill_step hlt
      go_wp2
      go_roundw
      case rel => exact ⟨k + 1, by omega, by go_num, rfl⟩
      case measure => simp [intOf]; omega
    · obtain rfl : k = xs.length := by omega
      have hfa := fill_all xs
      go_wp2
      go_ret
      exact ⟨rfl, rfl⟩
/-- A copy: the value; it is owned; it reads. -/
def CopyI (w : World) (xs : List Int) (e : Ending) (w' : World) : Prop :=
  ∃ A c, e = .returned (.slice A xs.length c) ∧ xs.length ≤ c ∧ RI w' A xs ∧ OI w' w.heap.size w'.heap.size (.slice A xs.length c) xs ∧ Below w.heap.size w w' ∧ w'.heap.size = w.heap.size + 1
theorem toI (A : Option Addr) (c : Nat) (xs : List Int) (w : World) (h : RI w A xs) (hn : xs.length ≤ 1048576) :
    Calls Try.prog 16 #[.slice A xs.length c] w (CopyI w xs) := by
  refine (toI_w A c xs w h hn).mono ?_
  rintro e w' ⟨rfl, rfl⟩
  have ho := OV.new (w := w) (B := w.heap.size) (e := 2) (ints xs).toArray (Nat.le_refl _) (by simp [ints, maxLen]; omega)
  have hsz : (ints xs).toArray.size = xs.length := by simp [ints]
  rw [hsz] at ho
  have ho' := ho.toOR
  obtain ⟨A', c', he, hc', hr⟩ := OR.readsI (xs := xs) ho'
  cases he
  exact ⟨_, _, rfl, Nat.le_refl _, hr, ho', (Below.refl _ _).alloc (Nat.le_refl _) _, by simp⟩
set_option maxHeartbeats 400000 in
theorem markI (v : Value) (xs : List Int) (B C : Nat) (k : Int) (w : World) (h : OI w B C v xs) (hn : xs.length ≤ 4194304) (h0 : 0 ≤ k) (h1 : k ≤ 4194304) :
    Calls Try.prog 22 #[v, .int .i64 k] w fun e w' => e = .returned (.int .i64 (k + xs.length)) ∧ OI w' B C v (seqI k xs.length) ∧ w.grownBy w' v.ownBlock := by
  obtain ⟨A, c, rfl, hc, hr⟩ := h.readsI
  go_enter Try.func22, Try.ntmps22
  go_wp2
  go_loopw [1, 5] (fun m i wr => ∃ j : Nat, j ≤ xs.length ∧ i = .int .i64 j ∧ m = .int .i64 (k + j) ∧ OI wr B C (.slice A xs.length c) (seqI k j ++ xs.drop j) ∧ w.grownBy wr (Value.slice A xs.length c).ownBlock) (fun _ i _ => xs.length - (intOf i).toNat)
  case atStart => exact ⟨0, by omega, rfl, by simp, by simpa [seqI] using h, World.grownBy.refl _ _⟩
  case round =>
    obtain ⟨j, hj, rfl, rfl, ho, hg⟩ := hrel
    by_cases hlt : j < xs.length
    · obtain ⟨b, o, rfl, hcell⟩ := hr.at_ hlt
      have hl : (seqI k j ++ xs.drop j).length = xs.length := by simp [seqI]; omega
      have ho1 := ho.1; unfold OV at ho1; rw [ints_length, hl] at ho1
      obtain ⟨g, cap, hv, _, _⟩ := ho1.form (by omega)
      injection hv with hv1 hv2 hv3
      injection hv1 with hv1
      injection hv1 with hv4 hv5
      subst hv4 hv5 hv3
      have hc1 := ho1.cellAt j (by omega)
      have hf1 := ho1.frozenAt j
      have hst := Lib.hid (ho1.stored j (.int .i64 (k + j)))
      have hex : ∃ u, wr.cell? ⟨b, j, none⟩ = some u := ⟨_, by rw [hc1]; exact List.getElem?_eq_getElem (by rw [ints_length, hl]; exact hlt)⟩
      obtain ⟨u, hu⟩ := hex
      clear hc1 hcell hr
      go_wp2
      go_roundw
      case rel =>
        refine ⟨j + 1, by omega, by go_num, by go_num, ⟨?_, ho.2⟩, ?_⟩
        · have := hst.out.1; rw [seqI_set _ _ _ hlt] at this; unfold OV; rw [ints_length, show (seqI k (j + 1) ++ xs.drop (j + 1)).length = xs.length by simp [seqI]; omega]; exact this
        · exact grownT hg hst.out.2
      case measure => simp [intOf]; omega
    · obtain rfl : j = xs.length := by omega
      go_wp2
      go_ret
      refine ⟨rfl, ?_, hg⟩
      simpa using ho
set_option maxHeartbeats 400000 in
theorem heldI (A : Option Addr) (c n : Nat) (k : Int) (w : World) (h : RI w A (seqI k n)) (h0 : 0 ≤ k) (h1 : k ≤ 4194304) (hn : n ≤ 4194304) :
    Calls Try.prog 23 #[.slice A n c, .int .i64 k] w fun e w' => e = .returned (.int .i64 (k + n)) ∧ w = w' := by
  go_enter Try.func23, Try.ntmps23
  go_wp2
  go_loop [1, 5] (fun m i => ∃ j : Nat, j ≤ n ∧ i = .int .i64 j ∧ m = .int .i64 (k + j)) (fun _ i => n - (intOf i).toNat)
  case atStart => exact ⟨0, by omega, rfl, by simp⟩
  case round =>
    obtain ⟨j, hj, rfl, rfl⟩ := hrel
    by_cases hlt : j < n
    · obtain ⟨b, o, rfl, hc⟩ := h.at_ (k := j) (by rw [seqI_length]; exact hlt)
      have he : (seqI k n)[j]'(by rw [seqI_length]; exact hlt) = k + j := by
        have := seqI_get k n j hlt; rw [List.getElem?_eq_getElem (by rw [seqI_length]; exact hlt)] at this; exact Option.some.inj this
      rw [he] at hc
      clear he
      go_wp2
      go_round
      case rel => exact ⟨j + 1, by omega, by go_num, by go_num⟩
      case measure => simp [intOf]; omega
    · obtain rfl : j = n := by omega
      go_wp2
      go_ret
      exact ⟨rfl, rfl⟩
end Go.Proofs.Ytlpkcjnifbdfdaa
