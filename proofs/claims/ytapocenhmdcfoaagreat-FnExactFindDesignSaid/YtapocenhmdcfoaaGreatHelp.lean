/- Contracts of the statements' own helpers: copies, comparisons, marks. -/
import Derived.Test.YtapocenhmdcfoaaGreatNum
namespace Go.Proofs.YtapocenhmdcfoaaGreat
set_option linter.unusedVariables false
open Go.RowKit

theorem info_int : (Tryz.prog.info? 2).map (fun i => (i.zero, i.size, i.bytes)) = some (some (.int .i64 0), 1, 8) := by kernel_rfl
theorem make_ints (n : Nat) (hn : n ≤ 1048576) (w : World) : (Instr.makeSlice 47 (.int .i64 (n : Int)) (.int .i64 (n : Int))).run Tryz.prog w = .ok (.slice (some ⟨w.heap.size, 0, none⟩) n n) (w.alloc (.cells (madeCells #[.int .i64 0] n) 2)) := by
  obtain ⟨i0, hi0, hz0, hz1, hz2⟩ := info_parts info_int
  have hr := run_make (P := Tryz.prog) w 47 2 i0 _ Tryz.underlying47 hi0 hz0 .i64 .i64 n n (by omega) (by omega) (by rw [hz2]; omega) (by omega)
  simpa [hz1, Value.cells] using hr
set_option maxHeartbeats 400000 in
theorem toI_w (A : Option Addr) (c : Nat) (xs : List Int) (w : World) (h : RI w A xs) (hn : xs.length ≤ 1048576) :
    Calls Tryz.prog 29 #[.slice A xs.length c] w fun e w' => e = .returned (.slice (some ⟨w.heap.size, 0, none⟩) xs.length xs.length) ∧ w' = w.alloc (.cells (ints xs).toArray 2) := by
  have hmk := make_ints xs.length hn
  go_enter Tryz.func29, Tryz.ntmps29
  go_wp2
  go_loopw [4] (fun i wr => ∃ k : Nat, k ≤ xs.length ∧ i = .int .i64 k ∧ wr = w.alloc (.cells (fill xs k) 2)) (fun i _ => xs.length - (intOf i).toNat)
  case atStart => exact ⟨0, by omega, rfl, by rw [fill_zero]⟩
  case round =>
    obtain ⟨k, hk, rfl, rfl⟩ := hrel
    by_cases hlt : k < xs.length
    · obtain ⟨b, o, rfl, hc⟩ := h.at_ hlt
      have hcb : b < w.heap.size := World.block_lt_of_cell? w _ hc
      have hfs := fill_size xs k hk
      have hst := fill_step hlt
      go_wp2
      go_roundw
      case rel => exact ⟨k + 1, by omega, by go_num, rfl⟩
      case measure => simp [intOf]; omega
    · obtain rfl : k = xs.length := by omega
      have hfa := fill_all xs
      go_wp2
      go_ret
      exact ⟨rfl, rfl⟩
/-- A copy: the value; it is owned; it reads. -/
def CopyI (w : World) (xs : List Int) (e : Ending) (w' : World) : Prop :=
  ∃ A c, e = .returned (.slice A xs.length c) ∧ xs.length ≤ c ∧ RI w' A xs ∧ OI w' w.heap.size w'.heap.size (.slice A xs.length c) xs ∧ Below w.heap.size w w' ∧ w'.heap.size = w.heap.size + 1
theorem toI (A : Option Addr) (c : Nat) (xs : List Int) (w : World) (h : RI w A xs) (hn : xs.length ≤ 1048576) :
    Calls Tryz.prog 29 #[.slice A xs.length c] w (CopyI w xs) := by
  refine (toI_w A c xs w h hn).mono ?_
  rintro e w' ⟨rfl, rfl⟩
  have ho := OV.new (w := w) (B := w.heap.size) (e := 2) (ints xs).toArray (Nat.le_refl _) (by simp [ints, maxLen]; omega)
  have hsz : (ints xs).toArray.size = xs.length := by simp [ints]
  rw [hsz] at ho
  have ho' := ho.toOR
  obtain ⟨A', c', he, hc', hr⟩ := OR.readsI (xs := xs) ho'
  cases he
  exact ⟨_, _, rfl, Nat.le_refl _, hr, ho', (Below.refl _ _).alloc (Nat.le_refl _) _, by simp⟩
set_option maxHeartbeats 400000 in
theorem markI (v : Value) (xs : List Int) (B C : Nat) (k : Int) (w : World) (h : OI w B C v xs) (hn : xs.length ≤ 4194304) (h0 : 0 ≤ k) (h1 : k ≤ 4194304) :
    Calls Tryz.prog 22 #[v, .int .i64 k] w fun e w' => e = .returned (.int .i64 (k + xs.length)) ∧ OI w' B C v (seqI k xs.length) ∧ w.grownBy w' v.ownBlock := by
  obtain ⟨A, c, rfl, hc, hr⟩ := h.readsI
  go_enter Tryz.func22, Tryz.ntmps22
  go_wp2
  go_loopw [1, 5] (fun m i wr => ∃ j : Nat, j ≤ xs.length ∧ i = .int .i64 j ∧ m = .int .i64 (k + j) ∧ OI wr B C (.slice A xs.length c) (seqI k j ++ xs.drop j) ∧ w.grownBy wr (Value.slice A xs.length c).ownBlock) (fun _ i _ => xs.length - (intOf i).toNat)
  case atStart => exact ⟨0, by omega, rfl, by simp, by simpa [seqI] using h, World.grownBy.refl _ _⟩
  case round =>
    obtain ⟨j, hj, rfl, rfl, ho, hg⟩ := hrel
    by_cases hlt : j < xs.length
    · obtain ⟨b, o, rfl, hcell⟩ := hr.at_ hlt
      have hl : (seqI k j ++ xs.drop j).length = xs.length := by simp [seqI]; omega
      have ho1 := ho.1; unfold OV at ho1; rw [ints_length, hl] at ho1
      obtain ⟨g, cap, hv, _, _⟩ := ho1.form (by omega)
      injection hv with hv1 hv2 hv3
      injection hv1 with hv1
      injection hv1 with hv4 hv5
      subst hv4 hv5 hv3
      have hc1 := ho1.cellAt j (by omega)
      have hf1 := ho1.frozenAt j
      have hst := Lib.hid (ho1.stored j (.int .i64 (k + j)))
      have hex : ∃ u, wr.cell? ⟨b, j, none⟩ = some u := ⟨_, by rw [hc1]; exact List.getElem?_eq_getElem (by rw [ints_length, hl]; exact hlt)⟩
      obtain ⟨u, hu⟩ := hex
      clear hc1 hcell hr
      go_wp2
      go_roundw
      case rel =>
        refine ⟨j + 1, by omega, by go_num, by go_num, ⟨?_, ho.2⟩, ?_⟩
        · have := hst.out.1; rw [seqI_set _ _ _ hlt] at this; unfold OV; rw [ints_length, show (seqI k (j + 1) ++ xs.drop (j + 1)).length = xs.length by simp [seqI]; omega]; exact this
        · exact grownT hg hst.out.2
      case measure => simp [intOf]; omega
    · obtain rfl : j = xs.length := by omega
      go_wp2
      go_ret
      refine ⟨rfl, ?_, hg⟩
      simpa using ho
set_option maxHeartbeats 400000 in
theorem heldI (A : Option Addr) (c n : Nat) (k : Int) (w : World) (h : RI w A (seqI k n)) (h0 : 0 ≤ k) (h1 : k ≤ 4194304) (hn : n ≤ 4194304) :
    Calls Tryz.prog 23 #[.slice A n c, .int .i64 k] w fun e w' => e = .returned (.int .i64 (k + n)) ∧ w = w' := by
  go_enter Tryz.func23, Tryz.ntmps23
  go_wp2
  go_loop [1, 5] (fun m i => ∃ j : Nat, j ≤ n ∧ i = .int .i64 j ∧ m = .int .i64 (k + j)) (fun _ i => n - (intOf i).toNat)
  case atStart => exact ⟨0, by omega, rfl, by simp⟩
  case round =>
    obtain ⟨j, hj, rfl, rfl⟩ := hrel
    by_cases hlt : j < n
    · obtain ⟨b, o, rfl, hc⟩ := h.at_ (k := j) (by rw [seqI_length]; exact hlt)
      have he : (seqI k n)[j]'(by rw [seqI_length]; exact hlt) = k + j := by
        have := seqI_get k n j hlt; rw [List.getElem?_eq_getElem (by rw [seqI_length]; exact hlt)] at this; exact Option.some.inj this
      rw [he] at hc
      clear he
      go_wp2
      go_round
      case rel => exact ⟨j + 1, by omega, by go_num, by go_num⟩
      case measure => simp [intOf]; omega
    · obtain rfl : j = n := by omega
      go_wp2
      go_ret
      exact ⟨rfl, rfl⟩
/-! ### forms for the laws: worlds as letters -/
theorem eqI_t (A B : Option Addr) (c d : Nat) (xs : List Int) (w : World) (h : RI w A xs) (g : RI w B xs) :
    Calls Tryz.prog 20 #[.slice A xs.length c, .slice B xs.length d] w fun e w' => e = .returned (.bool true) ∧ Below w.heap.size w w' := by
  refine (eqInt64S_any A B c d xs xs w h g).mono ?_
  rintro e w' ⟨rfl, n, rfl⟩
  exact ⟨retB (by simp), belowD (Below.refl _ _) n⟩
theorem heldI_t (A : Option Addr) (c n : Nat) (k : Int) (w : World) (h : RI w A (seqI k n)) (h0 : 0 ≤ k) (h1 : k ≤ 4194304) (hn : n ≤ 4194304) :
    Calls Tryz.prog 23 #[.slice A n c, .int .i64 k] w fun e w' => e = .returned (.int .i64 (k + n)) ∧ Below w.heap.size w w' :=
  (heldI A c n k w h h0 h1 hn).mono fun _ _ ⟨he, hw⟩ => ⟨he, hw ▸ Below.refl _ _⟩
theorem markI_t (v : Value) (xs : List Int) (B C : Nat) (k : Int) (w : World) (h : OI w B C v xs) (hn : xs.length ≤ 4194304) (h0 : 0 ≤ k) (h1 : k ≤ 4194304) :
    Calls Tryz.prog 22 #[v, .int .i64 k] w fun e w' => e = .returned (.int .i64 (k + xs.length)) ∧ OI w' B C v (seqI k xs.length) ∧ Only B C w w' := by
  refine (markI v xs B C k w h hn h0 h1).mono ?_
  rintro e w' ⟨he, ho, hg⟩
  exact ⟨he, ho, (Only.refl B C w).grown hg fun g hg => ⟨(h.1.lt g hg).1, h.2 g hg⟩⟩
set_option maxHeartbeats 1000000 in
theorem toM (c d s a l : Int) (w : World) :
    Calls Tryz.prog 17 #[.agg #[.int .i64 c, .int .i64 d, .int .i64 s, .int .i64 a, .int .i64 l]] w fun e w' => e = .returned (.agg #[.int .i64 c, .int .i64 d, .int .i64 s, .int .i64 a, .int .i64 l]) ∧ Below w.heap.size w w' := by
  go_enter Tryz.func17, Tryz.ntmps17
  go_wp2
  exact bodyPost_ret (v := .agg #[.int .i64 c, .int .i64 d, .int .i64 s, .int .i64 a, .int .i64 l]) (by simp [results, Tryz.results17, go_sem]) rfl
    ⟨rfl, (((Below.refl w.heap.size w).alloc (Nat.le_refl _) _).alloc (by simp only [World.size_alloc]; omega) _).alloc (by simp only [World.size_alloc]; omega) _⟩
theorem info_sl : (Tryz.prog.info? 47).map (fun i => (i.zero, i.size, i.bytes)) = some (some (.slice none 0 0), 1, 24) := by kernel_rfl
theorem make_sls (n : Nat) (hn : n ≤ 1048576) (w : World) : (Instr.makeSlice 24 (.int .i64 (n : Int)) (.int .i64 (n : Int))).run Tryz.prog w = .ok (.slice (some ⟨w.heap.size, 0, none⟩) n n) (w.alloc (.cells (madeCells #[.slice none 0 0] n) 47)) := by
  obtain ⟨i0, hi0, hz0, hz1, hz2⟩ := info_parts info_sl
  have hr := run_make (P := Tryz.prog) w 24 47 i0 _ Tryz.underlying24 hi0 hz0 .i64 .i64 n n (by omega) (by omega) (by rw [hz2]; omega) (by omega)
  simpa [hz1, Value.cells] using hr
def rowAt (N : Nat) (xss : List (List Int)) (j : Nat) : Value := .slice (some ⟨N + 1 + j, 0, none⟩) (xss.getD j []).length (xss.getD j []).length
def fillS (N : Nat) (xss : List (List Int)) (k : Nat) : Array Value := ((List.range k).map (rowAt N xss) ++ List.replicate (xss.length - k) (Value.slice none 0 0)).toArray
theorem fillS_zero (N : Nat) (xss : List (List Int)) : madeCells #[.slice none 0 0] xss.length = fillS N xss 0 := by
  apply Array.toList_inj.1
  rw [toList_madeCells_one]; simp [fillS]
theorem fillS_step (N : Nat) {xss : List (List Int)} {k : Nat} (hk : k < xss.length) : (fillS N xss k).setIfInBounds k (.slice (some ⟨N + 1 + k, 0, none⟩) xss[k].length xss[k].length) = fillS N xss (k + 1) := by
  apply Array.toList_inj.1
  have hl : ((List.range k).map (rowAt N xss)).length = k := by simp
  simp only [fillS, Array.toList_setIfInBounds, List.set_append, hl, Nat.lt_irrefl, if_false, Nat.sub_self]
  obtain ⟨m, hm⟩ : ∃ m, xss.length - k = m + 1 := ⟨xss.length - k - 1, by omega⟩
  rw [hm, List.replicate_succ, List.set_cons_zero, show xss.length - (k + 1) = m by omega, List.range_succ, List.map_append]
  have e : rowAt N xss k = .slice (some ⟨N + 1 + k, 0, none⟩) xss[k].length xss[k].length := by simp [rowAt, List.getD, List.getElem?_eq_getElem hk]
  simp only [List.map_cons, List.map_nil, e, List.append_assoc, List.cons_append, List.nil_append]
theorem fillS_size (N : Nat) (xss : List (List Int)) (k : Nat) (hk : k ≤ xss.length) : (fillS N xss k).size = xss.length := by simp [fillS]; omega
theorem fillS_all (N : Nat) (xss : List (List Int)) : fillS N xss xss.length = ((List.range xss.length).map (rowAt N xss)).toArray := by simp [fillS]
/-- The state of the copy behind k rows. -/
structure CopyAt (w wr : World) (xss : List (List Int)) (k : Nat) : Prop where
  bel : Below w.heap.size w wr
  size : wr.heap.size = w.heap.size + 1 + k
  row : wr.heap[w.heap.size]? = some (.cells (fillS w.heap.size xss k) 47 (0, 0))
  rows : ∀ j, j < k → wr.heap[w.heap.size + 1 + j]? = some (.cells (ints (xss.getD j [])).toArray 2 (0, 0))
theorem CopyAt.start (w : World) (xss : List (List Int)) : CopyAt w (w.alloc (.cells (fillS w.heap.size xss 0) 47)) xss 0 :=
  ⟨(Below.refl _ _).alloc (Nat.le_refl _) _, by simp, heap_alloc_new w _, fun j hj => by omega⟩
theorem CopyAt.next {w wr : World} {xss : List (List Int)} {k : Nat} (h : CopyAt w wr xss k) (hk : k < xss.length) :
    CopyAt w ((wr.alloc (.cells (ints xss[k]).toArray 2)).setCell ⟨w.heap.size, k, none⟩ (.slice (some ⟨w.heap.size + 1 + k, 0, none⟩) xss[k].length xss[k].length)) xss (k + 1) := by
  have hs := h.size
  have e : xss.getD k [] = xss[k] := by simp [List.getD, List.getElem?_eq_getElem hk]
  refine ⟨(h.bel.alloc (by omega) _).setCell (Nat.le_refl _) _, by simp [hs]; omega, ?_, fun j hj => ?_⟩
  · have h0 := (Below.heap_alloc wr (.cells (ints xss[k]).toArray 2) w.heap.size (by omega)).trans h.row
    simp only [World.setCell, Array.getElem?_modify, h0, if_pos]
    simp [fillS_step _ hk]
  · rw [Below.heap_setCell _ _ _ _ (by simp; omega)]
    by_cases hjk : j = k
    · subst hjk
      rw [e, ← hs]; exact heap_alloc_new wr _
    · rw [Below.heap_alloc wr _ _ (by omega)]; exact h.rows j (by omega)
/-- A copy of lists: the value; it is owned; it reads. -/
def CopyII (w : World) (xss : List (List Int)) (e : Ending) (w' : World) : Prop :=
  ∃ A c, e = .returned (.slice A xss.length c) ∧ xss.length ≤ c ∧ RII w' A xss ∧ OII w' w.heap.size w'.heap.size (.slice A xss.length c) xss ∧ Below w.heap.size w w'
theorem CopyAt.done {w wr : World} {xss : List (List Int)} (h : CopyAt w wr xss xss.length) (hn : xss.length ≤ 1048576) (hm : ∀ k (hk : k < xss.length), xss[k].length ≤ 1048576) :
    CopyII w xss (.returned (.slice (some ⟨w.heap.size, 0, none⟩) xss.length xss.length)) wr := by
  have hs := h.size
  have ho : OII wr w.heap.size wr.heap.size (.slice (some ⟨w.heap.size, 0, none⟩) xss.length xss.length) xss := by
    refine ⟨(List.range xss.length).map (rowAt w.heap.size xss), by simp, ⟨⟨by simp, .inr ⟨w.heap.size, xss.length, _, by simp, Nat.le_refl _, h.row, by simp, by simp [maxLen]; omega, by simp [fillS], by rw [fillS_all]; simp [List.take_of_length_le]⟩⟩, fun g hg => ?_⟩, fun j hj => ?_, ?_⟩
    · simp [Value.ownBlock] at hg; omega
    · have e : xss.getD j [] = xss[j] := by simp [List.getD, List.getElem?_eq_getElem hj]
      have hrow := h.rows j hj
      rw [e] at hrow
      have ev : rowAt w.heap.size xss j = .slice (some ⟨w.heap.size + 1 + j, 0, none⟩) xss[j].length xss[j].length := by unfold rowAt; rw [e]
      refine ⟨rowAt w.heap.size xss j, by simp [hj], ⟨⟨by simp [ints], .inr ⟨w.heap.size + 1 + j, xss[j].length, _, by rw [ev, ints_length], by omega, hrow, by simp [ints], by have := hm j hj; simp [maxLen]; omega, by simp [ints], by simp [ints, List.take_of_length_le]⟩⟩, fun g hg => ?_⟩⟩
      simp [rowAt, Value.ownBlock] at hg; omega
    · intro i j u u' hij hu hu' g hg hg'
      rw [List.getElem?_map] at hu hu'
      obtain ⟨a, ha, rfl⟩ := Option.map_eq_some_iff.1 hu
      obtain ⟨b, hb, rfl⟩ := Option.map_eq_some_iff.1 hu'
      have ha' := (List.getElem?_eq_some_iff.1 ha).2
      have hb' := (List.getElem?_eq_some_iff.1 hb).2
      simp at ha' hb'
      simp [rowAt, Value.ownBlock] at hg hg'
      omega
  exact ⟨_, _, rfl, Nat.le_refl _, ho.rii, ho, h.bel⟩
set_option maxHeartbeats 1000000 in
theorem toII (A : Option Addr) (c : Nat) (xss : List (List Int)) (w : World) (h : RII w A xss) (hn : xss.length ≤ 1048576) (hm : ∀ k (hk : k < xss.length), xss[k].length ≤ 1048576) :
    Calls Tryz.prog 18 #[.slice A xss.length c] w (CopyII w xss) := by
  have hmk := make_sls xss.length hn
  go_enter Tryz.func18, Tryz.ntmps18
  go_wp2_with fail
  go_loopw [4] (fun i wr => ∃ k : Nat, k ≤ xss.length ∧ i = .int .i64 k ∧ CopyAt w wr xss k) (fun i _ => xss.length - (intOf i).toNat)
  case atStart => exact ⟨0, by omega, rfl, by rw [fillS_zero w.heap.size]; exact CopyAt.start w xss⟩
  case round =>
    obtain ⟨k, hk, rfl, hC⟩ := hrel
    have HC := Lib.hid hC
    have hs := hC.size
    by_cases hlt : k < xss.length
    · obtain ⟨b, o, A', c', rfl, hc, hcc, hr⟩ := (h.below hC.bel).at_ hlt
      have hN : w.heap.size < wr.heap.size := by omega
      have hcell : wr.cell? ⟨w.heap.size, k, none⟩ = (fillS w.heap.size xss k)[k]? := cell_of_row wr _ _ _ _ _ hC.row
      have hex : ∃ u, wr.cell? ⟨w.heap.size, k, none⟩ = some u := ⟨_, by rw [hcell]; exact Array.getElem?_eq_getElem (by rw [fillS_size _ _ _ hk]; exact hlt)⟩
      obtain ⟨u, hu⟩ := hex
      have hf : wr.frozen? ⟨w.heap.size, k, none⟩ = false := by simp [World.frozen?, hC.row]
      have Hs := Lib.hid hs
      clear hC hs hcell
      go_wp2_with fail
      refine (toI_w A' c' xss[k] wr hr (hm k hlt)).mono ?_
      rintro e w' ⟨rfl, rfl⟩
      go_wp2_with fail
      go_roundw
      case rel =>
        have := HC.out.next hlt
        rw [← Hs.out, World.setCell_alloc_past _ _ _ _ hN] at this
        exact ⟨k + 1, by omega, by go_num, this⟩
      case measure => simp [intOf]; omega
    · obtain rfl : k = xss.length := by omega
      clear hC
      go_wp2_with fail
      go_ret
      exact HC.out.done hn hm
set_option maxHeartbeats 1000000 in
theorem eqII_t (A B : Option Addr) (c d : Nat) (xss : List (List Int)) (w : World) (h : RII w A xss) (g : RII w B xss) :
    Calls Tryz.prog 8 #[.slice A xss.length c, .slice B xss.length d] w fun e w' => e = .returned (.bool true) ∧ Below w.heap.size w w' := by
  have hle := h.le
  have hnb : (((xss.length : Nat) : Int) != ((xss.length : Nat) : Int)) = false := by simp
  go_enter Tryz.func8, Tryz.ntmps8
  go_wp2_with fail
  go_loopw [5] (fun i wr => ∃ k n : Nat, k ≤ xss.length ∧ i = .int .i64 k ∧ wr = w.drewN n) (fun i _ => xss.length - (intOf i).toNat)
  case atStart => exact ⟨0, 0, by omega, rfl, rfl⟩
  case round =>
    obtain ⟨k, n, hk, rfl, rfl⟩ := hrel
    by_cases hlt : k < xss.length
    · obtain ⟨b, o, A1, c1, rfl, hc, hcc, hr⟩ := h.at_ hlt
      obtain ⟨b', o', A2, c2, rfl, hc', hcc', hr'⟩ := g.at_ hlt
      have i0 : (0 : Int) ≤ (k : Int) := by omega
      have i1 : (k : Int) < (xss.length : Int) := by omega
      have hb : (xss[k] == xss[k]) = true := by simp
      have C := fun m => eqInt64S_any A1 A2 c1 c2 xss[k] xss[k] (w.drewN m) hr hr'
      rw [hb] at C
      have HC := Lib.hid C; clear C hb
      go_wp2_with fail
      go_quiet ((go_at_call 20; first | exact quietQA (HC.out _) | exact quietQ (HC.out _)))
      go_wp2_with fail
      go_roundw
      case rel => exact ⟨k + 1, _, by omega, by go_num, rfl⟩
      case measure => simp [intOf]; omega
    · obtain rfl : k = xss.length := by omega
      go_wp2_with fail
      go_ret
      exact ⟨rfl, belowD (Below.refl _ _) n⟩
set_option maxHeartbeats 1000000 in
theorem markII_t (v : Value) (xss : List (List Int)) (B C : Nat) (K : Int) (w : World) (h : OII w B C v xss) (hn : xss.length ≤ 4194304) (hm : sumLen xss ≤ 2097152) (h0 : 0 ≤ K) (h1 : K ≤ 2097152) :
    Calls Tryz.prog 11 #[v, .int .i64 K] w fun e w' => e = .returned (.int .i64 (K + sumLen xss)) ∧ OII w' B C v (numII K xss) ∧ Only B C w w' := by
  obtain ⟨A, c, rfl, hc, hr⟩ := h.reads
  obtain ⟨us, hu⟩ := h
  have hle := hr.le
  go_enter Tryz.func11, Tryz.ntmps11
  go_wp2_with fail
  go_loopw [1, 5] (fun m i wr => ∃ j : Nat, j ≤ xss.length ∧ i = .int .i64 j ∧ m = .int .i64 (K + sumLen (xss.take j)) ∧ OIIu wr B C (.slice A xss.length c) us (numII K (xss.take j) ++ xss.drop j) ∧ Only B C w wr)
    (fun _ i _ => xss.length - (intOf i).toNat)
  case atStart => exact ⟨0, by omega, rfl, by simp [sumLen], by rw [List.take_zero, List.drop_zero]; exact hu, Only.refl _ _ _⟩
  case round =>
    obtain ⟨j, hj, rfl, rfl, ho, hg⟩ := hrel
    by_cases hlt : j < xss.length
    · have hl1 : (numII K (xss.take j)).length = j := by rw [numII_length]; simp; omega
      have hl : (numII K (xss.take j) ++ xss.drop j).length = xss.length := by rw [List.length_append, hl1]; simp; omega
      have hjl : j < (numII K (xss.take j) ++ xss.drop j).length := by omega
      have he : (numII K (xss.take j) ++ xss.drop j)[j]'hjl = xss[j] := by
        rw [List.getElem_append_right (by omega)]; simp [hl1]
      have hul : us.length = xss.length := by have := ho.1; rw [hl] at this; exact this
      obtain ⟨u, huj, hou⟩ := ho.2.2.1 j hjl
      rw [he] at hou
      obtain ⟨A0, c0, hv0, hc0, hr0⟩ := ho.2.1.1.reads
      injection hv0 with e1 e2 e3
      obtain ⟨b, o, hA0, hcell⟩ := hr0.at_ (k := j) (by omega)
      subst e1 e3
      subst hA0
      have Hu := Lib.hid huj
      rw [List.getElem?_eq_getElem (by omega)] at huj
      rw [Option.some.inj huj] at hcell
      have hsl := sumLen_le xss j hlt
      have Hs := Lib.hid (sumLen_succ xss j hlt)
      have HS := Lib.hid (numII_set xss K j hlt)
      clear hl1 he hul huj hr0 hl e2
      go_wp2_with fail
      refine (markI u xss[j] B C _ wr hou (by omega) (by omega) (by omega)).mono ?_
      rintro e w2 ⟨rfl, ho2, hg2⟩
      go_wp2_with fail
      go_roundw
      case rel =>
        refine ⟨j + 1, by omega, by go_num, by rw [Hs.out]; go_num, ?_, hg.grown hg2 fun g hgg => ⟨(hou.1.lt g hgg).1, hou.2 g hgg⟩⟩
        have := ho.set hjl Hu.out ho2 hg2
        rw [HS.out] at this; exact this
      case measure => simp [intOf]; omega
    · obtain rfl : j = xss.length := by omega
      rw [List.take_length, List.drop_length, List.append_nil] at ho
      have e : sumLen (xss.take xss.length) = sumLen xss := by rw [List.take_length]
      have HE := Lib.hid e; clear e
      go_wp2_with fail
      go_ret
      exact ⟨retI (by simp), ho.ex, hg⟩
set_option maxHeartbeats 1000000 in
theorem heldII_t (A : Option Addr) (c : Nat) (xss : List (List Int)) (K : Int) (w : World) (h : RII w A (numII K xss)) (hn : xss.length ≤ 4194304) (hm : sumLen xss ≤ 2097152) (h0 : 0 ≤ K) (h1 : K ≤ 2097152) :
    Calls Tryz.prog 12 #[.slice A xss.length c, .int .i64 K] w fun e w' => e = .returned (.int .i64 (K + sumLen xss)) ∧ Below w.heap.size w w' := by
  go_enter Tryz.func12, Tryz.ntmps12
  go_wp2_with fail
  go_loop [1, 5] (fun m i => ∃ j : Nat, j ≤ xss.length ∧ i = .int .i64 j ∧ m = .int .i64 (K + sumLen (xss.take j))) (fun _ i => xss.length - (intOf i).toNat)
  case atStart => exact ⟨0, by omega, rfl, by simp [sumLen]⟩
  case round =>
    obtain ⟨j, hj, rfl, rfl⟩ := hrel
    by_cases hlt : j < xss.length
    · have hjl : j < (numII K xss).length := by rw [numII_length]; exact hlt
      obtain ⟨b, o, A', c', rfl, hc, hcc, hr⟩ := h.at_ hjl
      have he : (numII K xss)[j] = seqI (K + sumLen (xss.take j)) xss[j].length := by
        have := numII_at xss K j hlt; rw [List.getElem?_eq_getElem hjl] at this; exact Option.some.inj this
      rw [he, seqI_length] at hc
      rw [he] at hr
      have hsl := sumLen_le xss j hlt
      have Hs := Lib.hid (sumLen_succ xss j hlt)
      clear he hcc
      go_wp2_with fail
      refine (heldI A' c' xss[j].length _ w hr (by omega) (by omega) (by omega)).mono ?_
      rintro e w2 ⟨rfl, rfl⟩
      go_wp2_with fail
      go_round
      case rel => exact ⟨j + 1, by omega, by go_num, by rw [Hs.out]; go_num⟩
      case measure => simp [intOf]; omega
    · obtain rfl : j = xss.length := by omega
      go_wp2_with fail
      go_ret
      exact ⟨retI (by simp), Below.refl _ _⟩
/-- What is left of a bound: the sum has been taken off, or it is below 0. -/
def Left (L r n : Int) : Prop := r ≤ L ∧ (0 ≤ r → r = L - n)
def ResLeft (w : World) (L n : Int) (e : Ending) (w' : World) : Prop := ∃ r : Int, e = .returned (.int .i64 r) ∧ Left L r n ∧ w = w' ∧ -1 ≤ r
set_option maxHeartbeats 400000 in
theorem szI (A : Option Addr) (c n : Nat) (L : Int) (w : World) (hn : n ≤ 9223372036854775807) (h0 : 0 ≤ L) (h1 : L ≤ 1048576) :
    Calls Tryz.prog 24 #[.slice A n c, .int .i64 L] w (ResLeft w L n) := by
  by_cases hl : L - n < 0
  · go_enter Tryz.func24, Tryz.ntmps24
    go_wp2
    go_ret
    exact ⟨-1, rfl, ⟨by omega, by omega⟩, rfl, by omega⟩
  · go_enter Tryz.func24, Tryz.ntmps24
    go_wp2
    go_ret
    exact ⟨L - n, rfl, ⟨by omega, by omega⟩, rfl, by omega⟩
set_option maxHeartbeats 1000000 in
theorem szII (A : Option Addr) (c : Nat) (xss : List (List Int)) (L : Int) (w : World) (h : RII w A xss) (h0 : 0 ≤ L) (h1 : L ≤ 1048576) :
    Calls Tryz.prog 13 #[.slice A xss.length c, .int .i64 L] w (ResLeft w L (xss.length + sumLen xss)) := by
  have hle := h.le
  by_cases hl : L - (xss.length : Int) < 0
  · go_enter Tryz.func13, Tryz.ntmps13
    go_wp2_with fail
    go_ret
    exact ⟨-1, rfl, ⟨by omega, by omega⟩, rfl, by omega⟩
  · go_enter Tryz.func13, Tryz.ntmps13
    go_wp2_with fail
    go_loop [1, 5] (fun m i => ∃ j : Nat, j ≤ xss.length ∧ i = .int .i64 j ∧ m = .int .i64 (L - xss.length - sumLen (xss.take j)) ∧ (0 : Int) ≤ L - xss.length - sumLen (xss.take j)) (fun _ i => xss.length - (intOf i).toNat)
    case atStart => exact ⟨0, by omega, rfl, by simp [sumLen], by simp [sumLen]; omega⟩
    case round =>
      obtain ⟨j, hj, rfl, rfl, hge⟩ := hrel
      by_cases hlt : j < xss.length
      · obtain ⟨b, o, A', c', rfl, hc, hcc, hr⟩ := h.at_ hlt
        have Hs := Lib.hid (sumLen_succ xss j hlt)
        have hsl := sumLen_le xss j hlt
        have hlr := hr.le
        go_wp2_with fail
        refine (szI A' c' xss[j].length _ w hlr hge (by omega)).mono ?_
        rintro e w2 ⟨r, rfl, hL, rfl, hm1⟩
        by_cases hneg : r < 0
        · go_wp2_with fail
          go_ret
          have := hL.2
          refine ⟨-1, rfl, ⟨by omega, by omega⟩, rfl, by omega⟩
        · have hr2 := hL.2 (by omega)
          have HR := Lib.hid hr2; clear hr2 hL
          go_wp2_with fail
          go_round
          case rel => exact ⟨j + 1, by omega, by go_num, by rw [Hs.out]; have := HR.out; congr 1; omega, by have := HR.out; have := Hs.out; omega⟩
          case measure => simp [intOf]; omega
      · obtain rfl : j = xss.length := by omega
        rw [List.take_length] at hge
        go_wp2_with fail
        go_ret
        exact ⟨L - xss.length - sumLen xss, retI (by simp), ⟨by omega, by omega⟩, rfl, by omega⟩
def ResLeftB (w : World) (L n : Int) (e : Ending) (w' : World) : Prop := ∃ r : Int, e = .returned (.int .i64 r) ∧ Left L r n ∧ Below w.heap.size w w' ∧ -1 ≤ r
theorem szII_b (A : Option Addr) (c : Nat) (xss : List (List Int)) (L : Int) (w : World) (h : RII w A xss) (h0 : 0 ≤ L) (h1 : L ≤ 1048576) :
    Calls Tryz.prog 13 #[.slice A xss.length c, .int .i64 L] w (ResLeftB w L (xss.length + sumLen xss)) :=
  (szII A c xss L w h h0 h1).mono fun _ _ ⟨r, he, hL, hw, hm⟩ => ⟨r, he, hL, hw ▸ Below.refl _ _, hm⟩
end Go.Proofs.YtapocenhmdcfoaaGreat
