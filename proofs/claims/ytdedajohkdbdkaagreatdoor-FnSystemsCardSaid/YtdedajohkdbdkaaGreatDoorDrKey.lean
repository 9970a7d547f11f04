/- Contracts of l02Next at any cuts, l02Some, l02DrawKey: drawn keys. -/
import Derived.Test.YtdedajohkdbdkaaGreatDoorDrCuts
namespace Go.Proofs.YtdedajohkdbdkaaGreatDoor
set_option linter.unusedVariables false
open Go.RowKit
theorem isKey_of {m : Mk} {r : Nat} {key x : List Int} (h : x ∈ keysG m allA [] r key false) (hb : begins m key = true) (hw : allW 0 (m.d - 1) key = true) (hl : (key.length : Int) + r = m.c) : isKey m x = true := by
  obtain ⟨h1, h2, h3, h4, h5⟩ := (mem_keysG m allA r key x hb).1 h
  unfold isKey
  rw [beq_iff_eq, fault_zero_iff]
  have e : begins m x = true ↔ stepsOK m.s x = true ∧ runsOK m.a x = true := by unfold begins; rw [Bool.and_eq_true]
  have h3' := e.1 h3
  refine ⟨by omega, ?_, h3'.1, h3'.2, h4⟩
  unfold allW
  rw [List.all_eq_true]
  intro y hy
  obtain ⟨j, hj, rfl⟩ := List.getElem_of_mem hy
  by_cases hjk : j < key.length
  · have hk := allW_at hw hjk
    have e2 : x[j] = key[j] := by
      have : (x.take key.length)[j]'(by rw [List.length_take]; omega) = key[j] := by simp only [h2]
      rw [← this, List.getElem_take]
    rw [e2]; unfold inB; simp; omega
  · have := h5 j (by omega) hj
    rw [show x.getD j 0 = x[j] by simp [List.getD, List.getElem?_eq_getElem hj]] at this
    unfold inB
    simp; omega
theorem firstK_key {m : Mk} (hm : isMaker m = true) {r : Nat} {key x : List Int} (h : firstK m r key = some x) (hw : allW 0 (m.d - 1) key = true) (hl : (key.length : Int) + r = m.c) : isKey m x = true :=
  isKey_of (firstK_mem h).1 (firstK_mem h).2 hw hl
/-- a key that every maker has -/
def zig (c d : Nat) : List Int := (List.range c).map fun i => if i < d then (i : Int) else if (i - d) % 2 = 0 then (d : Int) - 2 else (d : Int) - 1
theorem zig_steps : ∀ c : Fin 7, ∀ d : Fin 9, ∀ s : Fin 9, 2 ≤ c.val → 2 ≤ d.val → 1 ≤ s.val → stepsOK (s.val : Int) (zig c d) = true := by decide +kernel
theorem zig_runs : ∀ c : Fin 7, ∀ d : Fin 9, ∀ a : Fin 7, 2 ≤ c.val → 2 ≤ d.val → 1 ≤ a.val → runsOK (a.val : Int) (zig c d) = true := by decide +kernel
theorem zig_kinds : ∀ c : Fin 7, ∀ d : Fin 9, 2 ≤ c.val → 2 ≤ d.val → ((min c.val d.val : Nat) : Int) ≤ kinds (zig c d) ∧ allW 0 ((d.val : Int) - 1) (zig c d) = true := by decide +kernel
theorem zig_key {m : Mk} (hm : isMaker m = true) : isKey m (zig m.c.toNat m.d.toNat) = true := by
  obtain ⟨c1, c2, d1, d2, s1, s2, a1, a2, l1, l2, l3⟩ := mk_bounds hm
  have z1 := zig_steps ⟨m.c.toNat, by omega⟩ ⟨m.d.toNat, by omega⟩ ⟨m.s.toNat, by omega⟩ (by simp only; omega) (by simp only; omega) (by simp only; omega)
  have z2 := zig_runs ⟨m.c.toNat, by omega⟩ ⟨m.d.toNat, by omega⟩ ⟨m.a.toNat, by omega⟩ (by simp only; omega) (by simp only; omega) (by simp only; omega)
  have z3 := zig_kinds ⟨m.c.toNat, by omega⟩ ⟨m.d.toNat, by omega⟩ (by simp only; omega) (by simp only; omega)
  simp only at z1 z2 z3
  have es : ((m.s.toNat : Nat) : Int) = m.s := by omega
  have ea : ((m.a.toNat : Nat) : Int) = m.a := by omega
  have ed : ((m.d.toNat : Nat) : Int) = m.d := by omega
  rw [es] at z1; rw [ea] at z2; rw [ed] at z3
  unfold isKey
  rw [beq_iff_eq, fault_zero_iff]
  exact ⟨by simp [zig]; omega, z3.2, z1, z2, by omega⟩
theorem first_some {m : Mk} (hm : isMaker m = true) : ∃ x, firstK m m.c.toNat [] = some x ∧ isKey m x = true := by
  have h := (allK_is hm).2 (zig_key hm)
  unfold allK at h
  have hb := mk_bounds hm
  cases hf : firstK m m.c.toNat [] with
  | none =>
    unfold firstK at hf
    rw [if_pos (begins_nil m), List.head?_eq_none_iff] at hf
    rw [hf] at h; cases h
  | some x => exact ⟨x, rfl, firstK_key hm hf rfl (by simp; omega)⟩
/-- a key, or none; in new memory -/
def ResKey (m : Mk) (w : World) (e : Ending) (w' : World) : Prop := ∃ A c xs b, e = .returned (.tuple #[.slice A xs.length c, .bool b]) ∧ xs.length ≤ c ∧ RIn w.heap.size w' A xs ∧ (b = true → isKey m xs = true) ∧ Below w.heap.size w w'
theorem resKey_none {m : Mk} {w w' : World} (hb : Below w.heap.size w w') : ResKey m w (.returned (.tuple #[.slice none 0 0, .bool false])) w' := ⟨none, 0, [], false, rfl, Nat.le_refl _, RIn.nil, fun h => (by cases h), hb⟩
theorem resKey_some {m : Mk} {w w' : World} {A : Option Addr} {c n : Nat} {xs : List Int} (h : isKey m xs = true) (hn : n = xs.length) (hc : xs.length ≤ c) (hr : RI w' A xs) (hk : ∀ b o, A = some ⟨b, o, none⟩ → w.heap.size ≤ b) (hb : Below w.heap.size w w') : ResKey m w (.returned (.tuple #[.slice A n c, .bool true])) w' := by
  subst hn; exact ⟨A, c, xs, true, rfl, hc, ⟨hr, fun _ b o e hlt => by have := hk b o e; omega⟩, fun _ => h, hb⟩
/-- a drawn key -/
def ResSome (m : Mk) (S : Nat) (A : Option Addr) (c : Nat) (bs : List Int) (w : World) (e : Ending) (w' : World) : Prop :=
  ∃ K q xs, e = .returned (.slice K (List.length xs) q) ∧ xs.length ≤ q ∧ isKey m xs = true ∧ RIn w.heap.size w' K xs ∧ Dr S A c bs w w'
set_option maxRecDepth 100000 in
set_option maxHeartbeats 8000000 in
theorem l02NextK_any (m : Mk) (hm : isMaker m = true) (cuts : List Int) (A : Option Addr) (c : Nat) (w : World) (h : RI w A cuts) (hcap : cuts.length ≤ c) (hkp : (cuts.length : Int) = m.c ∧ allW 0 (m.d - 1) cuts = true) :
    Calls Tryz.prog 73 #[.agg #[.int .i64 m.c, .int .i64 m.d, .int .i64 m.s, .int .i64 m.a, .int .i64 m.l], .slice A cuts.length c] w (ResKey m w) := by
  have hmb := mk_bounds hm
  have c1 : 2 ≤ m.c := hmb.1
  have c2 : m.c ≤ 6 := hmb.2.1
  have d2 : 2 ≤ m.d := hmb.2.2.1
  have d8 : m.d ≤ 8 := hmb.2.2.2.1
  clear hmb
  have HCR := Lib.hid hkp.1
  have HAW := Lib.hid hkp.2
  have hl6 : cuts.length ≤ 6 := by omega
  clear hkp
  have HMK := Lib.hid hm; clear hm
  have hle := h.le
  obtain ⟨w1, hw1⟩ : ∃ w1, w1 = w.alloc (.cells #[.int .i64 m.c, .int .i64 m.d, .int .i64 m.s, .int .i64 m.a, .int .i64 m.l] 25) := ⟨_, rfl⟩
  have B1 : Below w.heap.size w w1 := by rw [hw1]; exact (Below.refl w.heap.size w).alloc (Nat.le_refl _) _
  have hs1 : w1.heap.size = w.heap.size + 1 := by rw [hw1]; simp
  have bm : BoxC w1 w.heap.size 0 [.int .i64 m.c, .int .i64 m.d, .int .i64 m.s, .int .i64 m.a, .int .i64 m.l] := by rw [hw1]; simp [BoxC, Go.World.cell?_alloc_at]
  have HBX := Lib.hid bm; clear bm
  go_enter Tryz.func73, Tryz.ntmps73
  go_wp2_with fail
  rw [← hw1]
  clear hw1
  go_loopw [6, 7, 8, 9] (fun i _ _ _ wr => ∃ j : Nat, j ≤ cuts.length ∧ i = .int .i64 ((j : Int) - 1) ∧ Below w1.heap.size w1 wr) (fun i _ _ _ _ => (intOf i + 1).toNat)
  case atStart => exact ⟨cuts.length, Nat.le_refl _, rfl, Below.refl _ _⟩
  case round =>
    obtain ⟨j, hj, rfl, hbo⟩ := hrel
    obtain ⟨wo, rfl⟩ : ∃ wo : World, wo = wr := ⟨_, rfl⟩
    have hsz := hbo.size
    have Bo := B1.trans (hbo.mono (by omega))
    by_cases hj0 : j = 0
    · subst hj0
      go_wp2_with fail
      go_ret2
      exact resKey_none Bo
    · obtain ⟨n, rfl⟩ : ∃ n, j = n + 1 := ⟨j - 1, by omega⟩
      have e1 : (((n + 1 : Nat) : Int) - 1) = (n : Int) := by omega
      rw [e1]
      have hnl : n < cuts.length := by omega
      obtain ⟨bA, oA, rfl, hcA0⟩ := h.at_ hnl
      have hbA := World.block_lt_of_cell? w _ hcA0
      simp only at hbA
      have hcA := cell_in Bo hbA hcA0
      obtain ⟨x, hx⟩ : ∃ x, x = cuts[n] := ⟨_, rfl⟩
      have hxb := allW_at HAW.out hnl
      rw [← hx] at hcA hxb
      obtain ⟨pre, hpre⟩ : ∃ pre, pre = cuts.take n := ⟨_, rfl⟩
      have HPL := Lib.hid (show pre.length = n by rw [hpre, List.length_take]; omega)
      have HPW := Lib.hid (show allW 0 (m.d - 1) pre = true by
        rw [hpre]; unfold allW; rw [List.all_eq_true]; intro y hy
        have := HAW.out; unfold allW at this; rw [List.all_eq_true] at this
        exact this y (List.mem_of_mem_take hy))
      have HRP := Lib.hid (show RI w (some ⟨bA, oA, none⟩) pre by rw [hpre]; exact h.take n)
      have i0 : (0 : Int) ≤ (n : Int) := by omega
      have i1 : (n : Int) < (cuts.length : Int) := by omega
      have i2 : (n : Int) ≤ (c : Int) := by omega
      have hx0 := hxb.1
      have hx1 := hxb.2
      clear hx hpre hcA0 hxb
      go_wp2_with fail
      go_loopw [7, 8, 9] (fun i _ _ wx => ∃ d : Int, i = .int .i64 d ∧ x + 1 ≤ d ∧ d ≤ m.d ∧ Below w1.heap.size w1 wx) (fun i _ _ _ => (m.d - intOf i).toNat)
      case atStart => exact ⟨x + 1, rfl, by omega, by omega, hbo⟩
      case round =>
        obtain ⟨d, rfl, hd0, hd1, hb⟩ := hrel
        have hszx := hb.size
        have Bw := B1.trans (hb.mono (by omega))
        obtain ⟨q0, q1, q2, q3, q4, _⟩ := HBX.out.keep fun i v hv => cell_in hb (by simp only; omega) hv
        by_cases hlt : d < m.d
        · obtain ⟨k2, hk2⟩ : ∃ k2, k2 = pre ++ [d] := ⟨_, rfl⟩
          have HAW2 := Lib.hid (show allW 0 (m.d - 1) k2 = true by rw [hk2]; exact allW_snoc HPW.out (by omega) (by omega))
          have HIN := Lib.hid (show ints pre ++ [.int .i64 d] = ints k2 by rw [hk2, ints_append]; rfl)
          have HL2 := Lib.hid (show k2.length = n + 1 by rw [hk2]; simp [HPL.out])
          have HK2 := Lib.hid hk2; clear hk2
          have KS := Lib.hid (show ∀ w' : World, Below wr.heap.size wr w' → (w'.cell? ⟨w.heap.size, 0, none⟩ = some (.int .i64 m.c) ∧ w'.cell? ⟨w.heap.size, 1, none⟩ = some (.int .i64 m.d) ∧ w'.cell? ⟨w.heap.size, 2, none⟩ = some (.int .i64 m.s) ∧ w'.cell? ⟨w.heap.size, 3, none⟩ = some (.int .i64 m.a) ∧ w'.cell? ⟨w.heap.size, 4, none⟩ = some (.int .i64 m.l) ∧ True) from fun w' hw =>
            HBX.out.keep fun i v hv => cell_in (hb.trans (hw.mono hszx)) (by simp only; omega) hv)
          have OWN := Lib.hid (show ∀ (W : World), Below wr.heap.size wr W → Calls Tryz.prog 84 #[.slice (some ⟨bA, oA, none⟩) n c] W (ResI W pre) from fun W hW => by
            have := l01Own_any (some ⟨bA, oA, none⟩) c pre W (HRP.out.below (Bw.trans (hW.mono Bw.size))) (by have := HPL.out; omega)
            rw [HPL.out] at this; exact this)
          go_wp2_with fail
          refine wp_region_held_drew (S := (fun w' => (w'.cell? ⟨w.heap.size, 0, none⟩ = some (.int .i64 m.c) ∧ w'.cell? ⟨w.heap.size, 1, none⟩ = some (.int .i64 m.d) ∧ w'.cell? ⟨w.heap.size, 2, none⟩ = some (.int .i64 m.s) ∧ w'.cell? ⟨w.heap.size, 3, none⟩ = some (.int .i64 m.a) ∧ w'.cell? ⟨w.heap.size, 4, none⟩ = some (.int .i64 m.l) ∧ True))) (by kernel_rfl) (KS.out _ (belowDrew0 _)) (fun hHeld => ?_)
          refine takeD (i := 0) (some 29) (.agg #[.int .i64 m.c, .int .i64 m.d, .int .i64 m.s, .int .i64 m.a, .int .i64 m.l]) rfl (by kernel_rfl) (by kernel_rfl) (by kernel_rfl) (by kernel_rfl) (fun _ _ _ h => h) (by assumption) (Or.inl ⟨by rfl, fun w hSw => by (try dsimp only at hSw); go_simp⟩) ?_
          simp only [Act.put, List.setIfInBounds_toArray, List.set_cons_zero, List.set_cons_succ]
          refine takeD (i := 1) (some 30) (.slice (some ⟨bA, oA, none⟩) cuts.length c) rfl (by kernel_rfl) (by kernel_rfl) (by kernel_rfl) (by kernel_rfl) (fun _ _ _ h => h) (by assumption) (Or.inl ⟨by rfl, fun w hSw => by (try dsimp only at hSw); go_simp⟩) ?_
          simp only [Act.put, List.setIfInBounds_toArray, List.set_cons_zero, List.set_cons_succ]
          refine takeD (i := 2) (some 31) (.int .i64 (n : Int)) rfl (by kernel_rfl) (by kernel_rfl) (by kernel_rfl) (by kernel_rfl) (fun _ _ _ h => h) (by assumption) (Or.inl ⟨by rfl, fun w hSw => by (try dsimp only at hSw); go_simp⟩) ?_
          simp only [Act.put, List.setIfInBounds_toArray, List.set_cons_zero, List.set_cons_succ]
          refine takeD (i := 3) (some 32) (.slice (some ⟨bA, oA, none⟩) n c) rfl (by kernel_rfl) (by kernel_rfl) (by kernel_rfl) (by kernel_rfl) (fun _ _ _ h => h) (by assumption) (Or.inl ⟨by rfl, fun w hSw => by (try dsimp only at hSw); go_simp⟩) ?_
          simp only [Act.put, List.setIfInBounds_toArray, List.set_cons_zero, List.set_cons_succ]
          refine takeD (i := 5) (some 34) (.int .i64 d) rfl (by kernel_rfl) (by kernel_rfl) (by kernel_rfl) (by kernel_rfl) (fun _ _ _ h => h) (by assumption) (Or.inl ⟨by rfl, fun w hSw => by (try dsimp only at hSw); go_simp⟩) ?_
          simp only [Act.put, List.setIfInBounds_toArray, List.set_cons_zero, List.set_cons_succ]
          refine wpAnyH_ready (rs := [4, 6]) (by kernel_rfl) (by simp) (AllReadyH.cons rfl (fun K hK => ?_) (AllReadyH.cons rfl (fun K hK => ?_) AllReadyH.nil))
          · go_simp
            refine (OWN.out _ (belowDrew0 _)).mono ?_
            rintro e w4 ⟨A4, c4, rfl, hc4, hr4, ho4', hb4'⟩
            have Hb4 := Lib.hid (belowDrew hb4')
            have HHeld := KS.out _ Hb4.out
            refine hK.out _ _ HHeld (fun _ => ?_)
            clear hK K
            try simp only [Act.put, List.setIfInBounds_toArray, List.set_cons_zero, List.set_cons_succ]
            refine wpAnyH_ready (rs := [6]) (by kernel_rfl) (by simp) (AllReadyH.cons rfl (fun K hK => ?_) AllReadyH.nil)
            go_simp
            have hb4 := Hb4.out.alloc Hb4.out.size (.cells #[.int .i64 d] 2)
            have ho4 : OV (w4.alloc (.cells #[.int .i64 d] 2)) wr.heap.size 2 (.slice A4 pre.length c4) (ints pre) := ho4'.1.alloc _
            have hcell4 := one_cell w4 (.int .i64 d) 2
            clear ho4' hr4 hb4'
            have HHeld := KS.out _ hb4
            refine hK.out _ _ HHeld (fun _ => ?_)
            clear hK K
            try simp only [Act.put, List.setIfInBounds_toArray, List.set_cons_zero, List.set_cons_succ]
            refine wpAnyH_ready (rs := [7]) (by kernel_rfl) (by simp) (AllReadyH.cons rfl (fun K hK => ?_) AllReadyH.nil)
            refine step_app1 _ (by rfl) _ _ _ (by rfl) wr.heap.size 2 _ 8 Tryz.underlying44 info_int rfl (by omega) _ _ (by rfl) ho4 _ _ (by rfl) hcell4 rfl (by rw [ints_length]; have := HPL.out; omega) (by have := hb4.size; omega) ?_
            intro v5 w5 ho5 hg5 hn5 hat5
            have hb5 := ho4.own (Nat.le_refl _) hb4 hg5 hb4.size
            rw [HIN.out] at ho5
            have hl2 := HL2.out
            obtain ⟨g5, c5, rfl, hg5a, hg5b, hcc5, _, _⟩ := ho5.open1 (by omega)
            have hr5 : RI w5 (some ⟨g5, 0, none⟩) k2 := by
              obtain ⟨A9, c9, e9, _, h9⟩ := ho5.reads
              injection e9 with e9 _ _
              rw [e9]; exact h9
            have Hb5 := Lib.hid hb5
            clear ho5 hg5 hn5 hat5 hl2
            have HHeld := KS.out _ Hb5.out
            refine hK.out _ _ HHeld (fun _ => ?_)
            clear hK K
            (try simp only [Act.put]); (try simp only [List.setIfInBounds_toArray]); (try simp only [List.set_cons_zero, List.set_cons_succ])
            have HIH := Lib.hid (l02First_any m HMK.out (cuts.length - (n + 1)) k2 (some ⟨g5, 0, none⟩) c5 w5 hr5 hcc5 (by have := HL2.out; have := HCR.out; omega) HAW2.out)
            refine wpAnyH_ready (rs := [8]) (by kernel_rfl) (by simp) (AllReadyH.cons rfl (fun K hK => ?_) AllReadyH.nil)
            go_simp
            refine HIH.out.mono ?_
            rintro e w6 ⟨A6, c6, xs6, b6, rfl, hc6, hr6, hso, hno, hbk6, b6'⟩
            have Hb6 := Lib.hid (Hb5.out.trans (b6'.mono Hb5.out.size))
            have HK6 := Lib.hid (show ∀ b o, A6 = some ⟨b, o, none⟩ → w.heap.size ≤ b from fun b o e => by
              have h1 := Bw.size; have h2 := Hb5.out.size
              rcases hbk6 b o e with h | ⟨o', h⟩
              · omega
              · injection h with h; injection h with h _ _; omega)
            clear hbk6
            have Hr6 := Lib.hid hr6; have HSO := Lib.hid hso; have HNO := Lib.hid hno
            clear hr6 hso hno b6'
            have HHeld := KS.out _ Hb6.out
            refine hK.out _ _ HHeld (fun _ => ?_)
            clear hK K
            try simp only [Act.put, List.setIfInBounds_toArray, List.set_cons_zero, List.set_cons_succ]
            refine takeD (i := 9) (some 28) (.tuple #[.slice A6 xs6.length c6, .bool b6]) rfl (by kernel_rfl) (by kernel_rfl) (by kernel_rfl) (by kernel_rfl) (fun _ _ _ h => h) (by assumption) (Or.inl ⟨by rfl, fun w hSw => by (try dsimp only at hSw); go_simp⟩) ?_
            simp only [Act.put, List.setIfInBounds_toArray, List.set_cons_zero, List.set_cons_succ]
            refine takeD (i := 10) (some 38) (.slice A6 xs6.length c6) rfl (by kernel_rfl) (by kernel_rfl) (by kernel_rfl) (by kernel_rfl) (fun _ _ _ h => h) (by assumption) (Or.inl ⟨by rfl, fun w hSw => by (try dsimp only at hSw); go_simp⟩) ?_
            simp only [Act.put, List.setIfInBounds_toArray, List.set_cons_zero, List.set_cons_succ]
            refine takeD (i := 11) (some 39) (.bool b6) rfl (by kernel_rfl) (by kernel_rfl) (by kernel_rfl) (by kernel_rfl) (fun _ _ _ h => h) (by assumption) (Or.inl ⟨by rfl, fun w hSw => by (try dsimp only at hSw); go_simp⟩) ?_
            simp only [Act.put, List.setIfInBounds_toArray, List.set_cons_zero, List.set_cons_succ]
            refine takeD (i := 12) (some 8) (.slice A6 xs6.length c6) rfl (by kernel_rfl) (by kernel_rfl) (by kernel_rfl) (by kernel_rfl) (fun _ _ _ h => h) (by assumption) (Or.inl ⟨by rfl, fun w hSw => by (try dsimp only at hSw); go_simp⟩) ?_
            simp only [Act.put, List.setIfInBounds_toArray, List.set_cons_zero, List.set_cons_succ]
            refine takeD (i := 13) (some 9) (.bool b6) rfl (by kernel_rfl) (by kernel_rfl) (by kernel_rfl) (by kernel_rfl) (fun _ _ _ h => h) (by assumption) (Or.inl ⟨by rfl, fun w hSw => by (try dsimp only at hSw); go_simp⟩) ?_
            simp only [Act.put, List.setIfInBounds_toArray, List.set_cons_zero, List.set_cons_succ]
            refine wpAnyH_done (by kernel_rfl) ?_ _
            cases b6 with
            | true =>
              have HX6 := Lib.hid (show isKey m xs6 = true by
                cases ho : firstK m (cuts.length - (n + 1)) k2 with
                | none => cases HNO.out ho
                | some x => rw [(HSO.out x ho).2]; exact firstK_key HMK.out ho HAW2.out (by have := HL2.out; have := HCR.out; omega))
              go_wp2_with fail
              go_ret2
              exact resKey_some HX6.out rfl hc6 Hr6.out HK6.out (Bw.trans (Hb6.out.mono Bw.size))
            | false =>
              go_wp2_with fail
              go_roundw
              case rel => exact ⟨d + 1, by go_num, by omega, by omega, hb.trans (Hb6.out.mono (by omega))⟩
              case measure => simp [intOf]; omega
          · go_simp
            have hb40 : Below wr.heap.size wr (wr.drew.alloc (.cells #[.int .i64 d] 2)) := (belowDrew0 wr).alloc (Nat.le_refl _) _
            have HHeld := KS.out _ hb40
            refine hK.out _ _ HHeld (fun _ => ?_)
            clear hK K
            try simp only [Act.put, List.setIfInBounds_toArray, List.set_cons_zero, List.set_cons_succ]
            refine wpAnyH_ready (rs := [4]) (by kernel_rfl) (by simp) (AllReadyH.cons rfl (fun K hK => ?_) AllReadyH.nil)
            go_simp
            refine (OWN.out _ hb40).mono ?_
            rintro e w4 ⟨A4, c4, rfl, hc4, hr4, ho4', hb4'⟩
            have hb4 := hb40.trans (hb4'.mono hb40.size)
            have ho4 : OV w4 wr.heap.size 2 (.slice A4 pre.length c4) (ints pre) := ho4'.1.mono (by simp)
            have hcell4 : w4.cell? ⟨wr.heap.size, 0, none⟩ = some (.int .i64 d) := cell_in hb4' (by simp) (one_cell wr (.int .i64 d) 2)
            clear ho4' hr4 hb4'
            have HHeld := KS.out _ hb4
            refine hK.out _ _ HHeld (fun _ => ?_)
            clear hK K
            try simp only [Act.put, List.setIfInBounds_toArray, List.set_cons_zero, List.set_cons_succ]
            refine wpAnyH_ready (rs := [7]) (by kernel_rfl) (by simp) (AllReadyH.cons rfl (fun K hK => ?_) AllReadyH.nil)
            refine step_app1 _ (by rfl) _ _ _ (by rfl) wr.heap.size 2 _ 8 Tryz.underlying44 info_int rfl (by omega) _ _ (by rfl) ho4 _ _ (by rfl) hcell4 rfl (by rw [ints_length]; have := HPL.out; omega) (by have := hb4.size; omega) ?_
            intro v5 w5 ho5 hg5 hn5 hat5
            have hb5 := ho4.own (Nat.le_refl _) hb4 hg5 hb4.size
            rw [HIN.out] at ho5
            have hl2 := HL2.out
            obtain ⟨g5, c5, rfl, hg5a, hg5b, hcc5, _, _⟩ := ho5.open1 (by omega)
            have hr5 : RI w5 (some ⟨g5, 0, none⟩) k2 := by
              obtain ⟨A9, c9, e9, _, h9⟩ := ho5.reads
              injection e9 with e9 _ _
              rw [e9]; exact h9
            have Hb5 := Lib.hid hb5
            clear ho5 hg5 hn5 hat5 hl2
            have HHeld := KS.out _ Hb5.out
            refine hK.out _ _ HHeld (fun _ => ?_)
            clear hK K
            (try simp only [Act.put]); (try simp only [List.setIfInBounds_toArray]); (try simp only [List.set_cons_zero, List.set_cons_succ])
            have HIH := Lib.hid (l02First_any m HMK.out (cuts.length - (n + 1)) k2 (some ⟨g5, 0, none⟩) c5 w5 hr5 hcc5 (by have := HL2.out; have := HCR.out; omega) HAW2.out)
            refine wpAnyH_ready (rs := [8]) (by kernel_rfl) (by simp) (AllReadyH.cons rfl (fun K hK => ?_) AllReadyH.nil)
            go_simp
            refine HIH.out.mono ?_
            rintro e w6 ⟨A6, c6, xs6, b6, rfl, hc6, hr6, hso, hno, hbk6, b6'⟩
            have Hb6 := Lib.hid (Hb5.out.trans (b6'.mono Hb5.out.size))
            have HK6 := Lib.hid (show ∀ b o, A6 = some ⟨b, o, none⟩ → w.heap.size ≤ b from fun b o e => by
              have h1 := Bw.size; have h2 := Hb5.out.size
              rcases hbk6 b o e with h | ⟨o', h⟩
              · omega
              · injection h with h; injection h with h _ _; omega)
            clear hbk6
            have Hr6 := Lib.hid hr6; have HSO := Lib.hid hso; have HNO := Lib.hid hno
            clear hr6 hso hno b6'
            have HHeld := KS.out _ Hb6.out
            refine hK.out _ _ HHeld (fun _ => ?_)
            clear hK K
            try simp only [Act.put, List.setIfInBounds_toArray, List.set_cons_zero, List.set_cons_succ]
            refine takeD (i := 9) (some 28) (.tuple #[.slice A6 xs6.length c6, .bool b6]) rfl (by kernel_rfl) (by kernel_rfl) (by kernel_rfl) (by kernel_rfl) (fun _ _ _ h => h) (by assumption) (Or.inl ⟨by rfl, fun w hSw => by (try dsimp only at hSw); go_simp⟩) ?_
            simp only [Act.put, List.setIfInBounds_toArray, List.set_cons_zero, List.set_cons_succ]
            refine takeD (i := 10) (some 38) (.slice A6 xs6.length c6) rfl (by kernel_rfl) (by kernel_rfl) (by kernel_rfl) (by kernel_rfl) (fun _ _ _ h => h) (by assumption) (Or.inl ⟨by rfl, fun w hSw => by (try dsimp only at hSw); go_simp⟩) ?_
            simp only [Act.put, List.setIfInBounds_toArray, List.set_cons_zero, List.set_cons_succ]
            refine takeD (i := 11) (some 39) (.bool b6) rfl (by kernel_rfl) (by kernel_rfl) (by kernel_rfl) (by kernel_rfl) (fun _ _ _ h => h) (by assumption) (Or.inl ⟨by rfl, fun w hSw => by (try dsimp only at hSw); go_simp⟩) ?_
            simp only [Act.put, List.setIfInBounds_toArray, List.set_cons_zero, List.set_cons_succ]
            refine takeD (i := 12) (some 8) (.slice A6 xs6.length c6) rfl (by kernel_rfl) (by kernel_rfl) (by kernel_rfl) (by kernel_rfl) (fun _ _ _ h => h) (by assumption) (Or.inl ⟨by rfl, fun w hSw => by (try dsimp only at hSw); go_simp⟩) ?_
            simp only [Act.put, List.setIfInBounds_toArray, List.set_cons_zero, List.set_cons_succ]
            refine takeD (i := 13) (some 9) (.bool b6) rfl (by kernel_rfl) (by kernel_rfl) (by kernel_rfl) (by kernel_rfl) (fun _ _ _ h => h) (by assumption) (Or.inl ⟨by rfl, fun w hSw => by (try dsimp only at hSw); go_simp⟩) ?_
            simp only [Act.put, List.setIfInBounds_toArray, List.set_cons_zero, List.set_cons_succ]
            refine wpAnyH_done (by kernel_rfl) ?_ _
            cases b6 with
            | true =>
              have HX6 := Lib.hid (show isKey m xs6 = true by
                cases ho : firstK m (cuts.length - (n + 1)) k2 with
                | none => cases HNO.out ho
                | some x => rw [(HSO.out x ho).2]; exact firstK_key HMK.out ho HAW2.out (by have := HL2.out; have := HCR.out; omega))
              go_wp2_with fail
              go_ret2
              exact resKey_some HX6.out rfl hc6 Hr6.out HK6.out (Bw.trans (Hb6.out.mono Bw.size))
            | false =>
              go_wp2_with fail
              go_roundw
              case rel => exact ⟨d + 1, by go_num, by omega, by omega, hb.trans (Hb6.out.mono (by omega))⟩
              case measure => simp [intOf]; omega
        · obtain rfl : d = m.d := by omega
          go_wp2_with fail
          go_roundw
          case rel => exact ⟨n, by omega, by go_num, hb⟩
          case measure => simp [intOf]
set_option maxRecDepth 100000 in
set_option maxHeartbeats 4000000 in
theorem l02Some_any (S : Nat) (A : Option Addr) (c : Nat) (bs : List Int) (m : Mk) (w : World) (h : Src S A c bs w) (hm : isMaker m = true) :
    Calls Tryz.prog 54 #[.pointer (some ⟨S, 0, none⟩), .agg #[.int .i64 m.c, .int .i64 m.d, .int .i64 m.s, .int .i64 m.a, .int .i64 m.l]] w (ResSome m S A c bs w) := by
  obtain ⟨w0, hw0⟩ : ∃ w0, w0 = w.alloc (.cells #[.int .i64 m.c, .int .i64 m.d, .int .i64 m.s, .int .i64 m.a, .int .i64 m.l] 25) := ⟨_, rfl⟩
  have HD0 := Lib.hid (show Dr S A c bs w w0 by rw [hw0]; exact (Dr.refl h).alloc _)
  have hz0 : w0.heap.size = w.heap.size + 1 := by rw [hw0]; simp
  have HBX := Lib.hid (show BoxC w0 w.heap.size 0 (mkCells m) by rw [hw0]; exact BoxC.new (mkCells m) rfl)
  have hSl : S < w.heap.size := h.xl
  obtain ⟨c1, c2, d1, d2, _⟩ := mk_bounds hm
  have HM := Lib.hid hm
  have HO0 := Lib.hid (OV.new0 (w := w0) (B := w0.heap.size) (e := 2) (Nat.le_refl _))
  have HD1 := Lib.hid ((Dr.refl HD0.out.src).alloc (.cells #[] 2))
  clear h hm
  go_enter Tryz.func54, Tryz.ntmps54
  go_wp2_with fail
  rw [← hw0]
  clear hw0
  go_loopw [5, 6] (fun v i wr => ∃ (k : Nat) (xs : List Int), i = .int .i64 k ∧ (k : Int) ≤ m.c ∧ xs.length = k ∧ allW 0 (m.d - 1) xs = true ∧ OV wr w0.heap.size 2 v (ints xs) ∧ Dr S A c bs w0 wr) (fun _ i _ => (m.c - intOf i).toNat)
  case atStart => exact ⟨0, [], rfl, by simp; omega, rfl, rfl, by rw [← hz0]; exact HO0.out, HD1.out⟩
  case round =>
    obtain ⟨k, xs, rfl, hk, hxl, hw, ho, hD⟩ := hrel
    have HO := Lib.hid ho; have HD := Lib.hid hD; have HXL := Lib.hid hxl; have HW := Lib.hid hw
    have hsz := hD.size
    obtain ⟨x0, x1, x2, x3, x4, _⟩ := HBX.out.dr (by omega) (by omega) hD
    simp only [Nat.zero_add] at x1 x2 x3 x4
    clear ho hD hxl hw
    by_cases hlt : (k : Int) < m.c
    · have HN := Lib.hid (l01Next_dr HD.out.src m.d)
      have hx6 : xs.length ≤ 6 := by have := HXL.out; omega
      go_wp2_with fail
      clear x0 x1 x2 x3 x4
      refine HN.out.mono ?_
      rintro e w1 ⟨y, rfl, y0, y1, hd1, hz1⟩
      have HD1 := Lib.hid (HD.out.trans hd1)
      have ho1 := HO.out.dr (show S < w0.heap.size by omega) hd1
      have hs1 := HD1.out.size
      have yb : y ≤ m.d - 1 := by omega
      have HW2 := Lib.hid (allW_snoc HW.out y0 yb)
      clear hd1 hz1 y1
      go_wp2_with (at_builtin; refine wpList_app1 _ rfl _ _ _ rfl w0.heap.size 2 _ 8 Tryz.underlying44 info_int rfl (by omega) _ _ rfl (ho1.alloc _) _ _ rfl (one_cell _ _ _) rfl (by rw [ints_length]; omega) (by simp; omega) ?_; intro v' w4 ho4 hg4 hn4 hat4)
      go_roundw
      case rel => exact ⟨k + 1, xs ++ [y], by go_num, by omega, by simp; exact HXL.out, HW2.out, by rw [ints_append]; exact ho4, HD1.out.app ho1 (Nat.le_refl _) hg4⟩
      case measure => simp [intOf]; omega
    · have hkc : (k : Int) = m.c := by omega
      obtain ⟨K, q, rfl, hq, hr⟩ := RIn.ofOI' HO.out
      have HX := Lib.hid (l02NextK_any m HM.out xs K q wr hr.1 hq ⟨by rw [HXL.out]; exact hkc, HW.out⟩)
      have HFI := Lib.hid (fun W => l02First_any m HM.out m.c.toNat [] none 0 W RI.nil (Nat.le_refl _) (by simp; omega) rfl)
      have hge : decide ((k : Int) < m.c) = false := decide_eq_false hlt
      clear hkc hr hq
      go_wp2_with fail
      clear x0 x1 x2 x3 x4
      refine HX.out.mono ?_
      rintro e w2 ⟨K2, q2, ys, b, rfl, hq2, hr2, hb, hb2⟩
      have HD2 := Lib.hid (HD.out.below hb2)
      have HKE := Lib.hid hb; have HR2 := Lib.hid hr2
      obtain ⟨x0, x1, x2, x3, x4, _⟩ := HBX.out.dr (by omega) (by omega) HD2.out
      simp only [Nat.zero_add] at x1 x2 x3 x4
      clear hb hr2 hb2
      cases b with
      | true =>
        go_wp2_with fail
        go_ret
        exact ⟨K2, q2, ys, rfl, hq2, (by simpa using HKE.out), HR2.out.mono (by omega), HD0.out.trans HD2.out⟩
      | false =>
        go_wp2_with fail
        clear x0 x1 x2 x3 x4
        refine (HFI.out w2).mono ?_
        rintro e w3 ⟨K3, q3, zs, b3, rfl, hq3, hr3, hso, hno, hbk, hb3⟩
        obtain ⟨x, hf, hkx⟩ := first_some HM.out
        obtain ⟨rfl, rfl⟩ := hso x hf
        have HD3 := Lib.hid (HD2.out.below hb3)
        have HKX := Lib.hid hkx
        have HR3 := Lib.hid (show RIn w.heap.size w3 K3 zs from ⟨hr3, fun _ b o e hlt => by
          have := HD2.out.size
          rcases hbk b o e with h | ⟨o', h⟩
          · omega
          · cases h⟩)
        clear hr3 hso hno hbk hb3 hf hkx
        go_wp2_with fail
        go_ret
        exact ⟨K3, q3, zs, rfl, hq3, HKX.out, HR3.out, HD0.out.trans HD3.out⟩
end Go.Proofs.YtdedajohkdbdkaaGreatDoor
