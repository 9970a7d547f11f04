/- Contracts of isPath, levelsCode, l12Code. -/
import Derived.Test.YtdkkkkfcpgkcnaaFKey
import Derived.Test.YtdkkkkfcpgkcnaaFLevels
import Derived.Test.YtdkkkkfcpgkcnaaMem
namespace Go.Proofs.Ytdkkkkfcpgkcnaa
set_option linter.unusedVariables false
open Go.RowKit
theorem powW_tab : ∀ b : Fin 8, ∀ n : Fin 7, 1 ≤ b.val → 1 ≤ powW (b.val : Int) n.val ∧ powW (b.val : Int) n.val ≤ 117649 := by decide +kernel
theorem powW_in {b : Int} {n : Nat} (h1 : 1 ≤ b) (h2 : b ≤ 7) (h3 : n ≤ 6) : 1 ≤ powW b n ∧ powW b n ≤ 117649 := by
  obtain ⟨k, rfl⟩ := Int.eq_ofNat_of_zero_le (show 0 ≤ b by omega)
  exact powW_tab ⟨k, by omega⟩ ⟨n, by omega⟩ (by simp only; omega)
def pathAt (m : Mk) (ls ps : List Int) (i : Nat) : Bool := inB (ps.getD i 0) 0 (powW (m.d - 1) (ls.getD i 0).toNat - 1)
def isPath (m : Mk) (ls ps : List Int) : Bool := decide (ps.length ≤ ls.length) && (List.range ps.length).all (pathAt m ls ps)
def levelsCode (m : Mk) (ms ls ps : List Int) : Int := if (isMaker m && cutsOK m ms) = false then 1 else if (areLevels m ls && isPath m ls ps) = false then 2 else 0
theorem pathAt_in {m : Mk} {ls ps : List Int} {k : Nat} (h : k < ps.length) (h2 : k < ls.length) : pathAt m ls ps k = inB ps[k] 0 (powW (m.d - 1) ls[k].toNat - 1) := by
  simp [pathAt, List.getElem?_eq_getElem h, List.getElem?_eq_getElem h2]
set_option maxRecDepth 100000 in
set_option maxHeartbeats 4000000 in
theorem isPath_any (m : Mk) (A B : Option Addr) (c d : Nat) (ls ps : List Int) (w : World) (h : RI w A ls) (g : RI w B ps) (hm : isMaker m = true) (hl : areLevels m ls = true) :
    Calls Try.prog 173 #[.agg #[.int .i64 m.c, .int .i64 m.d, .int .i64 m.s, .int .i64 m.a, .int .i64 m.l], .slice A ls.length c, .slice B ps.length d] w fun e w' => e = .returned (.bool (isPath m ls ps)) ∧ Below w.heap.size w w' := by
  have B0 := (Below.refl w.heap.size w).alloc (Nat.le_refl _) (.cells #[.int .i64 m.c, .int .i64 m.d, .int .i64 m.s, .int .i64 m.a, .int .i64 m.l] 45)
  obtain ⟨c1, c2, d1, d2, s1, s2, a1, a2, l1, l2, l3⟩ := mk_bounds hm
  have HL := Lib.hid (areLevels_get hl)
  clear hl hm
  have hle := h.le
  have hpe := g.le
  by_cases hlen : ps.length ≤ ls.length
  · have t1 : ¬ ls.length < ps.length := by omega
    have HE := Lib.hid (show isPath m ls ps = (List.range ps.length).all (pathAt m ls ps) by simp [isPath, hlen])
    go_enter Try.func173, Try.ntmps173
    go_wp2_with fail
    go_loopw [7, 8, 16] (fun _ _ i wr => ∃ k n : Nat, k ≤ ps.length ∧ i = .int .i64 k ∧ wr = (w.alloc (.cells #[.int .i64 m.c, .int .i64 m.d, .int .i64 m.s, .int .i64 m.a, .int .i64 m.l] 45)).drewN n ∧ (List.range k).all (pathAt m ls ps) = true) (fun _ _ i _ => ps.length - (intOf i).toNat)
    case atStart => exact ⟨0, 0, by omega, rfl, rfl, rfl⟩
    case round =>
      obtain ⟨k, n, hk, rfl, rfl, hrel⟩ := hrel
      have Hrel := Lib.hid hrel; clear hrel
      by_cases hlt : k < ps.length
      · have hlt2 : k < ls.length := by omega
        obtain ⟨b, o, rfl, hc⟩ := g.at_ hlt
        obtain ⟨b2, o2, rfl, hc2⟩ := h.at_ hlt2
        have hbw : b < w.heap.size := World.block_lt_of_cell? w _ hc
        have hbw2 : b2 < w.heap.size := World.block_lt_of_cell? w _ hc2
        have i0 : (0 : Int) ≤ (k : Int) := by omega
        have i1 : (k : Int) < (ps.length : Int) := by omega
        have i2 : (k : Int) < (ls.length : Int) := by omega
        have v1 := (HL.out.2.2 k hlt2).1; have v2 := (HL.out.2.2 k hlt2).2
        have hp1 := powW_in (b := m.d - 1) (n := ls[k].toNat) (by omega) (by omega) (by omega)
        have p1 := hp1.1; have p2 := hp1.2
        clear hp1
        have w1 : IntKind.i64.wrap (m.d - 1) = m.d - 1 := IntWalk.i64_in _ (by omega)
        have w2 : IntKind.i64.wrap (powW (m.d - 1) ls[k].toNat - 1) = powW (m.d - 1) ls[k].toNat - 1 := IntWalk.i64_in _ (by omega)
        have HS := Lib.hid (pathAt_in (m := m) hlt hlt2)
        have E1 := Lib.hid (show ∀ W : World, Calls Try.prog 120 #[.int .i64 (m.d - 1), .int .i64 ls[k]] W fun e w' => e = .returned (.int .i64 (powW (m.d - 1) ls[k].toNat)) ∧ W = w' from fun W => powerOf_any _ _ W (by omega))
        cases hp : inB ps[k] 0 (powW (m.d - 1) ls[k].toNat - 1) with
        | true =>
          have HO := Lib.hid (show (List.range (k + 1)).all (pathAt m ls ps) = true by rw [rangeAll_next, Hrel.out, HS.out, hp]; rfl)
          go_wp2_with fail
          go_quiet ((first
            | (go_at_call 120; first | exact quietSA (E1.out _) | exact quietS (E1.out _))
            | (go_at_call 134; first | exact quietSA (within_any _ _ _ _) | exact quietS (within_any _ _ _ _))))
          go_wp2_with fail
          go_roundw
          case rel => exact ⟨k + 1, _, by omega, by go_num, rfl, HO.out⟩
          case measure => simp [intOf]; omega
        | false =>
          have HR := Lib.hid (show isPath m ls ps = false by rw [HE.out]; exact rangeAll_bad hlt (by rw [HS.out, hp]))
          go_wp2_with fail
          go_quiet ((first
            | (go_at_call 120; first | exact quietSA (E1.out _) | exact quietS (E1.out _))
            | (go_at_call 134; first | exact quietSA (within_any _ _ _ _) | exact quietS (within_any _ _ _ _))))
          go_wp2_with fail
          go_ret
          exact ⟨retB HR.out.symm, belowD (belowD B0 _) _⟩
      · obtain rfl : k = ps.length := by omega
        go_wp2_with fail
        go_ret
        exact ⟨retB (by rw [HE.out, Hrel.out]), belowD B0 _⟩
  · have t1 : ls.length < ps.length := by omega
    have HR := Lib.hid (show isPath m ls ps = false by simp [isPath, hlen])
    have Hlen := Lib.hid hlen; clear hlen
    go_enter Try.func173, Try.ntmps173
    go_wp2_with fail
    go_ret
    exact ⟨retB HR.out.symm, B0⟩
theorem lc_1 {m : Mk} {ms ls ps : List Int} (h : isMaker m = false) : levelsCode m ms ls ps = 1 := by simp [levelsCode, h]
theorem lc_1' {m : Mk} {ms ls ps : List Int} (h : cutsOK m ms = false) : levelsCode m ms ls ps = 1 := by simp [levelsCode, h]
theorem lc_2 {m : Mk} {ms ls ps : List Int} (h : isMaker m = true) (h2 : cutsOK m ms = true) (h3 : areLevels m ls = false) : levelsCode m ms ls ps = 2 := by simp [levelsCode, h, h2, h3]
theorem lc_2' {m : Mk} {ms ls ps : List Int} (h : isMaker m = true) (h2 : cutsOK m ms = true) (h3 : isPath m ls ps = false) : levelsCode m ms ls ps = 2 := by simp [levelsCode, h, h2, h3]
theorem lc_0 {m : Mk} {ms ls ps : List Int} (h : isMaker m = true) (h2 : cutsOK m ms = true) (h3 : areLevels m ls = true) (h4 : isPath m ls ps = true) : levelsCode m ms ls ps = 0 := by simp [levelsCode, h, h2, h3, h4]
theorem lc_0_iff {m : Mk} {ms ls ps : List Int} : levelsCode m ms ls ps = 0 ↔ isMaker m = true ∧ cutsOK m ms = true ∧ areLevels m ls = true ∧ isPath m ls ps = true := by
  unfold levelsCode
  cases isMaker m <;> cases cutsOK m ms <;> cases areLevels m ls <;> cases isPath m ls ps <;> simp
set_option maxRecDepth 100000 in
set_option maxHeartbeats 4000000 in
theorem levelsCode_any (m : Mk) (A B D : Option Addr) (c d e : Nat) (ms ls ps : List Int) (w : World) (h : RI w A ms) (g : RI w B ls) (k : RI w D ps) :
    Calls Try.prog 109 #[.agg #[.int .i64 m.c, .int .i64 m.d, .int .i64 m.s, .int .i64 m.a, .int .i64 m.l], .slice A ms.length c, .slice B ls.length d, .slice D ps.length e] w fun e w' => e = .returned (.int .i64 (levelsCode m ms ls ps)) ∧ Below w.heap.size w w' := by
  have B0 := (Below.refl w.heap.size w).alloc (Nat.le_refl _) (.cells #[.int .i64 m.c, .int .i64 m.d, .int .i64 m.s, .int .i64 m.a, .int .i64 m.l] 45)
  cases h1 : isMaker m with
  | false =>
    have HR := Lib.hid (lc_1 (ms := ms) (ls := ls) (ps := ps) h1)
    go_enter Try.func109, Try.ntmps109
    go_wp2_with fail
    refine (implIsMaker_any m _).mono ?_
    rw [h1]
    rintro e w1 ⟨rfl, b1⟩
    go_wp2_with fail
    go_ret
    exact ⟨retI HR.out.symm, B0.trans (b1.mono B0.size)⟩
  | true =>
  have H1 := Lib.hid h1
  cases h2 : cutsOK m ms with
  | false =>
    have HR := Lib.hid (lc_1' (ls := ls) (ps := ps) h2)
    go_enter Try.func109, Try.ntmps109
    go_wp2_with fail
    refine (implIsMaker_any m _).mono ?_
    rw [h1]
    rintro e w1 ⟨rfl, b1⟩
    have C := (bcell b1).1
    have B1 := B0.trans (b1.mono B0.size)
    go_wp2_with fail
    refine (areCuts_any m _ _ _ _ (h.below B1) H1.out).mono ?_
    rw [h2]
    rintro e w2 ⟨rfl, b2⟩
    go_wp2_with fail
    go_ret
    exact ⟨retI HR.out.symm, B1.trans (b2.mono B1.size)⟩
  | true =>
  have H2 := Lib.hid h2
  have s0 : ∀ W : World, (w.alloc (.cells #[.int .i64 m.c, .int .i64 m.d, .int .i64 m.s, .int .i64 m.a, .int .i64 m.l] 45)).heap.size ≤ W.heap.size → w.heap.size < W.heap.size := fun W hW => by simp only [World.size_alloc] at hW; omega
  have S0 := Lib.hid s0; clear s0
  cases h3 : areLevels m ls with
  | false =>
    have HR := Lib.hid (lc_2 (ps := ps) h1 h2 h3)
    go_enter Try.func109, Try.ntmps109
    go_wp2_with fail
    refine (implIsMaker_any m _).mono ?_
    rw [h1]
    rintro e w1 ⟨rfl, b1⟩
    have C := (bcell b1).1
    have B1 := B0.trans (b1.mono B0.size)
    go_wp2_with fail
    refine (areCuts_any m _ _ _ _ (h.below B1) H1.out).mono ?_
    rw [h2]
    rintro e w2 ⟨rfl, b2⟩
    have C2 := (bcell b2).1
    have s1 := S0.out _ b1.size
    have B2 := B1.trans (b2.mono B1.size)
    go_wp2_with fail
    refine (areLevels_any m _ _ _ _ (g.below B2)).mono ?_
    rw [h3]
    rintro e w3 ⟨rfl, b3⟩
    go_wp2_with fail
    go_ret
    exact ⟨retI HR.out.symm, B2.trans (b3.mono B2.size)⟩
  | true =>
    have H3 := Lib.hid h3
    cases h4 : isPath m ls ps with
    | false =>
      have HR := Lib.hid (lc_2' (ps := ps) h1 h2 h4)
      go_enter Try.func109, Try.ntmps109
      go_wp2_with fail
      refine (implIsMaker_any m _).mono ?_
      rw [h1]
      rintro e w1 ⟨rfl, b1⟩
      have C := (bcell b1).1
      have B1 := B0.trans (b1.mono B0.size)
      go_wp2_with fail
      refine (areCuts_any m _ _ _ _ (h.below B1) H1.out).mono ?_
      rw [h2]
      rintro e w2 ⟨rfl, b2⟩
      have C2 := (bcell b2).1
      have s1 := S0.out _ b1.size
      have B2 := B1.trans (b2.mono B1.size)
      go_wp2_with fail
      refine (areLevels_any m _ _ _ _ (g.below B2)).mono ?_
      rw [h3]
      rintro e w3 ⟨rfl, b3⟩
      have C3 := (bcell b3).1
      have s2 := S0.out _ (Nat.le_trans b1.size b2.size)
      have B3 := B2.trans (b3.mono B2.size)
      go_wp2_with fail
      refine (isPath_any m _ _ _ _ _ _ _ (g.below B3) (k.below B3) H1.out H3.out).mono ?_
      rw [h4]
      rintro e w4 ⟨rfl, b4⟩
      go_wp2_with fail
      go_ret
      exact ⟨retI HR.out.symm, B3.trans (b4.mono B3.size)⟩
    | true =>
      have HR := Lib.hid (lc_0 h1 h2 h3 h4)
      go_enter Try.func109, Try.ntmps109
      go_wp2_with fail
      refine (implIsMaker_any m _).mono ?_
      rw [h1]
      rintro e w1 ⟨rfl, b1⟩
      have C := (bcell b1).1
      have B1 := B0.trans (b1.mono B0.size)
      go_wp2_with fail
      refine (areCuts_any m _ _ _ _ (h.below B1) H1.out).mono ?_
      rw [h2]
      rintro e w2 ⟨rfl, b2⟩
      have C2 := (bcell b2).1
      have s1 := S0.out _ b1.size
      have B2 := B1.trans (b2.mono B1.size)
      go_wp2_with fail
      refine (areLevels_any m _ _ _ _ (g.below B2)).mono ?_
      rw [h3]
      rintro e w3 ⟨rfl, b3⟩
      have C3 := (bcell b3).1
      have s2 := S0.out _ (Nat.le_trans b1.size b2.size)
      have B3 := B2.trans (b3.mono B2.size)
      go_wp2_with fail
      refine (isPath_any m _ _ _ _ _ _ _ (g.below B3) (k.below B3) H1.out H3.out).mono ?_
      rw [h4]
      rintro e w4 ⟨rfl, b4⟩
      go_wp2_with fail
      go_ret
      exact ⟨retI HR.out.symm, B3.trans (b4.mono B3.size)⟩
theorem sizesF_at (m : Mk) (ls : List Int) {k : Nat} (h : k < ls.length) : (sizesF m ls)[k]'(by simp [sizesF, h]) = powW (m.d - 1) ls[k].toNat := by simp [sizesF]
set_option maxRecDepth 100000 in
set_option maxHeartbeats 8000000 in
theorem l12Code_any (m : Mk) (A B D : Option Addr) (c d e : Nat) (ms ls ps : List Int) (w : World) (h : RI w A ms) (g : RI w B ls) (p : RI w D ps) :
    Calls Try.prog 111 #[.agg #[.int .i64 m.c, .int .i64 m.d, .int .i64 m.s, .int .i64 m.a, .int .i64 m.l], .slice A ms.length c, .slice B ls.length d, .slice D ps.length e] w fun e w' => e = .returned (.int .i64 (levelsCode m ms ls ps)) ∧ Below w.heap.size w w' := by
  have B0 := (Below.refl w.heap.size w).alloc (Nat.le_refl _) (.cells #[.int .i64 m.c, .int .i64 m.d, .int .i64 m.s, .int .i64 m.a, .int .i64 m.l] 45)
  cases h1 : isMaker m with
  | false =>
    have HR := Lib.hid (lc_1 (ms := ms) (ls := ls) (ps := ps) h1)
    go_enter Try.func111, Try.ntmps111
    go_wp2_with fail
    refine (specIsMaker_any m _).mono ?_
    rw [h1]
    rintro e w1 ⟨rfl, b1⟩
    go_wp2_with fail
    go_ret
    exact ⟨retI HR.out.symm, B0.trans (b1.mono B0.size)⟩
  | true =>
  have H1 := Lib.hid h1
  cases h2 : cutsOK m ms with
  | false =>
    have HR := Lib.hid (lc_1' (ls := ls) (ps := ps) h2)
    go_enter Try.func111, Try.ntmps111
    go_wp2_with fail
    refine (specIsMaker_any m _).mono ?_
    rw [h1]
    rintro e w1 ⟨rfl, b1⟩
    have C := (bcell b1).1
    have B1 := B0.trans (b1.mono B0.size)
    go_wp2_with fail
    refine (l02Cuts_any m _ _ _ _ (h.below B1) H1.out).mono ?_
    rw [h2]
    rintro e w2 ⟨rfl, b2⟩
    go_wp2_with fail
    go_ret
    exact ⟨retI HR.out.symm, B1.trans (b2.mono B1.size)⟩
  | true =>
  have H2 := Lib.hid h2
  have s0 : ∀ W : World, (w.alloc (.cells #[.int .i64 m.c, .int .i64 m.d, .int .i64 m.s, .int .i64 m.a, .int .i64 m.l] 45)).heap.size ≤ W.heap.size → w.heap.size < W.heap.size := fun W hW => by simp only [World.size_alloc] at hW; omega
  have S0 := Lib.hid s0; clear s0
  cases h3 : areLevels m ls with
  | false =>
    have HR := Lib.hid (lc_2 (ps := ps) h1 h2 h3)
    go_enter Try.func111, Try.ntmps111
    go_wp2_with fail
    refine (specIsMaker_any m _).mono ?_
    rw [h1]
    rintro e w1 ⟨rfl, b1⟩
    have C := (bcell b1).1
    have B1 := B0.trans (b1.mono B0.size)
    go_wp2_with fail
    refine (l02Cuts_any m _ _ _ _ (h.below B1) H1.out).mono ?_
    rw [h2]
    rintro e w2 ⟨rfl, b2⟩
    have C2 := (bcell b2).1
    have s1 := S0.out _ b1.size
    have B2 := B1.trans (b2.mono B1.size)
    go_wp2_with fail
    refine (l12Levels_any m _ _ _ _ (g.below B2)).mono ?_
    rw [h3]
    rintro e w3 ⟨rfl, b3⟩
    go_wp2_with fail
    go_ret
    exact ⟨retI HR.out.symm, B2.trans (b3.mono B2.size)⟩
  | true =>
    have H3 := Lib.hid h3
    have HL := Lib.hid (areLevels_get h3)
    obtain ⟨c1, c2, d1, d2, s1, s2, a1, a2, l1, l2, l3⟩ := mk_bounds h1
    have hle := g.le
    have hpe := p.le
    by_cases hlen : ps.length ≤ ls.length
    · have t1 : ¬ ls.length < ps.length := by omega
      have HE := Lib.hid (show isPath m ls ps = (List.range ps.length).all (pathAt m ls ps) by simp [isPath, hlen])
      go_enter Try.func111, Try.ntmps111
      go_wp2_with fail
      refine (specIsMaker_any m _).mono ?_
      rw [h1]
      rintro e w1 ⟨rfl, b1⟩
      have C := (bcell b1).1
      have B1 := B0.trans (b1.mono B0.size)
      go_wp2_with fail
      refine (l02Cuts_any m _ _ _ _ (h.below B1) H1.out).mono ?_
      rw [h2]
      rintro e w2 ⟨rfl, b2⟩
      have C2 := (bcell b2).1
      have y1 := S0.out _ b1.size
      have B2 := B1.trans (b2.mono B1.size)
      go_wp2_with fail
      refine (l12Levels_any m _ _ _ _ (g.below B2)).mono ?_
      rw [h3]
      rintro e w3 ⟨rfl, b3⟩
      have C3 := (bcell b3).1
      have y2 := S0.out _ (Nat.le_trans b1.size b2.size)
      have B3 := B2.trans (b3.mono B2.size)
      go_wp2_with fail
      refine (l12Sizes_any m _ _ _ _ (g.below B3) (by have := HL.out; omega) (fun k hk => by have := HL.out.2.2 k hk; omega) (by omega)).mono ?_
      rintro e w4 ⟨A4, c4, rfl, hc4, r4, o4, b4⟩
      have B4 := B3.trans (b4.mono B3.size)
      have hs4 : (sizesF m ls).length = ls.length := by simp [sizesF]
      rw [hs4]
      have HS4 := Lib.hid hs4; clear hs4 o4
      have p4 := p.below B4
      clear h1 h2 h3 C C2 C3
      go_wp2_with fail
      go_loopw [10] (fun i wr => ∃ k n : Nat, k ≤ ps.length ∧ i = .int .i64 k ∧ wr = w4.drewN n ∧ (List.range k).all (pathAt m ls ps) = true) (fun i _ => ps.length - (intOf i).toNat)
      case atStart => exact ⟨0, 0, by omega, rfl, rfl, rfl⟩
      case round =>
        obtain ⟨k, n, hk, rfl, rfl, hrel⟩ := hrel
        have Hrel := Lib.hid hrel; clear hrel
        by_cases hlt : k < ps.length
        · have hlt2 : k < ls.length := by omega
          obtain ⟨b, o, rfl, hc⟩ := p4.at_ hlt
          obtain ⟨b2, o2, rfl, hc2⟩ := r4.at_ (k := k) (by rw [HS4.out]; exact hlt2)
          rw [sizesF_at m ls hlt2] at hc2
          have i0 : (0 : Int) ≤ (k : Int) := by omega
          have i1 : (k : Int) < (ps.length : Int) := by omega
          have i2 : (k : Int) < (ls.length : Int) := by omega
          have v1 := (HL.out.2.2 k hlt2).1; have v2 := (HL.out.2.2 k hlt2).2
          have hp1 := powW_in (b := m.d - 1) (n := ls[k].toNat) (by omega) (by omega) (by omega)
          have q1 := hp1.1; have q2 := hp1.2
          clear hp1
          have w2 : IntKind.i64.wrap (powW (m.d - 1) ls[k].toNat - 1) = powW (m.d - 1) ls[k].toNat - 1 := IntWalk.i64_in _ (by omega)
          have HS := Lib.hid (pathAt_in (m := m) hlt hlt2)
          cases hp : inB ps[k] 0 (powW (m.d - 1) ls[k].toNat - 1) with
          | true =>
            have HO := Lib.hid (show (List.range (k + 1)).all (pathAt m ls ps) = true by rw [rangeAll_next, Hrel.out, HS.out, hp]; rfl)
            go_wp2_with fail
            go_quiet ((go_at_call 122; first | exact quietSA (l01In_any _ _ _ _) | exact quietS (l01In_any _ _ _ _)))
            go_wp2_with fail
            go_roundw
            case rel => exact ⟨k + 1, _, by omega, by go_num, rfl, HO.out⟩
            case measure => simp [intOf]; omega
          | false =>
            have HR := Lib.hid (lc_2' (ps := ps) H1.out H2.out (by rw [HE.out]; exact rangeAll_bad hlt (by rw [HS.out, hp])))
            go_wp2_with fail
            go_quiet ((go_at_call 122; first | exact quietSA (l01In_any _ _ _ _) | exact quietS (l01In_any _ _ _ _)))
            go_wp2_with fail
            go_ret
            exact ⟨retI HR.out.symm, belowD (belowD B4 _) _⟩
        · obtain rfl : k = ps.length := by omega
          have HR := Lib.hid (lc_0 H1.out H2.out H3.out (by rw [HE.out, Hrel.out]))
          go_wp2_with fail
          go_ret
          exact ⟨retI HR.out.symm, belowD B4 _⟩
    · have t1 : ls.length < ps.length := by omega
      have HR := Lib.hid (lc_2' (ls := ls) (ps := ps) h1 h2 (by simp [isPath, hlen]))
      have Hlen := Lib.hid hlen; clear hlen
      go_enter Try.func111, Try.ntmps111
      go_wp2_with fail
      refine (specIsMaker_any m _).mono ?_
      rw [h1]
      rintro e w1 ⟨rfl, b1⟩
      have C := (bcell b1).1
      have B1 := B0.trans (b1.mono B0.size)
      go_wp2_with fail
      refine (l02Cuts_any m _ _ _ _ (h.below B1) H1.out).mono ?_
      rw [h2]
      rintro e w2 ⟨rfl, b2⟩
      have C2 := (bcell b2).1
      have y1 := S0.out _ b1.size
      have B2 := B1.trans (b2.mono B1.size)
      go_wp2_with fail
      refine (l12Levels_any m _ _ _ _ (g.below B2)).mono ?_
      rw [h3]
      rintro e w3 ⟨rfl, b3⟩
      go_wp2_with fail
      go_ret
      exact ⟨retI HR.out.symm, B2.trans (b3.mono B2.size)⟩
end Go.Proofs.Ytdkkkkfcpgkcnaa
