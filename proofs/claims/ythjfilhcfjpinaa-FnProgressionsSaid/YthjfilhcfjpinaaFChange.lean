/- Contracts of l13Fits, changes, IsChangeKey. -/
import Derived.Test.YthjfilhcfjpinaaFKey
namespace Go.Proofs.Ythjfilhcfjpinaa
set_option linter.unusedVariables false
open Go.RowKit
/-- may the cut stand in the chamber of a change key? -/
def fits (xs ys : List Int) (s : Int) (ch : Nat) (d : Int) : Bool := if hasI ys ch = true then (d - xs.getD ch 0 != 0 && (d - xs.getD ch 0).tmod s == 0) else d - xs.getD ch 0 == 0
theorem getD_at' {xs : List Int} {k : Nat} (h : k < xs.length) : xs.getD k 0 = xs[k] := by simp [List.getD, List.getElem?_eq_getElem h]
set_option maxHeartbeats 2000000 in
theorem l13Fits_any (A : Option Addr) (c : Nat) (xs : List Int) (B : Option Addr) (d : Nat) (ys : List Int) (s : Int) (ch : Nat) (x : Int) (w : World) (h : RI w A xs) (g : RI w B ys)
    (hch : ch < xs.length) (hs1 : 1 ≤ s) (hs2 : s ≤ 2) (hx1 : -1000 ≤ x) (hx2 : x ≤ 1000) (hy1 : -1000 ≤ xs[ch]) (hy2 : xs[ch] ≤ 1000) :
    Calls Try.prog 181 #[.agg #[.slice A xs.length c, .slice B ys.length d, .int .i64 s], .int .i64 (ch : Int), .int .i64 x] w fun e w' => e = .returned (.bool (fits xs ys s ch x)) ∧ Below w.heap.size w w' := by
  have B0 : Below w.heap.size w (w.alloc (.cells #[.slice A xs.length c, .slice B ys.length d, .int .i64 s] 52)) := (Below.refl w.heap.size w).alloc (Nat.le_refl _) _
  obtain ⟨b, o, rfl, hc⟩ := h.at_ hch
  have hbw : b < w.heap.size := World.block_lt_of_cell? w _ hc
  have i0 : (0 : Int) ≤ (ch : Int) := by omega
  have i1 : (ch : Int) < (xs.length : Int) := by omega
  have hle := h.le
  have hz : (s == 0) = false := by simp; omega
  have E := getD_at' hch
  cases hp : hasI ys ch with
  | false =>
    have HR := Lib.hid (show fits xs ys s ch x = (x - xs[ch] == 0) by unfold fits; rw [hp, E]; rfl)
    clear E
    go_enter Try.func181, Try.ntmps181
    go_wp2_with fail
    refine (l01Has_any B d ys _ _ (g.below B0)).mono ?_
    rw [hp]
    rintro e w1 ⟨rfl, rfl⟩
    go_wp2_with fail
    go_ret
    exact ⟨retB HR.out.symm, B0⟩
  | true =>
    have HR := Lib.hid (show fits xs ys s ch x = (x - xs[ch] != 0 && (x - xs[ch]).tmod s == 0) by unfold fits; rw [hp, E]; rfl)
    clear E
    cases hq : (x - xs[ch] != 0) with
    | false =>
      go_enter Try.func181, Try.ntmps181
      go_wp2_with fail
      refine (l01Has_any B d ys _ _ (g.below B0)).mono ?_
      rw [hp]
      rintro e w1 ⟨rfl, rfl⟩
      go_wp2_with fail
      go_ret
      exact ⟨retB (by rw [HR.out, hq]; rfl), B0⟩
    | true =>
      go_enter Try.func181, Try.ntmps181
      go_wp2_with fail
      refine (l01Has_any B d ys _ _ (g.below B0)).mono ?_
      rw [hp]
      rintro e w1 ⟨rfl, rfl⟩
      go_wp2_with fail
      go_ret
      exact ⟨retB (by rw [HR.out, hq]; rfl), B0⟩
set_option maxHeartbeats 2000000 in
/-- The closure: its captured progression lies in block bp. -/
theorem changesClo_any (bp : Nat) (A : Option Addr) (c : Nat) (xs : List Int) (B : Option Addr) (d : Nat) (ys : List Int) (s : Int) (ch : Nat) (x : Int) (w : World) (h : RI w A xs) (g : RI w B ys)
    (hb : BoxC w bp 0 [.slice A xs.length c, .slice B ys.length d, .int .i64 s])
    (hch : ch < xs.length) (hs1 : 1 ≤ s) (hs2 : s ≤ 2) (hx1 : -1000 ≤ x) (hx2 : x ≤ 1000) (hy1 : -1000 ≤ xs[ch]) (hy2 : xs[ch] ≤ 1000) :
    Calls Try.prog 149 #[.int .i64 (ch : Int), .int .i64 x, .pointer (some ⟨bp, 0, none⟩)] w fun e w' => e = .returned (.bool (fits xs ys s ch x)) ∧ w = w' := by
  obtain ⟨b, o, rfl, hc⟩ := h.at_ hch
  have hbw : b < w.heap.size := World.block_lt_of_cell? w _ hc
  have i0 : (0 : Int) ≤ (ch : Int) := by omega
  have i1 : (ch : Int) < (xs.length : Int) := by omega
  have hle := h.le
  have hz : (s == 0) = false := by simp; omega
  have E := getD_at' hch
  have q : w.cell? ⟨bp, 0, none⟩ = some (.slice (some ⟨b, o, none⟩) xs.length c) ∧ w.cell? ⟨bp, 1, none⟩ = some (.slice B ys.length d) ∧ w.cell? ⟨bp, 2, none⟩ = some (.int .i64 s) ∧ True := hb
  have HBX := Lib.hid hb; clear hb
  cases hp : hasI ys ch with
  | false =>
    have HR := Lib.hid (show fits xs ys s ch x = (x - xs[ch] == 0) by unfold fits; rw [hp, E]; rfl)
    clear E
    go_enter Try.func149, Try.ntmps149
    go_wp2_with fail
    refine (sContains_any B d ys _ _ g).mono ?_
    rw [hp]
    rintro e w1 ⟨rfl, rfl⟩
    go_wp2_with fail
    go_ret
    exact ⟨retB HR.out.symm, rfl⟩
  | true =>
    have HR := Lib.hid (show fits xs ys s ch x = (x - xs[ch] != 0 && (x - xs[ch]).tmod s == 0) by unfold fits; rw [hp, E]; rfl)
    clear E
    cases hq : (x - xs[ch] != 0) with
    | false =>
      go_enter Try.func149, Try.ntmps149
      go_wp2_with fail
      refine (sContains_any B d ys _ _ g).mono ?_
      rw [hp]
      rintro e w1 ⟨rfl, rfl⟩
      go_wp2_with fail
      go_ret
      exact ⟨retB (by rw [HR.out, hq]; rfl), rfl⟩
    | true =>
      go_enter Try.func149, Try.ntmps149
      go_wp2_with fail
      refine (sContains_any B d ys _ _ g).mono ?_
      rw [hp]
      rintro e w1 ⟨rfl, rfl⟩
      go_wp2_with fail
      go_ret
      exact ⟨retB (by rw [HR.out, hq]; rfl), rfl⟩
theorem changes_any (A : Option Addr) (c : Nat) (xs : List Int) (B : Option Addr) (d : Nat) (ys : List Int) (s : Int) (w : World) :
    Calls Try.prog 96 #[.agg #[.slice A xs.length c, .slice B ys.length d, .int .i64 s]] w fun e w' => e = .returned (.func (.func 149) #[] #[.pointer (some ⟨w.heap.size, 0, none⟩)]) ∧ w' = w.alloc (.cells #[.slice A xs.length c, .slice B ys.length d, .int .i64 s] 52) := by
  go_enter Try.func96, Try.ntmps96
  go_wp2_with fail
  go_ret
  exact ⟨rfl, rfl⟩
def changeAt (xs ys : List Int) (s : Int) (key : List Int) (i : Nat) : Bool := fits xs ys s i (key.getD i 0)
def isChange (xs ys : List Int) (s : Int) (key : List Int) : Bool := (List.range key.length).all (changeAt xs ys s key)
/-- small numbers -/
def small (xs : List Int) : Prop := ∀ k (hk : k < xs.length), -1000 ≤ xs[k] ∧ xs[k] ≤ 1000
set_option maxRecDepth 100000 in
set_option maxHeartbeats 4000000 in
theorem l13Change_any (A : Option Addr) (c : Nat) (xs : List Int) (B : Option Addr) (d : Nat) (ys : List Int) (s : Int) (K : Option Addr) (e : Nat) (key : List Int) (w : World) (h : RI w A xs) (g : RI w B ys) (hk : RI w K key)
    (hlen : key.length ≤ xs.length) (hs1 : 1 ≤ s) (hs2 : s ≤ 2) (hx : small xs) (hy : small key) :
    Calls Try.prog 154 #[.agg #[.slice A xs.length c, .slice B ys.length d, .int .i64 s], .slice K key.length e] w fun e w' => e = .returned (.bool (isChange xs ys s key)) ∧ Below w.heap.size w w' := by
  have B0 : Below w.heap.size w (w.alloc (.cells #[.slice A xs.length c, .slice B ys.length d, .int .i64 s] 52)) := (Below.refl w.heap.size w).alloc (Nat.le_refl _) _
  have bx : BoxC (w.alloc (.cells #[.slice A xs.length c, .slice B ys.length d, .int .i64 s] 52)) w.heap.size 0 [.slice A xs.length c, .slice B ys.length d, .int .i64 s] := by simp [BoxC, Go.World.cell?_alloc_at]
  have hle := hk.le
  have HX := Lib.hid hx; have HY := Lib.hid hy; clear hx hy
  go_enter Try.func154, Try.ntmps154
  go_wp2_with fail
  go_loopw [5] (fun i wr => ∃ k : Nat, k ≤ key.length ∧ i = .int .i64 k ∧ (List.range k).all (changeAt xs ys s key) = true ∧ Below (w.alloc (.cells #[.slice A xs.length c, .slice B ys.length d, .int .i64 s] 52)).heap.size (w.alloc (.cells #[.slice A xs.length c, .slice B ys.length d, .int .i64 s] 52)) wr) (fun i _ => key.length - (intOf i).toNat)
  case atStart => exact ⟨0, by omega, rfl, rfl, Below.refl _ _⟩
  case round =>
    obtain ⟨k, hkl, rfl, hall, hb⟩ := hrel
    have HA := Lib.hid hall; clear hall
    have Bw := B0.trans (hb.mono B0.size)
    by_cases hlt : k < key.length
    · obtain ⟨b, o, rfl, hc⟩ := (hk.below Bw).at_ hlt
      have i0 : (0 : Int) ≤ (k : Int) := by omega
      have i1 : (k : Int) < (key.length : Int) := by omega
      have v1 := (HY.out k hlt).1; have v2 := (HY.out k hlt).2
      have v3 := (HX.out k (by omega)).1; have v4 := (HX.out k (by omega)).2
      have HE := Lib.hid (show changeAt xs ys s key k = fits xs ys s k key[k] by unfold changeAt; rw [getD_at' hlt])
      have KS := Lib.hid (show ∀ w' : World, Below wr.heap.size wr w' → ((w'.cell? ⟨w.heap.size, 0, none⟩ = some (.slice A xs.length c) ∧ w'.cell? ⟨w.heap.size, 1, none⟩ = some (.slice B ys.length d) ∧ w'.cell? ⟨w.heap.size, 2, none⟩ = some (.int .i64 s) ∧ True) ∧ w'.cell? ⟨b, o + k, none⟩ = some (.int .i64 key[k])) from fun w' hb' => ⟨(bx.below hb).below hb', (hb'.cell (World.block_lt_of_cell? wr _ hc)).trans hc⟩)
      have e5 := fun W (hW : Below wr.heap.size wr W) => l13Fits_any A c xs B d ys s k key[k] W ((h.below Bw).below hW) ((g.below Bw).below hW) (by omega) hs1 hs2 v1 v2 v3 v4
      cases hp : fits xs ys s k key[k] with
      | true =>
        have HO := Lib.hid (show (List.range (k + 1)).all (changeAt xs ys s key) = true by rw [rangeAll_next, HA.out, HE.out, hp]; rfl)
        rw [hp] at e5
        have E5 := Lib.hid e5; clear e5
        go_wp2_with fail
        go_region_held3 (fun w' => (w'.cell? ⟨w.heap.size, 0, none⟩ = some (.slice A xs.length c) ∧ w'.cell? ⟨w.heap.size, 1, none⟩ = some (.slice B ys.length d) ∧ w'.cell? ⟨w.heap.size, 2, none⟩ = some (.int .i64 s) ∧ True) ∧ w'.cell? ⟨b, o + k, none⟩ = some (.int .i64 key[k])) (first | (refine KS.out _ ?_; first | assumption | exact belowDrew0 _))
          (first | (go_at_call 181; refine (E5.out _ (belowDrew0 _)).mono ?_; rintro e w2 ⟨rfl, b2⟩; have b2 := belowDrew b2))
        go_wp2_with fail
        go_roundw
        case rel => exact ⟨k + 1, by omega, by go_num, HO.out, hb.trans (b2.mono hb.size)⟩
        case measure => simp [intOf]; omega
      | false =>
        have HR := Lib.hid (show isChange xs ys s key = false from rangeAll_bad hlt (by rw [HE.out, hp]))
        rw [hp] at e5
        have E5 := Lib.hid e5; clear e5
        go_wp2_with fail
        go_region_held3 (fun w' => (w'.cell? ⟨w.heap.size, 0, none⟩ = some (.slice A xs.length c) ∧ w'.cell? ⟨w.heap.size, 1, none⟩ = some (.slice B ys.length d) ∧ w'.cell? ⟨w.heap.size, 2, none⟩ = some (.int .i64 s) ∧ True) ∧ w'.cell? ⟨b, o + k, none⟩ = some (.int .i64 key[k])) (first | (refine KS.out _ ?_; first | assumption | exact belowDrew0 _))
          (first | (go_at_call 181; refine (E5.out _ (belowDrew0 _)).mono ?_; rintro e w2 ⟨rfl, b2⟩; have b2 := belowDrew b2))
        go_wp2_with fail
        go_ret
        exact ⟨retB HR.out.symm, Bw.trans (b2.mono Bw.size)⟩
    · obtain rfl : k = key.length := by omega
      go_wp2_with fail
      go_ret
      exact ⟨retB (by have := HA.out; exact this.symm), Bw⟩
/-- the bounds of a key -/
theorem key_small {m : Mk} {xs : List Int} (hm : isMaker m = true) (h : isKey m xs = true) : (xs.length : Int) = m.c ∧ small xs := by
  have := fault_zero_iff.1 (show fault m xs = 0 by simpa [isKey] using h)
  obtain ⟨_, _, _, d8, _⟩ := mk_bounds hm
  exact ⟨this.1, fun k hk => by have := allW_at this.2.1 hk; omega⟩
theorem isProg_iff {m : Mk} {xs ys : List Int} {s : Int} : isProg m xs ys s = true ↔ isKey m xs = true ∧ 0 < ys.length ∧ isRising m.c ys = true ∧ 1 ≤ s ∧ s ≤ 2 := by
  unfold isProg; simp only [Bool.and_eq_true, decide_eq_true_eq, inB_iff]
def isChangeKeyF (m : Mk) (xs ys : List Int) (s : Int) (key : List Int) : Bool := isProgF m xs ys s && (isKey m key && isChange xs ys s key)
set_option maxRecDepth 100000 in
set_option maxHeartbeats 4000000 in
theorem isChangeKey_any (m : Mk) (A : Option Addr) (c : Nat) (xs : List Int) (B : Option Addr) (d : Nat) (ys : List Int) (s : Int) (K : Option Addr) (e : Nat) (key : List Int) (w : World) (h : RI w A xs) (g : RI w B ys) (hk : RI w K key) (hcap : xs.length ≤ c) (hcap2 : key.length ≤ e) (hm : isMaker m = true) (hp : isProg m xs ys s = true) :
    Calls Try.prog 99 #[.agg #[.int .i64 m.c, .int .i64 m.d, .int .i64 m.s, .int .i64 m.a, .int .i64 m.l], .agg #[.slice A xs.length c, .slice B ys.length d, .int .i64 s], .slice K key.length e] w fun e w' => e = .returned (.bool (isKey m key && isChange xs ys s key)) ∧ Below w.heap.size w w' := by
  have B0 := ((Below.refl w.heap.size w).alloc (Nat.le_refl _) (.cells #[.int .i64 m.c, .int .i64 m.d, .int .i64 m.s, .int .i64 m.a, .int .i64 m.l] 25)).alloc (by simp only [World.size_alloc]; omega) (.cells #[.slice A xs.length c, .slice B ys.length d, .int .i64 s] 52)
  have HQ := Lib.hid (isProg_iff.1 hp)
  have HM := Lib.hid hm
  have HK := Lib.hid (key_small hm HQ.out.1)
  clear hm hp
  have hle := hk.le
  cases h2 : isKey m key with
  | false =>
    go_enter Try.func99, Try.ntmps99
    go_wp2_with fail
    refine (changes_any A c xs B d ys s _).mono ?_
    rintro e w1 ⟨rfl, rfl⟩
    have B1 := B0.alloc (by simp only [World.size_alloc]; omega) (.cells #[.slice A xs.length c, .slice B ys.length d, .int .i64 s] 52)
    go_wp2_with fail
    refine (isKey_any m K _ key _ (hk.below B1) hcap2 HM.out).mono ?_
    rw [h2]
    rintro e w2 ⟨rfl, b2⟩
    go_wp2_with fail
    go_ret
    exact ⟨rfl, B1.trans (b2.mono B1.size)⟩
  | true =>
    have HK2 := Lib.hid (key_small HM.out h2)
    have B1 := B0.alloc (by simp only [World.size_alloc]; omega) (.cells #[.slice A xs.length c, .slice B ys.length d, .int .i64 s] 52)
    have bx : BoxC (((w.alloc (.cells #[.int .i64 m.c, .int .i64 m.d, .int .i64 m.s, .int .i64 m.a, .int .i64 m.l] 25)).alloc (.cells #[.slice A xs.length c, .slice B ys.length d, .int .i64 s] 52)).alloc (.cells #[.slice A xs.length c, .slice B ys.length d, .int .i64 s] 52)) (w.heap.size + 1 + 1) 0 [.slice A xs.length c, .slice B ys.length d, .int .i64 s] := BoxC.new _ (by simp)
    go_enter Try.func99, Try.ntmps99
    go_wp2_with fail
    refine (changes_any A c xs B d ys s _).mono ?_
    rintro e w1 ⟨rfl, rfl⟩
    go_wp2_with fail
    refine (isKey_any m K _ key _ (hk.below B1) hcap2 HM.out).mono ?_
    rw [h2]
    rintro e w2 ⟨rfl, b2⟩
    have B2 := B1.trans (b2.mono B1.size)
    have bx2 := bx.below b2
    have h' := h.below B2
    have g' := g.below B2
    have hk' := hk.below B2
    go_wp2_with fail
    go_loop [8, 9, 18] (fun _ _ i => ∃ k : Nat, k ≤ key.length ∧ i = .int .i64 k ∧ (List.range k).all (changeAt xs ys s key) = true) (fun _ _ i => key.length - (intOf i).toNat)
    case atStart => exact ⟨0, by omega, rfl, rfl⟩
    case round =>
      obtain ⟨k, hkl, rfl, hall⟩ := hrel
      have HA := Lib.hid hall; clear hall
      by_cases hlt : k < key.length
      · obtain ⟨b, o, rfl, hc⟩ := hk'.at_ hlt
        have v1 := (HK2.out.2 k hlt).1; have v2 := (HK2.out.2 k hlt).2
        have hkx : k < xs.length := by have := HK.out.1; have := HK2.out.1; omega
        have v3 := (HK.out.2 k hkx).1; have v4 := (HK.out.2 k hkx).2
        have HE := Lib.hid (show changeAt xs ys s key k = fits xs ys s k key[k] by unfold changeAt; rw [getD_at' hlt])
        have e5 := changesClo_any (w.heap.size + 1 + 1) A c xs B d ys s k key[k] w2 h' g' bx2 hkx HQ.out.2.2.2.1 HQ.out.2.2.2.2 v1 v2 v3 v4
        cases hp : fits xs ys s k key[k] with
        | true =>
          have HO := Lib.hid (show (List.range (k + 1)).all (changeAt xs ys s key) = true by rw [rangeAll_next, HA.out, HE.out, hp]; rfl)
          rw [hp] at e5
          have E5 := Lib.hid e5; clear e5
          go_wp2_with fail
          refine E5.out.mono ?_
          rintro e w3 ⟨rfl, rfl⟩
          go_wp2_with fail
          go_round
          case rel => exact ⟨k + 1, by omega, by go_num, HO.out⟩
          case measure => simp [intOf]; omega
        | false =>
          have HR := Lib.hid (show isChange xs ys s key = false from rangeAll_bad hlt (by rw [HE.out, hp]))
          rw [hp] at e5
          have E5 := Lib.hid e5; clear e5
          go_wp2_with fail
          refine E5.out.mono ?_
          rintro e w3 ⟨rfl, rfl⟩
          go_wp2_with fail
          go_ret
          exact ⟨retB (by rw [HR.out]; rfl), B2⟩
      · obtain rfl : k = key.length := by omega
        have HR := Lib.hid (show isChange xs ys s key = true from HA.out)
        go_wp2_with fail
        go_ret
        exact ⟨retB (by rw [HR.out]), B2⟩
set_option maxRecDepth 100000 in
set_option maxHeartbeats 4000000 in
theorem implIsChangeKey_any (m : Mk) (A : Option Addr) (c : Nat) (xs : List Int) (B : Option Addr) (d : Nat) (ys : List Int) (s : Int) (K : Option Addr) (e : Nat) (key : List Int) (w : World) (h : RI w A xs) (g : RI w B ys) (hk : RI w K key) (hcap : xs.length ≤ c) (hcap2 : key.length ≤ e) :
    Calls Try.prog 40 #[.agg #[.int .i64 m.c, .int .i64 m.d, .int .i64 m.s, .int .i64 m.a, .int .i64 m.l], .agg #[.slice A xs.length c, .slice B ys.length d, .int .i64 s], .slice K key.length e] w fun e w' => e = .returned (.bool (isChangeKeyF m xs ys s key)) ∧ Below w.heap.size w w' := by
  have B0 := ((Below.refl w.heap.size w).alloc (Nat.le_refl _) (.cells #[.int .i64 m.c, .int .i64 m.d, .int .i64 m.s, .int .i64 m.a, .int .i64 m.l] 25)).alloc (by simp only [World.size_alloc]; omega) (.cells #[.slice A xs.length c, .slice B ys.length d, .int .i64 s] 52)
  cases h1 : isProgF m xs ys s with
  | false =>
    have HR := Lib.hid (show isChangeKeyF m xs ys s key = false by simp [isChangeKeyF, h1])
    go_enter Try.func40, Try.ntmps40
    go_wp2_with fail
    refine (implIsProgression_any m A c xs B d ys s _ (h.below B0) (g.below B0) hcap).mono ?_
    rw [h1]
    rintro e w1 ⟨rfl, b1⟩
    go_wp2_with fail
    go_ret
    exact ⟨retB HR.out.symm, B0.trans (b1.mono B0.size)⟩
  | true =>
    have hmp : isMaker m = true ∧ isProg m xs ys s = true := by simpa [isProgF] using h1
    have HM := Lib.hid hmp.1; have HP := Lib.hid hmp.2
    have HR := Lib.hid (show isChangeKeyF m xs ys s key = (isKey m key && isChange xs ys s key) by simp only [isChangeKeyF, h1]; simp)
    clear hmp
    go_enter Try.func40, Try.ntmps40
    go_wp2_with fail
    refine (implIsProgression_any m A c xs B d ys s _ (h.below B0) (g.below B0) hcap).mono ?_
    rw [h1]
    rintro e w1 ⟨rfl, b1⟩
    have C := (bcell b1).1
    have B1 := B0.trans (b1.mono B0.size)
    go_wp2_with fail
    refine (isChangeKey_any m A c xs B d ys s K e key _ (h.below B1) (g.below B1) (hk.below B1) hcap hcap2 HM.out HP.out).mono ?_
    rintro e w2 ⟨rfl, b2⟩
    go_wp2_with fail
    go_ret
    exact ⟨retB HR.out.symm, B1.trans (b2.mono B1.size)⟩
end Go.Proofs.Ythjfilhcfjpinaa
