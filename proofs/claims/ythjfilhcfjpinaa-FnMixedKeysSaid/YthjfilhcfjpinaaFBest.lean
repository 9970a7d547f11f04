/- Contracts of BestChambers. -/
import Derived.Test.YthjfilhcfjpinaaPBest
import Derived.Test.YthjfilhcfjpinaaFChanges
import Derived.Test.YthjfilhcfjpinaaFChoices
namespace Go.Proofs.Ythjfilhcfjpinaa
set_option linter.unusedVariables false
open Go.RowKit
def cntCh (m : Mk) (ms : List Int) (s : Int) (ys : List Int) : Int := ((changeKeys m ms ys s).length : Int)
def bestSt (m : Mk) (ms : List Int) (n s : Int) : List Int × Int := (choices n.toNat m.c.toNat).foldl (stepC (cntCh m ms s)) ([], -1)
def bestChR (m : Mk) (ms : List Int) (n s : Int) : List Int × Int × Int := if (isMaker m && isKey m ms) = true then (if (inB n 1 m.c && inB s 1 2) = true then ((bestSt m ms n s).1, (bestSt m ms n s).2, 0) else ([], 0, 2)) else ([], 0, 1)
theorem bch_1 {m : Mk} {ms : List Int} {n s : Int} (h : (isMaker m && isKey m ms) = false) : ([], 0, 1) = bestChR m ms n s := by unfold bestChR; rw [if_neg (by rw [h]; simp)]
theorem bch_2 {m : Mk} {ms : List Int} {n s : Int} (h : (isMaker m && isKey m ms) = true) (h2 : (inB n 1 m.c && inB s 1 2) = false) : ([], 0, 2) = bestChR m ms n s := by unfold bestChR; rw [if_pos h, if_neg (by rw [h2]; simp)]
theorem bch_0 {m : Mk} {ms : List Int} {n s : Int} (h : (isMaker m && isKey m ms) = true) (h2 : (inB n 1 m.c && inB s 1 2) = true) : ((bestSt m ms n s).1, (bestSt m ms n s).2, 0) = bestChR m ms n s := by unfold bestChR; rw [if_pos h, if_pos h2]
theorem inc_exists : ∀ (k : Nat) (lo hi : Int), lo + k ≤ hi → ∃ l : List Int, l.length = k ∧ Inc lo hi l
  | 0, lo, hi, _ => ⟨[], rfl, trivial⟩
  | k + 1, lo, hi, h => by
    obtain ⟨l, h1, h2⟩ := inc_exists k (lo + 1) hi (by omega)
    exact ⟨lo :: l, by simp [h1], Int.le_refl _, by omega, h2⟩
theorem choices_ne {k n : Nat} (h : k ≤ n) : choices k n ≠ [] := by
  obtain ⟨l, h1, h2⟩ := inc_exists k 0 n (by omega)
  intro e
  have := (mem_choices k n l).2 ⟨h1, h2⟩
  rw [e] at this; simp at this
theorem best_start {cnt : List Int → Int} (h0 : ∀ y, 0 ≤ cnt y) (ls : List (List Int)) (b0 b1 : List Int) (hne : ls ≠ []) : ls.foldl (stepC cnt) (b0, -1) = ls.foldl (stepC cnt) (b1, -1) := by
  cases ls with
  | nil => exact absurd rfl hne
  | cons x r =>
    rw [List.foldl_cons, List.foldl_cons]
    have := h0 x
    unfold stepC
    rw [if_pos (by simp only; omega), if_pos (by simp only; omega)]
theorem cntCh_nn (m : Mk) (ms : List Int) (s : Int) (ys : List Int) : 0 ≤ cntCh m ms s ys := by unfold cntCh; omega
/-- three results that only read -/
def RdINN (w : World) (r : List Int × Int × Int) (e : Ending) (w' : World) : Prop := ∃ A c, e = .returned (.tuple #[.slice A r.1.length c, .int .i64 r.2.1, .int .i64 r.2.2]) ∧ r.1.length ≤ c ∧ RI w' A r.1 ∧ Below w.heap.size w w'
def ResINN (w : World) (r : List Int × Int × Int) (e : Ending) (w' : World) : Prop := ∃ A c, e = .returned (.tuple #[.slice A r.1.length c, .int .i64 r.2.1, .int .i64 r.2.2]) ∧ r.1.length ≤ c ∧ RI w' A r.1 ∧ OI w' w.heap.size w'.heap.size (.slice A r.1.length c) r.1 ∧ Below w.heap.size w w'
theorem rdINN_nil {w w' : World} {r : List Int × Int × Int} {a b : Int} (h : ([], a, b) = r) (hb : Below w.heap.size w w') : RdINN w r (.returned (.tuple #[.slice none 0 0, .int .i64 a, .int .i64 b])) w' := by
  subst h; exact ⟨none, 0, rfl, Nat.le_refl _, RI.nil, hb⟩
theorem resINN_nil {w w' : World} {r : List Int × Int × Int} {a b : Int} (h : ([], a, b) = r) (hb : Below w.heap.size w w') : ResINN w r (.returned (.tuple #[.slice none 0 0, .int .i64 a, .int .i64 b])) w' := by
  subst h; exact ⟨none, 0, rfl, Nat.le_refl _, RI.nil, OI.nil, hb⟩
theorem rdINN_of {w w' : World} {r : List Int × Int × Int} {A : Option Addr} {c : Nat} {xs : List Int} {a b : Int} (h : (xs, a, b) = r) (hc : xs.length ≤ c) (hr : RI w' A xs) (hb : Below w.heap.size w w') : RdINN w r (.returned (.tuple #[.slice A xs.length c, .int .i64 a, .int .i64 b])) w' := by
  subst h; exact ⟨A, c, rfl, hc, hr, hb⟩
theorem resINN_of {w w' : World} {r : List Int × Int × Int} {A : Option Addr} {c : Nat} {xs : List Int} {a b : Int} (h : (xs, a, b) = r) (hc : xs.length ≤ c) (hr : RI w' A xs) (ho : OI w' w.heap.size w'.heap.size (.slice A xs.length c) xs) (hb : Below w.heap.size w w') : ResINN w r (.returned (.tuple #[.slice A xs.length c, .int .i64 a, .int .i64 b])) w' := by
  subst h; exact ⟨A, c, rfl, hc, hr, ho, hb⟩
set_option maxRecDepth 100000 in
set_option maxHeartbeats 8000000 in
theorem specBestChambers_any (m : Mk) (A : Option Addr) (c : Nat) (ms : List Int) (n s : Int) (w : World) (h : RI w A ms) (hcap : ms.length ≤ c) (_ : (Lit.int .i64 n).wf = true) (_ : (Lit.int .i64 s).wf = true) :
    Calls Try.prog 47 #[.agg #[.int .i64 m.c, .int .i64 m.d, .int .i64 m.s, .int .i64 m.a, .int .i64 m.l], .slice A ms.length c, .int .i64 n, .int .i64 s] w (RdINN w (bestChR m ms n s)) := by
  have B0 := (Below.refl w.heap.size w).alloc (Nat.le_refl _) (.cells #[.int .i64 m.c, .int .i64 m.d, .int .i64 m.s, .int .i64 m.a, .int .i64 m.l] 25)
  have bm : BoxC (w.alloc (.cells #[.int .i64 m.c, .int .i64 m.d, .int .i64 m.s, .int .i64 m.a, .int .i64 m.l] 25)) w.heap.size 0 [.int .i64 m.c, .int .i64 m.d, .int .i64 m.s, .int .i64 m.a, .int .i64 m.l] := by simp [BoxC, Go.World.cell?_alloc_at]
  have HK := specIsKey_any m A c ms (w.alloc (.cells #[.int .i64 m.c, .int .i64 m.d, .int .i64 m.s, .int .i64 m.a, .int .i64 m.l] 25)) (h.below B0) hcap
  cases h1 : (isMaker m && isKey m ms) with
  | false =>
    have HR := Lib.hid (bch_1 (n := n) (s := s) h1)
    rw [h1] at HK
    have HKK := Lib.hid HK; clear HK
    go_enter Try.func47, Try.ntmps47
    go_wp2_with fail
    refine HKK.out.mono ?_
    rintro e w1 ⟨rfl, b1⟩
    go_wp2_with fail
    go_ret3
    exact rdINN_nil HR.out (B0.trans (b1.mono B0.size))
  | true =>
  have hm : isMaker m = true := (Bool.and_eq_true _ _ ▸ h1).1
  have hk : isKey m ms = true := (Bool.and_eq_true _ _ ▸ h1).2
  rw [h1] at HK
  have HKK := Lib.hid HK; clear HK
  have HH1 := Lib.hid h1; clear h1
  have HMK := Lib.hid hm
  have HSM := Lib.hid (key_small hm hk)
  have hmb := mk_bounds hm
  have c6 : m.c ≤ 6 := hmb.2.1
  clear hmb hk hm
  have HI1 := fun W => l01In_any n 1 m.c W
  have HI2 := fun W => l01In_any s 1 2 W
  cases h2 : inB n 1 m.c with
  | false =>
    have HR := Lib.hid (bch_2 (n := n) (s := s) HH1.out (by rw [h2]; rfl))
    rw [h2] at HI1
    have HI := Lib.hid HI1; clear HI1 HI2
    have H2 := Lib.hid h2; clear h2
    go_enter Try.func47, Try.ntmps47
    go_wp2_with fail
    refine HKK.out.mono ?_
    rintro e w1 ⟨rfl, b1⟩
    obtain ⟨q0, q1, q2, q3, q4, _⟩ := bm.below b1
    go_wp2_with fail
    refine (HI.out _).mono ?_
    rintro e w2 ⟨rfl, rfl⟩
    go_wp2_with fail
    go_ret3
    exact rdINN_nil HR.out (B0.trans (b1.mono B0.size))
  | true =>
  cases h3 : inB s 1 2 with
  | false =>
    have HR := Lib.hid (bch_2 (n := n) (s := s) HH1.out (by rw [h3, Bool.and_false]))
    rw [h2] at HI1
    rw [h3] at HI2
    have HI := Lib.hid HI1; have HJ := Lib.hid HI2; clear HI1 HI2
    have H2 := Lib.hid h2; have H3 := Lib.hid h3; clear h2 h3
    go_enter Try.func47, Try.ntmps47
    go_wp2_with fail
    refine HKK.out.mono ?_
    rintro e w1 ⟨rfl, b1⟩
    obtain ⟨q0, q1, q2, q3, q4, _⟩ := bm.below b1
    go_wp2_with fail
    refine (HI.out _).mono ?_
    rintro e w2 ⟨rfl, rfl⟩
    go_wp2_with fail
    refine (HJ.out _).mono ?_
    rintro e w2 ⟨rfl, rfl⟩
    go_wp2_with fail
    go_ret3
    exact rdINN_nil HR.out (B0.trans (b1.mono B0.size))
  | true =>
    have HR := Lib.hid (bch_0 (n := n) (s := s) HH1.out (by rw [h2, h3]; rfl))
    have hn1 : 1 ≤ n ∧ n ≤ m.c := by simpa [inB] using h2
    have hs1 : 1 ≤ s ∧ s ≤ 2 := by simpa [inB] using h3
    rw [h2] at HI1
    rw [h3] at HI2
    have HI := Lib.hid HI1; have HJ := Lib.hid HI2; clear HI1 HI2
    have H2 := Lib.hid h2; have H3 := Lib.hid h3; clear h2 h3
    have HCH := Lib.hid (fun W => l11Choices_go n.toNat m.c.toNat n m.c W (by omega) (by omega) (by omega) (by omega))
    have HNE := Lib.hid (choices_ne (show n.toNat ≤ m.c.toNat by omega))
    have HBS := Lib.hid (show bestSt m ms n s = (choices n.toNat m.c.toNat).foldl (stepC (cntCh m ms s)) ([], -1) from rfl)
    obtain ⟨ls, hls⟩ : ∃ ls, ls = choices n.toNat m.c.toNat := ⟨_, rfl⟩
    rw [← hls] at HCH HNE HBS
    clear hls
    have h0 : 0 < ls.length := by
      have := HNE.out
      cases ls with
      | nil => exact absurd rfl this
      | cons x r => simp
    have n1 := hn1.1; have n2 := hn1.2; have s1 := hs1.1; have s2 := hs1.2
    clear hn1 hs1
    go_enter Try.func47, Try.ntmps47
    go_wp2_with fail
    refine HKK.out.mono ?_
    rintro e w1 ⟨rfl, b1⟩
    have B1 := B0.trans (b1.mono B0.size)
    obtain ⟨q0, q1, q2, q3, q4, _⟩ := bm.below b1
    go_wp2_with fail
    refine (HI.out _).mono ?_
    rintro e w2 ⟨rfl, rfl⟩
    go_wp2_with fail
    refine (HJ.out _).mono ?_
    rintro e w2 ⟨rfl, rfl⟩
    go_wp2_with fail
    refine (HCH.out _).mono ?_
    rintro e w2 ⟨A2, c2, rfl, hc2, r2, o2, b2⟩
    have B2 := B1.trans (b2.mono B1.size)
    have HM2 := Lib.hid ((bm.below b1).below b2)
    have hle := r2.le
    have h0' : (0 : Int) < (ls.length : Int) := by omega
    obtain ⟨bz, oz, A0, c0, rfl, hcz, hccz, hrz⟩ := r2.at_ h0
    simp only [Nat.add_zero] at hcz
    obtain ⟨z0, hz0⟩ : ∃ z0, z0 = ls[0] := ⟨_, rfl⟩
    rw [← hz0] at hcz hccz hrz
    have HBST := Lib.hid (show bestSt m ms n s = ls.foldl (stepC (cntCh m ms s)) (z0, -1) by rw [HBS.out]; exact best_start (cntCh_nn m ms s) ls [] z0 HNE.out)
    clear hz0 o2 q0 q1 q2 q3 q4
    go_wp2_with fail
    go_loopw [12, 13, 14, 15] (fun b mo i _ wr => ∃ (k : Nat) (st : List Int × Int) (Ab : Option Addr) (cb : Nat), k ≤ ls.length ∧ i = .int .i64 k ∧ b = .slice Ab st.1.length cb ∧ mo = .int .i64 st.2 ∧ st.1.length ≤ cb ∧ RI w2 Ab st.1 ∧ st = (ls.take k).foldl (stepC (cntCh m ms s)) (z0, -1) ∧ Below w2.heap.size w2 wr) (fun _ _ i _ _ => ls.length - (intOf i).toNat)
    case atStart => exact ⟨0, (z0, -1), A0, c0, by omega, rfl, rfl, rfl, hccz, hrz, by simp, Below.refl _ _⟩
    case round =>
      obtain ⟨k, st, Ab, cb, hk, rfl, rfl, rfl, hcb, hrb, hst, hb⟩ := hrel
      have HST := Lib.hid hst; clear hst
      have Bw := B2.trans (hb.mono B2.size)
      by_cases hlt : k < ls.length
      · obtain ⟨b3, o3, A3, c3, e3, hc3, hcc3, hr3⟩ := r2.at_ hlt
        injection e3 with e3
        injection e3 with e4 e5
        subst e4 e5
        have hc3r := cell_in hb (World.block_lt_of_cell? w2 _ hc3) hc3
        have i0 : (0 : Int) ≤ (k : Int) := by omega
        have i1 : (k : Int) < (ls.length : Int) := by omega
        obtain ⟨ys, hys⟩ : ∃ ys, ys = ls[k] := ⟨_, rfl⟩
        rw [← hys] at hc3r hcc3 hr3
        have HFO := Lib.hid (show (ls.take (k + 1)).foldl (stepC (cntCh m ms s)) (z0, -1) = stepC (cntCh m ms s) st ys by rw [List.take_succ_eq_append_getElem hlt, List.foldl_append, ← HST.out, hys]; rfl)
        have KS := Lib.hid (show ∀ w' : World, Below wr.heap.size wr w' → ((w'.cell? ⟨w.heap.size, 0, none⟩ = some (.int .i64 m.c) ∧ w'.cell? ⟨w.heap.size, 1, none⟩ = some (.int .i64 m.d) ∧ w'.cell? ⟨w.heap.size, 2, none⟩ = some (.int .i64 m.s) ∧ w'.cell? ⟨w.heap.size, 3, none⟩ = some (.int .i64 m.a) ∧ w'.cell? ⟨w.heap.size, 4, none⟩ = some (.int .i64 m.l) ∧ True) ∧ w'.cell? ⟨bz, oz + k, none⟩ = some (.slice A3 ys.length c3)) from fun w' hw => ⟨(HM2.out.below hb).below hw, cell_in hw (World.block_lt_of_cell? wr _ hc3r) hc3r⟩)
        have HKY := Lib.hid (fun (W : World) (hW : Below wr.heap.size wr W) => by
          have := l13Keys_any m A c ms A3 c3 ys s 1000000 W (h.below (Bw.trans (hW.mono Bw.size))) ((hr3.below hb).below hW) HMK.out HSM.out.2 HSM.out.1 s1 s2 (by omega) (by omega)
          rw [List.take_of_length_le (by have := keys_few m HMK.out (fits ms ys s); show (changeKeys m ms ys s).length ≤ _; unfold changeKeys; omega)] at this
          exact this)
        obtain ⟨ck, hck⟩ : ∃ ck, ck = changeKeys m ms ys s := ⟨_, rfl⟩
        have HCK := Lib.hid (show cntCh m ms s ys = (ck.length : Int) by rw [hck]; rfl)
        rw [← hck] at HKY
        clear hys hck hc3
        go_wp2_with fail
        refine wp_region_held_drew (S := (fun w' => (w'.cell? ⟨w.heap.size, 0, none⟩ = some (.int .i64 m.c) ∧ w'.cell? ⟨w.heap.size, 1, none⟩ = some (.int .i64 m.d) ∧ w'.cell? ⟨w.heap.size, 2, none⟩ = some (.int .i64 m.s) ∧ w'.cell? ⟨w.heap.size, 3, none⟩ = some (.int .i64 m.a) ∧ w'.cell? ⟨w.heap.size, 4, none⟩ = some (.int .i64 m.l) ∧ True) ∧ w'.cell? ⟨bz, oz + k, none⟩ = some (.slice A3 ys.length c3))) (by kernel_rfl) (KS.out _ (belowDrew0 _)) (fun hHeld => ?_)
        refine takeD (i := 0) (some 43) (.agg #[.int .i64 m.c, .int .i64 m.d, .int .i64 m.s, .int .i64 m.a, .int .i64 m.l]) rfl (by kernel_rfl) (by kernel_rfl) (by kernel_rfl) (by kernel_rfl) (fun _ _ _ h => h) (by assumption) (Or.inl ⟨by rfl, fun w hSw => by (try dsimp only at hSw); go_simp⟩) ?_
        simp only [Act.put, List.setIfInBounds_toArray, List.set_cons_zero, List.set_cons_succ]
        refine takeD (i := 1) (some 44) (.slice A ms.length c) rfl (by kernel_rfl) (by kernel_rfl) (by kernel_rfl) (by kernel_rfl) (fun _ _ _ h => h) (by assumption) (Or.inl ⟨by rfl, fun w hSw => by (try dsimp only at hSw); go_simp⟩) ?_
        simp only [Act.put, List.setIfInBounds_toArray, List.set_cons_zero, List.set_cons_succ]
        refine takeD (i := 2) (some 45) (.slice (some ⟨bz, oz, none⟩) ls.length c2) rfl (by kernel_rfl) (by kernel_rfl) (by kernel_rfl) (by kernel_rfl) (fun _ _ _ h => h) (by assumption) (Or.inl ⟨by rfl, fun w hSw => by (try dsimp only at hSw); go_simp⟩) ?_
        simp only [Act.put, List.setIfInBounds_toArray, List.set_cons_zero, List.set_cons_succ]
        refine takeD (i := 3) (some 46) (.int .i64 (k : Int)) rfl (by kernel_rfl) (by kernel_rfl) (by kernel_rfl) (by kernel_rfl) (fun _ _ _ h => h) (by assumption) (Or.inl ⟨by rfl, fun w hSw => by (try dsimp only at hSw); go_simp⟩) ?_
        simp only [Act.put, List.setIfInBounds_toArray, List.set_cons_zero, List.set_cons_succ]
        refine takeD (i := 4) (some 47) (.pointer (some ⟨bz, oz + k, none⟩)) rfl (by kernel_rfl) (by kernel_rfl) (by kernel_rfl) (by kernel_rfl) (fun _ _ _ h => h) (by assumption) (Or.inl ⟨by rfl, fun w hSw => by (try dsimp only at hSw); go_simp⟩) ?_
        simp only [Act.put, List.setIfInBounds_toArray, List.set_cons_zero, List.set_cons_succ]
        refine takeD (i := 5) (some 48) (.slice A3 ys.length c3) rfl (by kernel_rfl) (by kernel_rfl) (by kernel_rfl) (by kernel_rfl) (fun _ _ _ h => h) (by assumption) (Or.inl ⟨by rfl, fun w hSw => by (try dsimp only at hSw); go_simp⟩) ?_
        simp only [Act.put, List.setIfInBounds_toArray, List.set_cons_zero, List.set_cons_succ]
        refine takeD (i := 6) (some 49) (.int .i64 s) rfl (by kernel_rfl) (by kernel_rfl) (by kernel_rfl) (by kernel_rfl) (fun _ _ _ h => h) (by assumption) (Or.inl ⟨by rfl, fun w hSw => by (try dsimp only at hSw); go_simp⟩) ?_
        simp only [Act.put, List.setIfInBounds_toArray, List.set_cons_zero, List.set_cons_succ]
        refine takeD (i := 7) (some 50) (.agg #[.slice A ms.length c, .slice A3 ys.length c3, .int .i64 s]) rfl (by kernel_rfl) (by kernel_rfl) (by kernel_rfl) (by kernel_rfl) (fun _ _ _ h => h) (by assumption) (Or.inl ⟨by rfl, fun w hSw => by (try dsimp only at hSw); go_simp⟩) ?_
        simp only [Act.put, List.setIfInBounds_toArray, List.set_cons_zero, List.set_cons_succ]
        refine wpAnyH_ready (rs := [8]) (by kernel_rfl) (by simp) (AllReadyH.cons rfl (fun K hK => ?_) AllReadyH.nil)
        go_simp
        refine (HKY.out _ (belowDrew0 _)).mono ?_
        rintro e w4 ⟨A4, c4, rfl, hc4, r4, b4'⟩
        have b4 := belowDrew b4'
        have hle4 := r4.le
        have HHeld := KS.out _ b4
        refine hK.out _ _ HHeld (fun _ => ?_)
        clear hK K
        try simp only [Act.put, List.setIfInBounds_toArray, List.set_cons_zero, List.set_cons_succ]
        refine takeD (i := 9) (some 52) (.int .i64 (ck.length : Int)) rfl (by kernel_rfl) (by kernel_rfl) (by kernel_rfl) (by kernel_rfl) (fun _ _ _ h => h) (by assumption) (Or.inl ⟨by rfl, fun w hSw => by (try dsimp only at hSw); go_simp⟩) ?_
        simp only [Act.put, List.setIfInBounds_toArray, List.set_cons_zero, List.set_cons_succ]
        refine takeD (i := 10) (some 15) (.int .i64 (ck.length : Int)) rfl (by kernel_rfl) (by kernel_rfl) (by kernel_rfl) (by kernel_rfl) (fun _ _ _ h => h) (by assumption) (Or.inl ⟨by rfl, fun w hSw => by (try dsimp only at hSw); go_simp⟩) ?_
        simp only [Act.put, List.setIfInBounds_toArray, List.set_cons_zero, List.set_cons_succ]
        refine wpAnyH_done (by kernel_rfl) ?_ _
        have hc5 := (KS.out _ b4).2
        have HB4 := Lib.hid (hb.trans (b4.mono hb.size))
        clear r4 b4 b4'
        by_cases hgt : st.2 < (ck.length : Int)
        · have HT := Lib.hid (show stepC (cntCh m ms s) st ys = (ys, (ck.length : Int)) by unfold stepC; rw [HCK.out, if_pos hgt])
          go_wp2_with fail
          go_roundw
          case rel => exact ⟨k + 1, (ys, (ck.length : Int)), A3, c3, by omega, by go_num, rfl, rfl, hcc3, hr3, by rw [HFO.out, HT.out], HB4.out⟩
          case measure => simp [intOf]; omega
        · have HT := Lib.hid (show stepC (cntCh m ms s) st ys = st by unfold stepC; rw [HCK.out, if_neg hgt])
          have hgt' : decide (st.2 < (ck.length : Int)) = false := decide_eq_false hgt
          go_wp2_with fail
          go_roundw
          case rel => exact ⟨k + 1, st, Ab, cb, by omega, by go_num, rfl, rfl, hcb, hrb, by rw [HFO.out, HT.out], HB4.out⟩
          case measure => simp [intOf]; omega
      · obtain rfl : k = ls.length := by omega
        have HT := Lib.hid (show (st.1, st.2, 0) = bestChR m ms n s by rw [← HR.out, HBST.out, HST.out, List.take_length])
        go_wp2_with fail
        go_ret3
        exact rdINN_of HT.out hcb (hrb.below hb) Bw
set_option maxRecDepth 100000 in
set_option maxHeartbeats 8000000 in
theorem implBestChambers_any (m : Mk) (A : Option Addr) (c : Nat) (ms : List Int) (n s : Int) (w : World) (h : RI w A ms) (hcap : ms.length ≤ c) (_ : (Lit.int .i64 n).wf = true) (_ : (Lit.int .i64 s).wf = true) :
    Calls Try.prog 46 #[.agg #[.int .i64 m.c, .int .i64 m.d, .int .i64 m.s, .int .i64 m.a, .int .i64 m.l], .slice A ms.length c, .int .i64 n, .int .i64 s] w (ResINN w (bestChR m ms n s)) := by
  have B0 := (Below.refl w.heap.size w).alloc (Nat.le_refl _) (.cells #[.int .i64 m.c, .int .i64 m.d, .int .i64 m.s, .int .i64 m.a, .int .i64 m.l] 25)
  have bm : BoxC (w.alloc (.cells #[.int .i64 m.c, .int .i64 m.d, .int .i64 m.s, .int .i64 m.a, .int .i64 m.l] 25)) w.heap.size 0 [.int .i64 m.c, .int .i64 m.d, .int .i64 m.s, .int .i64 m.a, .int .i64 m.l] := by simp [BoxC, Go.World.cell?_alloc_at]
  have HMI := fun W => implIsMaker_any m W
  cases hm : isMaker m with
  | false =>
    have HR := Lib.hid (bch_1 (ms := ms) (n := n) (s := s) (by rw [hm]; rfl))
    rw [hm] at HMI
    have HMM := Lib.hid HMI; clear HMI
    go_enter Try.func46, Try.ntmps46
    go_wp2_with fail
    refine (HMM.out _).mono ?_
    rintro e w1 ⟨rfl, b1⟩
    go_wp2_with fail
    go_ret3
    exact resINN_nil HR.out (B0.trans (b1.mono B0.size))
  | true =>
  rw [hm] at HMI
  have HMM := Lib.hid HMI; clear HMI
  have HKI := fun W hW => isKey_any m A c ms W (h.below hW) hcap hm
  cases hk : isKey m ms with
  | false =>
    have HR := Lib.hid (bch_1 (ms := ms) (n := n) (s := s) (by rw [hm, hk]; rfl))
    rw [hk] at HKI
    have HKK := Lib.hid HKI; clear HKI hm hk
    go_enter Try.func46, Try.ntmps46
    go_wp2_with fail
    refine (HMM.out _).mono ?_
    rintro e w0 ⟨rfl, b0⟩
    obtain ⟨q0, q1, q2, q3, q4, _⟩ := bm.below b0
    have B00 := B0.trans (b0.mono B0.size)
    go_wp2_with fail
    refine (HKK.out _ B00).mono ?_
    rintro e w1 ⟨rfl, b1⟩
    go_wp2_with fail
    go_ret3
    exact resINN_nil HR.out (B00.trans (b1.mono B00.size))
  | true =>
  rw [hk] at HKI
  have HKK := Lib.hid HKI; clear HKI
  have HH1 := Lib.hid (show (isMaker m && isKey m ms) = true by rw [hm, hk]; rfl)
  have HMK := Lib.hid hm
  have HSM := Lib.hid (key_small hm hk)
  have hmb := mk_bounds hm
  have c6 : m.c ≤ 6 := hmb.2.1
  have c2' : 2 ≤ m.c := hmb.1
  have d8 : m.d ≤ 8 := hmb.2.2.2.1
  clear hmb hk hm
  have HI1 := fun W => within_any n 1 m.c W
  have HI2 := fun W => within_any s 1 2 W
  cases h2 : inB n 1 m.c with
  | false =>
    have HR := Lib.hid (bch_2 (n := n) (s := s) HH1.out (by rw [h2]; rfl))
    rw [h2] at HI1
    have HI := Lib.hid HI1; clear HI1 HI2
    have H2 := Lib.hid h2; clear h2
    go_enter Try.func46, Try.ntmps46
    go_wp2_with fail
    refine (HMM.out _).mono ?_
    rintro e w0 ⟨rfl, b0⟩
    have B00 := B0.trans (b0.mono B0.size)
    obtain ⟨x0, x1, x2, x3, x4, _⟩ := bm.below b0
    go_wp2_with fail
    refine (HKK.out _ B00).mono ?_
    rintro e w1 ⟨rfl, b1⟩
    clear x0 x1 x2 x3 x4
    have B1 := B00.trans (b1.mono B00.size)
    obtain ⟨q0, q1, q2, q3, q4, _⟩ := (bm.below b0).below b1
    go_wp2_with fail
    refine (HI.out _).mono ?_
    rintro e w2 ⟨rfl, rfl⟩
    go_wp2_with fail
    go_ret3
    exact resINN_nil HR.out B1
  | true =>
  cases h3 : inB s 1 2 with
  | false =>
    have HR := Lib.hid (bch_2 (n := n) (s := s) HH1.out (by rw [h3, Bool.and_false]))
    rw [h2] at HI1
    rw [h3] at HI2
    have HI := Lib.hid HI1; have HJ := Lib.hid HI2; clear HI1 HI2
    have H2 := Lib.hid h2; have H3 := Lib.hid h3; clear h2 h3
    go_enter Try.func46, Try.ntmps46
    go_wp2_with fail
    refine (HMM.out _).mono ?_
    rintro e w0 ⟨rfl, b0⟩
    have B00 := B0.trans (b0.mono B0.size)
    obtain ⟨x0, x1, x2, x3, x4, _⟩ := bm.below b0
    go_wp2_with fail
    refine (HKK.out _ B00).mono ?_
    rintro e w1 ⟨rfl, b1⟩
    clear x0 x1 x2 x3 x4
    have B1 := B00.trans (b1.mono B00.size)
    obtain ⟨q0, q1, q2, q3, q4, _⟩ := (bm.below b0).below b1
    go_wp2_with fail
    refine (HI.out _).mono ?_
    rintro e w2 ⟨rfl, rfl⟩
    go_wp2_with fail
    refine (HJ.out _).mono ?_
    rintro e w2 ⟨rfl, rfl⟩
    go_wp2_with fail
    go_ret3
    exact resINN_nil HR.out B1
  | true =>
    have HR := Lib.hid (bch_0 (n := n) (s := s) HH1.out (by rw [h2, h3]; rfl))
    have hn1 : 1 ≤ n ∧ n ≤ m.c := by simpa [inB] using h2
    have hs1 : 1 ≤ s ∧ s ≤ 2 := by simpa [inB] using h3
    rw [h2] at HI1
    rw [h3] at HI2
    have HI := Lib.hid HI1; have HJ := Lib.hid HI2; clear HI1 HI2
    have H2 := Lib.hid h2; have H3 := Lib.hid h3; clear h2 h3
    have HNE := Lib.hid (choices_ne (show n.toNat ≤ m.c.toNat by omega))
    have HBB := Lib.hid (show bestSt m ms n s = (setsN n.toNat (2 ^ m.c.toNat)).foldl (stepM (cntCh m ms s)) ([], -1) from best_both (cntCh_nn m ms s) n.toNat m.c.toNat (by omega) [] [] HNE.out)
    have n1 := hn1.1; have n2 := hn1.2; have s1 := hs1.1; have s2 := hs1.2
    obtain ⟨cn, hcn⟩ : ∃ cn : Nat, m.c = (cn : Int) := ⟨m.c.toNat, by omega⟩
    have hcn6 : cn ≤ 6 := by omega
    have HCN := Lib.hid hcn
    have hN : 2 ^ m.c.toNat = 2 ^ cn := by rw [hcn]; rfl
    rw [hN] at HBB
    have hpow : wrap64 ((2 : Int) ^ cn) = ((2 ^ cn : Nat) : Int) := by
      have h10 : 2 ^ cn ≤ 2 ^ 6 := Nat.pow_le_pow_right (by omega) hcn6
      have e : ((2 : Int) ^ cn) = ((2 ^ cn : Nat) : Int) := by simp
      rw [e]
      unfold wrap64
      generalize 2 ^ cn = M at *
      omega
    have hN10 : 2 ^ cn ≤ 64 := Nat.pow_le_pow_right (by omega) hcn6
    clear hn1 hs1 hN hcn
    generalize hNN : 2 ^ cn = N at *
    have HNN := Lib.hid hNN; clear hNN
    go_enter Try.func46, Try.ntmps46
    go_wp2_with fail
    refine (HMM.out _).mono ?_
    rintro e w0 ⟨rfl, b0⟩
    have B00 := B0.trans (b0.mono B0.size)
    obtain ⟨x0, x1, x2, x3, x4, _⟩ := bm.below b0
    go_wp2_with fail
    refine (HKK.out _ B00).mono ?_
    rintro e w1 ⟨rfl, b1⟩
    clear x0 x1 x2 x3 x4
    have B1 := B00.trans (b1.mono B00.size)
    have HM1 := Lib.hid ((bm.below b0).below b1)
    obtain ⟨q0, q1, q2, q3, q4, _⟩ := HM1.out
    go_wp2_with fail
    refine (HI.out _).mono ?_
    rintro e w2 ⟨rfl, rfl⟩
    go_wp2_with fail
    refine (HJ.out _).mono ?_
    rintro e w2 ⟨rfl, rfl⟩
    have sN : w.heap.size < w1.heap.size := by have h1 := b0.size; have h2 := b1.size; simp only [World.size_alloc] at h1; omega
    rw [HCN.out] at q0
    go_wp2_with fail
    clear q0 q1 q2 q3 q4
    rw [hpow]
    clear hpow
    go_loopw [11, 12, 13, 14, 15, 39] (fun b mo _ _ _ i wr => ∃ (sx : Nat) (st : List Int × Int) (v0 : Value), sx ≤ N ∧ i = .int .i64 sx ∧ b = v0 ∧ mo = .int .i64 st.2 ∧ OI wr w1.heap.size wr.heap.size v0 st.1 ∧ st = (setsN n.toNat sx).foldl (stepM (cntCh m ms s)) ([], -1) ∧ Below w1.heap.size w1 wr) (fun _ _ _ _ _ i _ => N - (intOf i).toNat)
    case atStart => exact ⟨0, ([], -1), _, by omega, rfl, rfl, rfl, by
      have hh := (OV.new0 (w := w1) (B := w1.heap.size) (e := 2) (Nat.le_refl _)).toOR
      exact hh, by simp [setsN], (Below.refl _ _).alloc (Nat.le_refl _) _⟩
    case round =>
      obtain ⟨sx, st, v0, hsx, rfl, rfl, rfl, ho, hst, hb⟩ := hrel
      have HO := Lib.hid ho; have HST := Lib.hid hst
      have Bw := B1.trans (hb.mono B1.size)
      have hszb := hb.size
      obtain ⟨Ab, cb, e11, hcb, hrb⟩ := OR.readsI ho
      subst e11
      have HM := Lib.hid (HM1.out.below hb)
      clear ho hst
      by_cases hlt : sx < N
      · have HMB := Lib.hid (members_any sx wr (by omega))
        have HSN := Lib.hid (setsN_succ n.toNat sx)
        obtain ⟨ys, hys⟩ : ∃ ys, ys = membersF sx := ⟨_, rfl⟩
        rw [← hys] at HMB HSN
        clear hys
        by_cases hln : (ys.length : Int) = n
        · have hne : ((ys.length : Int) != n) = false := by simp [hln]
          have HFO := Lib.hid (show (setsN n.toNat (sx + 1)).foldl (stepM (cntCh m ms s)) ([], -1) = stepM (cntCh m ms s) st ys by rw [HSN.out, if_pos (by omega), List.foldl_append, ← HST.out]; rfl)
          have HLN := Lib.hid hln; clear hln
          obtain ⟨ck, hck⟩ : ∃ ck, ck = (changeKeys m ms ys s).length := ⟨_, rfl⟩
          have HCK := Lib.hid (show cntCh m ms s ys = (ck : Int) by rw [hck]; rfl)
          have HCN2 := Lib.hid (fun (W : World) (g : Nat) (hA : AlB 149 #[.pointer (some ⟨g, 0, none⟩)] (fits ms ys s) m W) => by
            have := countKeys_any m HMK.out 149 #[.pointer (some ⟨g, 0, none⟩)] (fits ms ys s) W hA
            rw [show (keysG m (fits ms ys s) [] m.c.toNat [] false).length = ck from hck.symm] at this
            exact this)
          clear hck
          by_cases hgt : st.2 < (ck : Int)
          · have HT := Lib.hid (show stepM (cntCh m ms s) st ys = (ys, (ck : Int)) by unfold stepM; rw [HCK.out, if_pos (.inl hgt)])
            go_wp2_with fail
            refine HMB.out.mono ?_
            rintro e w2 ⟨ay, cy, rfl, hcy, ry, oy, b2⟩
            generalize (some ay : Option Addr) = Y at *
            have HOY := Lib.hid oy; clear oy
            have hle := ry.le
            have Bw2 := Bw.trans (b2.mono Bw.size)
            have KS := Lib.hid (show ∀ w' : World, Below w2.heap.size w2 w' → (w'.cell? ⟨w.heap.size, 0, none⟩ = some (.int .i64 m.c) ∧ w'.cell? ⟨w.heap.size, 1, none⟩ = some (.int .i64 m.d) ∧ w'.cell? ⟨w.heap.size, 2, none⟩ = some (.int .i64 m.s) ∧ w'.cell? ⟨w.heap.size, 3, none⟩ = some (.int .i64 m.a) ∧ w'.cell? ⟨w.heap.size, 4, none⟩ = some (.int .i64 m.l) ∧ True) from fun w' hw => (HM.out.below b2).below hw)
            obtain ⟨w3, hw3⟩ : ∃ w3, w3 = w2.drew.alloc (.cells #[.slice A ms.length c, .slice Y ys.length cy, .int .i64 s] 52) := ⟨_, rfl⟩
            have b3 : Below w2.heap.size w2 w3 := by rw [hw3]; exact (belowDrew0 w2).alloc (Nat.le_refl _) _
            have hAL : AlB 149 #[.pointer (some ⟨w2.heap.size, 0, none⟩)] (fits ms ys s) m w3 := by
              rw [hw3]
              exact changesAl m w2.heap.size A c ms Y cy ys s _ (h.below (Bw2.trans (((belowDrew0 w2).alloc (Nat.le_refl _) _).mono Bw2.size))) (ry.below ((belowDrew0 w2).alloc (Nat.le_refl _) _)) (BoxC.new [.slice A ms.length c, .slice Y ys.length cy, .int .i64 s] rfl) d8 HSM.out.2 HSM.out.1 s1 s2
            have HCNT := Lib.hid (HCN2.out w3 w2.heap.size hAL)
            have HB3 := Lib.hid b3
            have HW3 := Lib.hid hw3
            clear hw3 b3 hAL
            go_wp2_with fail
            refine wp_region_held_drew (S := (fun w' => w'.cell? ⟨w.heap.size, 0, none⟩ = some (.int .i64 m.c) ∧ w'.cell? ⟨w.heap.size, 1, none⟩ = some (.int .i64 m.d) ∧ w'.cell? ⟨w.heap.size, 2, none⟩ = some (.int .i64 m.s) ∧ w'.cell? ⟨w.heap.size, 3, none⟩ = some (.int .i64 m.a) ∧ w'.cell? ⟨w.heap.size, 4, none⟩ = some (.int .i64 m.l) ∧ True)) (by kernel_rfl) (KS.out _ (belowDrew0 _)) (fun hHeld => ?_)
            refine takeD (i := 0) (some 48) (.agg #[.int .i64 m.c, .int .i64 m.d, .int .i64 m.s, .int .i64 m.a, .int .i64 m.l]) rfl (by kernel_rfl) (by kernel_rfl) (by kernel_rfl) (by kernel_rfl) (fun _ _ _ h => h) (by assumption) (Or.inl ⟨by rfl, fun w hSw => by (try dsimp only at hSw); go_simp⟩) ?_
            simp only [Act.put, List.setIfInBounds_toArray, List.set_cons_zero, List.set_cons_succ]
            refine takeD (i := 1) (some 49) (.slice A ms.length c) rfl (by kernel_rfl) (by kernel_rfl) (by kernel_rfl) (by kernel_rfl) (fun _ _ _ h => h) (by assumption) (Or.inl ⟨by rfl, fun w hSw => by (try dsimp only at hSw); go_simp⟩) ?_
            simp only [Act.put, List.setIfInBounds_toArray, List.set_cons_zero, List.set_cons_succ]
            refine takeD (i := 2) (some 50) (.slice Y ys.length cy) rfl (by kernel_rfl) (by kernel_rfl) (by kernel_rfl) (by kernel_rfl) (fun _ _ _ h => h) (by assumption) (Or.inl ⟨by rfl, fun w hSw => by (try dsimp only at hSw); go_simp⟩) ?_
            simp only [Act.put, List.setIfInBounds_toArray, List.set_cons_zero, List.set_cons_succ]
            refine takeD (i := 3) (some 51) (.int .i64 s) rfl (by kernel_rfl) (by kernel_rfl) (by kernel_rfl) (by kernel_rfl) (fun _ _ _ h => h) (by assumption) (Or.inl ⟨by rfl, fun w hSw => by (try dsimp only at hSw); go_simp⟩) ?_
            simp only [Act.put, List.setIfInBounds_toArray, List.set_cons_zero, List.set_cons_succ]
            refine takeD (i := 4) (some 52) (.agg #[.slice A ms.length c, .slice Y ys.length cy, .int .i64 s]) rfl (by kernel_rfl) (by kernel_rfl) (by kernel_rfl) (by kernel_rfl) (fun _ _ _ h => h) (by assumption) (Or.inl ⟨by rfl, fun w hSw => by (try dsimp only at hSw); go_simp⟩) ?_
            simp only [Act.put, List.setIfInBounds_toArray, List.set_cons_zero, List.set_cons_succ]
            refine wpAnyH_ready (rs := [5]) (by kernel_rfl) (by simp) (AllReadyH.cons rfl (fun K hK => ?_) AllReadyH.nil)
            go_simp
            refine (changes_any A c ms Y cy ys s _).mono ?_
            rintro e w3' ⟨rfl, hw3'⟩
            rw [← HW3.out] at hw3'
            subst hw3'
            have HHeld := KS.out _ HB3.out
            refine hK.out _ _ HHeld (fun _ => ?_)
            clear hK K
            try simp only [Act.put, List.setIfInBounds_toArray, List.set_cons_zero, List.set_cons_succ]
            refine wpAnyH_ready (rs := [6]) (by kernel_rfl) (by simp) (AllReadyH.cons rfl (fun K hK => ?_) AllReadyH.nil)
            go_simp
            refine HCNT.out.mono ?_
            rintro e w4 ⟨rfl, b4⟩
            have HB4 := Lib.hid (HB3.out.trans (b4.mono HB3.out.size))
            have HHeld := KS.out _ HB4.out
            refine hK.out _ _ HHeld (fun _ => ?_)
            clear hK K
            try simp only [Act.put, List.setIfInBounds_toArray, List.set_cons_zero, List.set_cons_succ]
            refine takeD (i := 7) (some 15) (.int .i64 (ck : Int)) rfl (by kernel_rfl) (by kernel_rfl) (by kernel_rfl) (by kernel_rfl) (fun _ _ _ h => h) (by assumption) (Or.inl ⟨by rfl, fun w hSw => by (try dsimp only at hSw); go_simp⟩) ?_
            simp only [Act.put, List.setIfInBounds_toArray, List.set_cons_zero, List.set_cons_succ]
            refine wpAnyH_done (by kernel_rfl) ?_ _
            have HBW4 := Lib.hid (hb.trans ((b2.trans (HB4.out.mono b2.size)).mono hszb))
            have HO4 := Lib.hid ((HO.out.below (b2.trans (HB4.out.mono b2.size))).wide (Nat.le_refl _) (by have h1 := b2.size; have h2 := HB4.out.size; omega : wr.heap.size ≤ w4.heap.size))
            have HOY4 := Lib.hid ((HOY.out.below HB4.out).wide hszb HB4.out.size)
            have rb4 := hrb.below (b2.trans (HB4.out.mono b2.size))
            have ry4 := ry.below HB4.out
            clear b4
            go_wp2_with fail
            go_roundw
            case rel => exact ⟨sx + 1, (ys, (ck : Int)), _, by omega, by go_num, rfl, rfl, HOY4.out, by rw [HFO.out, HT.out], HBW4.out⟩
            case measure => simp [intOf]; omega
          · have hgt' : decide (st.2 < (ck : Int)) = false := decide_eq_false hgt
            by_cases heq : (ck : Int) = st.2
            · have heq' : ((ck : Int) == st.2) = true := by simp [heq]
              by_cases hcl : cmpL ys st.1 < 0
              · have HT := Lib.hid (show stepM (cntCh m ms s) st ys = (ys, (ck : Int)) by unfold stepM; rw [HCK.out, if_pos (.inr ⟨heq, hcl⟩)])
                have HEQ := Lib.hid heq; clear heq
                go_wp2_with fail
                refine HMB.out.mono ?_
                rintro e w2 ⟨ay, cy, rfl, hcy, ry, oy, b2⟩
                generalize (some ay : Option Addr) = Y at *
                have HOY := Lib.hid oy; clear oy
                have hle := ry.le
                have Bw2 := Bw.trans (b2.mono Bw.size)
                have KS := Lib.hid (show ∀ w' : World, Below w2.heap.size w2 w' → (w'.cell? ⟨w.heap.size, 0, none⟩ = some (.int .i64 m.c) ∧ w'.cell? ⟨w.heap.size, 1, none⟩ = some (.int .i64 m.d) ∧ w'.cell? ⟨w.heap.size, 2, none⟩ = some (.int .i64 m.s) ∧ w'.cell? ⟨w.heap.size, 3, none⟩ = some (.int .i64 m.a) ∧ w'.cell? ⟨w.heap.size, 4, none⟩ = some (.int .i64 m.l) ∧ True) from fun w' hw => (HM.out.below b2).below hw)
                obtain ⟨w3, hw3⟩ : ∃ w3, w3 = w2.drew.alloc (.cells #[.slice A ms.length c, .slice Y ys.length cy, .int .i64 s] 52) := ⟨_, rfl⟩
                have b3 : Below w2.heap.size w2 w3 := by rw [hw3]; exact (belowDrew0 w2).alloc (Nat.le_refl _) _
                have hAL : AlB 149 #[.pointer (some ⟨w2.heap.size, 0, none⟩)] (fits ms ys s) m w3 := by
                  rw [hw3]
                  exact changesAl m w2.heap.size A c ms Y cy ys s _ (h.below (Bw2.trans (((belowDrew0 w2).alloc (Nat.le_refl _) _).mono Bw2.size))) (ry.below ((belowDrew0 w2).alloc (Nat.le_refl _) _)) (BoxC.new [.slice A ms.length c, .slice Y ys.length cy, .int .i64 s] rfl) d8 HSM.out.2 HSM.out.1 s1 s2
                have HCNT := Lib.hid (HCN2.out w3 w2.heap.size hAL)
                have HB3 := Lib.hid b3
                have HW3 := Lib.hid hw3
                clear hw3 b3 hAL
                go_wp2_with fail
                refine wp_region_held_drew (S := (fun w' => w'.cell? ⟨w.heap.size, 0, none⟩ = some (.int .i64 m.c) ∧ w'.cell? ⟨w.heap.size, 1, none⟩ = some (.int .i64 m.d) ∧ w'.cell? ⟨w.heap.size, 2, none⟩ = some (.int .i64 m.s) ∧ w'.cell? ⟨w.heap.size, 3, none⟩ = some (.int .i64 m.a) ∧ w'.cell? ⟨w.heap.size, 4, none⟩ = some (.int .i64 m.l) ∧ True)) (by kernel_rfl) (KS.out _ (belowDrew0 _)) (fun hHeld => ?_)
                refine takeD (i := 0) (some 48) (.agg #[.int .i64 m.c, .int .i64 m.d, .int .i64 m.s, .int .i64 m.a, .int .i64 m.l]) rfl (by kernel_rfl) (by kernel_rfl) (by kernel_rfl) (by kernel_rfl) (fun _ _ _ h => h) (by assumption) (Or.inl ⟨by rfl, fun w hSw => by (try dsimp only at hSw); go_simp⟩) ?_
                simp only [Act.put, List.setIfInBounds_toArray, List.set_cons_zero, List.set_cons_succ]
                refine takeD (i := 1) (some 49) (.slice A ms.length c) rfl (by kernel_rfl) (by kernel_rfl) (by kernel_rfl) (by kernel_rfl) (fun _ _ _ h => h) (by assumption) (Or.inl ⟨by rfl, fun w hSw => by (try dsimp only at hSw); go_simp⟩) ?_
                simp only [Act.put, List.setIfInBounds_toArray, List.set_cons_zero, List.set_cons_succ]
                refine takeD (i := 2) (some 50) (.slice Y ys.length cy) rfl (by kernel_rfl) (by kernel_rfl) (by kernel_rfl) (by kernel_rfl) (fun _ _ _ h => h) (by assumption) (Or.inl ⟨by rfl, fun w hSw => by (try dsimp only at hSw); go_simp⟩) ?_
                simp only [Act.put, List.setIfInBounds_toArray, List.set_cons_zero, List.set_cons_succ]
                refine takeD (i := 3) (some 51) (.int .i64 s) rfl (by kernel_rfl) (by kernel_rfl) (by kernel_rfl) (by kernel_rfl) (fun _ _ _ h => h) (by assumption) (Or.inl ⟨by rfl, fun w hSw => by (try dsimp only at hSw); go_simp⟩) ?_
                simp only [Act.put, List.setIfInBounds_toArray, List.set_cons_zero, List.set_cons_succ]
                refine takeD (i := 4) (some 52) (.agg #[.slice A ms.length c, .slice Y ys.length cy, .int .i64 s]) rfl (by kernel_rfl) (by kernel_rfl) (by kernel_rfl) (by kernel_rfl) (fun _ _ _ h => h) (by assumption) (Or.inl ⟨by rfl, fun w hSw => by (try dsimp only at hSw); go_simp⟩) ?_
                simp only [Act.put, List.setIfInBounds_toArray, List.set_cons_zero, List.set_cons_succ]
                refine wpAnyH_ready (rs := [5]) (by kernel_rfl) (by simp) (AllReadyH.cons rfl (fun K hK => ?_) AllReadyH.nil)
                go_simp
                refine (changes_any A c ms Y cy ys s _).mono ?_
                rintro e w3' ⟨rfl, hw3'⟩
                rw [← HW3.out] at hw3'
                subst hw3'
                have HHeld := KS.out _ HB3.out
                refine hK.out _ _ HHeld (fun _ => ?_)
                clear hK K
                try simp only [Act.put, List.setIfInBounds_toArray, List.set_cons_zero, List.set_cons_succ]
                refine wpAnyH_ready (rs := [6]) (by kernel_rfl) (by simp) (AllReadyH.cons rfl (fun K hK => ?_) AllReadyH.nil)
                go_simp
                refine HCNT.out.mono ?_
                rintro e w4 ⟨rfl, b4⟩
                have HB4 := Lib.hid (HB3.out.trans (b4.mono HB3.out.size))
                have HHeld := KS.out _ HB4.out
                refine hK.out _ _ HHeld (fun _ => ?_)
                clear hK K
                try simp only [Act.put, List.setIfInBounds_toArray, List.set_cons_zero, List.set_cons_succ]
                refine takeD (i := 7) (some 15) (.int .i64 (ck : Int)) rfl (by kernel_rfl) (by kernel_rfl) (by kernel_rfl) (by kernel_rfl) (fun _ _ _ h => h) (by assumption) (Or.inl ⟨by rfl, fun w hSw => by (try dsimp only at hSw); go_simp⟩) ?_
                simp only [Act.put, List.setIfInBounds_toArray, List.set_cons_zero, List.set_cons_succ]
                refine wpAnyH_done (by kernel_rfl) ?_ _
                have HBW4 := Lib.hid (hb.trans ((b2.trans (HB4.out.mono b2.size)).mono hszb))
                have HO4 := Lib.hid ((HO.out.below (b2.trans (HB4.out.mono b2.size))).wide (Nat.le_refl _) (by have h1 := b2.size; have h2 := HB4.out.size; omega : wr.heap.size ≤ w4.heap.size))
                have HOY4 := Lib.hid ((HOY.out.below HB4.out).wide hszb HB4.out.size)
                have rb4 := hrb.below (b2.trans (HB4.out.mono b2.size))
                have ry4 := ry.below HB4.out
                clear b4
                have HCM := Lib.hid (sCompare_any Y Ab cy cb ys st.1 w4 ry4 rb4)
                go_wp2_with fail
                refine HCM.out.mono ?_
                rintro e w5 ⟨rfl, rfl⟩
                go_wp2_with fail
                go_roundw
                case rel => exact ⟨sx + 1, (ys, (ck : Int)), _, by omega, by go_num, rfl, rfl, HOY4.out, by rw [HFO.out, HT.out], HBW4.out⟩
                case measure => simp [intOf]; omega
              · have hcl' : decide (cmpL ys st.1 < 0) = false := decide_eq_false hcl
                have HT := Lib.hid (show stepM (cntCh m ms s) st ys = st by unfold stepM; rw [HCK.out, if_neg (by rintro (h | ⟨_, h⟩); exact hgt h; exact hcl h)])
                have HEQ := Lib.hid heq; clear heq
                go_wp2_with fail
                refine HMB.out.mono ?_
                rintro e w2 ⟨ay, cy, rfl, hcy, ry, oy, b2⟩
                generalize (some ay : Option Addr) = Y at *
                have HOY := Lib.hid oy; clear oy
                have hle := ry.le
                have Bw2 := Bw.trans (b2.mono Bw.size)
                have KS := Lib.hid (show ∀ w' : World, Below w2.heap.size w2 w' → (w'.cell? ⟨w.heap.size, 0, none⟩ = some (.int .i64 m.c) ∧ w'.cell? ⟨w.heap.size, 1, none⟩ = some (.int .i64 m.d) ∧ w'.cell? ⟨w.heap.size, 2, none⟩ = some (.int .i64 m.s) ∧ w'.cell? ⟨w.heap.size, 3, none⟩ = some (.int .i64 m.a) ∧ w'.cell? ⟨w.heap.size, 4, none⟩ = some (.int .i64 m.l) ∧ True) from fun w' hw => (HM.out.below b2).below hw)
                obtain ⟨w3, hw3⟩ : ∃ w3, w3 = w2.drew.alloc (.cells #[.slice A ms.length c, .slice Y ys.length cy, .int .i64 s] 52) := ⟨_, rfl⟩
                have b3 : Below w2.heap.size w2 w3 := by rw [hw3]; exact (belowDrew0 w2).alloc (Nat.le_refl _) _
                have hAL : AlB 149 #[.pointer (some ⟨w2.heap.size, 0, none⟩)] (fits ms ys s) m w3 := by
                  rw [hw3]
                  exact changesAl m w2.heap.size A c ms Y cy ys s _ (h.below (Bw2.trans (((belowDrew0 w2).alloc (Nat.le_refl _) _).mono Bw2.size))) (ry.below ((belowDrew0 w2).alloc (Nat.le_refl _) _)) (BoxC.new [.slice A ms.length c, .slice Y ys.length cy, .int .i64 s] rfl) d8 HSM.out.2 HSM.out.1 s1 s2
                have HCNT := Lib.hid (HCN2.out w3 w2.heap.size hAL)
                have HB3 := Lib.hid b3
                have HW3 := Lib.hid hw3
                clear hw3 b3 hAL
                go_wp2_with fail
                refine wp_region_held_drew (S := (fun w' => w'.cell? ⟨w.heap.size, 0, none⟩ = some (.int .i64 m.c) ∧ w'.cell? ⟨w.heap.size, 1, none⟩ = some (.int .i64 m.d) ∧ w'.cell? ⟨w.heap.size, 2, none⟩ = some (.int .i64 m.s) ∧ w'.cell? ⟨w.heap.size, 3, none⟩ = some (.int .i64 m.a) ∧ w'.cell? ⟨w.heap.size, 4, none⟩ = some (.int .i64 m.l) ∧ True)) (by kernel_rfl) (KS.out _ (belowDrew0 _)) (fun hHeld => ?_)
                refine takeD (i := 0) (some 48) (.agg #[.int .i64 m.c, .int .i64 m.d, .int .i64 m.s, .int .i64 m.a, .int .i64 m.l]) rfl (by kernel_rfl) (by kernel_rfl) (by kernel_rfl) (by kernel_rfl) (fun _ _ _ h => h) (by assumption) (Or.inl ⟨by rfl, fun w hSw => by (try dsimp only at hSw); go_simp⟩) ?_
                simp only [Act.put, List.setIfInBounds_toArray, List.set_cons_zero, List.set_cons_succ]
                refine takeD (i := 1) (some 49) (.slice A ms.length c) rfl (by kernel_rfl) (by kernel_rfl) (by kernel_rfl) (by kernel_rfl) (fun _ _ _ h => h) (by assumption) (Or.inl ⟨by rfl, fun w hSw => by (try dsimp only at hSw); go_simp⟩) ?_
                simp only [Act.put, List.setIfInBounds_toArray, List.set_cons_zero, List.set_cons_succ]
                refine takeD (i := 2) (some 50) (.slice Y ys.length cy) rfl (by kernel_rfl) (by kernel_rfl) (by kernel_rfl) (by kernel_rfl) (fun _ _ _ h => h) (by assumption) (Or.inl ⟨by rfl, fun w hSw => by (try dsimp only at hSw); go_simp⟩) ?_
                simp only [Act.put, List.setIfInBounds_toArray, List.set_cons_zero, List.set_cons_succ]
                refine takeD (i := 3) (some 51) (.int .i64 s) rfl (by kernel_rfl) (by kernel_rfl) (by kernel_rfl) (by kernel_rfl) (fun _ _ _ h => h) (by assumption) (Or.inl ⟨by rfl, fun w hSw => by (try dsimp only at hSw); go_simp⟩) ?_
                simp only [Act.put, List.setIfInBounds_toArray, List.set_cons_zero, List.set_cons_succ]
                refine takeD (i := 4) (some 52) (.agg #[.slice A ms.length c, .slice Y ys.length cy, .int .i64 s]) rfl (by kernel_rfl) (by kernel_rfl) (by kernel_rfl) (by kernel_rfl) (fun _ _ _ h => h) (by assumption) (Or.inl ⟨by rfl, fun w hSw => by (try dsimp only at hSw); go_simp⟩) ?_
                simp only [Act.put, List.setIfInBounds_toArray, List.set_cons_zero, List.set_cons_succ]
                refine wpAnyH_ready (rs := [5]) (by kernel_rfl) (by simp) (AllReadyH.cons rfl (fun K hK => ?_) AllReadyH.nil)
                go_simp
                refine (changes_any A c ms Y cy ys s _).mono ?_
                rintro e w3' ⟨rfl, hw3'⟩
                rw [← HW3.out] at hw3'
                subst hw3'
                have HHeld := KS.out _ HB3.out
                refine hK.out _ _ HHeld (fun _ => ?_)
                clear hK K
                try simp only [Act.put, List.setIfInBounds_toArray, List.set_cons_zero, List.set_cons_succ]
                refine wpAnyH_ready (rs := [6]) (by kernel_rfl) (by simp) (AllReadyH.cons rfl (fun K hK => ?_) AllReadyH.nil)
                go_simp
                refine HCNT.out.mono ?_
                rintro e w4 ⟨rfl, b4⟩
                have HB4 := Lib.hid (HB3.out.trans (b4.mono HB3.out.size))
                have HHeld := KS.out _ HB4.out
                refine hK.out _ _ HHeld (fun _ => ?_)
                clear hK K
                try simp only [Act.put, List.setIfInBounds_toArray, List.set_cons_zero, List.set_cons_succ]
                refine takeD (i := 7) (some 15) (.int .i64 (ck : Int)) rfl (by kernel_rfl) (by kernel_rfl) (by kernel_rfl) (by kernel_rfl) (fun _ _ _ h => h) (by assumption) (Or.inl ⟨by rfl, fun w hSw => by (try dsimp only at hSw); go_simp⟩) ?_
                simp only [Act.put, List.setIfInBounds_toArray, List.set_cons_zero, List.set_cons_succ]
                refine wpAnyH_done (by kernel_rfl) ?_ _
                have HBW4 := Lib.hid (hb.trans ((b2.trans (HB4.out.mono b2.size)).mono hszb))
                have HO4 := Lib.hid ((HO.out.below (b2.trans (HB4.out.mono b2.size))).wide (Nat.le_refl _) (by have h1 := b2.size; have h2 := HB4.out.size; omega : wr.heap.size ≤ w4.heap.size))
                have HOY4 := Lib.hid ((HOY.out.below HB4.out).wide hszb HB4.out.size)
                have rb4 := hrb.below (b2.trans (HB4.out.mono b2.size))
                have ry4 := ry.below HB4.out
                clear b4
                have HCM := Lib.hid (sCompare_any Y Ab cy cb ys st.1 w4 ry4 rb4)
                go_wp2_with fail
                refine HCM.out.mono ?_
                rintro e w5 ⟨rfl, rfl⟩
                go_wp2_with fail
                go_roundw
                case rel => exact ⟨sx + 1, st, _, by omega, by go_num, rfl, rfl, HO4.out, by rw [HFO.out, HT.out], HBW4.out⟩
                case measure => simp [intOf]; omega
            · have heq' : ((ck : Int) == st.2) = false := by simp; exact heq
              have HT := Lib.hid (show stepM (cntCh m ms s) st ys = st by unfold stepM; rw [HCK.out, if_neg (by rintro (h | ⟨h, _⟩); exact hgt h; exact heq h)])
              have HEQ := Lib.hid heq; clear heq
              go_wp2_with fail
              refine HMB.out.mono ?_
              rintro e w2 ⟨ay, cy, rfl, hcy, ry, oy, b2⟩
              generalize (some ay : Option Addr) = Y at *
              have HOY := Lib.hid oy; clear oy
              have hle := ry.le
              have Bw2 := Bw.trans (b2.mono Bw.size)
              have KS := Lib.hid (show ∀ w' : World, Below w2.heap.size w2 w' → (w'.cell? ⟨w.heap.size, 0, none⟩ = some (.int .i64 m.c) ∧ w'.cell? ⟨w.heap.size, 1, none⟩ = some (.int .i64 m.d) ∧ w'.cell? ⟨w.heap.size, 2, none⟩ = some (.int .i64 m.s) ∧ w'.cell? ⟨w.heap.size, 3, none⟩ = some (.int .i64 m.a) ∧ w'.cell? ⟨w.heap.size, 4, none⟩ = some (.int .i64 m.l) ∧ True) from fun w' hw => (HM.out.below b2).below hw)
              obtain ⟨w3, hw3⟩ : ∃ w3, w3 = w2.drew.alloc (.cells #[.slice A ms.length c, .slice Y ys.length cy, .int .i64 s] 52) := ⟨_, rfl⟩
              have b3 : Below w2.heap.size w2 w3 := by rw [hw3]; exact (belowDrew0 w2).alloc (Nat.le_refl _) _
              have hAL : AlB 149 #[.pointer (some ⟨w2.heap.size, 0, none⟩)] (fits ms ys s) m w3 := by
                rw [hw3]
                exact changesAl m w2.heap.size A c ms Y cy ys s _ (h.below (Bw2.trans (((belowDrew0 w2).alloc (Nat.le_refl _) _).mono Bw2.size))) (ry.below ((belowDrew0 w2).alloc (Nat.le_refl _) _)) (BoxC.new [.slice A ms.length c, .slice Y ys.length cy, .int .i64 s] rfl) d8 HSM.out.2 HSM.out.1 s1 s2
              have HCNT := Lib.hid (HCN2.out w3 w2.heap.size hAL)
              have HB3 := Lib.hid b3
              have HW3 := Lib.hid hw3
              clear hw3 b3 hAL
              go_wp2_with fail
              refine wp_region_held_drew (S := (fun w' => w'.cell? ⟨w.heap.size, 0, none⟩ = some (.int .i64 m.c) ∧ w'.cell? ⟨w.heap.size, 1, none⟩ = some (.int .i64 m.d) ∧ w'.cell? ⟨w.heap.size, 2, none⟩ = some (.int .i64 m.s) ∧ w'.cell? ⟨w.heap.size, 3, none⟩ = some (.int .i64 m.a) ∧ w'.cell? ⟨w.heap.size, 4, none⟩ = some (.int .i64 m.l) ∧ True)) (by kernel_rfl) (KS.out _ (belowDrew0 _)) (fun hHeld => ?_)
              refine takeD (i := 0) (some 48) (.agg #[.int .i64 m.c, .int .i64 m.d, .int .i64 m.s, .int .i64 m.a, .int .i64 m.l]) rfl (by kernel_rfl) (by kernel_rfl) (by kernel_rfl) (by kernel_rfl) (fun _ _ _ h => h) (by assumption) (Or.inl ⟨by rfl, fun w hSw => by (try dsimp only at hSw); go_simp⟩) ?_
              simp only [Act.put, List.setIfInBounds_toArray, List.set_cons_zero, List.set_cons_succ]
              refine takeD (i := 1) (some 49) (.slice A ms.length c) rfl (by kernel_rfl) (by kernel_rfl) (by kernel_rfl) (by kernel_rfl) (fun _ _ _ h => h) (by assumption) (Or.inl ⟨by rfl, fun w hSw => by (try dsimp only at hSw); go_simp⟩) ?_
              simp only [Act.put, List.setIfInBounds_toArray, List.set_cons_zero, List.set_cons_succ]
              refine takeD (i := 2) (some 50) (.slice Y ys.length cy) rfl (by kernel_rfl) (by kernel_rfl) (by kernel_rfl) (by kernel_rfl) (fun _ _ _ h => h) (by assumption) (Or.inl ⟨by rfl, fun w hSw => by (try dsimp only at hSw); go_simp⟩) ?_
              simp only [Act.put, List.setIfInBounds_toArray, List.set_cons_zero, List.set_cons_succ]
              refine takeD (i := 3) (some 51) (.int .i64 s) rfl (by kernel_rfl) (by kernel_rfl) (by kernel_rfl) (by kernel_rfl) (fun _ _ _ h => h) (by assumption) (Or.inl ⟨by rfl, fun w hSw => by (try dsimp only at hSw); go_simp⟩) ?_
              simp only [Act.put, List.setIfInBounds_toArray, List.set_cons_zero, List.set_cons_succ]
              refine takeD (i := 4) (some 52) (.agg #[.slice A ms.length c, .slice Y ys.length cy, .int .i64 s]) rfl (by kernel_rfl) (by kernel_rfl) (by kernel_rfl) (by kernel_rfl) (fun _ _ _ h => h) (by assumption) (Or.inl ⟨by rfl, fun w hSw => by (try dsimp only at hSw); go_simp⟩) ?_
              simp only [Act.put, List.setIfInBounds_toArray, List.set_cons_zero, List.set_cons_succ]
              refine wpAnyH_ready (rs := [5]) (by kernel_rfl) (by simp) (AllReadyH.cons rfl (fun K hK => ?_) AllReadyH.nil)
              go_simp
              refine (changes_any A c ms Y cy ys s _).mono ?_
              rintro e w3' ⟨rfl, hw3'⟩
              rw [← HW3.out] at hw3'
              subst hw3'
              have HHeld := KS.out _ HB3.out
              refine hK.out _ _ HHeld (fun _ => ?_)
              clear hK K
              try simp only [Act.put, List.setIfInBounds_toArray, List.set_cons_zero, List.set_cons_succ]
              refine wpAnyH_ready (rs := [6]) (by kernel_rfl) (by simp) (AllReadyH.cons rfl (fun K hK => ?_) AllReadyH.nil)
              go_simp
              refine HCNT.out.mono ?_
              rintro e w4 ⟨rfl, b4⟩
              have HB4 := Lib.hid (HB3.out.trans (b4.mono HB3.out.size))
              have HHeld := KS.out _ HB4.out
              refine hK.out _ _ HHeld (fun _ => ?_)
              clear hK K
              try simp only [Act.put, List.setIfInBounds_toArray, List.set_cons_zero, List.set_cons_succ]
              refine takeD (i := 7) (some 15) (.int .i64 (ck : Int)) rfl (by kernel_rfl) (by kernel_rfl) (by kernel_rfl) (by kernel_rfl) (fun _ _ _ h => h) (by assumption) (Or.inl ⟨by rfl, fun w hSw => by (try dsimp only at hSw); go_simp⟩) ?_
              simp only [Act.put, List.setIfInBounds_toArray, List.set_cons_zero, List.set_cons_succ]
              refine wpAnyH_done (by kernel_rfl) ?_ _
              have HBW4 := Lib.hid (hb.trans ((b2.trans (HB4.out.mono b2.size)).mono hszb))
              have HO4 := Lib.hid ((HO.out.below (b2.trans (HB4.out.mono b2.size))).wide (Nat.le_refl _) (by have h1 := b2.size; have h2 := HB4.out.size; omega : wr.heap.size ≤ w4.heap.size))
              have HOY4 := Lib.hid ((HOY.out.below HB4.out).wide hszb HB4.out.size)
              have rb4 := hrb.below (b2.trans (HB4.out.mono b2.size))
              have ry4 := ry.below HB4.out
              clear b4
              go_wp2_with fail
              go_roundw
              case rel => exact ⟨sx + 1, st, _, by omega, by go_num, rfl, rfl, HO4.out, by rw [HFO.out, HT.out], HBW4.out⟩
              case measure => simp [intOf]; omega
        · have hne : ((ys.length : Int) != n) = true := by simp; exact hln
          have HFO := Lib.hid (show setsN n.toNat (sx + 1) = setsN n.toNat sx by rw [HSN.out, if_neg (by omega), List.append_nil])
          have HLN := Lib.hid hln; clear hln
          go_wp2_with fail
          refine HMB.out.mono ?_
          rintro e w2 ⟨ay, cy, rfl, hcy, ry, oy, b2⟩
          have hle := ry.le
          clear oy
          go_wp2_with fail
          go_roundw
          case rel => exact ⟨sx + 1, st, _, by omega, by go_num, rfl, rfl, (HO.out.below b2).wide (Nat.le_refl _) b2.size, by rw [HFO.out]; exact HST.out, hb.trans (b2.mono hszb)⟩
          case measure => simp [intOf]; omega
      · obtain rfl : sx = N := by omega
        have HT := Lib.hid (show (st.1, st.2, 0) = bestChR m ms n s by rw [← HR.out, HBB.out, HST.out])
        go_wp2_with fail
        go_ret3
        exact resINN_of HT.out hcb hrb (HO.out.wide (by have := B1.size; omega) (Nat.le_refl _)) Bw
end Go.Proofs.Ythjfilhcfjpinaa
