/- Draws of systems: l15DrawCuts. -/
import Derived.Test.YtdedajohkdbdkaaGreatDoorDrSys
import Derived.Test.YtdedajohkdbdkaaGreatDoorDrCuts
namespace Go.Proofs.YtdedajohkdbdkaaGreatDoor
set_option linter.unusedVariables false
open Go.RowKit
/-- drawn cuts: keys, in new memory -/
def ResCutsS (n : Nat) (S : Nat) (A : Option Addr) (c : Nat) (bs : List Int) (w : World) (e : Ending) (w' : World) : Prop :=
  ∃ (K : Option Addr) (q : Nat) (cs : List (List Int)), e = .returned (.slice K cs.length q) ∧ cs.length ≤ q ∧ cs.length ≤ n ∧ RIIb w.heap.size w' K cs ∧ Dr S A c bs w w'
set_option maxRecDepth 100000 in
set_option maxHeartbeats 8000000 in
theorem l15DrawCuts_any (S : Nat) (A : Option Addr) (c : Nat) (bs : List Int) (m : Mk) (T : Option Addr) (t : List (List Int)) (cT : Nat) (w : World) (h : Src S A c bs w) (hm : isMaker m = true) (hd : MkD m) (h1 : 1 ≤ t.length) (h4 : t.length ≤ 4) :
    Calls Tryz.prog 35 #[.pointer (some ⟨S, 0, none⟩), .agg #[.int .i64 m.c, .int .i64 m.d, .int .i64 m.s, .int .i64 m.a, .int .i64 m.l, .slice T t.length cT]] w (ResCutsS 5 S A c bs w) := by
  obtain ⟨w0, hw0⟩ : ∃ w0, w0 = w.alloc (.cells #[.int .i64 m.c, .int .i64 m.d, .int .i64 m.s, .int .i64 m.a, .int .i64 m.l, .slice T t.length cT] 28) := ⟨_, rfl⟩
  have hz0 : w0.heap.size = w.heap.size + 1 := by rw [hw0]; simp
  have HD0 := Lib.hid (show Dr S A c bs w w0 by rw [hw0]; exact (Dr.refl h).alloc _)
  have HBX := Lib.hid (show BoxC w0 w.heap.size 0 [.int .i64 m.c, .int .i64 m.d, .int .i64 m.s, .int .i64 m.a, .int .i64 m.l, .slice T t.length cT] by rw [hw0]; exact BoxC.new [.int .i64 m.c, .int .i64 m.d, .int .i64 m.s, .int .i64 m.a, .int .i64 m.l, .slice T t.length cT] rfl)
  have hSl : S < w.heap.size := h.xl
  have HM := Lib.hid hm; have HMD := Lib.hid hd
  have HN1 := Lib.hid (NEST.new0 (w := w0) (B := w0.heap.size) (Nat.le_refl _))
  clear h hm hd
  go_enter Tryz.func35, Tryz.ntmps35
  go_wp2_with fail
  rw [← hw0]
  clear hw0
  go_loopw [5, 6] (fun v i wr => ∃ (k : Nat) (us : List Value) (cs : List (List Int)), i = .int .i64 k ∧ k ≤ t.length ∧ cs.length = k ∧ NEST w0.heap.size wr v us cs ∧ Dr S A c bs w0 wr) (fun _ i _ => t.length - (intOf i).toNat)
  case atStart => exact ⟨0, [], [], rfl, by omega, rfl, by rw [← hz0]; exact HN1.out, (Dr.refl HD0.out.src).alloc _⟩
  case round =>
    obtain ⟨k, us, cs, rfl, hk, hkc, hN, hD⟩ := hrel
    have HKC := Lib.hid hkc; have HN := Lib.hid hN; have HD := Lib.hid hD
    have hsz := hD.size
    have hul : us.length ≤ 5 := by have := hN.len; omega
    obtain ⟨x0, x1, x2, x3, x4, x5, _⟩ := HBX.out.dr (by omega) (by omega) hD
    simp only [Nat.zero_add] at x1 x2 x3 x4 x5
    clear hkc hN hD
    by_cases hlt : k < t.length
    · have HE := Lib.hid (l02Some_any S A c bs m wr HD.out.src HM.out)
      go_wp2_with fail
      clear x0 x1 x2 x3 x4 x5
      refine HE.out.mono ?_
      rintro e w4 ⟨K4, q4, ys, rfl, hq4, hk4, hr4, hd4⟩
      have HN4 := Lib.hid (HN.out.dr (show S < w0.heap.size by omega) hd4)
      have HD4 := Lib.hid (HD.out.trans hd4)
      have HNF := Lib.hid (show NF (fun g => g < w0.heap.size ∨ u5.ownBlock = some g) K4 ys.length from hr4.2.mono fun g hg => by
        rcases hg with hg | hg
        · omega
        · exact (HN.out.own.lt g hg).2)
      have HR4 := Lib.hid hr4.1; have HQ4 := Lib.hid hq4
      have hs4 := HD4.out.size
      clear hq4 hk4 hr4 hd4
      go_wp2_with (at_builtin; refine wpList_app1 _ rfl _ _ _ rfl w0.heap.size 44 _ 24 Tryz.underlying26 info_sl rfl (by omega) _ us rfl (HN4.out.own.alloc _) _ _ rfl (one_cell _ _ _) rfl (by omega) (by simp; omega) ?_; intro v' w5 ho5 hg5 hn5 hat5)
      have HN5 := Lib.hid (HN4.out.push HQ4.out HR4.out HNF.out ho5 hg5 hat5)
      have HD5 := Lib.hid (HD4.out.app HN4.out.own (Nat.le_refl _) hg5)
      clear ho5 hg5 hn5 hat5
      go_roundw
      case rel => exact ⟨k + 1, _, cs ++ [ys], by go_num, by omega, by have := HKC.out; simp; omega, HN5.out, HD5.out⟩
      case measure => simp [intOf]; omega
    · have hlt' : decide (k < t.length) = false := decide_eq_false hlt
      have hlt2 : decide ((k : Int) < (t.length : Int)) = false := decide_eq_false (by omega)
      have h0c : 0 < cs.length := by have := HKC.out; omega
      have hc4 : cs.length ≤ 4 := by have := HKC.out; omega
      have HNX := Lib.hid (l01Next_dr HD.out.src 30)
      go_wp2_with fail
      clear x0 x1 x2 x3 x4 x5
      refine HNX.out.mono ?_
      rintro e w4 ⟨r, rfl, r0, r1, hd4, hz4⟩
      have HN4 := Lib.hid (HN.out.dr (show S < w0.heap.size by omega) hd4)
      have HD4 := Lib.hid (HD.out.trans hd4)
      have hs4 := HD4.out.size
      clear r1 hd4 hz4
      obtain ⟨x0, x1, x2, x3, x4, x5, _⟩ := HBX.out.dr (by omega) (by omega) HD4.out
      simp only [Nat.zero_add] at x1 x2 x3 x4 x5
      by_cases hr0 : r = 0
      · subst hr0
        have HE := Lib.hid (l02DrawCuts_any S A c bs m w4 HD4.out.src HMD.out)
        go_wp2_with fail
        clear x0 x1 x2 x3 x4 x5
        refine HE.out.mono ?_
        rintro e w5 ⟨v5, xs, rfl, ho5, hx9, hd5⟩
        obtain ⟨K5, q5, rfl, hq5, hr5⟩ := RIn.ofOI' ho5
        have HN5 := Lib.hid (HN4.out.dr (show S < w0.heap.size by omega) hd5)
        have HD5 := Lib.hid (HD4.out.trans hd5)
        obtain ⟨g, cc, rfl, hcc, hgB, hgl, hcl, hfr⟩ := HN5.out.open_ h0c
        obtain ⟨A9, c9, _, hc9, _⟩ := hcl 0 h0c
        have f9 := hfr 0
        have hg4 : g < w4.heap.size := (HN4.out.own.lt g rfl).2
        have HNF := Lib.hid (show NF (fun x => x < w0.heap.size ∨ x = g) K5 xs.length from hr5.2.mono fun x hx => by rcases hx with hx | hx <;> omega)
        have HP := Lib.hid (HN5.out.put rfl h0c hq5 hr5.1 HNF.out)
        have hcI : (0 : Int) < (cs.length : Int) := by omega
        clear ho5 hq5 hr5 hd5 hcl hfr hx9
        go_wp2_with fail
        go_ret
        obtain ⟨K, q, e9, hq, hr⟩ := HP.out.riib
        rw [List.length_set] at e9
        injection e9 with e91 _ e93
        subst e91 e93
        exact ⟨_, cc, cs.set 0 xs, by rw [List.length_set]; rfl, hq, by rw [List.length_set]; omega, hr.mono fun g hg => by omega, HD0.out.trans (HD5.out.set ⟨g, 0, none⟩ hgB _)⟩
      · have hr0' : (r == 0) = false := by simpa using hr0
        by_cases hr1 : r = 1
        · subst hr1
          have HE := Lib.hid (l02Some_any S A c bs m w4 HD4.out.src HM.out)
          go_wp2_with fail
          clear x0 x1 x2 x3 x4 x5
          refine HE.out.mono ?_
          rintro e w5 ⟨K4, q4, ys, rfl, hq4, hk4, hr4, hd5⟩
          have HN5 := Lib.hid (HN4.out.dr (show S < w0.heap.size by omega) hd5)
          have HD5 := Lib.hid (HD4.out.trans hd5)
          have HNF := Lib.hid (show NF (fun g => g < w0.heap.size ∨ u5.ownBlock = some g) K4 ys.length from hr4.2.mono fun g hg => by
            rcases hg with hg | hg
            · omega
            · exact (HN4.out.own.lt g hg).2)
          have HR4 := Lib.hid hr4.1; have HQ4 := Lib.hid hq4
          have hs5 := HD5.out.size
          clear hq4 hk4 hr4 hd5
          go_wp2_with (at_builtin; refine wpList_app1 _ rfl _ _ _ rfl w0.heap.size 44 _ 24 Tryz.underlying26 info_sl rfl (by omega) _ us rfl (HN5.out.own.alloc _) _ _ rfl (one_cell _ _ _) rfl (by omega) (by simp; omega) ?_; intro v' w6 ho6 hg6 hn6 hat6)
          have HN6 := Lib.hid (HN5.out.push HQ4.out HR4.out HNF.out ho6 hg6 hat6)
          have HD6 := Lib.hid (HD5.out.app HN5.out.own (Nat.le_refl _) hg6)
          go_ret
          obtain ⟨K, q, rfl, hq, hr⟩ := HN6.out.riib
          exact ⟨K, q, _, rfl, hq, by simp; omega, hr.mono fun g hg => by omega, HD0.out.trans HD6.out⟩
        · have hr1' : (r == 1) = false := by simpa using hr1
          go_wp2_with fail
          go_ret
          obtain ⟨K, q, rfl, hq, hr⟩ := HN4.out.riib
          exact ⟨K, q, cs, rfl, hq, by omega, hr.mono fun g hg => by omega, HD0.out.trans HD4.out⟩
end Go.Proofs.YtdedajohkdbdkaaGreatDoor
