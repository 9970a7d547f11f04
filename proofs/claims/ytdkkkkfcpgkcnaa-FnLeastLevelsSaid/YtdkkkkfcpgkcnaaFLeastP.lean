/- The program's LeastLevels. -/
import Derived.Test.YtdkkkkfcpgkcnaaFLeast
namespace Go.Proofs.Ytdkkkkfcpgkcnaa
set_option linter.unusedVariables false
open Go.RowKit
set_option maxRecDepth 100000 in
set_option maxHeartbeats 4000000 in
theorem implLeast_any (m : Mk) (A : Option Addr) (c : Nat) (ns : List Int) (w : World) (h : RI w A ns) :
    Calls Try.prog 41 #[.agg #[.int .i64 m.c, .int .i64 m.d, .int .i64 m.s, .int .i64 m.a, .int .i64 m.l], .slice A ns.length c] w (ResIC w (leastLevels m ns)) := by
  have HB := Lib.hid ((Below.refl w.heap.size w).alloc (Nat.le_refl _) (.cells #[.int .i64 m.c, .int .i64 m.d, .int .i64 m.s, .int .i64 m.a, .int .i64 m.l] 45))
  have hle := h.le
  cases h1 : isMaker m with
  | false =>
    have HR := Lib.hid (ll_1 (ns := ns) h1)
    go_enter Try.func41, Try.ntmps41
    go_wp2_with (go_at_call 119; refine (implIsMaker_any _ _).mono ?_; rintro e w1 ⟨rfl, hb1⟩)
    go_ret2
    exact resIC_nil HR.out (HB.out.trans (hb1.mono (by simp)))
  | true =>
  have hm := isMaker_iff.1 h1
  by_cases g1 : ns.length < 1
  · have HR := Lib.hid (ll_2 (ns := ns) h1 (by omega))
    go_enter Try.func41, Try.ntmps41
    go_wp2_with (go_at_call 119; refine (implIsMaker_any _ _).mono ?_; rintro e w1 ⟨rfl, hb1⟩)
    go_ret2
    exact resIC_nil HR.out (HB.out.trans (hb1.mono (by simp)))
  by_cases g2 : 4 < ns.length
  · have HR := Lib.hid (ll_2 (ns := ns) h1 (by omega))
    go_enter Try.func41, Try.ntmps41
    go_wp2_with (go_at_call 119; refine (implIsMaker_any _ _).mono ?_; rintro e w1 ⟨rfl, hb1⟩)
    go_ret2
    exact resIC_nil HR.out (HB.out.trans (hb1.mono (by simp)))
  cases g3 : allW 1 1000000000000 ns with
  | false =>
    have HR := Lib.hid (ll_2 (ns := ns) h1 (by rw [g3]; simp))
    go_enter Try.func41, Try.ntmps41
    go_wp2_with fail
    refine (implIsMaker_any _ _).mono ?_
    rintro e w1 ⟨rfl, hb1⟩
    go_wp2_with fail
    refine (allWithin_any A c ns _ _ _ ((h.alloc _).below hb1)).mono ?_
    rintro e w2 ⟨rfl, rfl⟩
    go_wp2_with fail
    go_ret2
    exact resIC_nil HR.out (HB.out.trans (hb1.mono (by simp)))
  | true =>
    have HV := Lib.hid (show 1 ≤ ns.length ∧ ns.length ≤ 4 ∧ allW 1 1000000000000 ns = true from ⟨by omega, by omega, g3⟩)
    have H1 := Lib.hid h1
    have hw1 : IntKind.i64.wrap (m.d - 1) = m.d - 1 := IntWalk.i64_in _ (by omega)
    go_enter Try.func41, Try.ntmps41
    go_wp2_with fail
    refine (implIsMaker_any _ _).mono ?_
    rintro e w1 ⟨rfl, hb1⟩
    go_wp2_with fail
    refine (allWithin_any A c ns _ _ _ ((h.alloc _).below hb1)).mono ?_
    rintro e w2 ⟨rfl, rfl⟩
    have C1 := (bcell hb1).1
    have hs1 := hb1.size
    simp only [World.size_alloc] at hs1
    have hs2 : w.heap.size < w1.heap.size := by omega
    have hb1' : Below (w.heap.size + 1) (w.alloc (.cells #[.int .i64 m.c, .int .i64 m.d, .int .i64 m.s, .int .i64 m.a, .int .i64 m.l] 45)) w1 := by simpa using hb1
    go_wp2_with fail
    go_region
    go_wp2_with fail
    clear C1 h1 g3
    go_loopw [6, 7, 10, 32] (fun v l _ i wr => ∃ (k : Nat) (left : Int) (acc : List Int), k ≤ ns.length ∧ i = .int .i64 k ∧ l = .int .i64 left ∧ LState (m.d - 1) ns m.c k left acc ∧ OV wr (w.heap.size + 1) 2 v (ints acc) ∧ Below (w.heap.size + 1) (w.alloc (.cells #[.int .i64 m.c, .int .i64 m.d, .int .i64 m.s, .int .i64 m.a, .int .i64 m.l] 45)) wr)
      (fun _ _ _ i _ => ns.length - (intOf i).toNat)
    case atStart => exact ⟨0, m.c, [], by omega, rfl, rfl, ⟨rfl, by omega, by omega, by simp⟩, (OV.new0 hs1).drew, (hb1'.alloc hs1 _).drew⟩
    case round =>
      obtain ⟨k, left, acc, hk, rfl, rfl, hL, ho, hb⟩ := hrel
      have hsz := hb.size
      simp only [World.size_alloc] at hsz
      have hl0 := hL.lo; have hl6 := hL.hi
      by_cases hlt : k < ns.length
      · obtain ⟨b, o, rfl, hc⟩ := (((h.alloc (.cells #[.int .i64 m.c, .int .i64 m.d, .int .i64 m.s, .int .i64 m.a, .int .i64 m.l] 45)).below (by simpa using hb))).at_ hlt
        have C := (bcell (W := w.alloc (.cells #[.int .i64 m.c, .int .i64 m.d, .int .i64 m.s, .int .i64 m.a, .int .i64 m.l] 45)) (by simpa using hb)).1
        have hlast : (((k : Int) == (ns.length : Int) - 1) = true ∧ ns.length = k + 1) ∨ (((k : Int) == (ns.length : Int) - 1) = false ∧ ¬ ns.length = k + 1) := by
          by_cases e : ns.length = k + 1
          · left; exact ⟨beq_iff_eq.2 (by omega), e⟩
          · right; exact ⟨beq_eq_false_iff_ne.2 (by omega), e⟩
        by_cases hl1 : left < 1
        · have HN := Lib.hid (ll_4 H1.out HV.out (hL.none hlt rfl (.inl hl1)))
          rcases hlast with ⟨hq, _⟩ | ⟨hq, _⟩
          all_goals
            go_wp2_with fail
            go_loop [10] (fun cc => cc = .int .i64 1) (fun _ => 0)
            case atStart => rfl
            case round =>
              obtain rfl := hrel
              go_wp2_with fail
              go_ret2
              exact resIC_nil HN.out (HB.out.trans (hb.mono (by omega)))
        · have hex : ∃ c0 : Int, 1 ≤ c0 ∧ c0 ≤ left ∧ (if ns.length = k + 1 then left else 1) = c0 := ⟨_, by split <;> omega, by split <;> omega, rfl⟩
          obtain ⟨c0, c01, c0l, hc0⟩ := hex
          have HC := Lib.hid (show (if ns.length = k + 1 then left else climbR (m.d - 1) left ns[k] 1) = climbR (m.d - 1) left ns[k] c0 by
            rw [← hc0]
            by_cases e : ns.length = k + 1
            · simp only [if_pos e]; rw [climbR_stop (by omega)]
            · simp only [if_neg e])
          have HC0 := Lib.hid hc0
          rcases hlast with ⟨hq, hl⟩ | ⟨hq, hl⟩
          all_goals
            first | (rw [if_pos hl] at hc0; subst hc0) | (rw [if_neg hl] at hc0; subst hc0)
            have HLl := Lib.hid hl; clear hl
            go_wp2_with fail
            all_goals
              go_loop [10] (fun cc => ∃ c : Int, cc = .int .i64 c ∧ 1 ≤ c ∧ c ≤ left ∧ climbR (m.d - 1) left ns[k] (if ns.length = k + 1 then left else 1) = climbR (m.d - 1) left ns[k] c) (fun cc => (left - intOf cc).toNat)
              case atStart => exact ⟨_, rfl, by omega, by omega, by rw [HC0.out]; first | done | (congr 1; omega)⟩
              case round =>
                obtain ⟨c, rfl, hc1, hcl, hcl2⟩ := hrel
                have HCL := Lib.hid hcl2; clear hcl2
                by_cases q1 : c < left ∧ powW (m.d - 1) c.toNat < ns[k]
                · obtain ⟨q1, q2⟩ := q1
                  first
                    | (exfalso; omega)
                    | (go_wp2_with (go_at_call 120; refine (powerOf_any _ _ _ (by omega)).mono ?_; rintro e w' ⟨rfl, rfl⟩)
                       go_round
                       case rel => exact ⟨c + 1, rfl, by omega, by omega, by rw [HCL.out, climbR_step q1 q2]⟩
                       case measure => simp [intOf]; omega)
                · have hfin : c = if ns.length = k + 1 then left else climbR (m.d - 1) left ns[k] 1 := by
                    have e := HCL.out; rw [HC0.out, climbR_stop q1] at e; rw [HC.out]; exact e.symm
                  have HF := Lib.hid hfin; clear hfin
                  by_cases q2 : powW (m.d - 1) c.toNat < ns[k]
                  · have q3 : ¬ c < left := fun h => q1 ⟨h, q2⟩
                    have HN := Lib.hid (ll_4 H1.out HV.out (hL.none hlt HF.out (.inr q2)))
                    clear q1
                    go_wp2_with (go_at_call 120; refine (powerOf_any _ _ _ (by omega)).mono ?_; rintro e w' ⟨rfl, rfl⟩)
                    go_ret2
                    exact resIC_nil HN.out (HB.out.trans (hb.mono (by omega)))
                  · have HL2 := Lib.hid (hL.next hlt HF.out (by omega) q2 hc1 hcl)
                    have hla := hL.len
                    have HLA := Lib.hid hla; clear hla q1
                    by_cases q3 : c < left
                    all_goals
                      first
                        | (exfalso; omega)
                        | (go_wp2_with (first
                             | (go_at_call 120; refine (powerOf_any _ _ _ (by omega)).mono ?_; rintro e w' ⟨rfl, rfl⟩)
                             | (at_builtin; refine wpList_app1 _ rfl _ _ _ rfl (w.heap.size + 1) 2 _ 8 Try.underlying30 info_int rfl (by omega) _ _ rfl (ho.alloc _) _ _ rfl (one_cell _ _ _) rfl (by rw [ints_length, HLA.out]; omega) (by simp; omega) ?_; intro v' w3 ho3 hg3 hn3 hat3))
                           go_roundw
                           case rel => exact ⟨k + 1, left - c, acc ++ [c], by omega, by go_num, rfl, HL2.out, by rw [ints_append]; exact ho3, (ho.alloc _).own (Nat.le_refl _) (hb.alloc (by omega) _) hg3 (by simp; omega)⟩
                           case measure => simp [intOf]; omega)
      · obtain rfl : k = ns.length := by omega
        have HR := Lib.hid (ll_0 H1.out HV.out hL.done)
        go_wp2_with fail
        go_ret2
        exact resIC_own HR.out ho (by omega) (HB.out.trans (hb.mono (by omega)))
end Go.Proofs.Ytdkkkkfcpgkcnaa
