/- The reference's LeastLevels. -/
import Derived.Test.YtdkkkkfcpgkcnaaFLeast
import Derived.Deep.DeepCutAuto
import Derived.Deep.CutBlock
namespace Go.Proofs.Ytdkkkkfcpgkcnaa
set_option linter.unusedVariables false
open Go.RowKit
set_option maxRecDepth 100000 in
set_option maxHeartbeats 4000000 in
theorem specLeast_any (m : Mk) (A : Option Addr) (c : Nat) (ns : List Int) (w : World) (h : RI w A ns) :
    Calls Try.prog 42 #[.agg #[.int .i64 m.c, .int .i64 m.d, .int .i64 m.s, .int .i64 m.a, .int .i64 m.l], .slice A ns.length c] w (ResIC w (leastLevels m ns)) := by
  have HB := Lib.hid ((Below.refl w.heap.size w).alloc (Nat.le_refl _) (.cells #[.int .i64 m.c, .int .i64 m.d, .int .i64 m.s, .int .i64 m.a, .int .i64 m.l] 45))
  have hle := h.le
  cases h1 : isMaker m with
  | false =>
    have HR := Lib.hid (ll_1 (ns := ns) h1)
    go_enter Try.func42, Try.ntmps42
    go_wp2_with (go_at_call 121; refine (specIsMaker_any _ _).mono ?_; rintro e w1 ⟨rfl, hb1⟩)
    go_ret2
    exact resIC_nil HR.out (HB.out.trans (hb1.mono (by simp)))
  | true =>
  have hm := isMaker_iff.1 h1
  cases g1 : inB ns.length 1 4 with
  | false =>
    have HR := Lib.hid (ll_2 (ns := ns) h1 (fun h => by rw [inB_iff.2 ⟨by omega, by omega⟩] at g1; cases g1))
    go_enter Try.func42, Try.ntmps42
    go_wp2_with (first | (go_at_call 121; refine (specIsMaker_any _ _).mono ?_; rintro e w1 ⟨rfl, hb1⟩) | (go_at_call 122; refine (l01In_any _ _ _ _).mono ?_; rintro e w' ⟨rfl, rfl⟩))
    go_ret2
    exact resIC_nil HR.out (HB.out.trans (hb1.mono (by simp)))
  | true =>
    have hlen := inB_iff.1 g1
    have H1 := Lib.hid h1
    go_enter Try.func42, Try.ntmps42
    go_wp2_with (first | (go_at_call 121; refine (specIsMaker_any _ _).mono ?_; rintro e w1 ⟨rfl, hb1⟩) | (go_at_call 122; refine (l01In_any _ _ _ _).mono ?_; rintro e w' ⟨rfl, rfl⟩))
    have hA1 := (h.alloc (.cells #[.int .i64 m.c, .int .i64 m.d, .int .i64 m.s, .int .i64 m.a, .int .i64 m.l] 45)).below hb1
    have C1 := (bcell hb1).1
    have hs1 := hb1.size
    simp only [World.size_alloc] at hs1
    have hs2 : w.heap.size < w1.heap.size := by omega
    have hb1' : Below (w.heap.size + 1) (w.alloc (.cells #[.int .i64 m.c, .int .i64 m.d, .int .i64 m.s, .int .i64 m.a, .int .i64 m.l] 45)) w1 := by simpa using hb1
    go_loop [6] (fun i => ∃ k : Nat, k ≤ ns.length ∧ i = .int .i64 k ∧ allW 1 1000000000000 (ns.take k) = true) (fun i => ns.length - (intOf i).toNat)
    case atStart => exact ⟨0, by omega, rfl, rfl⟩
    case round =>
    obtain ⟨k, hk, rfl, hrel⟩ := hrel
    have Hrel := Lib.hid hrel; clear hrel
    by_cases hlt : k < ns.length
    · obtain ⟨b, o, rfl, hc⟩ := hA1.at_ hlt
      cases hp : inB ns[k] 1 1000000000000 with
      | true =>
        go_wp2_with (go_at_call 122; refine (l01In_any _ _ _ _).mono ?_; rintro e w' ⟨rfl, rfl⟩)
        go_round
        case rel => exact ⟨k + 1, by omega, by go_num, by unfold allW at *; rw [take_succ_all _ _ _ hlt, Hrel.out, hp]; rfl⟩
        case measure => simp [intOf]; omega
      | false =>
        have HR := Lib.hid (ll_2 (ns := ns) h1 (fun h => by
          have := all_false_at (fun x => inB x 1 1000000000000) ns k hlt hp
          have h2 := h.2.2; unfold allW at h2; rw [this] at h2; cases h2))
        go_wp2_with (go_at_call 122; refine (l01In_any _ _ _ _).mono ?_; rintro e w' ⟨rfl, rfl⟩)
        go_ret2
        exact resIC_nil HR.out (HB.out.trans (hb1.mono (by simp)))
    · obtain rfl : k = ns.length := by omega
      have HV := Lib.hid (show 1 ≤ ns.length ∧ ns.length ≤ 4 ∧ allW 1 1000000000000 ns = true from ⟨by omega, by omega, by have := Hrel.out; rwa [List.take_length] at this⟩)
      have hw1 : IntKind.i64.wrap (m.d - 1) = m.d - 1 := IntWalk.i64_in _ (by omega)
      clear g1 h1 Hrel
      go_wp2_with fail
      clear C1
      go_loopw [7, 8, 9, 10] (fun v l i _ wr => ∃ (k : Nat) (left : Int) (acc : List Int), k ≤ ns.length ∧ i = .int .i64 k ∧ l = .int .i64 left ∧ LState (m.d - 1) ns m.c k left acc ∧ OV wr (w.heap.size + 1) 2 v (ints acc) ∧ Below (w.heap.size + 1) (w.alloc (.cells #[.int .i64 m.c, .int .i64 m.d, .int .i64 m.s, .int .i64 m.a, .int .i64 m.l] 45)) wr)
        (fun _ _ i _ _ => ns.length - (intOf i).toNat)
      case atStart => exact ⟨0, m.c, [], by omega, rfl, rfl, ⟨rfl, by omega, by omega, by simp⟩, OV.new0 hs1, hb1'.alloc hs1 _⟩
      case round =>
        obtain ⟨k, left, acc, hk, rfl, rfl, hL, ho, hb⟩ := hrel
        have hsz := hb.size
        simp only [World.size_alloc] at hsz
        have hl0 := hL.lo; have hl6 := hL.hi
        by_cases hlt : k < ns.length
        · obtain ⟨b, o, rfl, hc⟩ := (((h.alloc (.cells #[.int .i64 m.c, .int .i64 m.d, .int .i64 m.s, .int .i64 m.a, .int .i64 m.l] 45)).below (by simpa using hb))).at_ hlt
          have C := (bcell (W := w.alloc (.cells #[.int .i64 m.c, .int .i64 m.d, .int .i64 m.s, .int .i64 m.a, .int .i64 m.l] 45)) (by simpa using hb)).1
          have i0 : (0 : Int) ≤ (k : Int) := by omega
          have i1 : (k : Int) < (ns.length : Int) := by omega
          have hla := hL.len
          have HLA := Lib.hid hla; clear hla
          obtain ⟨wo, rfl⟩ : ∃ wo : World, wo = wr := ⟨_, rfl⟩
          go_upto_block 4 with (fail)
          go_cut [10] (fun cc wx => ∃ (c : Int) (n : Nat), cc = .int .i64 c ∧ climbR (m.d - 1) left ns[k] 1 = c ∧ wx = wo.drewN n)
          case first =>
            go_wp2_with fail
            go_loopw [10] (fun cc wx => ∃ (c : Int) (n : Nat), cc = .int .i64 c ∧ 1 ≤ c ∧ c ≤ 6 ∧ climbR (m.d - 1) left ns[k] 1 = climbR (m.d - 1) left ns[k] c ∧ wx = wo.drewN n) (fun cc _ => (6 - intOf cc).toNat)
            case atStart => exact ⟨1, 0, rfl, by omega, by omega, rfl, rfl⟩
            case round =>
              obtain ⟨c, n, rfl, hc1, hc6, hcl, rfl⟩ := hrel
              have HCL := Lib.hid hcl; clear hcl
              by_cases q1 : c < left
              · by_cases q2 : powW (m.d - 1) c.toNat < ns[k]
                · go_wp2_with fail
                  go_quiet ((go_at_call 123; first | exact quietSA (l07Power_any _ _ _ (by omega)) | exact quietS (l07Power_any _ _ _ (by omega))))
                  go_wp2_with fail
                  go_roundw
                  case rel => exact ⟨c + 1, _, rfl, by omega, by omega, by rw [HCL.out, climbR_step q1 q2], rfl⟩
                  case measure => simp [intOf]; omega
                · have HFC := Lib.hid (show climbR (m.d - 1) left ns[k] 1 = c by rw [HCL.out, climbR_stop (fun h => q2 h.2)])
                  go_wp2_with fail
                  go_quiet ((go_at_call 123; first | exact quietSA (l07Power_any _ _ _ (by omega)) | exact quietS (l07Power_any _ _ _ (by omega))))
                  go_wp2_with fail
                  go_meet
                  case rel => exact ⟨c, _, rfl, HFC.out, by first | rfl | exact World.drewN_drewN _ _ _⟩
              · have d1 : decide (c < left) = false := by simp; omega
                have HFC := Lib.hid (show climbR (m.d - 1) left ns[k] 1 = c by rw [HCL.out, climbR_stop (fun h => q1 h.1)])
                go_wp2_with fail
                go_quiet (fail)
                go_wp2_with fail
                go_meet
                case rel => exact ⟨c, _, rfl, HFC.out, by first | rfl | exact World.drewN_drewN _ _ _⟩
          case rest =>
            obtain ⟨c, n, rfl, hcc, rfl⟩ := hcut
            have hcle := climbR_le (b := m.d - 1) (left := left) (need := ns[k]) (c := 1)
            rw [hcc] at hcle
            have hc1 := hcle.1
            have HC := Lib.hid hcc; clear hcc
            by_cases hl1 : left < 1
            · have d2 : decide (left < 1) = true := by simp; omega
              have HN := Lib.hid (ll_4 H1.out HV.out (hL.none hlt rfl (.inl hl1)))
              by_cases hlast : ns.length = k + 1
              · have hq : ((k : Int) == (ns.length : Int) - 1) = true := beq_iff_eq.2 (by omega)
                have HLl := Lib.hid hlast; clear hlast hcle
                go_wp2_with fail
                go_quiet (fail)
                go_wp2_with fail
                go_ret2
                exact resIC_nil HN.out (HB.out.trans (Below.mono (by first | exact belowD hb _ | exact belowD (belowD hb _) _) (by omega)))
              · have hq : ((k : Int) == (ns.length : Int) - 1) = false := beq_eq_false_iff_ne.2 (by omega)
                have HLl := Lib.hid hlast; clear hlast hcle
                go_wp2_with fail
                go_quiet (fail)
                go_wp2_with fail
                go_ret2
                exact resIC_nil HN.out (HB.out.trans (Below.mono (by first | exact belowD hb _ | exact belowD (belowD hb _) _) (by omega)))
            · have d2 : decide (left < 1) = false := by simp; omega
              have hc2 : c ≤ left := by omega
              clear hcle
              by_cases hlast : ns.length = k + 1
              · have hq : ((k : Int) == (ns.length : Int) - 1) = true := beq_iff_eq.2 (by omega)
                have HF := Lib.hid (show left = if ns.length = k + 1 then left else climbR (m.d - 1) left ns[k] 1 by rw [if_pos hlast])
                have HLl := Lib.hid hlast; clear hlast
                go_wp2_with fail
                go_quiet ((go_at_call 123; first | exact quietSA (l07Power_any _ _ _ (by omega)) | exact quietS (l07Power_any _ _ _ (by omega))))
                by_cases q4 : powW (m.d - 1) (Int.toNat left) < ns[k]
                · have HN := Lib.hid (ll_4 H1.out HV.out (hL.none hlt HF.out (.inr q4)))
                  go_wp2_with fail
                  go_ret2
                  exact resIC_nil HN.out (HB.out.trans (Below.mono (by first | exact belowD hb _ | exact belowD (belowD hb _) _) (by omega)))
                · have HL2 := Lib.hid (hL.next hlt HF.out (by omega) q4 (by omega) (by omega))
                  go_wp2_with (at_builtin; refine wpList_app1 _ rfl _ _ _ rfl (w.heap.size + 1) 2 _ 8 Try.underlying30 info_int rfl (by omega) _ _ rfl ((ho.drewN _).alloc _) _ _ rfl (one_cell _ _ _) rfl (by rw [ints_length, HLA.out]; omega) (by simp; omega) ?_; intro v' w3 ho3 hg3 hn3 hat3)
                  go_roundw
                  case rel => exact ⟨k + 1, _, acc ++ [left], by omega, by go_num, rfl, by first | exact HL2.out | (have := HL2.out; rwa [Int.sub_self] at this), by rw [ints_append]; exact ho3, ((ho.drewN _).alloc _).own (Nat.le_refl _) ((belowD hb _).alloc (by simp; omega) _) hg3 (by simp; omega)⟩
                  case measure => simp [intOf]; omega
              · have hq : ((k : Int) == (ns.length : Int) - 1) = false := beq_eq_false_iff_ne.2 (by omega)
                have HF := Lib.hid (show c = if ns.length = k + 1 then left else climbR (m.d - 1) left ns[k] 1 by rw [if_neg hlast]; exact HC.out.symm)
                have HLl := Lib.hid hlast; clear hlast
                go_wp2_with fail
                go_quiet ((go_at_call 123; first | exact quietSA (l07Power_any _ _ _ (by omega)) | exact quietS (l07Power_any _ _ _ (by omega))))
                by_cases q4 : powW (m.d - 1) (Int.toNat c) < ns[k]
                · have HN := Lib.hid (ll_4 H1.out HV.out (hL.none hlt HF.out (.inr q4)))
                  go_wp2_with fail
                  go_ret2
                  exact resIC_nil HN.out (HB.out.trans (Below.mono (by first | exact belowD hb _ | exact belowD (belowD hb _) _) (by omega)))
                · have HL2 := Lib.hid (hL.next hlt HF.out (by omega) q4 (by omega) (by omega))
                  go_wp2_with (at_builtin; refine wpList_app1 _ rfl _ _ _ rfl (w.heap.size + 1) 2 _ 8 Try.underlying30 info_int rfl (by omega) _ _ rfl ((ho.drewN _).alloc _) _ _ rfl (one_cell _ _ _) rfl (by rw [ints_length, HLA.out]; omega) (by simp; omega) ?_; intro v' w3 ho3 hg3 hn3 hat3)
                  go_roundw
                  case rel => exact ⟨k + 1, _, acc ++ [c], by omega, by go_num, rfl, by first | exact HL2.out | (have := HL2.out; rwa [Int.sub_self] at this), by rw [ints_append]; exact ho3, ((ho.drewN _).alloc _).own (Nat.le_refl _) ((belowD hb _).alloc (by simp; omega) _) hg3 (by simp; omega)⟩
                  case measure => simp [intOf]; omega
        · obtain rfl : k = ns.length := by omega
          have HR := Lib.hid (ll_0 H1.out HV.out hL.done)
          go_wp2_with fail
          go_ret2
          exact resIC_own HR.out ho (by omega) (HB.out.trans (hb.mono (by omega)))
end Go.Proofs.Ytdkkkkfcpgkcnaa
