/- Contracts of PathOf. -/
import Derived.Test.YtdkkkkfcpgkcnaaFCuts
import Derived.Test.YtdkkkkfcpgkcnaaPPathOf2
import Derived.Deep.Cut
import Derived.Deep.CutRange
import Derived.Deep.CutBlock
import Derived.Deep.DeepCutAuto
import Derived.Outline
namespace Go.Proofs.Ytdkkkkfcpgkcnaa
set_option linter.unusedVariables false
open Go.RowKit
theorem pathIn_of {m : Mk} {ms ls cs : List Int} (hm : isMaker m = true) (hc : cutsOK m ms = true) (hl : areLevels m ls = true) (hx : cutsOK m cs = true) : PathIn m ms ls cs := by
  obtain ⟨c1, c2, d1, d2, s1, s2, a1, a2, l1, l2, l3⟩ := mk_bounds hm
  have h1 := cutsOK_get hc
  have h2 := cutsOK_get hx
  have h3 := levels_rest hm hl
  exact ⟨d1, d2, c2, by omega, h1.1, by omega, areLevels_get hl, h1.2, h2.2⟩
theorem po_code {m : Mk} {ms ls cs : List Int} (h : levelsCode m ms ls [] ≠ 0) : ([], levelsCode m ms ls []) = pathOfR m ms ls cs := by simp [pathOfR, h]
theorem po_2 {m : Mk} {ms ls cs : List Int} (h : levelsCode m ms ls [] = 0) (h2 : cutsOK m cs = false) : ([], 2) = pathOfR m ms ls cs := by simp [pathOfR, h, h2]
theorem po_0 {m : Mk} {ms ls cs : List Int} (h : levelsCode m ms ls [] = 0) (h2 : cutsOK m cs = true) : pathEnd m ms ls cs (lastGood m ms ls cs ls.length) = pathOfR m ms ls cs := by simp [pathOfR, h, h2]
theorem RI.cell {w : World} {b o : Nat} {xs : List Int} (h : RI w (some ⟨b, o, none⟩) xs) {k : Nat} (hk : k < xs.length) : w.cell? ⟨b, o + k, none⟩ = some (.int .i64 xs[k]) := by
  obtain ⟨b', o', e, hc⟩ := h.at_ hk
  injection e with e
  injection e with e1 e2
  subst e1 e2
  exact hc
theorem eight_tab : ∀ n : Fin 7, (8 : Int) ^ n.val ≤ 262144 := by decide +kernel
theorem numS_in {b : Int} {ms cs : List Int} {first : Nat} (hb : 1 ≤ b) (hb7 : b ≤ 7) : ∀ (k : Nat), (∀ q, first ≤ q → q < first + k → (0 ≤ cs.getD q 0 ∧ cs.getD q 0 ≤ b) ∧ 0 ≤ ms.getD q 0) → 0 ≤ numS b ms cs first k ∧ numS b ms cs first k ≤ 8 ^ k - 1
  | 0, _ => by simp [numS]
  | k + 1, h => by
    have ih := numS_in hb hb7 k (fun q a c => h q a (by omega))
    have hq := h (first + k) (by omega) (by omega)
    rw [numS, Int.pow_succ]
    have hd0 : 0 ≤ dg (cs.getD (first + k) 0) (ms.getD (first + k) 0) := by unfold dg; split <;> omega
    have hd1 : dg (cs.getD (first + k) 0) (ms.getD (first + k) 0) ≤ 7 := by unfold dg; split <;> omega
    have h1 : numS b ms cs first k * b ≤ (8 ^ k - 1) * 7 := Int.le_trans (Int.mul_le_mul_of_nonneg_left hb7 ih.1) (Int.mul_le_mul_of_nonneg_right ih.2 (by omega))
    have h2 : 0 ≤ numS b ms cs first k * b := Int.mul_nonneg ih.1 (by omega)
    omega
theorem PathIn.numS {m : Mk} {ms ls cs : List Int} (h : PathIn m ms ls cs) {f j : Nat} (hj : f + j ≤ ms.length) : 0 ≤ numS (m.d - 1) ms cs f j ∧ numS (m.d - 1) ms cs f j ≤ 262144 := by
  have hd := h.d2; have hd8 := h.d8; have hc6 := h.c6; have hml := h.ml
  have := numS_in (b := m.d - 1) (ms := ms) (cs := cs) (first := f) (by omega) (by omega) j (fun q h1 h2 => by have := h.x q (by omega); exact ⟨this.1, this.2.1⟩)
  have h8 := eight_tab ⟨j, by omega⟩
  simp only at h8
  omega
theorem numsS_take (b : Int) (ms cs ls : List Int) (k : Nat) (h : k < ls.length) : ints ((numsS b ms cs 0 ls).take (k + 1)) = ints ((numsS b ms cs 0 ls).take k) ++ [.int .i64 (Proofs.Ytdkkkkfcpgkcnaa.numS b ms cs (restSum (ls.take k)) ls[k].toNat)] := by
  have h1 := numsS_at b ms cs ls 0 k h
  have h2 := numsS_len b ms cs ls 0
  rw [List.take_succ_eq_append_getElem (by omega), ints_append]
  rw [List.getElem?_eq_getElem (by omega)] at h1
  rw [Option.some.inj h1, Nat.zero_add]
  rfl
set_option maxRecDepth 100000 in
set_option maxHeartbeats 8000000 in
theorem specPathOf_any (m : Mk) (A : Option Addr) (c : Nat) (ms : List Int) (B : Option Addr) (d : Nat) (ls : List Int) (D : Option Addr) (e : Nat) (cs : List Int) (w : World) (h : RI w A ms) (g : RI w B ls) (p : RI w D cs) :
    Calls Try.prog 39 #[.agg #[.int .i64 m.c, .int .i64 m.d, .int .i64 m.s, .int .i64 m.a, .int .i64 m.l], .slice A ms.length c, .slice B ls.length d, .slice D cs.length e] w (ResIC w (pathOfR m ms ls cs)) := by
  have B0 := (Below.refl w.heap.size w).alloc (Nat.le_refl _) (.cells #[.int .i64 m.c, .int .i64 m.d, .int .i64 m.s, .int .i64 m.a, .int .i64 m.l] 45)
  have CT := fun W (h1 : RI W A ms) (h2 : RI W B ls) => l12Code_any m A B none c d 0 ms ls [] W h1 h2 RI.nil
  simp only [List.length_nil] at CT
  have HCT := Lib.hid CT; clear CT
  by_cases h0 : levelsCode m ms ls [] = 0
  rotate_left
  · have HR := Lib.hid (po_code (cs := cs) h0)
    have t1 : (levelsCode m ms ls [] != 0) = true := by simpa using h0
    have t2 : (levelsCode m ms ls [] == 0) = false := by simpa using h0
    have H0 := Lib.hid h0; clear h0
    go_enter Try.func39, Try.ntmps39
    go_wp2_with fail
    refine (HCT.out _ (h.below B0) (g.below B0)).mono ?_
    rintro e w1 ⟨rfl, b1⟩
    go_wp2_with fail
    go_ret2
    exact resIC_nil HR.out (B0.trans (b1.mono B0.size))
  have H0 := Lib.hid (lc_0_iff.1 h0)
  cases hx : cutsOK m cs with
  | false =>
    have HR := Lib.hid (po_2 h0 hx)
    go_enter Try.func39, Try.ntmps39
    go_wp2_with fail
    refine (HCT.out _ (h.below B0) (g.below B0)).mono ?_
    rw [h0]
    rintro e w1 ⟨rfl, b1⟩
    have C := (bcell b1).1
    have B1 := B0.trans (b1.mono B0.size)
    have H00 := Lib.hid h0; clear h0
    go_wp2_with fail
    refine (l02Cuts_any m _ _ _ _ (p.below B1) H0.out.1).mono ?_
    rw [hx]
    rintro e w2 ⟨rfl, b2⟩
    go_wp2_with fail
    go_ret2
    exact resIC_nil HR.out (B1.trans (b2.mono B1.size))
  | true =>
    have HR := Lib.hid (po_0 h0 hx)
    have HP := Lib.hid (pathIn_of H0.out.1 H0.out.2.1 H0.out.2.2.1 hx)
    go_enter Try.func39, Try.ntmps39
    go_wp2_with fail
    refine (HCT.out _ (h.below B0) (g.below B0)).mono ?_
    rw [h0]
    rintro e w1 ⟨rfl, b1⟩
    have C := (bcell b1).1
    have B1 := B0.trans (b1.mono B0.size)
    have H00 := Lib.hid h0; clear h0
    go_wp2_with fail
    refine (l02Cuts_any m _ _ _ _ (p.below B1) H0.out.1).mono ?_
    rw [hx]
    rintro e w2 ⟨rfl, b2⟩
    clear hx
    have C2 := (bcell b2).1
    have B2 := B1.trans (b2.mono B1.size)
    have bx : BoxC w2 w.heap.size 0 [.int .i64 m.c, .int .i64 m.d, .int .i64 m.s, .int .i64 m.a, .int .i64 m.l] := ((BoxC.new (T := 45) [.int .i64 m.c, .int .i64 m.d, .int .i64 m.s, .int .i64 m.a, .int .i64 m.l] rfl).below b1).below b2
    have hml := HP.out.ml; have hcl := HP.out.cl; have hd2 := HP.out.d2; have hd8 := HP.out.d8; have hc6 := HP.out.c6
    have hls := HP.out.lv.2.1
    have HML := Lib.hid hml; clear hml
    have HCL := Lib.hid hcl; clear hcl
    have i2 : 2 ≤ ms.length := by have := HML.out; have := (mk_bounds H0.out.1).1; omega
    have i6 : ms.length ≤ 6 := by have := HML.out; omega
    have i7 : ls.length ≤ 4 := hls
    obtain ⟨bA, oA, rfl, _⟩ := h.at_ (k := 0) (by omega)
    obtain ⟨bD, oD, rfl, _⟩ := p.at_ (k := 0) (by have := HCL.out; omega)
    obtain ⟨bB, oB, rfl, _⟩ := g.at_ (k := 0) (by have := HP.out.lv.1; omega)
    go_upto_block 0 with (fail)
    go_cut [11, 12, 13, 14, 15, 16] (fun v _ _ _ _ _ wr => ∃ (k : Nat), SpecStop ms ls cs k ∧ OV wr w2.heap.size 2 v (ints ((numsS (m.d - 1) ms cs 0 ls).take k)) ∧ Below w2.heap.size w2 wr)
    case first =>
      go_wp2_with fail
      go_loopw [11, 12, 13, 14, 15, 16] (fun v f i _ _ _ wr => ∃ (k : Nat), k ≤ ls.length ∧ i = .int .i64 k ∧ f = .int .i64 (restSum (ls.take k) : Nat) ∧ (∀ i, i < k → cs.getD (restSum (ls.take i)) 0 ≠ ms.getD (restSum (ls.take i)) 0) ∧ OV wr w2.heap.size 2 v (ints ((numsS (m.d - 1) ms cs 0 ls).take k)) ∧ Below w2.heap.size w2 wr)
        (fun _ _ i _ _ _ _ => ls.length - (intOf i).toNat)
      case atStart => exact ⟨0, by omega, rfl, rfl, fun i hi => by omega, by simpa [ints] using OV.new0 (w := w2) (e := 2) (B := w2.heap.size) (Nat.le_refl _), (Below.refl _ _).alloc (Nat.le_refl _) _⟩
      case round =>
        obtain ⟨k, hk, rfl, rfl, hlead, ho, hb⟩ := hrel
        have HLead := Lib.hid hlead; clear hlead
        have Bw := B2.trans (hb.mono B2.size)
        have hF := restSum_le ls k
        rw [HP.out.sum] at hF
        by_cases hlt : k < ls.length
        · have hFL := restSum_take_add ls k hlt
          have hF2 := restSum_le ls (k + 1)
          rw [HP.out.sum, hFL] at hF2
          have HFL := Lib.hid hFL; clear hFL
          have v1 := (HP.out.lv.2.2 k hlt).1; have v2 := (HP.out.lv.2.2 k hlt).2
          have HT := Lib.hid (numsS_take (m.d - 1) ms cs ls k hlt)
          have HN0 := Lib.hid (show numS (m.d - 1) ms cs (restSum (ls.take k)) 0 = 0 from rfl)
          obtain ⟨bb, oo, e1, hcB⟩ := (g.below Bw).at_ hlt
          injection e1 with e1
          injection e1 with e1 e2
          subst e1 e2
          generalize hF0 : restSum (ls.take k) = F at *
          generalize hL0 : ls[k] = L at *
          have HF0 := Lib.hid hF0; have HL0 := Lib.hid hL0; clear hF0 hL0
          have hFm : F < ms.length := by omega
          have hFc : F < cs.length := by have := HCL.out; omega
          obtain ⟨b3, o3, e3, hcA⟩ := (h.below Bw).at_ hFm
          injection e3 with e3
          injection e3 with e3 e4
          subst e3 e4
          obtain ⟨b3, o3, e3, hcD⟩ := (p.below Bw).at_ hFc
          injection e3 with e3
          injection e3 with e3 e4
          subst e3 e4
          have j0 : (0 : Int) ≤ (k : Int) := by omega
          have j1 : (k : Int) < (ls.length : Int) := by omega
          have j2 : (0 : Int) ≤ (F : Int) := by omega
          have j3 : (F : Int) < (ms.length : Int) := by omega
          have j4 : (F : Int) < (cs.length : Int) := by omega
          have HD1 := Lib.hid (getD_mem hFm)
          have HD2 := Lib.hid (getD_mem hFc)
          cases hq : (cs[F] != ms[F]) with
          | false =>
            have HST := Lib.hid (show SpecStop ms ls cs k from ⟨by omega, HLead.out, .inr (by rw [HF0.out, HD1.out, HD2.out]; simpa using hq)⟩)
            go_wp2_with fail
            go_quiet (fail)
            go_wp2_with fail
            go_meet
            case rel => exact ⟨k, HST.out, ho.drewN _, belowD hb _⟩
          | true =>
            have HQ := Lib.hid (show cs.getD F 0 ≠ ms.getD F 0 by rw [HD1.out, HD2.out]; simpa using hq)
            obtain ⟨wo, rfl⟩ : ∃ wo : World, wo = wr := ⟨_, rfl⟩
            go_wp2_with fail
            go_quiet (fail)
            go_wp2_with fail
            clear hq
            go_loopw [14, 15, 16] (fun n q _ wx => ∃ (j t : Nat), j ≤ L.toNat ∧ q = .int .i64 j ∧ n = .int .i64 (numS (m.d - 1) ms cs F j) ∧ wx = wo.drewN t) (fun _ q _ _ => L.toNat - (intOf q).toNat)
            case atStart => exact ⟨0, _, by omega, rfl, by rw [HN0.out], rfl⟩
            case round =>
              obtain ⟨j, t, hj, rfl, rfl, rfl⟩ := hrel
              by_cases hjl : (j : Int) < L
              · have hidx : F + j < ms.length := by omega
                have hidc : F + j < cs.length := by have := HCL.out; omega
                obtain ⟨b3, o3, e3, hcA2⟩ := (h.below Bw).at_ hidx
                injection e3 with e3
                injection e3 with e3 e4
                subst e3 e4
                obtain ⟨b3, o3, e3, hcD2⟩ := (p.below Bw).at_ hidc
                injection e3 with e3
                injection e3 with e3 e4
                subst e3 e4
                have q0 : wo.cell? ⟨w.heap.size, 0, none⟩ = some (.int .i64 m.c) ∧ wo.cell? ⟨w.heap.size, 1, none⟩ = some (.int .i64 m.d) ∧ wo.cell? ⟨w.heap.size, 2, none⟩ = some (.int .i64 m.s) ∧ wo.cell? ⟨w.heap.size, 3, none⟩ = some (.int .i64 m.a) ∧ wo.cell? ⟨w.heap.size, 4, none⟩ = some (.int .i64 m.l) ∧ True := bx.below hb
                have x1 := HP.out.mx (F + j) hidx
                have x2 := HP.out.cx (F + j) hidc
                have x3 := x1.1; have x4 := x1.2; have x5 := x2.1; have x6 := x2.2
                clear x1 x2
                have n1 := HP.out.numS (f := F) (j := j) (by omega)
                have n2 := n1.1; have n3 := n1.2
                clear n1
                have HS := Lib.hid (show numS (m.d - 1) ms cs F (j + 1) = numS (m.d - 1) ms cs F j * (m.d - 1) + dg (cs.getD (F + j) 0) (ms.getD (F + j) 0) from rfl)
                have HG1 := Lib.hid (getD_mem hidx)
                have HG2 := Lib.hid (getD_mem hidc)
                generalize hN : numS (m.d - 1) ms cs F j = N at *
                have HNN := Lib.hid hN; clear hN
                have m1 : 0 ≤ N * (m.d - 1) := Int.mul_nonneg n2 (by omega)
                have m2 : N * (m.d - 1) ≤ 262144 * 7 := Int.le_trans (Int.mul_le_mul_of_nonneg_left (show m.d - 1 ≤ 7 by omega) n2) (Int.mul_le_mul_of_nonneg_right n3 (by omega))
                have k0 : (0 : Int) ≤ (F : Int) + (j : Int) := by omega
                have k1 : (F : Int) + (j : Int) < (ms.length : Int) := by omega
                have k2 : (F : Int) + (j : Int) < (cs.length : Int) := by omega
                by_cases hgt : ms[F + j] < cs[F + j]
                · have HDG := Lib.hid (show dg (cs.getD (F + j) 0) (ms.getD (F + j) 0) = cs[F + j] - 1 by rw [HG1.out, HG2.out]; unfold dg; rw [if_pos hgt])
                  go_wp2_with fail
                  go_roundw
                  case rel => exact ⟨j + 1, t, by omega, by go_num, by rw [HS.out, HDG.out], rfl⟩
                  case measure => simp [intOf]; omega
                · have HDG := Lib.hid (show dg (cs.getD (F + j) 0) (ms.getD (F + j) 0) = cs[F + j] by rw [HG1.out, HG2.out]; unfold dg; rw [if_neg hgt])
                  go_wp2_with fail
                  go_roundw
                  case rel => exact ⟨j + 1, t, by omega, by go_num, by rw [HS.out, HDG.out], rfl⟩
                  case measure => simp [intOf]; omega
              · obtain rfl : j = L.toNat := by omega
                have q0 : wo.cell? ⟨w.heap.size, 0, none⟩ = some (.int .i64 m.c) ∧ wo.cell? ⟨w.heap.size, 1, none⟩ = some (.int .i64 m.d) ∧ wo.cell? ⟨w.heap.size, 2, none⟩ = some (.int .i64 m.s) ∧ wo.cell? ⟨w.heap.size, 3, none⟩ = some (.int .i64 m.a) ∧ wo.cell? ⟨w.heap.size, 4, none⟩ = some (.int .i64 m.l) ∧ True := bx.below hb
                have hsz := hb.size
                have hll : (ints ((numsS (m.d - 1) ms cs 0 ls).take k)).length ≤ 10 := by rw [ints_length, List.length_take]; omega
                have HLL := Lib.hid hll; clear hll
                have HBX := Lib.hid (show ∀ W : World, Below w2.heap.size w2 W → (W.cell? ⟨w.heap.size, 0, none⟩ = some (.int .i64 m.c) ∧ W.cell? ⟨w.heap.size, 1, none⟩ = some (.int .i64 m.d) ∧ W.cell? ⟨w.heap.size, 2, none⟩ = some (.int .i64 m.s) ∧ W.cell? ⟨w.heap.size, 3, none⟩ = some (.int .i64 m.a) ∧ W.cell? ⟨w.heap.size, 4, none⟩ = some (.int .i64 m.l) ∧ True) from fun W hW => bx.below hW)
                have HGK := Lib.hid (show ∀ W : World, Below w2.heap.size w2 W → W.cell? ⟨bB, oB + k, none⟩ = some (.int .i64 L) from fun W hW => by rw [← HL0.out]; exact (g.below (B2.trans (hW.mono B2.size))).cell hlt)
                have HLead2 := Lib.hid (show ∀ i, i < k + 1 → cs.getD (restSum (ls.take i)) 0 ≠ ms.getD (restSum (ls.take i)) 0 from fun i hi => by
                  by_cases hik : i = k
                  · subst hik; rw [HF0.out]; exact HQ.out
                  · exact HLead.out i (by omega))
                by_cases hend : (F : Int) + L = m.c
                · have hq2 : ((F : Int) + L == m.c) = true := by simpa using hend
                  have HST := Lib.hid (show SpecStop ms ls cs (k + 1) from ⟨by omega, HLead2.out, .inl (by
                    have h1 := HFL.out
                    rcases Nat.lt_or_ge (k + 1) ls.length with h2 | h2
                    · have := restSum_lt HP.out.pos h2 (Nat.le_refl ls.length); rw [List.take_length, HP.out.sum] at this
                      have := HML.out; omega
                    · omega)⟩)
                  have Hend := Lib.hid hend; clear hend
                  go_wp2_with (at_builtin; refine wpList_app1 _ rfl _ _ _ rfl w2.heap.size 2 _ 8 Try.underlying30 info_int rfl (by omega) _ _ rfl ((ho.drewN _).alloc _) _ _ rfl (one_cell _ _ _) rfl (by have := HLL.out; omega) (by simp; omega) ?_; intro v' w3 ho3 hg3 hn3 hat3; have hb3 := ((ho.drewN t).alloc _).own (Nat.le_refl _) ((belowD hb t).alloc (by simp; omega) _) hg3 (by simp; omega); have q1 := HBX.out w3 hb3; have hcB3 := HGK.out w3 hb3)
                  go_meet
                  case rel => exact ⟨k + 1, HST.out, by rw [HT.out]; exact ho3, hb3⟩
                · have hq2 : ((F : Int) + L == m.c) = false := by simpa using hend
                  have Hend := Lib.hid hend; clear hend
                  go_wp2_with (at_builtin; refine wpList_app1 _ rfl _ _ _ rfl w2.heap.size 2 _ 8 Try.underlying30 info_int rfl (by omega) _ _ rfl ((ho.drewN _).alloc _) _ _ rfl (one_cell _ _ _) rfl (by have := HLL.out; omega) (by simp; omega) ?_; intro v' w3 ho3 hg3 hn3 hat3; have hb3 := ((ho.drewN t).alloc _).own (Nat.le_refl _) ((belowD hb t).alloc (by simp; omega) _) hg3 (by simp; omega); have q1 := HBX.out w3 hb3; have hcB3 := HGK.out w3 hb3)
                  go_roundw
                  case rel => exact ⟨k + 1, by omega, by go_num, by rw [HFL.out]; congr 1; omega, HLead2.out, by rw [HT.out]; exact ho3, hb3⟩
                  case measure => simp [intOf]; omega
        · obtain rfl : k = ls.length := by omega
          have HST := Lib.hid (show SpecStop ms ls cs ls.length from ⟨by omega, HLead.out, .inl rfl⟩)
          go_wp2_with fail
          go_quiet (fail)
          go_wp2_with fail
          go_meet
          case rel => exact ⟨_, HST.out, ho.drewN _, belowD hb _⟩
    case rest =>
      obtain ⟨k, hst, ho, hb⟩ := hcut
      have HS := Lib.hid hst; clear hst
      have hsz := hb.size
      have B3 := B2.trans (hb.mono B2.size)
      obtain ⟨A5, c5, rfl, hc5, r5⟩ := OR.readsI ho.toOR
      have hyes := spec_yes HP.out HS.out
      have hno := spec_no HP.out HS.out
      generalize hP : (numsS (m.d - 1) ms cs 0 ls).take k = P at *
      have HY := Lib.hid hyes; have HN := Lib.hid hno; clear hyes hno hP
      have q3 : wc.cell? ⟨w.heap.size, 0, none⟩ = some (.int .i64 m.c) ∧ wc.cell? ⟨w.heap.size, 1, none⟩ = some (.int .i64 m.d) ∧ wc.cell? ⟨w.heap.size, 2, none⟩ = some (.int .i64 m.s) ∧ wc.cell? ⟨w.heap.size, 3, none⟩ = some (.int .i64 m.a) ∧ wc.cell? ⟨w.heap.size, 4, none⟩ = some (.int .i64 m.l) ∧ True := bx.below hb
      have q4 : w.heap.size < wc.heap.size := World.block_lt_of_cell? wc _ q3.1
      cases hip : isPath m ls P with
      | false =>
        have hcode : levelsCode m ms ls P = 2 := lc_2' H0.out.1 H0.out.2.1 hip
        have HE := Lib.hid (HN.out (.inl hip)); clear hip
        go_wp2_with fail
        refine (l12Code_any m _ _ _ c d _ ms ls P _ (h.below B3) (g.below B3) r5).mono ?_
        rw [hcode]
        rintro e w4 ⟨rfl, b4⟩
        clear hcode
        go_wp2_with fail
        go_ret2
        exact resIC_nil (HE.out.trans HR.out) (B3.trans (b4.mono B3.size))
      | true =>
        have hcode : levelsCode m ms ls P = 0 := lc_0 H0.out.1 H0.out.2.1 H0.out.2.2.1 hip
        have HIP := Lib.hid hip; clear hip
        cases heq : (cutsAtF m ms ls P == cs) with
        | false =>
          have HE := Lib.hid (HN.out (.inr (by simpa using heq)))
          go_wp2_with fail
          refine (l12Code_any m _ _ _ c d _ ms ls P _ (h.below B3) (g.below B3) r5).mono ?_
          rw [hcode]
          rintro e w4 ⟨rfl, b4⟩
          clear hcode
          have C4 := (bcell b4).1
          have B4 := B3.trans (b4.mono B3.size)
          go_wp2_with fail
          refine (l12Cuts_any m _ _ _ c d _ ms ls P _ (h.below B4) (g.below B4) (r5.below b4) H0.out.1 H0.out.2.1 H0.out.2.2.1 HIP.out).mono ?_
          rintro e w5 ⟨A6, c6, rfl, hc6', r6, o6, b6⟩
          have B6 := B4.trans (b6.mono B4.size)
          go_wp2_with fail
          refine (l01Same_any A6 _ c6 _ (cutsAtF m ms ls P) cs _ r6 (p.below B6)).mono ?_
          rw [heq]
          rintro e w6 ⟨rfl, n6, rfl⟩
          go_wp2_with fail
          go_ret2
          exact resIC_nil (HE.out.trans HR.out) (belowD B6 _)
        | true =>
          have HE := Lib.hid (HY.out (by simpa using heq))
          go_wp2_with fail
          refine (l12Code_any m _ _ _ c d _ ms ls P _ (h.below B3) (g.below B3) r5).mono ?_
          rw [hcode]
          rintro e w4 ⟨rfl, b4⟩
          clear hcode
          have C4 := (bcell b4).1
          have B4 := B3.trans (b4.mono B3.size)
          go_wp2_with fail
          refine (l12Cuts_any m _ _ _ c d _ ms ls P _ (h.below B4) (g.below B4) (r5.below b4) H0.out.1 H0.out.2.1 H0.out.2.2.1 HIP.out).mono ?_
          rintro e w5 ⟨A6, c6, rfl, hc6', r6, o6, b6⟩
          have B6 := B4.trans (b6.mono B4.size)
          go_wp2_with fail
          refine (l01Same_any A6 _ c6 _ (cutsAtF m ms ls P) cs _ r6 (p.below B6)).mono ?_
          rw [heq]
          rintro e w6 ⟨rfl, n6, rfl⟩
          go_wp2_with fail
          go_ret2
          exact resIC_own (HE.out.trans HR.out) (((ho.below' b4).below' b6).drewN n6) (by have := B2.size; omega) (belowD B6 _)
theorem PathIn.numI {m : Mk} {ms ls cs : List Int} (h : PathIn m ms ls cs) {f j : Nat} (hj : f + j ≤ ms.length) : 0 ≤ numI (m.d - 1) ms cs f j ∧ numI (m.d - 1) ms cs f j ≤ 117648 := by
  have hd := h.d2; have hd8 := h.d8; have hc6 := h.c6; have hml := h.ml
  have h1 := numI_in (b := m.d - 1) (ms := ms) (cs := cs) (first := f) (by omega) j (fun q h1 h2 => by have := h.x q (by omega); exact ⟨this.1.1, this.2.1⟩)
  rw [← powW_pow (by omega) (by omega) (by omega)] at h1
  have h2 := powW_in (b := m.d - 1) (n := j) (by omega) (by omega) (by omega)
  omega
theorem numsF_take (m : Mk) (ms ls cs : List Int) (k : Nat) (h : k < ls.length) : ints ((numsF m ms ls cs).take (k + 1)) = ints ((numsF m ms ls cs).take k) ++ [.int .i64 (Proofs.Ytdkkkkfcpgkcnaa.numI (m.d - 1) ms cs (restSum (ls.take k)) ls[k].toNat)] := by
  have h1 := numsI_at (m.d - 1) ms cs ls 0 k h
  have h2 := numsI_len (m.d - 1) ms cs ls 0
  unfold numsF
  rw [List.take_succ_eq_append_getElem (by omega), ints_append]
  rw [List.getElem?_eq_getElem (by omega)] at h1
  rw [Option.some.inj h1, Nat.zero_add]
  rfl
/-- A row of the call's own, cut at its end. -/
theorem OV.cut {w : World} {B e n c : Nat} {A : Option Addr} {us : List Value} (h : OV w B e (.slice A n c) us) (k : Nat) (hk : k ≤ n) (hk0 : 0 < n) : OV w B e (.slice A k c) (us.take k) := by
  obtain ⟨hl, hr⟩ := h
  refine ⟨by simp, ?_⟩
  rcases hr with ⟨h', h0⟩ | ⟨g, cap, cur, h', hB, hh, hc, hm, hs, ht⟩
  · injection h' with h1 h2 h3
    omega
  · injection h' with h1 h2 h3
    subst h1 h3
    right
    have e : (us.take k).length = k := by simp only [List.length_take]; omega
    refine ⟨g, c, cur, by rw [e], hB, hh, by rw [e]; omega, hm, hs, ?_⟩
    rw [e]
    conv => rhs; rw [← ht, List.take_take]
    rw [Nat.min_eq_left (by omega), Nat.mul_one]
set_option maxRecDepth 100000 in
set_option maxHeartbeats 8000000 in
theorem implPathOf_any (m : Mk) (A : Option Addr) (c : Nat) (ms : List Int) (B : Option Addr) (d : Nat) (ls : List Int) (D : Option Addr) (e : Nat) (cs : List Int) (w : World) (h : RI w A ms) (g : RI w B ls) (p : RI w D cs) :
    Calls Try.prog 38 #[.agg #[.int .i64 m.c, .int .i64 m.d, .int .i64 m.s, .int .i64 m.a, .int .i64 m.l], .slice A ms.length c, .slice B ls.length d, .slice D cs.length e] w (ResIC w (pathOfR m ms ls cs)) := by
  have B0 := (Below.refl w.heap.size w).alloc (Nat.le_refl _) (.cells #[.int .i64 m.c, .int .i64 m.d, .int .i64 m.s, .int .i64 m.a, .int .i64 m.l] 45)
  have CT := fun W (h1 : RI W A ms) (h2 : RI W B ls) => levelsCode_any m A B none c d 0 ms ls [] W h1 h2 RI.nil
  simp only [List.length_nil] at CT
  have HCT := Lib.hid CT; clear CT
  by_cases h0 : levelsCode m ms ls [] = 0
  rotate_left
  · have HR := Lib.hid (po_code (cs := cs) h0)
    have t1 : (levelsCode m ms ls [] != 0) = true := by simpa using h0
    have H0 := Lib.hid h0; clear h0
    go_enter Try.func38, Try.ntmps38
    go_wp2_with fail
    refine (HCT.out _ (h.below B0) (g.below B0)).mono ?_
    rintro e w1 ⟨rfl, b1⟩
    go_wp2_with fail
    go_ret2
    exact resIC_nil HR.out (B0.trans (b1.mono B0.size))
  have H0 := Lib.hid (lc_0_iff.1 h0)
  cases hx : cutsOK m cs with
  | false =>
    have HR := Lib.hid (po_2 h0 hx)
    go_enter Try.func38, Try.ntmps38
    go_wp2_with fail
    refine (HCT.out _ (h.below B0) (g.below B0)).mono ?_
    rw [h0]
    rintro e w1 ⟨rfl, b1⟩
    have C := (bcell b1).1
    have B1 := B0.trans (b1.mono B0.size)
    have H00 := Lib.hid h0; clear h0
    go_wp2_with fail
    refine (areCuts_any m _ _ _ _ (p.below B1) H0.out.1).mono ?_
    rw [hx]
    rintro e w2 ⟨rfl, b2⟩
    go_wp2_with fail
    go_ret2
    exact resIC_nil HR.out (B1.trans (b2.mono B1.size))
  | true =>
    have HR := Lib.hid (po_0 h0 hx)
    have HP := Lib.hid (pathIn_of H0.out.1 H0.out.2.1 H0.out.2.2.1 hx)
    go_enter Try.func38, Try.ntmps38
    go_wp2_with fail
    refine (HCT.out _ (h.below B0) (g.below B0)).mono ?_
    rw [h0]
    rintro e w1 ⟨rfl, b1⟩
    have C := (bcell b1).1
    have B1 := B0.trans (b1.mono B0.size)
    have H00 := Lib.hid h0; clear h0
    go_wp2_with fail
    refine (areCuts_any m _ _ _ _ (p.below B1) H0.out.1).mono ?_
    rw [hx]
    rintro e w2 ⟨rfl, b2⟩
    clear hx
    have C2 := (bcell b2).1
    have B2 := B1.trans (b2.mono B1.size)
    have bx : BoxC w2 w.heap.size 0 [.int .i64 m.c, .int .i64 m.d, .int .i64 m.s, .int .i64 m.a, .int .i64 m.l] := ((BoxC.new (T := 45) [.int .i64 m.c, .int .i64 m.d, .int .i64 m.s, .int .i64 m.a, .int .i64 m.l] rfl).below b1).below b2
    have HBX := Lib.hid (show ∀ W : World, Below w2.heap.size w2 W → (W.cell? ⟨w.heap.size, 0, none⟩ = some (.int .i64 m.c) ∧ W.cell? ⟨w.heap.size, 1, none⟩ = some (.int .i64 m.d) ∧ W.cell? ⟨w.heap.size, 2, none⟩ = some (.int .i64 m.s) ∧ W.cell? ⟨w.heap.size, 3, none⟩ = some (.int .i64 m.a) ∧ W.cell? ⟨w.heap.size, 4, none⟩ = some (.int .i64 m.l) ∧ True) from fun W hW => bx.below hW)
    have hml := HP.out.ml; have hcl := HP.out.cl; have hd2 := HP.out.d2; have hd8 := HP.out.d8; have hc6 := HP.out.c6
    have hls := HP.out.lv.2.1
    have HML := Lib.hid hml; clear hml
    have HCL := Lib.hid hcl; clear hcl
    have i2 : 2 ≤ ms.length := by have := HML.out; have := (mk_bounds H0.out.1).1; omega
    have i6 : ms.length ≤ 6 := by have := HML.out; omega
    have i7 : ls.length ≤ 4 := hls
    obtain ⟨bA, oA, rfl, _⟩ := h.at_ (k := 0) (by omega)
    obtain ⟨bD, oD, rfl, _⟩ := p.at_ (k := 0) (by have := HCL.out; omega)
    obtain ⟨bB, oB, rfl, _⟩ := g.at_ (k := 0) (by have := HP.out.lv.1; omega)
    go_wp2_with fail
    go_loopw [11, 12, 14, 15, 16, 17, 32] (fun v f _ _ _ _ i wr => ∃ (k : Nat), k ≤ ls.length ∧ i = .int .i64 k ∧ f = .int .i64 (restSum (ls.take k) : Nat) ∧ OV wr w2.heap.size 2 v (ints ((numsF m ms ls cs).take k)) ∧ Below w2.heap.size w2 wr)
      (fun _ _ _ _ _ _ i _ => ls.length - (intOf i).toNat)
    case atStart => exact ⟨0, by omega, rfl, rfl, by simpa [ints] using OV.new0 (w := w2) (e := 2) (B := w2.heap.size) (Nat.le_refl _), (Below.refl _ _).alloc (Nat.le_refl _) _⟩
    case round =>
      obtain ⟨k, hk, rfl, rfl, ho, hb⟩ := hrel
      have Bw := B2.trans (hb.mono B2.size)
      have hF := restSum_le ls k
      rw [HP.out.sum] at hF
      by_cases hlt : k < ls.length
      · have hFL := restSum_take_add ls k hlt
        have hF2 := restSum_le ls (k + 1)
        rw [HP.out.sum, hFL] at hF2
        have HFL := Lib.hid hFL; clear hFL
        have v1 := (HP.out.lv.2.2 k hlt).1; have v2 := (HP.out.lv.2.2 k hlt).2
        have HT := Lib.hid (numsF_take m ms ls cs k hlt)
        have HN0 := Lib.hid (show numI (m.d - 1) ms cs (restSum (ls.take k)) 0 = 0 from rfl)
        have hcB := (g.below Bw).cell hlt
        generalize hF0 : restSum (ls.take k) = F at *
        generalize hL0 : ls[k] = L at *
        have HF0 := Lib.hid hF0; have HL0 := Lib.hid hL0; clear hF0 hL0
        have j0 : (0 : Int) ≤ (k : Int) := by omega
        have j1 : (k : Int) < (ls.length : Int) := by omega
        obtain ⟨wo, rfl⟩ : ∃ wo : World, wo = wr := ⟨_, rfl⟩
        have q0 := HBX.out wo hb
        go_wp2_with fail
        go_loop [15, 16, 17] (fun n q _ => ∃ (j : Nat), j ≤ L.toNat ∧ q = .int .i64 ((F + j : Nat) : Int) ∧ n = .int .i64 (numI (m.d - 1) ms cs F j)) (fun _ q _ => F + L.toNat - (intOf q).toNat)
        case atStart => exact ⟨0, by omega, by simp, by rw [HN0.out]⟩
        case round =>
          obtain ⟨j, hj, rfl, rfl⟩ := hrel
          by_cases hjl : j < L.toNat
          · have hjl2 : (F : Int) + (j : Int) < (F : Int) + L := by omega
            have hidx : F + j < ms.length := by omega
            have hidc : F + j < cs.length := by have := HCL.out; omega
            have hcA2 := (h.below Bw).cell hidx
            have hcD2 := (p.below Bw).cell hidc
            have x1 := HP.out.mx (F + j) hidx
            have x2 := HP.out.cx (F + j) hidc
            have x3 := x1.1; have x4 := x1.2; have x5 := x2.1; have x6 := x2.2
            clear x1 x2
            have n1 := HP.out.numI (f := F) (j := j) (by omega)
            have n2 := n1.1; have n3 := n1.2
            clear n1
            have HS := Lib.hid (show numI (m.d - 1) ms cs F (j + 1) = numI (m.d - 1) ms cs F j * (m.d - 1) + min (dg (cs.getD (F + j) 0) (ms.getD (F + j) 0)) (m.d - 1 - 1) from rfl)
            have HG1 := Lib.hid (getD_mem hidx)
            have HG2 := Lib.hid (getD_mem hidc)
            generalize hN : numI (m.d - 1) ms cs F j = N at *
            have HNN := Lib.hid hN; clear hN
            have m1 : 0 ≤ N * (m.d - 1) := Int.mul_nonneg n2 (by omega)
            have m2 : N * (m.d - 1) ≤ 117648 * 7 := Int.le_trans (Int.mul_le_mul_of_nonneg_left (show m.d - 1 ≤ 7 by omega) n2) (Int.mul_le_mul_of_nonneg_right n3 (by omega))
            have k0 : (0 : Int) ≤ (F : Int) + (j : Int) := by omega
            have k1 : (F : Int) + (j : Int) < (ms.length : Int) := by omega
            have k2 : (F : Int) + (j : Int) < (cs.length : Int) := by omega
            by_cases hgt : ms[F + j] < cs[F + j]
            · have HDG := Lib.hid (show dg (cs.getD (F + j) 0) (ms.getD (F + j) 0) = cs[F + j] - 1 by rw [HG1.out, HG2.out]; unfold dg; rw [if_pos hgt])
              go_wp2_with fail
              all_goals go_round
              all_goals first
                | exact ⟨j + 1, by omega, by go_num, by rw [HS.out, HDG.out]; congr 1; omega⟩
                | (simp [intOf]; omega)
            · have HDG := Lib.hid (show dg (cs.getD (F + j) 0) (ms.getD (F + j) 0) = cs[F + j] by rw [HG1.out, HG2.out]; unfold dg; rw [if_neg hgt])
              go_wp2_with fail
              all_goals go_round
              all_goals first
                | exact ⟨j + 1, by omega, by go_num, by rw [HS.out, HDG.out]; congr 1; omega⟩
                | (simp [intOf]; omega)
          · obtain rfl : j = L.toNat := by omega
            have hjl2 : ¬ (F : Int) + (L.toNat : Int) < (F : Int) + L := by omega
            have hsz := hb.size
            have hll : (ints ((numsF m ms ls cs).take k)).length ≤ 10 := by rw [ints_length, List.length_take]; omega
            have HLL := Lib.hid hll; clear hll
            go_wp2_with (at_builtin; refine wpList_app1 _ rfl _ _ _ rfl w2.heap.size 2 _ 8 Try.underlying30 info_int rfl (by omega) _ _ rfl (ho.alloc _) _ _ rfl (one_cell _ _ _) rfl (by have := HLL.out; omega) (by simp; omega) ?_; intro v' w3 ho3 hg3 hn3 hat3; have hb3 := (ho.alloc _).own (Nat.le_refl _) (hb.alloc (by omega) _) hg3 (by simp; omega))
            go_roundw
            case rel => exact ⟨k + 1, by omega, by go_num, by rw [HFL.out]; congr 1; omega, by rw [HT.out]; exact ho3, hb3⟩
            case measure => simp [intOf]; omega
      · obtain rfl : k = ls.length := by omega
        obtain ⟨wo, rfl⟩ : ∃ wo : World, wo = wr := ⟨_, rfl⟩
        generalize restSum (ls.take ls.length) = FF
        have hnl : (numsF m ms ls cs).length = ls.length := numsI_len _ _ _ _ _
        have HNL := Lib.hid hnl; clear hnl
        go_upto_block 4 with (fail)
        go_cut [11] (fun v wr => ∃ (k : Nat), k ≤ ls.length ∧ lastGood m ms ls cs ls.length = lastGood m ms ls cs k ∧ (k = 0 ∨ goodB m ms ls cs k = true) ∧ OV wr w2.heap.size 2 v (ints ((numsF m ms ls cs).take k)) ∧ Below w2.heap.size w2 wr)
        case first =>
          go_wp2_with fail
          go_loopw [11] (fun v wr => ∃ (k : Nat) (A1 : Option Addr) (c1 : Nat), k ≤ ls.length ∧ v = .slice A1 k c1 ∧ lastGood m ms ls cs ls.length = lastGood m ms ls cs k ∧ OV wr w2.heap.size 2 v (ints ((numsF m ms ls cs).take k)) ∧ Below w2.heap.size w2 wr) (fun v _ => match v with | .slice _ k _ => k | _ => 0)
          case atStart =>
            obtain ⟨A1, c1, e1, _, _⟩ := ho.reads
            refine ⟨ls.length, A1, c1, Nat.le_refl _, ?_, rfl, ho, hb⟩
            rw [e1, ints_length, List.length_take, HNL.out, Nat.min_self]
          case round =>
            obtain ⟨k, A1, c1, hk, rfl, hlg, ho, hb⟩ := hrel
            have HLK := Lib.hid hlg; clear hlg
            by_cases hk0 : 0 < k
            · have hlen : ((numsF m ms ls cs).take k).length = k := by rw [List.length_take, HNL.out]; omega
              have B3 := B2.trans (hb.mono B2.size)
              obtain ⟨A2, c2, e2, hcc, hr2⟩ := OR.readsI ho.toOR
              injection e2 with e2 e3 e4
              subst e2 e4
              have q0 := HBX.out wr hb
              have i0 : (0 : Int) < (k : Int) := by omega
              have i1 : (0 : Int) ≤ (k : Int) - 1 := by omega
              have i2 : (k : Int) - 1 ≤ (c1 : Int) := by rw [hlen] at hcc; omega
              have HC1 := Lib.hid (cutsAt_any m _ _ A1 c d c1 ms ls ((numsF m ms ls cs).take k) wr (h.below B3) (g.below B3) hr2 H0.out.1 H0.out.2.1 H0.out.2.2.1 (HP.out.isPath k))
              rw [hlen] at HC1
              obtain ⟨j, rfl⟩ : ∃ j, k = j + 1 := ⟨k - 1, by omega⟩
              have HLEN := Lib.hid hlen; clear hlen e3 hcc
              cases heq : (cutsAtF m ms ls ((numsF m ms ls cs).take (j + 1)) == cs) with
              | true =>
                have HG := Lib.hid (show goodB m ms ls cs (j + 1) = true from heq)
                go_wp2_with fail
                refine HC1.out.mono ?_
                rintro e w5 ⟨A6, c6, rfl, hc6', r6, o6, b6⟩
                have B6 := B3.trans (b6.mono B3.size)
                go_wp2_with fail
                refine (sEqual_any A6 _ c6 _ _ cs _ r6 (p.below B6)).mono ?_
                rw [heq]
                rintro e w6 ⟨rfl, n6, rfl⟩
                go_wp2_with fail
                go_meet
                case rel => exact ⟨j + 1, hk, HLK.out, .inr HG.out, (ho.below' b6).drewN n6, belowD (hb.trans (b6.mono hb.size)) _⟩
              | false =>
                have HG := Lib.hid (trim_step HLK.out (show goodB m ms ls cs (j + 1) = false from heq))
                have HCut := Lib.hid (ho.cut j (by omega) (by omega))
                have HTT := Lib.hid (show (ints ((numsF m ms ls cs).take (j + 1))).take j = ints ((numsF m ms ls cs).take j) by rw [← ints_take, List.take_take, Nat.min_eq_left (by omega)])
                go_wp2_with fail
                refine HC1.out.mono ?_
                rintro e w5 ⟨A6, c6, rfl, hc6', r6, o6, b6⟩
                have B6 := B3.trans (b6.mono B3.size)
                go_wp2_with fail
                refine (sEqual_any A6 _ c6 _ _ cs _ r6 (p.below B6)).mono ?_
                rw [heq]
                rintro e w6 ⟨rfl, n6, rfl⟩
                go_wp2_with fail
                go_roundw
                case rel => exact ⟨j, A1, c1, by omega, by congr 1, HG.out, by have := HCut.out; rw [HTT.out] at this; exact (this.below' b6).drewN n6, belowD (hb.trans (b6.mono hb.size)) _⟩
                case measure => simp
            · obtain rfl : k = 0 := by omega
              go_wp2_with fail
              go_meet
              case rel => exact ⟨0, hk, HLK.out, .inl rfl, ho, hb⟩
        case rest =>
          obtain ⟨k, hk, hlg, hgk, ho, hb⟩ := hcut
          have B3 := B2.trans (hb.mono B2.size)
          obtain ⟨A2, c2, hv, hcc, hr2⟩ := OR.readsI ho.toOR
          have hlen : ((numsF m ms ls cs).take k).length = k := by rw [List.length_take, HNL.out]; omega
          rw [hlen] at hv hcc
          subst hv
          have q0 := HBX.out _ hb
          have HC1 := Lib.hid (cutsAt_any m _ _ A2 c d c2 ms ls ((numsF m ms ls cs).take k) _ (h.below B3) (g.below B3) hr2 H0.out.1 H0.out.2.1 H0.out.2.2.1 (HP.out.isPath k))
          rw [hlen] at HC1
          have HLEN := Lib.hid hlen; clear hlen
          have hsz2 := B2.size
          cases hg : goodB m ms ls cs k with
          | true =>
            have heq : (cutsAtF m ms ls ((numsF m ms ls cs).take k) == cs) = true := hg
            have HE := Lib.hid (show ((numsF m ms ls cs).take k, 0) = pathEnd m ms ls cs (lastGood m ms ls cs ls.length) by rw [trim_yes hlg hg]; rfl)
            clear hg hlg hgk
            go_wp2_with fail
            refine HC1.out.mono ?_
            rintro e w5 ⟨A6, c6, rfl, hc6', r6, o6, b6⟩
            have B6 := B3.trans (b6.mono B3.size)
            go_wp2_with fail
            refine (sEqual_any A6 _ c6 _ _ cs _ r6 (p.below B6)).mono ?_
            rw [heq]
            rintro e w6 ⟨rfl, n6, rfl⟩
            go_wp2_with fail
            go_ret2
            exact resIC_own (HE.out.trans HR.out) ((ho.below' b6).drewN n6) hsz2 (belowD B6 _)
          | false =>
            have heq : (cutsAtF m ms ls ((numsF m ms ls cs).take k) == cs) = false := hg
            have hk0 : k = 0 := hgk.resolve_right (by rw [hg]; simp)
            have HE := Lib.hid (show ([], 4) = pathEnd m ms ls cs (lastGood m ms ls cs ls.length) by subst hk0; rw [trim_no hlg hg]; rfl)
            clear hg hlg hgk hk0
            go_wp2_with fail
            refine HC1.out.mono ?_
            rintro e w5 ⟨A6, c6, rfl, hc6', r6, o6, b6⟩
            have B6 := B3.trans (b6.mono B3.size)
            go_wp2_with fail
            refine (sEqual_any A6 _ c6 _ _ cs _ r6 (p.below B6)).mono ?_
            rw [heq]
            rintro e w6 ⟨rfl, n6, rfl⟩
            go_wp2_with fail
            go_ret2
            exact resIC_nil (HE.out.trans HR.out) (belowD B6 _)
end Go.Proofs.Ytdkkkkfcpgkcnaa
