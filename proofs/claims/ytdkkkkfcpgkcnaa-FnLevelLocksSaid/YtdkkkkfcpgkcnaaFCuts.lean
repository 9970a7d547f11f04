/- Contracts of l12Cuts, cutsAt, CutsAt. -/
import Derived.Test.YtdkkkkfcpgkcnaaPCuts
namespace Go.Proofs.Ytdkkkkfcpgkcnaa
set_option linter.unusedVariables false
open Go.RowKit
theorem getD_at'' {xs : List Int} {k : Nat} (h : k < xs.length) : xs.getD k 0 = xs[k] := by simp [List.getD, List.getElem?_eq_getElem h]
set_option maxRecDepth 100000 in
set_option maxHeartbeats 8000000 in
theorem l12Cuts_any (m : Mk) (A B D : Option Addr) (c d e : Nat) (ms ls ps : List Int) (w : World) (h : RI w A ms) (g : RI w B ls) (p : RI w D ps)
    (hm : isMaker m = true) (hc : cutsOK m ms = true) (hl : areLevels m ls = true) (hp : isPath m ls ps = true) :
    Calls Try.prog 112 #[.agg #[.int .i64 m.c, .int .i64 m.d, .int .i64 m.s, .int .i64 m.a, .int .i64 m.l], .slice A ms.length c, .slice B ls.length d, .slice D ps.length e] w (ResI w (cutsAtF m ms ls ps)) := by
  have B0 := (Below.refl w.heap.size w).alloc (Nat.le_refl _) (.cells #[.int .i64 m.c, .int .i64 m.d, .int .i64 m.s, .int .i64 m.a, .int .i64 m.l] 45)
  obtain ⟨c1, c2, d1, d2, s1, s2, a1, a2, l1, l2, l3⟩ := mk_bounds hm
  have HC := Lib.hid (cutsOK_get hc)
  have HL := Lib.hid (areLevels_get hl)
  have HP := Lib.hid (path_at hm hl hp)
  have HR := Lib.hid (levels_rest hm hl)
  have hn1 : ms.length ≤ 6 := by have := HC.out.1; omega
  have hn2 : 2 ≤ ms.length := by have := HC.out.1; omega
  have hn3 : ls.length ≤ 4 := HL.out.2.1
  have hn4 : ps.length ≤ ls.length := HP.out.1
  clear hm hc hl hp
  obtain ⟨bA, oA, rfl, _⟩ := h.at_ (k := 0) (by omega)
  have bx : BoxC (w.alloc (.cells #[.int .i64 m.c, .int .i64 m.d, .int .i64 m.s, .int .i64 m.a, .int .i64 m.l] 45)) w.heap.size 0 [.int .i64 m.c, .int .i64 m.d, .int .i64 m.s, .int .i64 m.a, .int .i64 m.l] := BoxC.new _ rfl
  go_enter Try.func112, Try.ntmps112
  go_wp2_with fail
  refine (l01Own_any _ c ms _ (h.below B0) (by omega)).mono ?_
  rintro e w1 ⟨A1, c1', rfl, hc1, r1, o1, b1⟩
  have B1 := B0.trans (b1.mono B0.size)
  have o1' : OV w1 (w.alloc (.cells #[.int .i64 m.c, .int .i64 m.d, .int .i64 m.s, .int .i64 m.a, .int .i64 m.l] 45)).heap.size 2 (.slice A1 ms.length c1') (ints ms) := o1.1
  clear o1 r1
  obtain ⟨g0, cc, e4, hg1, hg2, hg3, _, _⟩ := o1'.open1 (by omega)
  injection e4 with e4 e5 e6
  subst e4 e6
  clear e5
  go_wp2_with fail
  go_loopw [10, 11, 12, 13, 14] (fun f i _ _ _ wr => ∃ (k first : Nat) (cs : List Int), k ≤ ps.length ∧ i = .int .i64 k ∧ f = .int .i64 first ∧ first + restSum (ls.drop k) = ms.length ∧ cs.length = ms.length ∧ outerC (m.d - 1) ms first (ls.drop k) (ps.drop k) cs = cutsAtF m ms ls ps ∧ OV wr (w.alloc (.cells #[.int .i64 m.c, .int .i64 m.d, .int .i64 m.s, .int .i64 m.a, .int .i64 m.l] 45)).heap.size 2 (.slice (some ⟨g0, 0, none⟩) ms.length c1') (ints cs) ∧ Below (w.alloc (.cells #[.int .i64 m.c, .int .i64 m.d, .int .i64 m.s, .int .i64 m.a, .int .i64 m.l] 45)).heap.size (w.alloc (.cells #[.int .i64 m.c, .int .i64 m.d, .int .i64 m.s, .int .i64 m.a, .int .i64 m.l] 45)) wr)
    (fun _ i _ _ _ _ => ps.length - (intOf i).toNat)
  case atStart => exact ⟨0, 0, ms, by omega, rfl, rfl, by have := HR.out; have := HC.out.1; rw [List.drop_zero]; omega, rfl, rfl, o1', b1⟩
  case round =>
    obtain ⟨k, first, cs, hk, rfl, rfl, hrest, hcl, hout, ho, hb⟩ := hrel
    have HOut := Lib.hid hout; clear hout
    have Bw := B0.trans (hb.mono B0.size)
    have Hcl := Lib.hid hcl; clear hcl
    have Hrest := Lib.hid hrest; clear hrest
    by_cases hlt : k < ps.length
    · have hlt2 : k < ls.length := by omega
      obtain ⟨b, o, rfl, hcp⟩ := (p.below Bw).at_ hlt
      obtain ⟨b2, o2, rfl, hcl2⟩ := (g.below Bw).at_ hlt2
      have i0 : (0 : Int) ≤ (k : Int) := by omega
      have i1 : (k : Int) < (ps.length : Int) := by omega
      have i2 : (k : Int) < (ls.length : Int) := by omega
      have v1 := (HL.out.2.2 k hlt2).1; have v2 := (HL.out.2.2 k hlt2).2
      have p1 := (HP.out.2 k hlt).1; have p2 := (HP.out.2 k hlt).2
      have hsum : first + ls[k].toNat ≤ ms.length := by have := Hrest.out; rw [restSum_step ls k hlt2] at this; omega
      have HO2 := Lib.hid (outerC_step (m.d - 1) ms first ls ps cs k hlt hlt2)
      have HRS := Lib.hid (restSum_step ls k hlt2)
      generalize hLk : ls[k] = L at *
      generalize hPk : ps[k] = n0 at *
      have HLk := Lib.hid hLk; have HPk := Lib.hid hPk; clear hLk hPk
      obtain ⟨wo, rfl⟩ : ∃ wo : World, wo = wr := ⟨_, rfl⟩
      go_wp2_with fail
      go_loopw [12, 13, 14] (fun n q _ wx => ∃ (j : Nat) (nn : Int) (cs2 : List Int), j ≤ L.toNat ∧ q = .int .i64 ((j : Int) - 1) ∧ n = .int .i64 nn ∧ 0 ≤ nn ∧ nn ≤ 1000000 ∧ cs2.length = ms.length ∧ innerC (m.d - 1) ms first j nn cs2 = innerC (m.d - 1) ms first L.toNat n0 cs ∧ OV wx (w.alloc (.cells #[.int .i64 m.c, .int .i64 m.d, .int .i64 m.s, .int .i64 m.a, .int .i64 m.l] 45)).heap.size 2 (.slice (some ⟨g0, 0, none⟩) ms.length c1') (ints cs2) ∧ Below (w.alloc (.cells #[.int .i64 m.c, .int .i64 m.d, .int .i64 m.s, .int .i64 m.a, .int .i64 m.l] 45)).heap.size (w.alloc (.cells #[.int .i64 m.c, .int .i64 m.d, .int .i64 m.s, .int .i64 m.a, .int .i64 m.l] 45)) wx)
        (fun _ q _ _ => (intOf q + 1).toNat)
      case atStart => exact ⟨L.toNat, n0, cs, by omega, by congr 1; omega, rfl, by omega, by omega, Hcl.out, rfl, ho, hb⟩
      case round =>
        obtain ⟨j, nn, cs2, hj, rfl, rfl, q1, q2, hcl3, hin, ho2, hb2⟩ := hrel
        have HIn := Lib.hid hin; clear hin
        have Hcl3 := Lib.hid hcl3; clear hcl3
        have Bx := B0.trans (hb2.mono B0.size)
        by_cases hj0 : 0 < j
        · obtain ⟨j, rfl⟩ : ∃ t, j = t + 1 := ⟨j - 1, by omega⟩
          have hidx : first + j < ms.length := by omega
          obtain ⟨b3, o3, e3, hcm⟩ := (h.below Bx).at_ (k := first + j) hidx
          injection e3 with e3
          injection e3 with e3 e3'
          subst e3 e3'
          obtain ⟨g0', cc', e4, _, hgx, _, hg4, hg5⟩ := ho2.open1 (by rw [Hcl3.out]; omega)
          injection e4 with e4 e5 e6
          injection e4 with e4
          injection e4 with e4
          subst e4
          have hcell := hg4 (first + j) (by rw [Hcl3.out]; exact hidx)
          have hfr := hg5 (first + j)
          clear hg4 hg5 e5 e6
          have q : wr.cell? ⟨w.heap.size, 0, none⟩ = some (.int .i64 m.c) ∧ wr.cell? ⟨w.heap.size, 1, none⟩ = some (.int .i64 m.d) ∧ wr.cell? ⟨w.heap.size, 2, none⟩ = some (.int .i64 m.s) ∧ wr.cell? ⟨w.heap.size, 3, none⟩ = some (.int .i64 m.a) ∧ wr.cell? ⟨w.heap.size, 4, none⟩ = some (.int .i64 m.l) ∧ True := bx.below hb2
          have j0 : (0 : Int) ≤ (first : Int) + (j : Int) := by omega
          have j1 : (first : Int) + (j : Int) < (ms.length : Int) := by omega
          have hz : (m.d - 1 == 0) = false := by simp; omega
          have z1 := ediv_in (n := nn) (b := m.d - 1) q1 q2 (by omega)
          have z2 := emod_in (n := nn) (b := m.d - 1) (by omega)
          have z3 := z1.1; have z4 := z1.2; have z5 := z2.1; have z6 := z2.2
          clear z1 z2
          have HS := Lib.hid (show innerC (m.d - 1) ms first (j + 1) nn cs2 = innerC (m.d - 1) ms first j (nn / (m.d - 1)) (cs2.set (first + j) (bump (nn % (m.d - 1)) (ms.getD (first + j) 0))) from rfl)
          have HG := Lib.hid (getD_at'' hidx)
          by_cases hge : ms[first + j] ≤ nn % (m.d - 1)
          · have HB := Lib.hid (show bump (nn % (m.d - 1)) (ms.getD (first + j) 0) = nn % (m.d - 1) + 1 by unfold bump; rw [HG.out, if_pos hge])
            have HP2 := Lib.hid (ho2.put Hcl3.out.symm (first + j) (nn % (m.d - 1) + 1))
            have HO2 := Lib.hid ho2; clear ho2
            go_wp2_with fail
            go_roundw
            case rel => exact ⟨j, nn / (m.d - 1), cs2.set (first + j) (nn % (m.d - 1) + 1), by omega, rfl, rfl, z3, z4, by simp [Hcl3.out], by rw [← HIn.out, HS.out, HB.out], HP2.out, hb2.setCell (by simp only; omega) _⟩
            case measure => simp [intOf]
          · have HB := Lib.hid (show bump (nn % (m.d - 1)) (ms.getD (first + j) 0) = nn % (m.d - 1) by unfold bump; rw [HG.out, if_neg hge])
            have HP2 := Lib.hid (ho2.put Hcl3.out.symm (first + j) (nn % (m.d - 1)))
            have HO2 := Lib.hid ho2; clear ho2
            go_wp2_with fail
            go_roundw
            case rel => exact ⟨j, nn / (m.d - 1), cs2.set (first + j) (nn % (m.d - 1)), by omega, rfl, rfl, z3, z4, by simp [Hcl3.out], by rw [← HIn.out, HS.out, HB.out], HP2.out, hb2.setCell (by simp only; omega) _⟩
            case measure => simp [intOf]
        · obtain rfl : j = 0 := by omega
          have HS := Lib.hid (show innerC (m.d - 1) ms first 0 nn cs2 = cs2 from rfl)
          obtain ⟨b4, o4, e4, hcl4⟩ := (g.below Bx).at_ hlt2
          injection e4 with e4
          injection e4 with e4 e4'
          subst e4 e4'
          rw [HLk.out] at hcl4
          go_wp2_with fail
          go_roundw
          case rel => exact ⟨k + 1, first + L.toNat, cs2, by omega, by go_num, by congr 1; omega, by have := Hrest.out; rw [HRS.out] at this; omega, Hcl3.out, by rw [← HOut.out, HO2.out, ← HIn.out, HS.out], ho2, hb2⟩
          case measure => simp [intOf]; omega
    · obtain rfl : k = ps.length := by omega
      have HE := Lib.hid (outerC_end (m.d - 1) ms first (ls.drop ps.length) cs)
      have HF := Lib.hid (show cutsAtF m ms ls ps = cs by rw [← HOut.out, List.drop_length, HE.out])
      have ho3 : OV wr (w.alloc (.cells #[.int .i64 m.c, .int .i64 m.d, .int .i64 m.s, .int .i64 m.a, .int .i64 m.l] 45)).heap.size 2 (.slice (some ⟨g0, 0, none⟩) ms.length c1') (ints (cutsAtF m ms ls ps)) := by rw [HF.out]; exact ho
      go_wp2_with fail
      go_ret
      exact resI_own ho3 (by simp) Bw
set_option maxRecDepth 100000 in
set_option maxHeartbeats 8000000 in
theorem cutsAt_any (m : Mk) (A B D : Option Addr) (c d e : Nat) (ms ls ps : List Int) (w : World) (h : RI w A ms) (g : RI w B ls) (p : RI w D ps)
    (hm : isMaker m = true) (hc : cutsOK m ms = true) (hl : areLevels m ls = true) (hp : isPath m ls ps = true) :
    Calls Try.prog 110 #[.agg #[.int .i64 m.c, .int .i64 m.d, .int .i64 m.s, .int .i64 m.a, .int .i64 m.l], .slice A ms.length c, .slice B ls.length d, .slice D ps.length e] w (ResI w (cutsAtF m ms ls ps)) := by
  have B0 := (Below.refl w.heap.size w).alloc (Nat.le_refl _) (.cells #[.int .i64 m.c, .int .i64 m.d, .int .i64 m.s, .int .i64 m.a, .int .i64 m.l] 45)
  obtain ⟨c1, c2, d1, d2, s1, s2, a1, a2, l1, l2, l3⟩ := mk_bounds hm
  have HC := Lib.hid (cutsOK_get hc)
  have HL := Lib.hid (areLevels_get hl)
  have HP := Lib.hid (path_at hm hl hp)
  have HR := Lib.hid (levels_rest hm hl)
  have hn1 : ms.length ≤ 6 := by have := HC.out.1; omega
  have hn2 : 2 ≤ ms.length := by have := HC.out.1; omega
  have hn3 : ls.length ≤ 4 := HL.out.2.1
  have hn4 : ps.length ≤ ls.length := HP.out.1
  clear hm hc hl hp
  obtain ⟨bA, oA, rfl, _⟩ := h.at_ (k := 0) (by omega)
  have bx : BoxC (w.alloc (.cells #[.int .i64 m.c, .int .i64 m.d, .int .i64 m.s, .int .i64 m.a, .int .i64 m.l] 45)) w.heap.size 0 [.int .i64 m.c, .int .i64 m.d, .int .i64 m.s, .int .i64 m.a, .int .i64 m.l] := BoxC.new _ rfl
  go_enter Try.func110, Try.ntmps110
  go_wp2_with fail
  refine (sClone_any _ c ms _ (h.below B0) (by omega)).mono ?_
  rintro e w1 ⟨A1, c1', rfl, hc1, r1, o1, b1⟩
  have B1 := B0.trans (b1.mono B0.size)
  have o1' : OV w1 (w.alloc (.cells #[.int .i64 m.c, .int .i64 m.d, .int .i64 m.s, .int .i64 m.a, .int .i64 m.l] 45)).heap.size 2 (.slice A1 ms.length c1') (ints ms) := o1.1
  clear o1 r1
  obtain ⟨g0, cc, e4, hg1, hg2, hg3, _, _⟩ := o1'.open1 (by omega)
  injection e4 with e4 e5 e6
  subst e4 e6
  clear e5
  go_wp2_with fail
  go_loopw [10, 11, 12, 13, 14, 19] (fun f _ _ _ _ i wr => ∃ (k first : Nat) (cs : List Int), k ≤ ps.length ∧ i = .int .i64 k ∧ f = .int .i64 first ∧ first + restSum (ls.drop k) = ms.length ∧ cs.length = ms.length ∧ outerC (m.d - 1) ms first (ls.drop k) (ps.drop k) cs = cutsAtF m ms ls ps ∧ OV wr (w.alloc (.cells #[.int .i64 m.c, .int .i64 m.d, .int .i64 m.s, .int .i64 m.a, .int .i64 m.l] 45)).heap.size 2 (.slice (some ⟨g0, 0, none⟩) ms.length c1') (ints cs) ∧ Below (w.alloc (.cells #[.int .i64 m.c, .int .i64 m.d, .int .i64 m.s, .int .i64 m.a, .int .i64 m.l] 45)).heap.size (w.alloc (.cells #[.int .i64 m.c, .int .i64 m.d, .int .i64 m.s, .int .i64 m.a, .int .i64 m.l] 45)) wr)
    (fun _ _ _ _ _ i _ => ps.length - (intOf i).toNat)
  case atStart => exact ⟨0, 0, ms, by omega, rfl, rfl, by have := HR.out; have := HC.out.1; rw [List.drop_zero]; omega, rfl, rfl, o1', b1⟩
  case round =>
    obtain ⟨k, first, cs, hk, rfl, rfl, hrest, hcl, hout, ho, hb⟩ := hrel
    have HOut := Lib.hid hout; clear hout
    have Bw := B0.trans (hb.mono B0.size)
    have Hcl := Lib.hid hcl; clear hcl
    have Hrest := Lib.hid hrest; clear hrest
    by_cases hlt : k < ps.length
    · have hlt2 : k < ls.length := by omega
      obtain ⟨b, o, rfl, hcp⟩ := (p.below Bw).at_ hlt
      obtain ⟨b2, o2, rfl, hcl2⟩ := (g.below Bw).at_ hlt2
      have i0 : (0 : Int) ≤ (k : Int) := by omega
      have i1 : (k : Int) < (ps.length : Int) := by omega
      have i2 : (k : Int) < (ls.length : Int) := by omega
      have v1 := (HL.out.2.2 k hlt2).1; have v2 := (HL.out.2.2 k hlt2).2
      have p1 := (HP.out.2 k hlt).1; have p2 := (HP.out.2 k hlt).2
      have hsum : first + ls[k].toNat ≤ ms.length := by have := Hrest.out; rw [restSum_step ls k hlt2] at this; omega
      have HO2 := Lib.hid (outerC_step (m.d - 1) ms first ls ps cs k hlt hlt2)
      have HRS := Lib.hid (restSum_step ls k hlt2)
      generalize hLk : ls[k] = L at *
      generalize hPk : ps[k] = n0 at *
      have HLk := Lib.hid hLk; have HPk := Lib.hid hPk; clear hLk hPk
      obtain ⟨wo, rfl⟩ : ∃ wo : World, wo = wr := ⟨_, rfl⟩
      go_wp2_with fail
      go_loopw [12, 13, 14] (fun n q _ wx => ∃ (j : Nat) (nn : Int) (cs2 : List Int) (qq : Int), j ≤ L.toNat ∧ q = .int .i64 qq ∧ qq = (first : Int) + (j : Int) - 1 ∧ n = .int .i64 nn ∧ 0 ≤ nn ∧ nn ≤ 1000000 ∧ cs2.length = ms.length ∧ innerC (m.d - 1) ms first j nn cs2 = innerC (m.d - 1) ms first L.toNat n0 cs ∧ OV wx (w.alloc (.cells #[.int .i64 m.c, .int .i64 m.d, .int .i64 m.s, .int .i64 m.a, .int .i64 m.l] 45)).heap.size 2 (.slice (some ⟨g0, 0, none⟩) ms.length c1') (ints cs2) ∧ Below (w.alloc (.cells #[.int .i64 m.c, .int .i64 m.d, .int .i64 m.s, .int .i64 m.a, .int .i64 m.l] 45)).heap.size (w.alloc (.cells #[.int .i64 m.c, .int .i64 m.d, .int .i64 m.s, .int .i64 m.a, .int .i64 m.l] 45)) wx)
        (fun _ q _ _ => (intOf q - (first : Int) + 1).toNat)
      case atStart => exact ⟨L.toNat, n0, cs, _, by omega, rfl, by omega, rfl, by omega, by omega, Hcl.out, rfl, ho, hb⟩
      case round =>
        obtain ⟨j, nn, cs2, qq, hj, rfl, hqq, rfl, q1, q2, hcl3, hin, ho2, hb2⟩ := hrel
        have HIn := Lib.hid hin; clear hin
        have Hcl3 := Lib.hid hcl3; clear hcl3
        have Bx := B0.trans (hb2.mono B0.size)
        by_cases hj0 : 0 < j
        · obtain ⟨j, rfl⟩ : ∃ t, j = t + 1 := ⟨j - 1, by omega⟩
          obtain rfl : qq = (first : Int) + (j : Int) := by omega
          clear hqq
          have hidx : first + j < ms.length := by omega
          obtain ⟨b3, o3, e3, hcm⟩ := (h.below Bx).at_ (k := first + j) hidx
          injection e3 with e3
          injection e3 with e3 e3'
          subst e3 e3'
          obtain ⟨g0', cc', e4, _, hgx, _, hg4, hg5⟩ := ho2.open1 (by rw [Hcl3.out]; omega)
          injection e4 with e4 e5 e6
          injection e4 with e4
          injection e4 with e4
          subst e4
          have hcell := hg4 (first + j) (by rw [Hcl3.out]; exact hidx)
          have hfr := hg5 (first + j)
          clear hg4 hg5 e5 e6
          have q : wr.cell? ⟨w.heap.size, 0, none⟩ = some (.int .i64 m.c) ∧ wr.cell? ⟨w.heap.size, 1, none⟩ = some (.int .i64 m.d) ∧ wr.cell? ⟨w.heap.size, 2, none⟩ = some (.int .i64 m.s) ∧ wr.cell? ⟨w.heap.size, 3, none⟩ = some (.int .i64 m.a) ∧ wr.cell? ⟨w.heap.size, 4, none⟩ = some (.int .i64 m.l) ∧ True := bx.below hb2
          have j0 : (0 : Int) ≤ (first : Int) + (j : Int) := by omega
          have j1 : (first : Int) + (j : Int) < (ms.length : Int) := by omega
          have hz : (m.d - 1 == 0) = false := by simp; omega
          have z1 := ediv_in (n := nn) (b := m.d - 1) q1 q2 (by omega)
          have z2 := emod_in (n := nn) (b := m.d - 1) (by omega)
          have z3 := z1.1; have z4 := z1.2; have z5 := z2.1; have z6 := z2.2
          clear z1 z2
          have HS := Lib.hid (show innerC (m.d - 1) ms first (j + 1) nn cs2 = innerC (m.d - 1) ms first j (nn / (m.d - 1)) (cs2.set (first + j) (bump (nn % (m.d - 1)) (ms.getD (first + j) 0))) from rfl)
          have HG := Lib.hid (getD_at'' hidx)
          by_cases hge : ms[first + j] ≤ nn % (m.d - 1)
          · have HB := Lib.hid (show bump (nn % (m.d - 1)) (ms.getD (first + j) 0) = nn % (m.d - 1) + 1 by unfold bump; rw [HG.out, if_pos hge])
            have HP2 := Lib.hid (ho2.put Hcl3.out.symm (first + j) (nn % (m.d - 1) + 1))
            have HO2 := Lib.hid ho2; clear ho2
            go_wp2_with fail
            go_roundw
            case rel => exact ⟨j, nn / (m.d - 1), cs2.set (first + j) (nn % (m.d - 1) + 1), (first : Int) + (j : Int) - 1, by omega, rfl, rfl, rfl, z3, z4, by simp [Hcl3.out], by rw [← HIn.out, HS.out, HB.out], HP2.out, hb2.setCell (by simp only; omega) _⟩
            case measure => simp [intOf]; omega
          · have HB := Lib.hid (show bump (nn % (m.d - 1)) (ms.getD (first + j) 0) = nn % (m.d - 1) by unfold bump; rw [HG.out, if_neg hge])
            have HP2 := Lib.hid (ho2.put Hcl3.out.symm (first + j) (nn % (m.d - 1)))
            have HO2 := Lib.hid ho2; clear ho2
            go_wp2_with fail
            go_roundw
            case rel => exact ⟨j, nn / (m.d - 1), cs2.set (first + j) (nn % (m.d - 1)), (first : Int) + (j : Int) - 1, by omega, rfl, rfl, rfl, z3, z4, by simp [Hcl3.out], by rw [← HIn.out, HS.out, HB.out], HP2.out, hb2.setCell (by simp only; omega) _⟩
            case measure => simp [intOf]; omega
        · obtain rfl : j = 0 := by omega
          obtain rfl : qq = (first : Int) - 1 := by omega
          clear hqq
          have HS := Lib.hid (show innerC (m.d - 1) ms first 0 nn cs2 = cs2 from rfl)
          obtain ⟨b4, o4, e4, hcl4⟩ := (g.below Bx).at_ hlt2
          injection e4 with e4
          injection e4 with e4 e4'
          subst e4 e4'
          rw [HLk.out] at hcl4
          go_wp2_with fail
          go_roundw
          case rel => exact ⟨k + 1, first + L.toNat, cs2, by omega, by go_num, by congr 1; omega, by have := Hrest.out; rw [HRS.out] at this; omega, Hcl3.out, by rw [← HOut.out, HO2.out, ← HIn.out, HS.out], ho2, hb2⟩
          case measure => simp [intOf]; omega
    · obtain rfl : k = ps.length := by omega
      have HE := Lib.hid (outerC_end (m.d - 1) ms first (ls.drop ps.length) cs)
      have HF := Lib.hid (show cutsAtF m ms ls ps = cs by rw [← HOut.out, List.drop_length, HE.out])
      have ho3 : OV wr (w.alloc (.cells #[.int .i64 m.c, .int .i64 m.d, .int .i64 m.s, .int .i64 m.a, .int .i64 m.l] 45)).heap.size 2 (.slice (some ⟨g0, 0, none⟩) ms.length c1') (ints (cutsAtF m ms ls ps)) := by rw [HF.out]; exact ho
      go_wp2_with fail
      go_ret
      exact resI_own ho3 (by simp) Bw
def cutsAtR (m : Mk) (ms ls ps : List Int) : List Int × Int := if levelsCode m ms ls ps = 0 then (cutsAtF m ms ls ps, 0) else ([], levelsCode m ms ls ps)
theorem resI_C {w a w' : World} {r : List Int × Int} {xs : List Int} {k : Int} {A : Option Addr} {c : Nat} (h : (xs, k) = r) (hc : xs.length ≤ c) (hr : RI w' A xs) (ho : OI w' a.heap.size w'.heap.size (.slice A xs.length c) xs) (hb : Below w.heap.size w a) (hb2 : Below a.heap.size a w') :
    ResIC w r (.returned (.tuple #[.slice A xs.length c, .int .i64 k])) w' := resIC_of h hc hr ho hb hb2
set_option maxRecDepth 100000 in
set_option maxHeartbeats 4000000 in
theorem specCutsAt_any (m : Mk) (A : Option Addr) (c : Nat) (ms : List Int) (B : Option Addr) (d : Nat) (ls : List Int) (D : Option Addr) (e : Nat) (ps : List Int) (w : World) (h : RI w A ms) (g : RI w B ls) (p : RI w D ps) :
    Calls Try.prog 36 #[.agg #[.int .i64 m.c, .int .i64 m.d, .int .i64 m.s, .int .i64 m.a, .int .i64 m.l], .slice A ms.length c, .slice B ls.length d, .slice D ps.length e] w (ResIC w (cutsAtR m ms ls ps)) := by
  have B0 := (Below.refl w.heap.size w).alloc (Nat.le_refl _) (.cells #[.int .i64 m.c, .int .i64 m.d, .int .i64 m.s, .int .i64 m.a, .int .i64 m.l] 45)
  by_cases h0 : levelsCode m ms ls ps = 0
  · have HR := Lib.hid (show (cutsAtF m ms ls ps, 0) = cutsAtR m ms ls ps by simp [cutsAtR, h0])
    have H0 := Lib.hid (lc_0_iff.1 h0)
    go_enter Try.func36, Try.ntmps36
    go_wp2_with fail
    refine (l12Code_any m A B D c d e ms ls ps _ (h.below B0) (g.below B0) (p.below B0)).mono ?_
    rw [h0]
    rintro e w1 ⟨rfl, b1⟩
    have C := (bcell b1).1
    have B1 := B0.trans (b1.mono B0.size)
    have H00 := Lib.hid h0; clear h0
    go_wp2_with fail
    refine (l12Cuts_any m A B D c d _ ms ls ps _ (h.below B1) (g.below B1) (p.below B1) H0.out.1 H0.out.2.1 H0.out.2.2.1 H0.out.2.2.2).mono ?_
    rintro e w2 ⟨A2, c2, rfl, hc2, r2, o2, b2⟩
    go_wp2_with fail
    go_ret2
    exact resI_C HR.out hc2 r2 o2 B1 b2
  · have HR := Lib.hid (show ([], levelsCode m ms ls ps) = cutsAtR m ms ls ps by simp [cutsAtR, h0])
    have t1 : (levelsCode m ms ls ps != 0) = true := by simpa using h0
    have H0 := Lib.hid h0; clear h0
    go_enter Try.func36, Try.ntmps36
    go_wp2_with fail
    refine (l12Code_any m A B D c d e ms ls ps _ (h.below B0) (g.below B0) (p.below B0)).mono ?_
    rintro e w1 ⟨rfl, b1⟩
    go_wp2_with fail
    go_ret2
    exact resIC_nil HR.out (B0.trans (b1.mono B0.size))
set_option maxRecDepth 100000 in
set_option maxHeartbeats 4000000 in
theorem implCutsAt_any (m : Mk) (A : Option Addr) (c : Nat) (ms : List Int) (B : Option Addr) (d : Nat) (ls : List Int) (D : Option Addr) (e : Nat) (ps : List Int) (w : World) (h : RI w A ms) (g : RI w B ls) (p : RI w D ps) :
    Calls Try.prog 35 #[.agg #[.int .i64 m.c, .int .i64 m.d, .int .i64 m.s, .int .i64 m.a, .int .i64 m.l], .slice A ms.length c, .slice B ls.length d, .slice D ps.length e] w (ResIC w (cutsAtR m ms ls ps)) := by
  have B0 := (Below.refl w.heap.size w).alloc (Nat.le_refl _) (.cells #[.int .i64 m.c, .int .i64 m.d, .int .i64 m.s, .int .i64 m.a, .int .i64 m.l] 45)
  by_cases h0 : levelsCode m ms ls ps = 0
  · have HR := Lib.hid (show (cutsAtF m ms ls ps, 0) = cutsAtR m ms ls ps by simp [cutsAtR, h0])
    have H0 := Lib.hid (lc_0_iff.1 h0)
    go_enter Try.func35, Try.ntmps35
    go_wp2_with fail
    refine (levelsCode_any m A B D c d e ms ls ps _ (h.below B0) (g.below B0) (p.below B0)).mono ?_
    rw [h0]
    rintro e w1 ⟨rfl, b1⟩
    have C := (bcell b1).1
    have B1 := B0.trans (b1.mono B0.size)
    have H00 := Lib.hid h0; clear h0
    go_wp2_with fail
    refine (cutsAt_any m A B D c d _ ms ls ps _ (h.below B1) (g.below B1) (p.below B1) H0.out.1 H0.out.2.1 H0.out.2.2.1 H0.out.2.2.2).mono ?_
    rintro e w2 ⟨A2, c2, rfl, hc2, r2, o2, b2⟩
    go_wp2_with fail
    go_ret2
    exact resI_C HR.out hc2 r2 o2 B1 b2
  · have HR := Lib.hid (show ([], levelsCode m ms ls ps) = cutsAtR m ms ls ps by simp [cutsAtR, h0])
    have t1 : (levelsCode m ms ls ps != 0) = true := by simpa using h0
    have H0 := Lib.hid h0; clear h0
    go_enter Try.func35, Try.ntmps35
    go_wp2_with fail
    refine (levelsCode_any m A B D c d e ms ls ps _ (h.below B0) (g.below B0) (p.below B0)).mono ?_
    rintro e w1 ⟨rfl, b1⟩
    go_wp2_with fail
    go_ret2
    exact resIC_nil HR.out (B0.trans (b1.mono B0.size))
end Go.Proofs.Ytdkkkkfcpgkcnaa
