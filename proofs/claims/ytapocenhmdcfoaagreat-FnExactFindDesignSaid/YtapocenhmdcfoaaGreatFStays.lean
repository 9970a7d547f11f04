/- Contracts of opensWith, and of staysOpen's closure. -/
import Derived.Test.YtapocenhmdcfoaaGreatPCand
import Derived.Test.YtapocenhmdcfoaaGreatEach
namespace Go.Proofs.YtapocenhmdcfoaaGreat
set_option linter.unusedVariables false
open Go.RowKit
theorem openAt1_in {l : List (List Int)} {key xs : List Int} {k : Nat} (h : k < l.length) (h2 : k < xs.length) (h3 : k < key.length) : openAt1 l key xs k = ((xs[k] == key[k]) || hasI l[k] xs[k]) := by
  unfold openAt1 frees; rw [getD_row h]; simp [List.getD, List.getElem?_eq_getElem h2, List.getElem?_eq_getElem h3]
set_option maxRecDepth 100000 in
set_option maxHeartbeats 4000000 in
theorem opensWith_any (A : Option Addr) (c : Nat) (l : List (List Int)) (K : Option Addr) (q : Nat) (key : List Int) (B : Option Addr) (d : Nat) (xs : List Int) (w : World) (h : RII w A l) (gk : RI w K key) (g : RI w B xs) (hl : xs.length ≤ l.length) (hk : xs.length ≤ key.length) :
    Calls Tryz.prog 71 #[.agg #[.slice A l.length c], .slice K key.length q, .slice B xs.length d] w fun e w' => e = .returned (.bool (openWith l key xs)) ∧ Below w.heap.size w w' := by
  have B0 := (Below.refl w.heap.size w).alloc (Nat.le_refl _) (.cells #[.slice A l.length c] 85)
  have hle := g.le
  have hlk := gk.le
  go_enter Tryz.func71, Tryz.ntmps71
  go_wp2_with fail
  go_loop [7, 8, 11] (fun _ _ i => ∃ k : Nat, k ≤ xs.length ∧ i = .int .i64 k ∧ (List.range k).all (openAt1 l key xs) = true) (fun _ _ i => xs.length - (intOf i).toNat)
  case atStart => exact ⟨0, by omega, rfl, rfl⟩
  case round =>
    obtain ⟨k, hk', rfl, hst⟩ := hrel
    have Hst := Lib.hid hst; clear hst
    by_cases hlt : k < xs.length
    · have hlt2 : k < l.length := by omega
      have hlt3 : k < key.length := by omega
      obtain ⟨b2, o2, rfl, hc2⟩ := g.at_ hlt
      obtain ⟨b3, o3, rfl, hc3⟩ := gk.at_ hlt3
      obtain ⟨b, o, A', c', rfl, hc, hcc, hr⟩ := h.at_ hlt2
      have hbw : b < w.heap.size := World.block_lt_of_cell? w _ hc
      have hbw2 : b2 < w.heap.size := World.block_lt_of_cell? w _ hc2
      have hbw3 : b3 < w.heap.size := World.block_lt_of_cell? w _ hc3
      have i0 : (0 : Int) ≤ (k : Int) := by omega
      have i1 : (k : Int) < (l.length : Int) := by omega
      have i2 : (k : Int) < (key.length : Int) := by omega
      have HS := Lib.hid (openAt1_in hlt2 hlt hlt3)
      have E1 := Lib.hid (sContains_any A' c' l[k] xs[k] _ (hr.below B0))
      cases hq : (xs[k] != key[k]) with
      | false =>
        have HO := Lib.hid (show (List.range (k + 1)).all (openAt1 l key xs) = true by
          rw [rangeAll_next, Hst.out, HS.out]; simp at hq; simp [hq])
        go_wp2_with fail
        go_round
        case rel => exact ⟨k + 1, by omega, by go_num, HO.out⟩
        case measure => simp [intOf]; omega
      | true =>
        have HQ := Lib.hid (show (xs[k] == key[k]) = false by simpa using hq)
        cases hp : hasI l[k] xs[k] with
        | false =>
          have HR := Lib.hid (show openWith l key xs = false from rangeAll_bad hlt (by rw [HS.out, HQ.out, hp]; rfl))
          go_wp2_with fail
          refine E1.out.mono ?_
          rw [hp]
          rintro e w1 ⟨rfl, rfl⟩
          go_wp2_with fail
          go_ret
          exact ⟨retB HR.out.symm, B0⟩
        | true =>
          have HO := Lib.hid (show (List.range (k + 1)).all (openAt1 l key xs) = true by rw [rangeAll_next, Hst.out, HS.out, hp]; simp)
          go_wp2_with fail
          refine E1.out.mono ?_
          rw [hp]
          rintro e w1 ⟨rfl, rfl⟩
          go_wp2_with fail
          go_round
          case rel => exact ⟨k + 1, by omega, by go_num, HO.out⟩
          case measure => simp [intOf]; omega
    · obtain rfl : k = xs.length := by omega
      go_wp2_with fail
      go_ret
      exact ⟨retB (by have := Hst.out; exact this.symm), B0⟩
/-- what an address of n elements names is not of F -/
def NF (F : Nat → Prop) (A : Option Addr) (n : Nat) : Prop := 0 < n → ∀ b o, A = some ⟨b, o, none⟩ → ¬ F b
theorem NF.mono {F G : Nat → Prop} {A : Option Addr} {n : Nat} (h : NF F A n) (hG : ∀ g, G g → F g) : NF G A n := fun h0 b o e hg => h h0 b o e (hG b hg)
theorem RV.keepN {F : Nat → Prop} {w w' : World} {A : Option Addr} {us : List Value} (h : RV w A us) (k : KeepF F w w') (hF : NF F A us.length) : RV w' A us := by
  by_cases h0 : 0 < us.length
  · exact h.keepF k (hF h0)
  · refine ⟨h.1, fun hn => ?_⟩
    exact absurd (List.length_eq_zero_iff.1 (by omega)) hn
theorem RI.keepN {F : Nat → Prop} {w w' : World} {A : Option Addr} {xs : List Int} (h : RI w A xs) (k : KeepF F w w') (hF : NF F A xs.length) : RI w' A xs := RV.keepN h k (by rw [ints_length]; exact hF)
/-- A nest that reads as lists, none of whose blocks is of F. -/
def RIIn (F : Nat → Prop) (w : World) (A : Option Addr) (xss : List (List Int)) : Prop :=
  ∃ us : List Value, us.length = xss.length ∧ RV w A us ∧ NF F A xss.length ∧ ∀ j (hj : j < xss.length), ∃ A' c, us[j]? = some (.slice A' xss[j].length c) ∧ xss[j].length ≤ c ∧ RI w A' xss[j] ∧ NF F A' xss[j].length
theorem RIIn.rii {F : Nat → Prop} {w : World} {A : Option Addr} {xss : List (List Int)} (h : RIIn F w A xss) : RII w A xss := by
  obtain ⟨us, h1, h2, _, h4⟩ := h
  exact ⟨us, h1, h2, fun j hj => by obtain ⟨A', c, a, b, d, _⟩ := h4 j hj; exact ⟨A', c, a, b, d⟩⟩
theorem RIIn.keepF {F : Nat → Prop} {w w' : World} {A : Option Addr} {xss : List (List Int)} (h : RIIn F w A xss) (k : KeepF F w w') : RIIn F w' A xss := by
  obtain ⟨us, h1, h2, h3, h4⟩ := h
  exact ⟨us, h1, h2.keepN k (by rw [h1]; exact h3), h3, fun j hj => by obtain ⟨A', c, a, b, d, e⟩ := h4 j hj; exact ⟨A', c, a, b, d.keepN k e, e⟩⟩
theorem RIIn.mono {F G : Nat → Prop} {w : World} {A : Option Addr} {xss : List (List Int)} (h : RIIn F w A xss) (hG : ∀ g, G g → F g) : RIIn G w A xss := by
  obtain ⟨us, h1, h2, h3, h4⟩ := h
  exact ⟨us, h1, h2, h3.mono hG, fun j hj => by obtain ⟨A', c, a, b, d, e⟩ := h4 j hj; exact ⟨A', c, a, b, d, e.mono hG⟩⟩
theorem ri_block {w : World} {b o : Nat} {us : List Value} (h : RV w (some ⟨b, o, none⟩) us) (h0 : us ≠ []) : b < w.heap.size := by
  obtain ⟨b', o', e, hc⟩ := h.2 h0
  injection e with e; injection e with e1 e2 _; subst e1 e2
  cases us with
  | nil => exact absurd rfl h0
  | cons u us => exact World.block_lt_of_cell? w _ (hc 0 u rfl)
/-- the header's row k -/
theorem RIIn.row {F : Nat → Prop} {w : World} {A : Option Addr} {xss : List (List Int)} (h : RIIn F w A xss) {k : Nat} (hk : k < xss.length) :
    ∃ b o A' c, A = some ⟨b, o, none⟩ ∧ w.cell? ⟨b, o + k, none⟩ = some (.slice A' xss[k].length c) ∧ xss[k].length ≤ c ∧ RI w A' xss[k] ∧ ¬ F b ∧ b < w.heap.size ∧ NF F A' xss[k].length := by
  obtain ⟨us, h1, h2, h3, h4⟩ := h
  obtain ⟨A', c, hu, hc, hr, hn⟩ := h4 k hk
  obtain ⟨b, o, rfl, hcell⟩ := h2.at_ (k := k) (by omega)
  have hb := World.block_lt_of_cell? w _ hcell
  refine ⟨b, o, A', c, rfl, ?_, hc, hr, h3 (by omega) b o rfl, hb, hn⟩
  rw [hcell, ← hu, List.getElem?_eq_getElem]
/-- What staysOpen's closure reads: its variables (from lo to hi - 1), the locks, the row, the cuts, the table. -/
structure StMem (F : Nat → Prop) (m : Mk) (A : Option Addr) (c : Nat) (t : List (List Int)) (B : Option Addr) (d : Nat) (cuts : List (List Int)) (ls : List (List (List Int))) (row : List Int) (lo hi gA gB gC gS : Nat) (AL : Option Addr) (cL : Nat) (AR : Option Addr) (cR : Nat) (w : World) : Prop where
  cA : w.cell? ⟨gA, 0, none⟩ = some (.slice AL ls.length cL)
  cB : w.cell? ⟨gB, 0, none⟩ = some (.slice AR row.length cR)
  cC : w.cell? ⟨gC, 0, none⟩ = some (.slice B cuts.length d)
  cS : BoxC w gS 0 [.int .i64 m.c, .int .i64 m.d, .int .i64 m.s, .int .i64 m.a, .int .i64 m.l, .slice A t.length c]
  loc : OLS w lo hi (.slice AL ls.length cL) ls
  rR : RI w AR row
  nR : NF F AR row.length
  rT : RIIn F w A t
  rC : RIIn F w B cuts
  gr : lo ≤ gA ∧ gA < hi ∧ lo ≤ gB ∧ gB < hi ∧ lo ≤ gC ∧ gC < hi ∧ lo ≤ gS ∧ gS < hi
  nF : ∀ g, lo ≤ g → g < hi → ¬ F g
  top : hi ≤ w.heap.size
theorem StMem.keepF {F : Nat → Prop} {m : Mk} {A : Option Addr} {c : Nat} {t : List (List Int)} {B : Option Addr} {d : Nat} {cuts : List (List Int)} {ls : List (List (List Int))} {row : List Int} {lo hi gA gB gC gS : Nat} {AL : Option Addr} {cL : Nat} {AR : Option Addr} {cR : Nat} {w w' : World}
    (h : StMem F m A c t B d cuts ls row lo hi gA gB gC gS AL cL AR cR w) (k : KeepF F w w') : StMem F m A c t B d cuts ls row lo hi gA gB gC gS AL cL AR cR w' := by
  obtain ⟨a1, a2, b1, b2, c1, c2, s1, s2⟩ := h.gr
  have ht := h.top
  have hc : ∀ g, lo ≤ g → g < hi → ∀ i v, w.cell? ⟨g, i, none⟩ = some v → w'.cell? ⟨g, i, none⟩ = some v := fun g h1 h2 i v hv => (k.cell (p := ⟨g, i, none⟩) (by simp only; omega) (h.nF g h1 h2)).trans hv
  exact ⟨hc _ a1 a2 _ _ h.cA, hc _ b1 b2 _ _ h.cB, hc _ c1 c2 _ _ h.cC, h.cS.keep fun i v hv => hc _ s1 s2 _ _ hv, h.loc.keep fun g h1 h2 => k.block g (by omega) (h.nF g h1 h2), h.rR.keepN k h.nR, h.nR, h.rT.keepF k, h.rC.keepF k, h.gr, h.nF, Nat.le_trans ht k.size⟩
theorem StMem.mono {F G : Nat → Prop} {m : Mk} {A : Option Addr} {c : Nat} {t : List (List Int)} {B : Option Addr} {d : Nat} {cuts : List (List Int)} {ls : List (List (List Int))} {row : List Int} {lo hi gA gB gC gS : Nat} {AL : Option Addr} {cL : Nat} {AR : Option Addr} {cR : Nat} {w : World}
    (h : StMem F m A c t B d cuts ls row lo hi gA gB gC gS AL cL AR cR w) (hG : ∀ g, G g → F g) : StMem G m A c t B d cuts ls row lo hi gA gB gC gS AL cL AR cR w :=
  ⟨h.cA, h.cB, h.cC, h.cS, h.loc, h.rR, h.nR.mono hG, h.rT.mono hG, h.rC.mono hG, h.gr, fun g h1 h2 hg => h.nF g h1 h2 (hG g hg), h.top⟩
theorem getD_in' {xs : List Int} {n : Nat} (h : n < xs.length) : xs.getD n 0 = xs[n] := by simp [List.getD, List.getElem?_eq_getElem h]
theorem staysL_bad {t cuts : List (List Int)} {ls : List (List (List Int))} {key : List Int} {n : Nat} (h : n < ls.length) (hp : staysD t cuts (ls.getD n []) key n = false) : staysL t cuts ls key = false := rangeAll_bad h hp
set_option maxRecDepth 100000 in
set_option maxHeartbeats 16000000 in
theorem staysClo_any (F : Nat → Prop) (m : Mk) (A : Option Addr) (c : Nat) (t : List (List Int)) (B : Option Addr) (d : Nat) (cuts : List (List Int)) (ls : List (List (List Int))) (row : List Int) (lo hi gA gB gC gS : Nat) (AL : Option Addr) (cL : Nat) (AR : Option Addr) (cR : Nat) (w : World)
    (hm : StMem F m A c t B d cuts ls row lo hi gA gB gC gS AL cL AR cR w) (K : Option Addr) (q : Nat) (key : List Int) (kk : RI w K key) (hq : key.length ≤ q) (hkl : (key.length : Int) = m.c)
    (hlt0 : cuts.length < t.length) (hrow : row = t[cuts.length]) (htw : ∀ k (hk : k < t.length), t[k].length = ls.length) (hll : ∀ n (hn : n < ls.length), (ls[n].length : Int) = m.c) (hcl : ∀ k (hk : k < cuts.length), (cuts[k].length : Int) = m.c) (hl12 : ls.length ≤ 12) :
    Calls Tryz.prog 70 #[.slice K key.length q, .pointer (some ⟨gA, 0, none⟩), .pointer (some ⟨gB, 0, none⟩), .pointer (some ⟨gC, 0, none⟩), .pointer (some ⟨gS, 0, none⟩)] w fun e w' => e = .returned (.bool (staysL t cuts ls key)) ∧ Below w.heap.size w w' := by
  obtain ⟨a1, a2, b1, b2, c1, c2, s1, s2⟩ := hm.gr
  have htop := hm.top
  have HSM := Lib.hid hm
  have HROW := Lib.hid hrow
  have HRW := Lib.hid (show row.length = ls.length by rw [hrow]; exact htw _ hlt0)
  have hrl : row.length ≤ 12 := by rw [HRW.out]; exact hl12
  have HTW := Lib.hid htw; have HLL := Lib.hid hll; have HCL := Lib.hid hcl; have HKL := Lib.hid hkl; have HLT := Lib.hid hlt0
  have htl := hm.rT.rii.le
  have hcl0 := hm.rC.rii.le
  have p1 := hm.cA
  have p2 := hm.cC
  clear hm hrow htw hll hcl hkl
  go_enter Tryz.func70, Tryz.ntmps70
  go_wp2_with fail
  go_loopw [7, 8, 9, 10, 13] (fun _ _ _ _ i wr => ∃ n : Nat, n ≤ ls.length ∧ i = .int .i64 n ∧ Hid ((List.range n).all (fun d => staysD t cuts (ls.getD d []) key d) = true) ∧ Below w.heap.size w wr) (fun _ _ _ _ i _ => ls.length - (intOf i).toNat)
  case atStart => exact ⟨0, by omega, rfl, Lib.hid rfl, Below.refl _ _⟩
  case round =>
    obtain ⟨n, hn, rfl, HST, hb⟩ := hrel
    obtain ⟨wo, rfl⟩ : ∃ wo : World, wo = wr := ⟨_, rfl⟩
    by_cases hlt : n < ls.length
    · have HKO := Lib.hid (HSM.out.loc.keep (w' := wo) fun g _ h2 => hb.block g (by omega))
      obtain ⟨bL, oL, A', c', rfl, hcl1, hccl, hrl1⟩ := (OLS.rls HKO.out).at_ hlt
      obtain ⟨bR, oR, rfl, hcR0⟩ := HSM.out.rR.at_ (show n < row.length by rw [HRW.out]; exact hlt)
      have hbR := World.block_lt_of_cell? w _ hcR0
      simp only at hbR
      have hbLw : bL < wo.heap.size := World.block_lt_of_cell? wo _ hcl1
      have hsz := hb.size
      have hcR := cell_in hb hbR hcR0
      have pB0 := cell_in hb (by simp only; omega) HSM.out.cB
      have pC0 := cell_in hb (by simp only; omega) p2
      have bR' : bR < wo.heap.size := by omega
      have gB' : gB < wo.heap.size := by omega
      have gC' : gC < wo.heap.size := by omega
      have i0 : (0 : Int) ≤ (n : Int) := by omega
      have i1 : (n : Int) < (row.length : Int) := by rw [HRW.out]; omega
      obtain ⟨y, hy⟩ : ∃ y, y = row[n]'(by rw [HRW.out]; exact hlt) := ⟨_, rfl⟩
      rw [← hy] at hcR hcR0
      have HCR0 := Lib.hid hcR0
      have HY := Lib.hid hy; clear hy hcR0
      obtain ⟨wb, hwb⟩ : ∃ wb, wb = wo.alloc (.cells #[.slice A' ls[n].length c'] 85) := ⟨_, rfl⟩
      have HWBA := Lib.hid (show Below wo.heap.size wo wb by rw [hwb]; exact (Below.refl _ _).alloc (Nat.le_refl _) _)
      have HWB := Lib.hid (show Below w.heap.size w wb from hb.trans (HWBA.out.mono hsz))
      have HLB := Lib.hid (show wb.cell? ⟨wo.heap.size, 0, none⟩ = some (.slice A' ls[n].length c') by rw [hwb]; simp)
      have hwbs : wb.heap.size = wo.heap.size + 1 := by rw [hwb]; simp
      have HLR := Lib.hid hrl1
      have HOP := fun W (hW : Below wo.heap.size wo W) => opens_any A' c' ls[n] K q key W (hrl1.below hW) (kk.below (hb.trans (hW.mono hsz))) (by have := HLL.out n hlt; have := HKL.out; omega)
      have HYY := Lib.hid (show (t.getD cuts.length []).getD n 0 = y by rw [getD_row HLT.out, ← HROW.out, getD_in' (by rw [HRW.out]; exact hlt), ← HY.out])
      clear hrl1
      cases hq0 : (y == 0) with
      | true =>
        cases hop : opensL ls[n] key with
        | true =>
          have HR := Lib.hid (show staysL t cuts ls key = false from staysL_bad hlt (by
            rw [getD_lock hlt]; unfold staysD; rw [HYY.out, hq0, hop]; rfl))
          rw [hop] at HOP
          have HOO := Lib.hid (HOP wb HWBA.out); clear HOP hop
          go_wp2_with fail
          rw [← hwb]
          refine HOO.out.mono ?_
          rintro e w4 ⟨rfl, b4⟩
          clear hwb
          go_wp2_with fail
          go_ret
          exact ⟨retB HR.out.symm, HWB.out.trans (b4.mono HWB.out.size)⟩
        | false =>
          have HF0 := Lib.hid (show (!(((t.getD cuts.length []).getD n 0 == 0) && opensL ls[n] key)) = true by rw [HYY.out, hq0, hop]; rfl)
          rw [hop] at HOP
          have HOO := Lib.hid (HOP wb HWBA.out); clear HOP hop
          go_wp2_with fail
          rw [← hwb]
          refine HOO.out.mono ?_
          rintro e w4 ⟨rfl, b4⟩
          have HW4 := Lib.hid (b4.mono (show wo.heap.size + 1 ≤ wb.heap.size by omega))
          have hs4 := b4.size
          clear hwb b4 pB0 hcR hcl1
          have pC := cell_in HW4.out (by simp only; omega) (cell_in HWBA.out (by simp only; omega) pC0)
          clear pC0
          go_wp2_with fail
          go_loopw [9, 10, 30] (fun _ _ i wx => ∃ k : Nat, k ≤ cuts.length ∧ i = .int .i64 k ∧ Hid ((List.range k).all (stays1 t cuts ls[n] key n) = true) ∧ Below (wo.heap.size + 1) wb wx) (fun _ _ i _ => cuts.length - (intOf i).toNat)
          case atStart => exact ⟨0, by omega, rfl, Lib.hid rfl, HW4.out⟩
          case round =>
            obtain ⟨k, hk, rfl, HIN, hbx⟩ := hrel
            have Bx := HWB.out.trans (hbx.mono (by omega))
            have pL := cell_in hbx (by simp only; omega) HLB.out
            obtain ⟨q0, q1, q2, q3, q4, q5, _⟩ := HSM.out.cS.keep fun i v hv => cell_in Bx (by simp only; omega) hv
            have pB := cell_in Bx (by simp only; omega) HSM.out.cB
            have hcRx := cell_in Bx hbR HCR0.out
            have BWo := HWBA.out.trans (hbx.mono (by omega))
            by_cases hlt2 : k < cuts.length
            · obtain ⟨bC, oC, AC, cC, rfl, hcC0, hccC, hrC, -, hbC, -⟩ := HSM.out.rC.row hlt2
              have hkt : k < t.length := by omega
              obtain ⟨bT, oT, AT, cT, rfl, hcT0, hccT, hrT, -, hbT, -⟩ := HSM.out.rT.row hkt
              have hnt : n < t[k].length := by rw [HTW.out k hkt]; exact hlt
              obtain ⟨bZ, oZ, rfl, hcZ0⟩ := hrT.at_ hnt
              have hbZ := World.block_lt_of_cell? w _ hcZ0
              simp only at hbZ
              have hcC := cell_in Bx hbC hcC0
              have hcT := cell_in Bx hbT hcT0
              have hcZ := cell_in Bx hbZ hcZ0
              have hlR := hrT.le
              have hsx := Bx.size
              have bT' : bT < wr.heap.size := by omega
              have bZ' : bZ < wr.heap.size := by omega
              have bC' : bC < wr.heap.size := by omega
              have j0 : (0 : Int) ≤ (k : Int) := by omega
              have j1 : (k : Int) < (t.length : Int) := by omega
              have j2 : (n : Int) < (t[k].length : Int) := by omega
              obtain ⟨z, hz⟩ : ∃ z, z = t[k][n] := ⟨_, rfl⟩
              rw [← hz] at hcZ
              have HZ := Lib.hid (show stays1 t cuts ls[n] key n k = !(((y == 1) && (z == 0)) && openWith ls[n] key cuts[k]) by
                unfold stays1; rw [getD_row (show cuts.length < t.length from HLT.out), getD_row hkt, getD_row hlt2, getD_in' hnt, ← hz, ← HROW.out, getD_in' (by rw [HRW.out]; exact hlt), ← HY.out])
              have HCLk := HCL.out k hlt2
              have HOW := fun W (hW : Below wr.heap.size wr W) => opensWith_any A' c' ls[n] K q key AC cC cuts[k] W (HLR.out.below (BWo.trans (hW.mono BWo.size))) (kk.below (Bx.trans (hW.mono Bx.size))) (hrC.below (Bx.trans (hW.mono Bx.size))) (by have := HLL.out n hlt; omega) (by have := HKL.out; omega)
              clear hcC0 hcT0 hcZ0 hz hrT hrC
              cases hq1 : (y == 1) with
              | false =>
                have HO := Lib.hid (show (List.range (k + 1)).all (stays1 t cuts ls[n] key n) = true by rw [rangeAll_next, HIN.out, HZ.out, hq1]; rfl)
                clear HOW
                go_wp2_with fail
                go_roundw
                case rel => exact ⟨k + 1, by omega, by go_num, HO, hbx⟩
                case measure => simp [intOf]; omega
              | true =>
                cases hq2 : (z == 0) with
                | false =>
                  have HO := Lib.hid (show (List.range (k + 1)).all (stays1 t cuts ls[n] key n) = true by rw [rangeAll_next, HIN.out, HZ.out, hq1, hq2]; rfl)
                  clear HOW
                  go_wp2_with fail
                  go_roundw
                  case rel => exact ⟨k + 1, by omega, by go_num, HO, hbx⟩
                  case measure => simp [intOf]; omega
                | true =>
                  cases how : openWith ls[n] key cuts[k] with
                  | false =>
                    have HO := Lib.hid (show (List.range (k + 1)).all (stays1 t cuts ls[n] key n) = true by rw [rangeAll_next, HIN.out, HZ.out, hq1, hq2, how]; rfl)
                    rw [how] at HOW
                    have HOO := Lib.hid (HOW _ (Below.refl _ _)); clear HOW how
                    go_wp2_with fail
                    refine HOO.out.mono ?_
                    rintro e w5 ⟨rfl, b5⟩
                    go_wp2_with fail
                    go_roundw
                    case rel => exact ⟨k + 1, by omega, by go_num, HO, hbx.trans (b5.mono (by have := hbx.size; omega))⟩
                    case measure => simp [intOf]; omega
                  | true =>
                    have HR := Lib.hid (show staysL t cuts ls key = false from staysL_bad hlt (by
                      rw [getD_lock hlt]; unfold staysD; rw [rangeAll_bad hlt2 (by rw [HZ.out, hq1, hq2, how]; rfl), Bool.and_false]))
                    rw [how] at HOW
                    have HOO := Lib.hid (HOW _ (Below.refl _ _)); clear HOW how
                    go_wp2_with fail
                    refine HOO.out.mono ?_
                    rintro e w5 ⟨rfl, b5⟩
                    go_wp2_with fail
                    go_ret
                    exact ⟨retB HR.out.symm, Bx.trans (b5.mono Bx.size)⟩
            · obtain rfl : k = cuts.length := by omega
              have HO := Lib.hid (show (List.range (n + 1)).all (fun d => staysD t cuts (ls.getD d []) key d) = true by
                rw [rangeAll_next, HST.out, getD_lock hlt]; unfold staysD
                rw [HIN.out, HF0.out]; rfl)
              go_wp2_with fail
              go_roundw
              case rel => exact ⟨n + 1, by omega, by go_num, HO, Bx⟩
              case measure => simp [intOf]; omega
      | false =>
        have HF0 := Lib.hid (show (!(((t.getD cuts.length []).getD n 0 == 0) && opensL ls[n] key)) = true by rw [HYY.out, hq0]; rfl)
        have HW4 := Lib.hid (Below.refl (wo.heap.size + 1) wb)
        clear HOP
        have pC := cell_in HWBA.out (by simp only; omega) pC0
        go_wp2_with fail
        rw [← hwb]
        clear hwb pB0 hcR hcl1 pC0
        go_wp2_with fail
        go_loopw [9, 10, 30] (fun _ _ i wx => ∃ k : Nat, k ≤ cuts.length ∧ i = .int .i64 k ∧ Hid ((List.range k).all (stays1 t cuts ls[n] key n) = true) ∧ Below (wo.heap.size + 1) wb wx) (fun _ _ i _ => cuts.length - (intOf i).toNat)
        case atStart => exact ⟨0, by omega, rfl, Lib.hid rfl, HW4.out⟩
        case round =>
          obtain ⟨k, hk, rfl, HIN, hbx⟩ := hrel
          have Bx := HWB.out.trans (hbx.mono (by omega))
          have pL := cell_in hbx (by simp only; omega) HLB.out
          obtain ⟨q0, q1, q2, q3, q4, q5, _⟩ := HSM.out.cS.keep fun i v hv => cell_in Bx (by simp only; omega) hv
          have pB := cell_in Bx (by simp only; omega) HSM.out.cB
          have hcRx := cell_in Bx hbR HCR0.out
          have BWo := HWBA.out.trans (hbx.mono (by omega))
          by_cases hlt2 : k < cuts.length
          · obtain ⟨bC, oC, AC, cC, rfl, hcC0, hccC, hrC, -, hbC, -⟩ := HSM.out.rC.row hlt2
            have hkt : k < t.length := by omega
            obtain ⟨bT, oT, AT, cT, rfl, hcT0, hccT, hrT, -, hbT, -⟩ := HSM.out.rT.row hkt
            have hnt : n < t[k].length := by rw [HTW.out k hkt]; exact hlt
            obtain ⟨bZ, oZ, rfl, hcZ0⟩ := hrT.at_ hnt
            have hbZ := World.block_lt_of_cell? w _ hcZ0
            simp only at hbZ
            have hcC := cell_in Bx hbC hcC0
            have hcT := cell_in Bx hbT hcT0
            have hcZ := cell_in Bx hbZ hcZ0
            have hlR := hrT.le
            have hsx := Bx.size
            have bT' : bT < wr.heap.size := by omega
            have bZ' : bZ < wr.heap.size := by omega
            have bC' : bC < wr.heap.size := by omega
            have j0 : (0 : Int) ≤ (k : Int) := by omega
            have j1 : (k : Int) < (t.length : Int) := by omega
            have j2 : (n : Int) < (t[k].length : Int) := by omega
            obtain ⟨z, hz⟩ : ∃ z, z = t[k][n] := ⟨_, rfl⟩
            rw [← hz] at hcZ
            have HZ := Lib.hid (show stays1 t cuts ls[n] key n k = !(((y == 1) && (z == 0)) && openWith ls[n] key cuts[k]) by
              unfold stays1; rw [getD_row (show cuts.length < t.length from HLT.out), getD_row hkt, getD_row hlt2, getD_in' hnt, ← hz, ← HROW.out, getD_in' (by rw [HRW.out]; exact hlt), ← HY.out])
            have HCLk := HCL.out k hlt2
            have HOW := fun W (hW : Below wr.heap.size wr W) => opensWith_any A' c' ls[n] K q key AC cC cuts[k] W (HLR.out.below (BWo.trans (hW.mono BWo.size))) (kk.below (Bx.trans (hW.mono Bx.size))) (hrC.below (Bx.trans (hW.mono Bx.size))) (by have := HLL.out n hlt; omega) (by have := HKL.out; omega)
            clear hcC0 hcT0 hcZ0 hz hrT hrC
            cases hq1 : (y == 1) with
            | false =>
              have HO := Lib.hid (show (List.range (k + 1)).all (stays1 t cuts ls[n] key n) = true by rw [rangeAll_next, HIN.out, HZ.out, hq1]; rfl)
              clear HOW
              go_wp2_with fail
              go_roundw
              case rel => exact ⟨k + 1, by omega, by go_num, HO, hbx⟩
              case measure => simp [intOf]; omega
            | true =>
              cases hq2 : (z == 0) with
              | false =>
                have HO := Lib.hid (show (List.range (k + 1)).all (stays1 t cuts ls[n] key n) = true by rw [rangeAll_next, HIN.out, HZ.out, hq1, hq2]; rfl)
                clear HOW
                go_wp2_with fail
                go_roundw
                case rel => exact ⟨k + 1, by omega, by go_num, HO, hbx⟩
                case measure => simp [intOf]; omega
              | true =>
                cases how : openWith ls[n] key cuts[k] with
                | false =>
                  have HO := Lib.hid (show (List.range (k + 1)).all (stays1 t cuts ls[n] key n) = true by rw [rangeAll_next, HIN.out, HZ.out, hq1, hq2, how]; rfl)
                  rw [how] at HOW
                  have HOO := Lib.hid (HOW _ (Below.refl _ _)); clear HOW how
                  go_wp2_with fail
                  refine HOO.out.mono ?_
                  rintro e w5 ⟨rfl, b5⟩
                  go_wp2_with fail
                  go_roundw
                  case rel => exact ⟨k + 1, by omega, by go_num, HO, hbx.trans (b5.mono (by have := hbx.size; omega))⟩
                  case measure => simp [intOf]; omega
                | true =>
                  have HR := Lib.hid (show staysL t cuts ls key = false from staysL_bad hlt (by
                    rw [getD_lock hlt]; unfold staysD; rw [rangeAll_bad hlt2 (by rw [HZ.out, hq1, hq2, how]; rfl), Bool.and_false]))
                  rw [how] at HOW
                  have HOO := Lib.hid (HOW _ (Below.refl _ _)); clear HOW how
                  go_wp2_with fail
                  refine HOO.out.mono ?_
                  rintro e w5 ⟨rfl, b5⟩
                  go_wp2_with fail
                  go_ret
                  exact ⟨retB HR.out.symm, Bx.trans (b5.mono Bx.size)⟩
          · obtain rfl : k = cuts.length := by omega
            have HO := Lib.hid (show (List.range (n + 1)).all (fun d => staysD t cuts (ls.getD d []) key d) = true by
              rw [rangeAll_next, HST.out, getD_lock hlt]; unfold staysD
              rw [HIN.out, HF0.out]; rfl)
            go_wp2_with fail
            go_roundw
            case rel => exact ⟨n + 1, by omega, by go_num, HO, Bx⟩
            case measure => simp [intOf]; omega
    · obtain rfl : n = ls.length := by omega
      have HR := Lib.hid (show staysL t cuts ls key = true from HST.out)
      go_wp2_with fail
      go_ret
      exact ⟨retB HR.out.symm, hb⟩
end Go.Proofs.YtapocenhmdcfoaaGreat
