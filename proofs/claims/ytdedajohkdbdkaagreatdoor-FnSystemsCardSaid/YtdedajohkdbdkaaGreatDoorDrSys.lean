/- Draws of systems: l15Valid. -/
import Derived.Test.YtdedajohkdbdkaaGreatDoorDrRes
namespace Go.Proofs.YtdedajohkdbdkaaGreatDoor
set_option linter.unusedVariables false
open Go.RowKit
/-- a drawn system -/
def ResSysV (S : Nat) (A : Option Addr) (c : Nat) (bs : List Int) (w : World) (e : Ending) (w' : World) : Prop :=
  ∃ (m : Mk) (T : Option Addr) (t : List (List Int)) (cT : Nat), e = .returned (.agg #[.int .i64 m.c, .int .i64 m.d, .int .i64 m.s, .int .i64 m.a, .int .i64 m.l, .slice T t.length cT]) ∧ MkS m ∧ 1 ≤ t.length ∧ t.length ≤ 4 ∧ TAB w.heap.size w' (.slice T t.length cT) t ∧ Dr S A c bs w w'
theorem set_lens {yss : List (List Int)} {n : Int} (h : ∀ r ∈ yss, (r.length : Int) = n) {i k : Nat} (hi : i < yss.length) {x : Int} : ∀ r ∈ yss.set i (yss[i].set k x), (r.length : Int) = n := fun r hr => by
  rcases List.mem_or_eq_of_mem_set hr with hr | hr
  · exact h r hr
  · rw [hr, List.length_set]; exact h _ (List.getElem_mem hi)
theorem TAB.low {B : Nat} {w : World} {v : Value} {xss : List (List Int)} (h : TAB B w v xss) {p : Addr} (hp : p.block < B) (u : Value) : TAB B (w.setCell p u) v xss := ⟨by rw [World.size_setCell]; exact h.own.setLow hp, h.rows⟩
theorem TAB.wide {B B' : Nat} {w : World} {v : Value} {xss : List (List Int)} (h : TAB B w v xss) (hB : B' ≤ B) : TAB B' w v xss := ⟨h.own.wide hB (Nat.le_refl _), h.rows⟩
theorem TAB.open2 {B : Nat} {w : World} {gT n cT : Nat} {xss : List (List Int)} (h : TAB B w (.slice (some ⟨gT, 0, none⟩) n cT) xss) {k : Nat} (hk : k < xss.length) :
    ∃ g c, w.cell? ⟨gT, k, none⟩ = some (.slice (some ⟨g, 0, none⟩) xss[k].length c) ∧ B ≤ g ∧ (∀ i (hi : i < xss[k].length), w.cell? ⟨g, i, none⟩ = some (.int .i64 xss[k][i])) ∧ (∀ i, w.frozen? ⟨g, i, none⟩ = false) ∧ ∀ i x, TAB B (w.setCell ⟨g, i, none⟩ (.int .i64 x)) (.slice (some ⟨gT, 0, none⟩) n cT) (xss.set k (xss[k].set i x)) := by
  obtain ⟨gT', cT', g, c, e, _, _, _, h1, _, h2, _, _, h3, h4, h5⟩ := h.open_ hk
  injection e with e1 e2 e3
  injection e1 with e1; injection e1 with e1 _ _
  subst e1
  exact ⟨g, c, h1, h2, h3, h4, h5⟩
set_option maxRecDepth 100000 in
set_option maxHeartbeats 8000000 in
theorem l15Valid_any (S : Nat) (A : Option Addr) (c : Nat) (bs : List Int) (w : World) (h : Src S A c bs w) :
    Calls Tryz.prog 34 #[.pointer (some ⟨S, 0, none⟩)] w (ResSysV S A c bs w) := by
  obtain ⟨w0, hw0⟩ : ∃ w0, w0 = w.alloc (.cells #[.int .i64 0, .int .i64 0, .int .i64 0, .int .i64 0, .int .i64 0, .slice none 0 0] 28) := ⟨_, rfl⟩
  have hz0 : w0.heap.size = w.heap.size + 1 := by rw [hw0]; simp
  have HR0 := Lib.hid (show w0.heap[w.heap.size]? = some (.cells #[.int .i64 0, .int .i64 0, .int .i64 0, .int .i64 0, .int .i64 0, .slice none 0 0] 28 (0, 0)) by
    have h1 := heap_alloc_new w (.cells #[.int .i64 0, .int .i64 0, .int .i64 0, .int .i64 0, .int .i64 0, .slice none 0 0] 28)
    rw [hw0]; simpa using h1)
  have HD0 := Lib.hid (show Dr S A c bs w w0 by rw [hw0]; exact (Dr.refl h).alloc _)
  have hSl : S < w.heap.size := h.xl
  have HN0 := Lib.hid (l02Valid_any S A c bs w0 HD0.out.src)
  clear h
  go_enter Tryz.func34, Tryz.ntmps34
  go_wp2_with fail
  rw [← hw0]
  clear hw0
  refine HN0.out.mono ?_
  rintro e w1 ⟨m, rfl, hm, hS1, hK1⟩
  have HMD := Lib.hid hm
  obtain ⟨w2, hw2⟩ : ∃ w2, w2 = w1.alloc (.cells #[.int .i64 m.c, .int .i64 m.d, .int .i64 m.s, .int .i64 m.a, .int .i64 m.l] 25) := ⟨_, rfl⟩
  have HD2 := Lib.hid (show Dr S A c bs w0 w2 by rw [hw2]; exact ((Dr.refl HD0.out.src).next hS1 hK1).alloc _)
  have hs1 : w0.heap.size ≤ w1.heap.size := hK1.size
  have hz2 : w1.heap.size < w2.heap.size := by rw [hw2]; simp
  have HBX := Lib.hid (show BoxC w2 w1.heap.size 0 (mkCells m) by rw [hw2]; exact BoxC.new (mkCells m) rfl)
  have HN1 := Lib.hid (l01Next_dr HD2.out.src 4)
  clear hm hS1 hK1
  go_wp2_with fail
  rw [← hw2]
  clear hw2
  refine HN1.out.mono ?_
  rintro e w3 ⟨r4, rfl, h40, h41, hD3, hz3⟩
  have HD3 := Lib.hid hD3
  have HN2 := Lib.hid (l01Next_dr hD3.src 4)
  have h4b : r4 < 4 := by omega
  have hsz3 : w2.heap.size ≤ w3.heap.size := hD3.size
  clear hD3 h41 hz3
  go_wp2_with fail
  refine HN2.out.mono ?_
  rintro e w4 ⟨r5, rfl, h50, h51, hD4, hz4⟩
  have HD4 := Lib.hid (HD3.out.trans hD4)
  have h5b : r5 < 4 := by omega
  have hsz4 : w3.heap.size ≤ w4.heap.size := hD4.size
  clear hD4 h51 hz4
  go_wp2_with fail
  go_loopw [6, 7, 8, 9] (fun v i _ _ wr => ∃ (k : Nat) (xss : List (List Int)), i = .int .i64 k ∧ (k : Int) ≤ 1 + r4 ∧ xss.length = k ∧ (∀ r ∈ xss, (r.length : Int) = 1 + r5) ∧ TAB w4.heap.size wr v xss ∧ Dr S A c bs w4 wr) (fun _ i _ _ _ => (1 + r4 - intOf i).toNat)
  case atStart => exact ⟨0, [], rfl, by omega, rfl, by simp, ⟨by simpa using OII.new0 (w := w4) (B := w4.heap.size) (Nat.le_refl _), by simp⟩, (Dr.refl HD4.out.src).alloc _⟩
  case round =>
    obtain ⟨k, xss, rfl, hk, hxk, hln, hT, hD⟩ := hrel
    have HT := Lib.hid hT; have HXK := Lib.hid hxk; have HD := Lib.hid hD; have HLN := Lib.hid hln
    have hso := hD.size
    clear hT hxk hD hln
    by_cases hlt : (k : Int) < 1 + r4
    · obtain ⟨wo, rfl⟩ : ∃ wo : World, wo = wr := ⟨_, rfl⟩
      have hSo : S < wo.heap.size := by omega
      go_wp2_with fail
      go_loopw [8, 9] (fun u j wx => ∃ (n : Nat) (ys : List Int), j = .int .i64 n ∧ (n : Int) ≤ 1 + r5 ∧ ys.length = n ∧ OV wx wo.heap.size 2 u (ints ys) ∧ Dr S A c bs wo wx) (fun _ j _ => (1 + r5 - intOf j).toNat)
      case atStart => exact ⟨0, [], rfl, by omega, rfl, OV.new0 (w := wo) (Nat.le_refl _), (Dr.refl HD.out.src).alloc _⟩
      case round =>
        obtain ⟨n, ys, rfl, hn, hyn, ho2, hDx⟩ := hrel
        have HO2 := Lib.hid ho2; have HYN := Lib.hid hyn; have HDX := Lib.hid hDx
        have hsx := hDx.size
        clear ho2 hyn hDx
        by_cases hlt2 : (n : Int) < 1 + r5
        · have HP := Lib.hid (show Calls Tryz.prog 37 #[.pointer (some ⟨S, 0, none⟩), .slice (some ⟨wr.heap.size, 0, none⟩) 3 3] (wr.alloc (.cells #[.int .i64 0, .int .i64 0, .int .i64 1] 2)) _ from l01Pick_new HDX.out.src [0, 0, 1] (by simp) (by simp))
          go_wp2_with fail
          refine HP.out.mono ?_
          rintro e w5 ⟨x, rfl, hx, hD5, hz5⟩
          have ho5 := HO2.out.dr hSo hD5
          have HD5 := Lib.hid (HDX.out.trans hD5)
          have hs5 := HD5.out.size
          have hyn : ys.length ≤ 5 := by have := HYN.out; omega
          clear hx hD5 hz5
          go_wp2_with (at_builtin; refine wpList_app1 _ rfl _ _ _ rfl wo.heap.size 2 _ 8 Tryz.underlying44 info_int rfl (by omega) _ _ rfl (ho5.alloc _) _ _ rfl (one_cell _ _ _) rfl (by rw [ints_length]; omega) (by simp; omega) ?_; intro v' w6 ho6 hg6 hn6 hat6)
          go_roundw
          case rel => exact ⟨n + 1, ys ++ [x], by go_num, by omega, by have := HYN.out; simp; omega, by rw [ints_append]; exact ho6, HD5.out.app ho5 (Nat.le_refl _) hg6⟩
          case measure => simp [intOf]; omega
        · have hlt2' : decide ((n : Int) < 1 + r5) = false := decide_eq_false hlt2
          have H0 := Lib.hid (show 0 < ys.length by have := HYN.out; omega)
          have HLY := Lib.hid (show (ys.length : Int) = 1 + r5 by have := HYN.out; omega)
          obtain ⟨K7, c7, rfl, hc7, _⟩ := HO2.out.reads
          rw [ints_length]
          have hOw := HO2.out
          rw [ints_length] at hOw
          have HO3 := Lib.hid hOw; clear hOw
          obtain ⟨us, k1, k2, k3, k4⟩ := HT.out.own.dr (by omega) (Nat.le_refl _) HDX.out
          have HXR := Lib.hid HT.out.rows
          have HK := Lib.hid (And.intro k3 k4)
          have HK1 := Lib.hid k1
          have hus : us.length ≤ 100 := by have := HXK.out; omega
          clear k3 k4 k1 hc7
          go_wp2_with (at_builtin; refine wpList_app1 _ rfl _ _ _ rfl w4.heap.size 44 _ 24 Tryz.underlying26 info_sl rfl (by omega) _ us rfl (k2.1.alloc _) _ _ rfl (one_cell _ _ _) rfl (by omega) (by simp; omega) ?_; intro v' w6 ho6 hg6 hn6 hat6)
          have HN := Lib.hid (TAB.push HK1.out k2 HK.out.1 HK.out.2 HXR.out H0.out HO3.out hso hsx ho6 hg6)
          have HD6 := Lib.hid ((HD.out.trans HDX.out).app k2.1 (Nat.le_refl _) hg6)
          clear ho6 hg6 hn6 hat6
          go_roundw
          case rel => exact ⟨k + 1, xss ++ [ys], by go_num, by omega, by have := HXK.out; simp; omega, fun r hr => by
            rcases List.mem_append.1 hr with hr | hr
            · exact HLN.out r hr
            · simp only [List.mem_singleton] at hr; rw [hr]; exact HLY.out, HN.out, HD6.out⟩
          case measure => simp [intOf]; omega
    · have hlt' : decide ((k : Int) < 1 + r4) = false := decide_eq_false hlt
      have HKL := Lib.hid (show (xss.length : Int) = 1 + r4 by have := HXK.out; omega)
      have h0x : 0 < xss.length := by have := HKL.out; omega
      obtain ⟨gT, cT, _, _, rfl, -⟩ := HT.out.open_ h0x
      obtain ⟨nT, hnT⟩ : ∃ n, n = xss.length := ⟨_, rfl⟩
      rw [← hnT] at HT ⊢
      have HNT := Lib.hid hnT
      have HN3 := Lib.hid (l01Next_dr HD.out.src (1 + r4))
      clear hnT h0x
      go_wp2_with fail
      refine HN3.out.mono ?_
      rintro e w5 ⟨mr, rfl, hm0, hm1, hD5, hz5⟩
      have hm2 : mr < 1 + r4 := by omega
      obtain ⟨mn, rfl⟩ : ∃ mn : Nat, mr = (mn : Int) := ⟨mr.toNat, by omega⟩
      have hT5 := HT.out.dr (by omega) hD5
      have HT5 := Lib.hid hT5
      have HD5 := Lib.hid (HD.out.trans hD5)
      clear hm1 hD5 hz5 hT5
      go_wp2_with fail
      go_loopw [11] (fun i wr => ∃ (k : Nat) (yss : List (List Int)), i = .int .i64 k ∧ (k : Int) ≤ 1 + r5 ∧ yss.length = nT ∧ (∀ r ∈ yss, (r.length : Int) = 1 + r5) ∧ TAB w4.heap.size wr (.slice (some ⟨gT, 0, none⟩) nT cT) yss ∧ Dr S A c bs w4 wr) (fun i _ => (1 + r5 - intOf i).toNat)
      case atStart => exact ⟨0, xss, rfl, by omega, HNT.out.symm, HLN.out, HT5.out, HD5.out⟩
      case round =>
        obtain ⟨k, yss, rfl, hk, hyl, hln, hT, hD⟩ := hrel
        have HTB := Lib.hid hT; have HYL := Lib.hid hyl; have HLB := Lib.hid hln; have HDB := Lib.hid hD
        have HKN := Lib.hid (show (nT : Int) = 1 + r4 by rw [HNT.out]; exact HKL.out)
        have hsr := hD.size
        clear hT hyl hln
        by_cases hlt3 : (k : Int) < 1 + r5
        · have HN4 := Lib.hid (l01Next_dr hD.src 3)
          clear hD
          go_wp2_with fail
          refine HN4.out.mono ?_
          rintro e w6 ⟨q, rfl, q0, q1, hD6, hz6⟩
          have HT6 := Lib.hid (HTB.out.dr (by omega) hD6)
          have HD6 := Lib.hid (HDB.out.trans hD6)
          clear hD6 hz6 q1
          by_cases hq : q > 0
          · have hmk : mn < yss.length := by have := HYL.out; have := HKN.out; omega
            obtain ⟨g1, cg1, hcell1, hgB1, hcs1, hfr1, hset1⟩ := HT6.out.open2 hmk
            have hk1 : k < yss[mn].length := by have := HLB.out _ (List.getElem_mem hmk); omega
            have x1 := hcs1 k hk1; have f1 := hfr1 k
            have hkI : (k : Int) < (yss[mn].length : Int) := by omega
            have hmI : (mn : Int) < (nT : Int) := by have := HKN.out; omega
            obtain ⟨w7, hw7⟩ : ∃ w7, w7 = w6.setCell ⟨g1, k, none⟩ (.int .i64 1) := ⟨_, rfl⟩
            have HT7 := Lib.hid (show TAB w4.heap.size w7 (.slice (some ⟨gT, 0, none⟩) nT cT) (yss.set mn (yss[mn].set k 1)) by rw [hw7]; exact hset1 k 1)
            have HD7 := Lib.hid (show Dr S A c bs w4 w7 by rw [hw7]; exact HD6.out.set ⟨g1, k, none⟩ hgB1 _)
            have HL7 := Lib.hid (set_lens HLB.out hmk (k := k) (x := 1))
            have HY7 := Lib.hid (show (yss.set mn (yss[mn].set k 1)).length = nT by rw [List.length_set]; exact HYL.out)
            obtain ⟨zss, hzs⟩ : ∃ z, z = yss.set mn (yss[mn].set k 1) := ⟨_, rfl⟩
            rw [← hzs] at HT7 HL7 HY7
            clear hzs hcs1 hfr1 hset1
            have HNQ := Lib.hid (l01Next_dr HD7.out.src (1 + r4))
            go_wp2_with fail
            (rw [← hw7]; clear hw7 x1 f1 hcell1)
            refine HNQ.out.mono ?_
            rintro e w8 ⟨ms, rfl, s0, s1, hD8, hz8⟩
            have s2 : ms < 1 + r4 := by omega
            obtain ⟨sn, rfl⟩ : ∃ sn : Nat, ms = (sn : Int) := ⟨ms.toNat, by omega⟩
            have hsn : sn < zss.length := by have := HY7.out; have := HKN.out; omega
            have hT8 := HT7.out.dr (by omega) hD8
            have HD8 := Lib.hid (HD7.out.trans hD8)
            obtain ⟨g2, cg2, hcell2, hgB2, hcs2, hfr2, hset2⟩ := hT8.open2 hsn
            have hk2 : k < zss[sn].length := by have := HL7.out _ (List.getElem_mem hsn); omega
            have x2 := hcs2 k hk2; have f2 := hfr2 k
            have hkI2 : (k : Int) < (zss[sn].length : Int) := by omega
            have hsI2 : (sn : Int) < (nT : Int) := by have := HKN.out; omega
            have HS2 := Lib.hid (hset2 k 1)
            have HL2 := Lib.hid (set_lens HL7.out hsn (k := k) (x := 1))
            have HY2 := Lib.hid (show (zss.set sn (zss[sn].set k 1)).length = nT by rw [List.length_set]; exact HY7.out)
            clear hT8 hcs2 hfr2 hset2 s1 hD8 hz8
            go_wp2_with fail
            go_roundw
            case rel => exact ⟨k + 1, _, by go_num, by omega, HY2.out, HL2.out, HS2.out, HD8.out.set ⟨g2, k, none⟩ hgB2 _⟩
            case measure => simp [intOf]; omega
          · have hq' : decide (q > 0) = false := decide_eq_false hq
            have hq2 : decide (0 < q) = false := decide_eq_false hq
            have HNQ := Lib.hid (l01Next_dr HD6.out.src (1 + r4))
            go_wp2_with fail
            skip
            refine HNQ.out.mono ?_
            rintro e w8 ⟨ms, rfl, s0, s1, hD8, hz8⟩
            have s2 : ms < 1 + r4 := by omega
            obtain ⟨sn, rfl⟩ : ∃ sn : Nat, ms = (sn : Int) := ⟨ms.toNat, by omega⟩
            have hsn : sn < yss.length := by have := HYL.out; have := HKN.out; omega
            have hT8 := HT6.out.dr (by omega) hD8
            have HD8 := Lib.hid (HD6.out.trans hD8)
            obtain ⟨g2, cg2, hcell2, hgB2, hcs2, hfr2, hset2⟩ := hT8.open2 hsn
            have hk2 : k < yss[sn].length := by have := HLB.out _ (List.getElem_mem hsn); omega
            have x2 := hcs2 k hk2; have f2 := hfr2 k
            have hkI2 : (k : Int) < (yss[sn].length : Int) := by omega
            have hsI2 : (sn : Int) < (nT : Int) := by have := HKN.out; omega
            have HS2 := Lib.hid (hset2 k 1)
            have HL2 := Lib.hid (set_lens HLB.out hsn (k := k) (x := 1))
            have HY2 := Lib.hid (show (yss.set sn (yss[sn].set k 1)).length = nT by rw [List.length_set]; exact HYL.out)
            clear hT8 hcs2 hfr2 hset2 s1 hD8 hz8
            go_wp2_with fail
            go_roundw
            case rel => exact ⟨k + 1, _, by go_num, by omega, HY2.out, HL2.out, HS2.out, HD8.out.set ⟨g2, k, none⟩ hgB2 _⟩
            case measure => simp [intOf]; omega
        · have hlt3' : decide ((k : Int) < 1 + r5) = false := decide_eq_false hlt3
          have HDT := Lib.hid (HD2.out.trans (HD4.out.trans hD))
          have hDX := HD4.out.trans hD
          have hbx := HBX.out.keepF hDX.keep (by omega) (by omega)
          obtain ⟨y0, y1, y2, y3, y4, _⟩ := hbx
          simp only [Nat.zero_add] at y1 y2 y3 y4
          have lb0 := (HDT.out.keep.block w.heap.size (by omega) (by omega)).trans HR0.out
          have n0 := boxC_of_heap lb0 0 _ rfl
          have n1 := boxC_of_heap lb0 1 _ rfl
          have n2 := boxC_of_heap lb0 2 _ rfl
          have n3 := boxC_of_heap lb0 3 _ rfl
          have n4 := boxC_of_heap lb0 4 _ rfl
          have n5 := boxC_of_heap lb0 5 _ rfl
          have m0 := frozen_of_heap lb0
          have l0 := m0 0; have l1 := m0 1; have l2 := m0 2; have l3 := m0 3; have l4 := m0 4; have l5 := m0 5
          have HL0 := Lib.hid lb0
          clear lb0 m0 hDX hD
          go_wp2_with fail
          have lb0 := HL0.out
          have hye := HYL.out
          have hkn := HKN.out
          refine bodyPost_ret (results_cell_row rfl _ _ w.heap.size 28 #[.int .i64 m.c, .int .i64 m.d, .int .i64 m.s, .int .i64 m.a, .int .i64 m.l, .slice (some ⟨gT, 0, none⟩) nT cT] (0, 0) _ (by rfl) (by simp [World.setCell, Array.getElem?_modify, lb0]) Tryz.underlying28 rfl (by kernel_rfl)) rfl ?_
          refine ⟨m, some ⟨gT, 0, none⟩, yss, cT, by rw [hye], HMD.out, by omega, by omega, ?_, ?_⟩
          · rw [hye]
            exact ((((((HTB.out.low (p := ⟨w.heap.size, 0, none⟩) (by simp only; omega) _).low (p := ⟨w.heap.size, 1, none⟩) (by simp only; omega) _).low (p := ⟨w.heap.size, 2, none⟩) (by simp only; omega) _).low (p := ⟨w.heap.size, 3, none⟩) (by simp only; omega) _).low (p := ⟨w.heap.size, 4, none⟩) (by simp only; omega) _).low (p := ⟨w.heap.size, 5, none⟩) (by simp only; omega) _).wide (by omega)
          · exact ((((((HD0.out.trans HDT.out).set ⟨w.heap.size, 0, none⟩ (Nat.le_refl _) _).set ⟨w.heap.size, 1, none⟩ (Nat.le_refl _) _).set ⟨w.heap.size, 2, none⟩ (Nat.le_refl _) _).set ⟨w.heap.size, 3, none⟩ (Nat.le_refl _) _).set ⟨w.heap.size, 4, none⟩ (Nat.le_refl _) _).set ⟨w.heap.size, 5, none⟩ (Nat.le_refl _) _
theorem mkS_is {m : Mk} (h : MkS m) : MkD m := by simp only [MkS, MkD] at *; omega
theorem mkS_maker {m : Mk} (h : MkS m) : isMaker m = true := by rw [isMaker_iff]; simp only [MkS] at h; omega
end Go.Proofs.YtdedajohkdbdkaaGreatDoor
