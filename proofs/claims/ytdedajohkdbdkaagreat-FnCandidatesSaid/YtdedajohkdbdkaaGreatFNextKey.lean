/- Contracts of firstKeys with nothing allowed or barred, of FirstKey and NextKey: what these give is a key. Printed by gen_nextk.py. -/
import Derived.Test.YtdedajohkdbdkaaGreatFEachT
import Derived.Test.YtdedajohkdbdkaaGreatFFirst
import Derived.Test.YtdedajohkdbdkaaGreatPKeyLaw
namespace Go.Proofs.YtdedajohkdbdkaaGreat
set_option linter.unusedVariables false
open Go.RowKit
theorem firstVisG (m : Mk) (hm : isMaker m = true) (fr : List Int) (t : Bool) (g g2 B most : Nat) (w : World) (F : Nat → Prop) (hmc : w.cell? ⟨g2, 0, none⟩ = some (.int .i64 (most : Int))) (hg2 : ¬ F g2) (hmost : most ≤ 300) :
    VisOK 138 #[.pointer (some ⟨g, 0, none⟩), .pointer (some ⟨g2, 0, none⟩)] (visColl most) (RColl g B) (fun s => s.length < most) (fun k => k ∈ keysG m allA fr m.c.toNat [] t) w F :=
  ⟨enters Tryz.func138 (by kernel_rfl) rfl, fun s key hl hp h => by simp [visColl] at h ⊢; omega, RColl.lt g B, RColl.fr g B, fun s w' G A c key hl hk hR hG hp hc hr hGA => by
    have hlt := World.block_lt_of_cell? w _ hmc
    have hg2' : ¬ G g2 := fun e => by rcases hG g2 e with h | h; exact hg2 h; simp only at hlt; omega
    have hkl : key.length ≤ 1000 := by have h1 := (keysG_pref m allA fr _ _ _ key hp).1; simp at h1; have := (mk_bounds hm).2.1; omega
    exact firstClo_any g g2 B most s A c key w' G hR ((hk.cell (p := ⟨g2, 0, none⟩) hlt hg2).trans hmc) hg2' hr hkl hl hmost⟩
set_option maxRecDepth 100000 in
set_option maxHeartbeats 4000000 in
theorem firstKeys_n (m : Mk) (hm : isMaker m = true) (most : Nat) (hmost : most ≤ 300) (h0 : 0 < most) (w : World) :
    Calls Tryz.prog 90 #[.agg #[.int .i64 m.c, .int .i64 m.d, .int .i64 m.s, .int .i64 m.a, .int .i64 m.l], .slice none 0 0, .nilFunc, .int .i64 (most : Int)] w (ResII w ((keysG m allA [] m.c.toNat [] false).take most)) := by
  have B0 := ((((Below.refl w.heap.size w).alloc (Nat.le_refl _) (.cells #[.int .i64 m.c, .int .i64 m.d, .int .i64 m.s, .int .i64 m.a, .int .i64 m.l] 25)).alloc (by simp only [World.size_alloc]; omega) (.cells #[.int .i64 (most : Int)] 2)).alloc (by simp only [World.size_alloc]; omega) (.cells #[] 33)).alloc (by simp only [World.size_alloc]; omega) (.cells #[.slice (some ⟨w.heap.size + 1 + 1, 0, none⟩) 0 0] 26)
  obtain ⟨w1, hw1⟩ : ∃ w1, w1 = (((w.alloc (.cells #[.int .i64 m.c, .int .i64 m.d, .int .i64 m.s, .int .i64 m.a, .int .i64 m.l] 25)).alloc (.cells #[.int .i64 (most : Int)] 2)).alloc (.cells #[] 33)).alloc (.cells #[.slice (some ⟨w.heap.size + 1 + 1, 0, none⟩) 0 0] 26) := ⟨_, rfl⟩
  rw [← hw1] at B0
  have hz1 : w1.heap.size = w.heap.size + 4 := by rw [hw1]; simp
  have c1 : w1.cell? ⟨w.heap.size + 1, 0, none⟩ = some (.int .i64 (most : Int)) := by
    rw [hw1]
    iterate 2 rw [World.cell?_alloc_lt _ _ _ (by simp only [World.size_alloc]; omega)]
    rw [World.cell?_alloc_at (hn := by simp)]; rfl
  have c3 : w1.cell? ⟨w.heap.size + 3, 0, none⟩ = some (.slice (some ⟨w.heap.size + 1 + 1, 0, none⟩) 0 0) := by
    rw [hw1, World.cell?_alloc_at (hn := by simp)]; rfl
  have f3 : w1.frozen? ⟨w.heap.size + 3, 0, none⟩ = false := by rw [hw1, World.frozen?_alloc_at (hn := by simp)]
  have ho : OV w1 (w.heap.size + 2) 33 (.slice (some ⟨w.heap.size + 1 + 1, 0, none⟩) 0 0) [] := by
    have := (OV.new0 (w := (w.alloc (.cells #[.int .i64 m.c, .int .i64 m.d, .int .i64 m.s, .int .i64 m.a, .int .i64 m.l] 25)).alloc (.cells #[.int .i64 (most : Int)] 2)) (B := w.heap.size + 2) (e := 33) (by simp)).alloc (.cells #[.slice (some ⟨w.heap.size + 1 + 1, 0, none⟩) 0 0] 26)
    rw [hw1]; simpa using this
  have bm : BoxC w1 w.heap.size 0 [.int .i64 m.c, .int .i64 m.d, .int .i64 m.s, .int .i64 m.a, .int .i64 m.l] := by
    have : BoxC (w.alloc (.cells #[.int .i64 m.c, .int .i64 m.d, .int .i64 m.s, .int .i64 m.a, .int .i64 m.l] 25)) w.heap.size 0 [.int .i64 m.c, .int .i64 m.d, .int .i64 m.s, .int .i64 m.a, .int .i64 m.l] := by simp [BoxC, Go.World.cell?_alloc_at]
    rw [hw1]
    exact ((this.below ((Below.refl _ _).alloc (Nat.le_refl _) _)).below ((Below.refl _ _).alloc (Nat.le_refl _) _)).below ((Below.refl _ _).alloc (Nat.le_refl _) _)
  have hR : RColl (w.heap.size + 3) (w.heap.size + 2) [] w1 (fun x => x = w.heap.size + 2 ∨ x = w.heap.size + 3) :=
    ⟨_, [], rfl, ho, fun j hj => by simp at hj, fun i j u u' _ hi => by simp at hi, fun x e => by simp [Value.ownBlock] at e; omega, fun j u x hj => by simp at hj, c3, f3, .inr rfl, fun x hx => by omega, fun x hx => by omega⟩
  have HK := Lib.hid (eachKey_n m hm 138 #[.pointer (some ⟨w.heap.size + 3, 0, none⟩), .pointer (some ⟨w.heap.size + 1, 0, none⟩)] (visColl most) (RColl (w.heap.size + 3) (w.heap.size + 2)) (fun s => s.length < most) w1 (fun x => x = w.heap.size + 2 ∨ x = w.heap.size + 3) [] (firstVisG m hm [] false _ _ _ most w1 _ c1 (by omega) hmost) hR (by simpa using h0))
  have HRN := Lib.hid (runVis_coll most (keysG m allA [] m.c.toNat [] false) [] (by simpa using h0))
  have h0' : (0 : Int) < (most : Int) := by omega
  obtain ⟨p0, p1, p2, p3, p4, _⟩ := bm
  clear hR ho
  go_enter Tryz.func90, Tryz.ntmps90
  go_wp2_with fail
  rw [← hw1]
  refine HK.out.mono ?_
  rintro e w2 ⟨rfl, G, ⟨v2, us2, hV2⟩, hk2, hG2⟩
  have hc2 : w2.cell? ⟨w.heap.size + 1 + 1 + 1, 0, none⟩ = some v2 := hV2.cell
  have HB2 := Lib.hid (B0.trans (hk2.toBelow B0.size (fun x hx e => by omega)))
  have HV2 := Lib.hid hV2
  clear hV2 hk2 hG2 hw1
  go_wp2_with fail
  go_ret
  have ho2 := HV2.out.oii
  rw [HRN.out, List.nil_append] at ho2
  exact resII_own ho2 (by omega) (Nat.le_refl _) HB2.out
set_option maxRecDepth 100000 in
set_option maxHeartbeats 4000000 in
theorem firstKeys_t (m : Mk) (hm : isMaker m = true) (bF oF cf : Nat) (fr : List Int) (hfl : (fr.length : Int) = m.c) (hf0 : ∀ i (h : i < fr.length), 0 ≤ fr[i] ∧ fr[i] < m.d) (most : Nat) (hmost : most ≤ 300) (h0 : 0 < most) (w : World) (hr : RI w (some ⟨bF, oF, none⟩) fr) :
    Calls Tryz.prog 90 #[.agg #[.int .i64 m.c, .int .i64 m.d, .int .i64 m.s, .int .i64 m.a, .int .i64 m.l], .slice (some ⟨bF, oF, none⟩) fr.length cf, .nilFunc, .int .i64 (most : Int)] w (ResII w ((keysG m allA fr m.c.toNat [] true).take most)) := by
  have B0 := ((((Below.refl w.heap.size w).alloc (Nat.le_refl _) (.cells #[.int .i64 m.c, .int .i64 m.d, .int .i64 m.s, .int .i64 m.a, .int .i64 m.l] 25)).alloc (by simp only [World.size_alloc]; omega) (.cells #[.int .i64 (most : Int)] 2)).alloc (by simp only [World.size_alloc]; omega) (.cells #[] 33)).alloc (by simp only [World.size_alloc]; omega) (.cells #[.slice (some ⟨w.heap.size + 1 + 1, 0, none⟩) 0 0] 26)
  obtain ⟨w1, hw1⟩ : ∃ w1, w1 = (((w.alloc (.cells #[.int .i64 m.c, .int .i64 m.d, .int .i64 m.s, .int .i64 m.a, .int .i64 m.l] 25)).alloc (.cells #[.int .i64 (most : Int)] 2)).alloc (.cells #[] 33)).alloc (.cells #[.slice (some ⟨w.heap.size + 1 + 1, 0, none⟩) 0 0] 26) := ⟨_, rfl⟩
  rw [← hw1] at B0
  have hz1 : w1.heap.size = w.heap.size + 4 := by rw [hw1]; simp
  have c1 : w1.cell? ⟨w.heap.size + 1, 0, none⟩ = some (.int .i64 (most : Int)) := by
    rw [hw1]
    iterate 2 rw [World.cell?_alloc_lt _ _ _ (by simp only [World.size_alloc]; omega)]
    rw [World.cell?_alloc_at (hn := by simp)]; rfl
  have c3 : w1.cell? ⟨w.heap.size + 3, 0, none⟩ = some (.slice (some ⟨w.heap.size + 1 + 1, 0, none⟩) 0 0) := by
    rw [hw1, World.cell?_alloc_at (hn := by simp)]; rfl
  have f3 : w1.frozen? ⟨w.heap.size + 3, 0, none⟩ = false := by rw [hw1, World.frozen?_alloc_at (hn := by simp)]
  have ho : OV w1 (w.heap.size + 2) 33 (.slice (some ⟨w.heap.size + 1 + 1, 0, none⟩) 0 0) [] := by
    have := (OV.new0 (w := (w.alloc (.cells #[.int .i64 m.c, .int .i64 m.d, .int .i64 m.s, .int .i64 m.a, .int .i64 m.l] 25)).alloc (.cells #[.int .i64 (most : Int)] 2)) (B := w.heap.size + 2) (e := 33) (by simp)).alloc (.cells #[.slice (some ⟨w.heap.size + 1 + 1, 0, none⟩) 0 0] 26)
    rw [hw1]; simpa using this
  have bm : BoxC w1 w.heap.size 0 [.int .i64 m.c, .int .i64 m.d, .int .i64 m.s, .int .i64 m.a, .int .i64 m.l] := by
    have : BoxC (w.alloc (.cells #[.int .i64 m.c, .int .i64 m.d, .int .i64 m.s, .int .i64 m.a, .int .i64 m.l] 25)) w.heap.size 0 [.int .i64 m.c, .int .i64 m.d, .int .i64 m.s, .int .i64 m.a, .int .i64 m.l] := by simp [BoxC, Go.World.cell?_alloc_at]
    rw [hw1]
    exact ((this.below ((Below.refl _ _).alloc (Nat.le_refl _) _)).below ((Below.refl _ _).alloc (Nat.le_refl _) _)).below ((Below.refl _ _).alloc (Nat.le_refl _) _)
  have hR : RColl (w.heap.size + 3) (w.heap.size + 2) [] w1 (fun x => x = w.heap.size + 2 ∨ x = w.heap.size + 3) :=
    ⟨_, [], rfl, ho, fun j hj => by simp at hj, fun i j u u' _ hi => by simp at hi, fun x e => by simp [Value.ownBlock] at e; omega, fun j u x hj => by simp at hj, c3, f3, .inr rfl, fun x hx => by omega, fun x hx => by omega⟩
  have hfp : 0 < fr.length := by have := (mk_bounds hm).1; omega
  have hfb : bF < w.heap.size := by
    obtain ⟨b', o', e, hc⟩ := hr.at_ hfp
    injection e with e
    injection e with e1 e2
    subst e1
    have := World.block_lt_of_cell? w _ hc
    simpa using this
  have hfrr : ∀ wr, KeepF (fun x => x = w.heap.size + 2 ∨ x = w.heap.size + 3) w1 wr → RI wr (some ⟨bF, oF, none⟩) fr := fun wr k => RV.keepF (RI.below hr B0) k (fun b o e => by injection e with e; injection e with e1 e2; omega)
  have HK := Lib.hid (eachKey_t m hm 138 #[.pointer (some ⟨w.heap.size + 3, 0, none⟩), .pointer (some ⟨w.heap.size + 1, 0, none⟩)] (visColl most) (RColl (w.heap.size + 3) (w.heap.size + 2)) (fun s => s.length < most) w1 (fun x => x = w.heap.size + 2 ∨ x = w.heap.size + 3) [] bF oF cf fr hfrr hfl hf0 (firstVisG m hm fr true _ _ _ most w1 _ c1 (by omega) hmost) hR (by simpa using h0))
  have HRN := Lib.hid (runVis_coll most (keysG m allA fr m.c.toNat [] true) [] (by simpa using h0))
  have h0' : (0 : Int) < (most : Int) := by omega
  obtain ⟨p0, p1, p2, p3, p4, _⟩ := bm
  clear hR ho hr hfrr hf0
  go_enter Tryz.func90, Tryz.ntmps90
  go_wp2_with fail
  rw [← hw1]
  refine HK.out.mono ?_
  rintro e w2 ⟨rfl, G, ⟨v2, us2, hV2⟩, hk2, hG2⟩
  have hc2 : w2.cell? ⟨w.heap.size + 1 + 1 + 1, 0, none⟩ = some v2 := hV2.cell
  have HB2 := Lib.hid (B0.trans (hk2.toBelow B0.size (fun x hx e => by omega)))
  have HV2 := Lib.hid hV2
  clear hV2 hk2 hG2 hw1
  go_wp2_with fail
  go_ret
  have ho2 := HV2.out.oii
  rw [HRN.out, List.nil_append] at ho2
  exact resII_own ho2 (by omega) (Nat.le_refl _) HB2.out
set_option maxRecDepth 100000 in
set_option maxHeartbeats 4000000 in
theorem implFirstKey_w (m : Mk) (hm : isMaker m = true) (w : World) :
    Calls Tryz.prog 36 #[.agg #[.int .i64 m.c, .int .i64 m.d, .int .i64 m.s, .int .i64 m.a, .int .i64 m.l]] w fun e w' => ∃ (B : Option Addr) (d : Nat) (ys : List Int), e = .returned (.tuple #[.slice B ys.length d, .int .i64 0]) ∧ ys.length ≤ d ∧ RI w' B ys ∧ isKey m ys = true ∧ Below w.heap.size w w' := by
  obtain ⟨w1, hw1⟩ : ∃ w1, w1 = w.alloc (.cells #[.int .i64 m.c, .int .i64 m.d, .int .i64 m.s, .int .i64 m.a, .int .i64 m.l] 25) := ⟨_, rfl⟩
  have B1 : Below w.heap.size w w1 := by rw [hw1]; exact (Below.refl _ _).alloc (Nat.le_refl _) _
  have bx : BoxC w1 w.heap.size 0 [.int .i64 m.c, .int .i64 m.d, .int .i64 m.s, .int .i64 m.a, .int .i64 m.l] := by rw [hw1]; exact BoxC.new [.int .i64 m.c, .int .i64 m.d, .int .i64 m.s, .int .i64 m.a, .int .i64 m.l] rfl
  have HBX := Lib.hid bx
  have HB1 := Lib.hid B1
  have HM := Lib.hid (by have := implIsMaker_any m w1; rw [hm] at this; exact this)
  have HF := Lib.hid (fun W => show Calls Tryz.prog 90 #[.agg #[.int .i64 m.c, .int .i64 m.d, .int .i64 m.s, .int .i64 m.a, .int .i64 m.l], .slice none 0 0, .nilFunc, .int .i64 1] W (ResII W ((keysG m allA [] m.c.toNat [] false).take 1)) from firstKeys_n m hm 1 (by omega) (by omega) W)
  obtain ⟨ls, hls⟩ : ∃ ls, ls = (keysG m allA [] m.c.toNat [] false).take 1 := ⟨_, rfl⟩
  have hl0 : 0 < ls.length := by
    rw [hls, List.length_take]
    have := allK_pos hm
    unfold allK at this
    omega
  have HKK := Lib.hid (show ∀ k (hk : k < ls.length), isKey m ls[k] = true from fun k hk => by
    have h1 : ls[k] ∈ ls := List.getElem_mem hk
    have h2 : ls[k] ∈ (keysG m allA [] m.c.toNat [] false).take 1 := by rw [← hls]; exact h1
    exact (allK_is hm).1 (List.mem_of_mem_take h2))
  rw [← hls] at HF
  clear hls bx B1
  go_enter Tryz.func36, Tryz.ntmps36
  go_wp2_with fail
  rw [← hw1]
  clear hw1
  refine HM.out.mono ?_
  rintro e w2 ⟨rfl, b2⟩
  obtain ⟨q0, q1, q2, q3, q4, _⟩ := HBX.out.below b2
  simp only [Nat.zero_add] at q1 q2 q3 q4
  have HB2 := Lib.hid (HB1.out.trans (b2.mono HB1.out.size))
  clear b2
  go_wp2_with fail
  refine (HF.out w2).mono ?_
  rintro e w3 ⟨A, c, rfl, hc, hr, ho, b3⟩
  obtain ⟨b, o, A', c', rfl, hcell, hcc, hrow⟩ := hr.at_ hl0
  have HY := Lib.hid (HKK.out 0 hl0)
  obtain ⟨ys, hys⟩ : ∃ ys, ys = ls[0] := ⟨_, rfl⟩
  rw [← hys] at hcell hcc hrow HY
  rw [Nat.add_zero] at hcell
  have HR := Lib.hid hrow; have HCC := Lib.hid hcc
  have HB3 := Lib.hid (HB2.out.trans (b3.mono HB2.out.size))
  have i1 : (0 : Int) < (ls.length : Int) := by omega
  clear ho hr hys hrow hcc b3 q0 q1 q2 q3 q4
  go_wp2_with fail
  go_ret2
  exact ⟨A', c', ys, rfl, HCC.out, HR.out, HY.out, HB3.out⟩
theorem key_cuts {m : Mk} {key : List Int} (hk : isKey m key = true) : cutsOK m key = true ∧ (key.length : Int) = m.c ∧ ∀ i (h : i < key.length), 0 ≤ key[i] ∧ key[i] < m.d := by
  have h := fault_zero_iff.1 (show fault m key = 0 by simpa [isKey] using hk)
  refine ⟨by simp [cutsOK, h.1, h.2.1], h.1, fun i hi => ?_⟩
  have := allW_at h.2.1 hi
  omega
set_option maxRecDepth 100000 in
set_option maxHeartbeats 4000000 in
theorem implNextKey_w (m : Mk) (hm : isMaker m = true) (A : Option Addr) (c : Nat) (key : List Int) (w : World) (h : RI w A key) (hk : isKey m key = true) :
    Calls Tryz.prog 39 #[.agg #[.int .i64 m.c, .int .i64 m.d, .int .i64 m.s, .int .i64 m.a, .int .i64 m.l], .slice A key.length c] w fun e w' => ∃ (B : Option Addr) (d : Nat) (ys : List Int) (k : Int), e = .returned (.tuple #[.slice B ys.length d, .int .i64 k]) ∧ ys.length ≤ d ∧ RI w' B ys ∧ (k = 0 → isKey m ys = true) ∧ Below w.heap.size w w' := by
  obtain ⟨hk1, hk2, hk3⟩ := key_cuts hk
  have hmb := (mk_bounds hm).1
  obtain ⟨bF, oF, rfl, -⟩ := h.at_ (show 0 < key.length by omega)
  obtain ⟨w1, hw1⟩ : ∃ w1, w1 = w.alloc (.cells #[.int .i64 m.c, .int .i64 m.d, .int .i64 m.s, .int .i64 m.a, .int .i64 m.l] 25) := ⟨_, rfl⟩
  have B1 : Below w.heap.size w w1 := by rw [hw1]; exact (Below.refl _ _).alloc (Nat.le_refl _) _
  have bx : BoxC w1 w.heap.size 0 [.int .i64 m.c, .int .i64 m.d, .int .i64 m.s, .int .i64 m.a, .int .i64 m.l] := by rw [hw1]; exact BoxC.new [.int .i64 m.c, .int .i64 m.d, .int .i64 m.s, .int .i64 m.a, .int .i64 m.l] rfl
  have HBX := Lib.hid bx
  have HB1 := Lib.hid B1
  have HRK := Lib.hid (RI.below h B1)
  have HM := Lib.hid (by have := implIsMaker_any m w1; rw [hm] at this; exact this)
  have HA := Lib.hid (fun W (hW : RI W (some ⟨bF, oF, none⟩) key) => by have := areCuts_any m (some ⟨bF, oF, none⟩) c key W hW hm; rw [hk1] at this; exact this)
  have HF := Lib.hid (fun W (hW : RI W (some ⟨bF, oF, none⟩) key) => show Calls Tryz.prog 90 #[.agg #[.int .i64 m.c, .int .i64 m.d, .int .i64 m.s, .int .i64 m.a, .int .i64 m.l], .slice (some ⟨bF, oF, none⟩) key.length c, .nilFunc, .int .i64 2] W (ResII W ((keysG m allA key m.c.toNat [] true).take 2)) from firstKeys_t m hm bF oF c key hk2 hk3 2 (by omega) (by omega) W hW)
  obtain ⟨ls, hls⟩ : ∃ ls, ls = (keysG m allA key m.c.toNat [] true).take 2 := ⟨_, rfl⟩
  have hl2 : ls.length ≤ 2 := by rw [hls, List.length_take]; omega
  have HKK := Lib.hid (show ∀ k (hk : k < ls.length), isKey m ls[k] = true from fun k hk => by
    have h1 : ls[k] ∈ ls := List.getElem_mem hk
    have h2 : ls[k] ∈ (keysG m allA key m.c.toNat [] true).take 2 := by rw [← hls]; exact h1
    exact keysT_key hm hk3 (List.mem_of_mem_take h2))
  rw [← hls] at HF
  clear hls bx B1 hk1 hk2 hk3 h hk hmb
  go_enter Tryz.func39, Tryz.ntmps39
  go_wp2_with fail
  rw [← hw1]
  clear hw1
  refine HM.out.mono ?_
  rintro e w2 ⟨rfl, b2⟩
  have HBX2 := Lib.hid (HBX.out.below b2)
  have HRK2 := Lib.hid (HRK.out.below b2)
  obtain ⟨q0, q1, q2, q3, q4, _⟩ := HBX2.out
  simp only [Nat.zero_add] at q1 q2 q3 q4
  have HB2 := Lib.hid (HB1.out.trans (b2.mono HB1.out.size))
  clear b2
  go_wp2_with fail
  refine (HA.out w2 HRK2.out).mono ?_
  rintro e w3 ⟨rfl, b3⟩
  clear q0 q1 q2 q3 q4
  have HRK3 := Lib.hid (HRK2.out.below b3)
  obtain ⟨q0, q1, q2, q3, q4, _⟩ := HBX2.out.below b3
  simp only [Nat.zero_add] at q1 q2 q3 q4
  have HB3 := Lib.hid (HB2.out.trans (b3.mono HB2.out.size))
  clear b3
  go_wp2_with fail
  refine (HF.out w3 HRK3.out).mono ?_
  rintro e w4 ⟨A4, c4, rfl, hc4, hr4, ho4, b4⟩
  clear q0 q1 q2 q3 q4
  have HRK4 := Lib.hid (HRK3.out.below b4)
  have HR4 := Lib.hid hr4
  have HB4 := Lib.hid (HB3.out.trans (b4.mono HB3.out.size))
  clear b4 hr4 ho4 hc4
  go_wp2_with fail
  go_loopw [7, 19] (fun _ i wr => ∃ k n : Nat, i = .int .i64 k ∧ k ≤ ls.length ∧ wr = w4.drewN n) (fun _ i _ => ls.length - (intOf i).toNat)
  case atStart => exact ⟨0, 0, rfl, by omega, rfl⟩
  case round =>
    obtain ⟨k, n, rfl, hk, rfl⟩ := hrel
    by_cases hlt : k < ls.length
    · obtain ⟨b, o, A', c', rfl, hcell, hcc, hrow⟩ := HR4.out.at_ hlt
      have HY := Lib.hid (HKK.out k hlt)
      obtain ⟨ys, hys⟩ : ∃ ys, ys = ls[k] := ⟨_, rfl⟩
      rw [← hys] at hcell hcc hrow HY
      have HR := Lib.hid hrow; have HCC := Lib.hid hcc
      have E1 := Lib.hid (fun n => sEqual_any A' (some ⟨bF, oF, none⟩) c' c ys key (w4.drewN n) HR.out HRK4.out)
      have i0 : (0 : Int) ≤ (k : Int) := by omega
      have i1 : (k : Int) < (ls.length : Int) := by omega
      clear hys hrow hcc
      cases hp : (ys == key) with
      | true =>
        rw [hp] at E1
        go_wp2_with fail
        refine (E1.out _).mono ?_
        rintro e w5 ⟨rfl, n', rfl⟩
        go_wp2_with fail
        go_roundw
        case rel => exact ⟨k + 1, _, by go_num, by omega, by first | rfl | exact World.drewN_drewN _ _ _⟩
        case measure => simp [intOf]; omega
      | false =>
        rw [hp] at E1
        go_wp2_with fail
        refine (E1.out _).mono ?_
        rintro e w5 ⟨rfl, n', rfl⟩
        go_wp2_with fail
        go_ret2
        exact ⟨A', c', ys, 0, rfl, HCC.out, HR.out, fun _ => HY.out, by first | exact belowD HB4.out _ | exact belowD (belowD HB4.out _) _⟩
    · obtain rfl : k = ls.length := by omega
      have hn1 : decide (((ls.length : Nat) : Int) < ((ls.length : Nat) : Int)) = false := by simp
      go_wp2_with fail
      go_ret2
      exact ⟨none, 0, [], 4, rfl, Nat.le_refl _, RI.nil, fun h => absurd h (by decide), belowD HB4.out _⟩
end Go.Proofs.YtdedajohkdbdkaaGreat
