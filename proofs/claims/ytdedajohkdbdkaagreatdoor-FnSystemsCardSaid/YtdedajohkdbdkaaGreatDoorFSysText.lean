/- Contracts of SystemText. -/
import Derived.Test.YtdedajohkdbdkaaGreatDoorFText
namespace Go.Proofs.YtdedajohkdbdkaaGreatDoor
set_option linter.unusedVariables false
open Go.RowKit
def str (l : List UInt8) : ByteArray := ⟨l.toArray⟩
theorem add_str (x y : List UInt8) (hx : x.length ≤ 8388608) (hy : y.length ≤ 8388608) (W : World) : (Op.stringOp .add (str x) (str y)).run Tryz.prog W = .ok (.string (str (x ++ y))) W :=
  run_string_add_lists W x y (by omega) (by omega)
def rowT (cs rs : List Int) : List UInt8 := ((txt cs ++ [32]) ++ txt rs) ++ [10]
theorem rowT_len (cs rs : List Int) : (rowT cs rs).length = cs.length + rs.length + 2 := by simp [rowT, txt]; omega
/-- the text of the first n rows -/
def sysT (t cuts : List (List Int)) (n : Nat) : List UInt8 := (List.range n).flatMap fun i => rowT (cuts.getD i []) (t.getD i [])
theorem sysT_succ (t cuts : List (List Int)) (n : Nat) : sysT t cuts (n + 1) = sysT t cuts n ++ rowT (cuts.getD n []) (t.getD n []) := by
  unfold sysT; rw [List.range_succ, List.flatMap_append]; simp
theorem sysT_len {t cuts : List (List Int)} (h : ∀ i, (rowT (cuts.getD i []) (t.getD i [])).length ≤ 40) : ∀ n, (sysT t cuts n).length ≤ 40 * n
  | 0 => by simp [sysT]
  | n + 1 => by
    rw [sysT_succ, List.length_append]
    have := sysT_len h n; have := h n; omega
def sysTextR (m : Mk) (t cuts : List (List Int)) : List UInt8 × Int := if cutsC m t cuts = 0 then (sysT t cuts t.length, 0) else ([], cutsC m t cuts)
theorem st_no {m : Mk} {t cuts : List (List Int)} (h : cutsC m t cuts ≠ 0) : ([], cutsC m t cuts) = sysTextR m t cuts := by unfold sysTextR; rw [if_neg h]
theorem st_yes {m : Mk} {t cuts : List (List Int)} (h : cutsC m t cuts = 0) : (sysT t cuts t.length, 0) = sysTextR m t cuts := by unfold sysTextR; rw [if_pos h]
def ResTC (w : World) (r : List UInt8 × Int) (e : Ending) (w' : World) : Prop := e = .returned (.tuple #[.string (str r.1), .int .i64 r.2]) ∧ Below w.heap.size w w'
theorem resTC_of {w w' : World} {r : List UInt8 × Int} {l : List UInt8} {k : Int} (h : (l, k) = r) (hb : Below w.heap.size w w') : ResTC w r (.returned (.tuple #[.string (str l), .int .i64 k])) w' := by subst h; exact ⟨rfl, hb⟩
theorem key_digs {m : Mk} {xs : List Int} (hm : isMaker m = true) (hk : isKey m xs = true) : digs xs ∧ 0 < xs.length ∧ xs.length ≤ 6 := by
  have h := fault_zero_iff.1 (show fault m xs = 0 by simpa [isKey] using hk)
  have hb := mk_bounds hm
  refine ⟨fun i hi => ?_, by omega, by omega⟩
  have := allW_at h.2.1 hi
  omega
theorem row_digs {t : List (List Int)} (ht : isTable t = true) {k : Nat} (hk : k < t.length) : digs t[k] ∧ 0 < t[k].length ∧ t[k].length ≤ 12 := by
  have h := (isTable_get ht).2.2 k hk
  refine ⟨fun i hi => ?_, by omega, by omega⟩
  have := allW_at h.2.2.2 hi
  omega
/-- what the code's 0 gives the walks -/
theorem sys_digs {m : Mk} {t cuts : List (List Int)} (h : cutsC m t cuts = 0) : t.length ≤ 10 ∧ cuts.length = t.length ∧ (∀ k (hk : k < t.length), digs t[k] ∧ 0 < t[k].length ∧ t[k].length ≤ 12) ∧ (∀ k (hk : k < cuts.length), digs cuts[k] ∧ 0 < cuts[k].length ∧ cuts[k].length ≤ 6) ∧ ∀ n, (sysT t cuts n).length ≤ 40 * n := by
  obtain ⟨h1, h2, h3⟩ := cutsC_0 h
  have hs := sys_facts h1
  unfold isSystem at h1; rw [Bool.and_eq_true, Bool.and_eq_true] at h1
  unfold areKeysF at h3; rw [List.all_eq_true] at h3
  have hc : ∀ k (hk : k < cuts.length), digs cuts[k] ∧ 0 < cuts[k].length ∧ cuts[k].length ≤ 6 := fun k hk => key_digs h1.1.1 (h3 _ (List.getElem_mem hk))
  have ht : ∀ k (hk : k < t.length), digs t[k] ∧ 0 < t[k].length ∧ t[k].length ≤ 12 := fun k hk => row_digs h1.1.2 hk
  refine ⟨hs.2.2, h2, ht, hc, sysT_len fun i => ?_⟩
  rw [rowT_len]
  have a : (cuts.getD i []).length ≤ 6 := by
    by_cases hi : i < cuts.length
    · rw [getD_row hi]; exact (hc i hi).2.2
    · simp [List.getD, List.getElem?_eq_none (show cuts.length ≤ i by omega)]
  have b : (t.getD i []).length ≤ 12 := by
    by_cases hi : i < t.length
    · rw [getD_row hi]; exact (ht i hi).2.2
    · simp [List.getD, List.getElem?_eq_none (show t.length ≤ i by omega)]
  omega
set_option maxRecDepth 100000 in
set_option maxHeartbeats 4000000 in
theorem implSystemText_any (m : Mk) (A : Option Addr) (c : Nat) (t : List (List Int)) (B : Option Addr) (d : Nat) (cuts : List (List Int)) (w : World) (h : RII w A t) (g : RII w B cuts) :
    Calls Tryz.prog 9 #[.agg #[.int .i64 m.c, .int .i64 m.d, .int .i64 m.s, .int .i64 m.a, .int .i64 m.l, .slice A t.length c], .slice B cuts.length d] w (ResTC w (sysTextR m t cuts)) := by
  have B0 := (Below.refl w.heap.size w).alloc (Nat.le_refl _) (.cells #[.int .i64 m.c, .int .i64 m.d, .int .i64 m.s, .int .i64 m.a, .int .i64 m.l, .slice A t.length c] 28)
  have bx : BoxC (w.alloc (.cells #[.int .i64 m.c, .int .i64 m.d, .int .i64 m.s, .int .i64 m.a, .int .i64 m.l, .slice A t.length c] 28)) w.heap.size 0 [.int .i64 m.c, .int .i64 m.d, .int .i64 m.s, .int .i64 m.a, .int .i64 m.l, .slice A t.length c] := by simp [BoxC, Go.World.cell?_alloc_at]
  have HCC := Lib.hid (cutsCode_any m A c t B d cuts (w.alloc (.cells #[.int .i64 m.c, .int .i64 m.d, .int .i64 m.s, .int .i64 m.a, .int .i64 m.l, .slice A t.length c] 28)) (h.below B0) (g.below B0))
  by_cases h1 : cutsC m t cuts = 0
  rotate_left
  · have HN := Lib.hid (st_no h1)
    have t1 : (cutsC m t cuts != 0) = true := by simpa using h1
    have H1 := Lib.hid h1; clear h1
    go_enter Tryz.func9, Tryz.ntmps9
    go_wp2_with fail
    refine HCC.out.mono ?_
    rintro e w1 ⟨rfl, b1⟩
    go_wp2_with fail
    go_ret2
    exact resTC_of HN.out (B0.trans (b1.mono B0.size))
  have HY := Lib.hid (st_yes h1)
  obtain ⟨ht10, hlen, hdt, hdc, hsl⟩ := sys_digs h1
  rw [h1] at HCC
  have HLEN := Lib.hid hlen; have HDT := Lib.hid hdt; have HDC := Lib.hid hdc; have HSL := Lib.hid hsl
  have hlg := g.le
  clear h1 hlen hdt hdc hsl
  have HH := Lib.hid h; have HG := Lib.hid g
  clear h g
  go_enter Tryz.func9, Tryz.ntmps9
  go_wp2_with fail
  refine HCC.out.mono ?_
  rintro e w1 ⟨rfl, b1⟩
  have B1 := B0.trans (b1.mono B0.size)
  have HB1 := Lib.hid B1
  have HBX := Lib.hid (bx.below b1)
  have hsw := B1.size
  have hbw : w.heap.size < w1.heap.size := by have := b1.size; simp at this; omega
  obtain ⟨q0, q1, q2, q3, q4, q5, _⟩ := bx.below b1
  simp only [Nat.zero_add] at q1 q2 q3 q4 q5
  clear b1 bx B0 B1
  go_wp2_with fail
  clear q0 q1 q2 q3 q4 q5
  go_loopw [7, 8, 9, 19] (fun s _ _ i wr => ∃ k : Nat, k ≤ t.length ∧ i = .int .i64 k ∧ s = .string (str (sysT t cuts k)) ∧ Below w1.heap.size w1 wr) (fun _ _ _ i _ => t.length - (intOf i).toNat)
  case atStart => exact ⟨0, by omega, rfl, rfl, Below.refl _ _⟩
  case round =>
    obtain ⟨k, hk, rfl, rfl, hb⟩ := hrel
    have HB := Lib.hid (HB1.out.trans (hb.mono HB1.out.size))
    have HBr := Lib.hid hb
    have hsz := hb.size
    clear hb
    by_cases hlt : k < t.length
    · have hkc : k < cuts.length := by rw [HLEN.out]; exact hlt
      obtain ⟨bT, oT, T', cT, rfl, hcT, hqT, hrT⟩ := (HH.out.below HB.out).at_ hlt
      obtain ⟨bK, oK, K', cK, rfl, hcK, hqK, hrK⟩ := (HG.out.below HB.out).at_ hkc
      have hrd := HDT.out k hlt
      have hkd := HDC.out k hkc
      obtain ⟨rs, hrs⟩ : ∃ x, x = t[k] := ⟨_, rfl⟩
      obtain ⟨ks, hks⟩ : ∃ x, x = cuts[k] := ⟨_, rfl⟩
      rw [← hrs] at hcT hrT hqT hrd
      rw [← hks] at hcK hrK hqK hkd
      have hso : (sysT t cuts k).length ≤ 40 * k := HSL.out k
      obtain ⟨so, hso2⟩ : ∃ s, s = str (sysT t cuts k) := ⟨_, rfl⟩
      obtain ⟨sn, hsn⟩ : ∃ s, s = str (sysT t cuts (k + 1)) := ⟨_, rfl⟩
      obtain ⟨sk, hsk⟩ : ∃ s, s = str (txt ks) := ⟨_, rfl⟩
      obtain ⟨sr, hsr⟩ : ∃ s, s = str (txt rs) := ⟨_, rfl⟩
      have hsq : sysT t cuts (k + 1) = sysT t cuts k ++ rowT ks rs := by rw [sysT_succ, getD_row hlt, getD_row hkc, hrs, hks]
      have lk := txt_len ks; have lr := txt_len rs
      have b1 := hrd.2.2; have b2 := hkd.2.2
      obtain ⟨s1, hs1⟩ : ∃ s, s = str (txt ks ++ [32]) := ⟨_, rfl⟩
      obtain ⟨s2, hs2⟩ : ∃ s, s = str ((txt ks ++ [32]) ++ txt rs) := ⟨_, rfl⟩
      obtain ⟨s3, hs3⟩ : ∃ s, s = str (rowT ks rs) := ⟨_, rfl⟩
      have a1 : ∀ W, (Op.stringOp .add sk ⟨#[32]⟩).run Tryz.prog W = .ok (.string s1) W := fun W => by rw [hsk, hs1]; exact add_str (txt ks) [32] (by omega) (by simp) W
      have a2 : ∀ W, (Op.stringOp .add s1 sr).run Tryz.prog W = .ok (.string s2) W := fun W => by rw [hs1, hsr, hs2]; exact add_str (txt ks ++ [32]) (txt rs) (by simp; omega) (by omega) W
      have a3 : ∀ W, (Op.stringOp .add s2 ⟨#[10]⟩).run Tryz.prog W = .ok (.string s3) W := fun W => by rw [hs2, hs3]; exact add_str ((txt ks ++ [32]) ++ txt rs) [10] (by simp; omega) (by simp) W
      have a4 : ∀ W, (Op.stringOp .add so s3).run Tryz.prog W = .ok (.string sn) W := fun W => by rw [hso2, hs3, hsn, hsq]; exact add_str (sysT t cuts k) (rowT ks rs) (by omega) (by rw [rowT_len]; omega) W
      have HJ := Lib.hid (fun W (hW : Below wr.heap.size wr W) => (show Calls Tryz.prog 23 #[.slice K' ks.length cK, .string ⟨#[]⟩] W fun e w' => e = .returned (.string sk) ∧ Below W.heap.size W w' by rw [hsk]; exact joined_any K' cK ks W (hrK.below hW) hkd.1 (by omega)))
      have HI := Lib.hid (fun W (hW : Below wr.heap.size wr W) => (show Calls Tryz.prog 23 #[.slice T' rs.length cT, .string ⟨#[]⟩] W fun e w' => e = .returned (.string sr) ∧ Below W.heap.size W w' by rw [hsr]; exact joined_any T' cT rs W (hrT.below hW) hrd.1 (by omega)))
      have i0 : (0 : Int) ≤ (k : Int) := by omega
      have i1 : (k : Int) < (t.length : Int) := by omega
      have i2 : (k : Int) < (cuts.length : Int) := by omega
      have HSN := Lib.hid hsn
      rw [← hso2]
      clear hrs hks hso hso2 hsn hsk hsr hsq lk lr b1 b2 hs1 hs2 hs3 hrd hkd hrT hrK hqT hqK
      go_wp2_with fail
      refine (HJ.out _ (Below.refl _ _)).mono ?_
      rintro e w2 ⟨rfl, b2⟩
      have HB2 := Lib.hid b2
      clear b2 hcK hcT
      go_wp2_with fail
      refine (HI.out _ HB2.out).mono ?_
      rintro e w3 ⟨rfl, b3⟩
      have HB3 := Lib.hid (HBr.out.trans ((HB2.out.trans (b3.mono HB2.out.size)).mono HBr.out.size))
      clear b3
      go_wp2_with fail
      go_roundw
      case rel => exact ⟨k + 1, by omega, by go_num, congrArg Value.string HSN.out, HB3.out⟩
      case measure => simp [intOf]; omega
    · obtain rfl : k = t.length := by omega
      go_wp2_with fail
      go_ret2
      exact resTC_of HY.out HB.out
set_option maxRecDepth 100000 in
set_option maxHeartbeats 4000000 in
theorem specSystemText_any (m : Mk) (A : Option Addr) (c : Nat) (t : List (List Int)) (B : Option Addr) (d : Nat) (cuts : List (List Int)) (w : World) (h : RII w A t) (g : RII w B cuts) :
    Calls Tryz.prog 10 #[.agg #[.int .i64 m.c, .int .i64 m.d, .int .i64 m.s, .int .i64 m.a, .int .i64 m.l, .slice A t.length c], .slice B cuts.length d] w (ResTC w (sysTextR m t cuts)) := by
  have B0 := (Below.refl w.heap.size w).alloc (Nat.le_refl _) (.cells #[.int .i64 m.c, .int .i64 m.d, .int .i64 m.s, .int .i64 m.a, .int .i64 m.l, .slice A t.length c] 28)
  have bx : BoxC (w.alloc (.cells #[.int .i64 m.c, .int .i64 m.d, .int .i64 m.s, .int .i64 m.a, .int .i64 m.l, .slice A t.length c] 28)) w.heap.size 0 [.int .i64 m.c, .int .i64 m.d, .int .i64 m.s, .int .i64 m.a, .int .i64 m.l, .slice A t.length c] := by simp [BoxC, Go.World.cell?_alloc_at]
  have HCC := Lib.hid (l15Code_any m A c t B d cuts (w.alloc (.cells #[.int .i64 m.c, .int .i64 m.d, .int .i64 m.s, .int .i64 m.a, .int .i64 m.l, .slice A t.length c] 28)) (h.below B0) (g.below B0))
  by_cases h1 : cutsC m t cuts = 0
  rotate_left
  · have HN := Lib.hid (st_no h1)
    have t1 : (cutsC m t cuts != 0) = true := by simpa using h1
    have H1 := Lib.hid h1; clear h1
    go_enter Tryz.func10, Tryz.ntmps10
    go_wp2_with fail
    refine HCC.out.mono ?_
    rintro e w1 ⟨rfl, b1⟩
    go_wp2_with fail
    go_ret2
    exact resTC_of HN.out (B0.trans (b1.mono B0.size))
  have HY := Lib.hid (st_yes h1)
  obtain ⟨ht10, hlen, hdt, hdc, hsl⟩ := sys_digs h1
  rw [h1] at HCC
  have HLEN := Lib.hid hlen; have HDT := Lib.hid hdt; have HDC := Lib.hid hdc; have HSL := Lib.hid hsl
  have hlg := g.le
  clear h1 hlen hdt hdc hsl
  have HH := Lib.hid h; have HG := Lib.hid g
  clear h g
  go_enter Tryz.func10, Tryz.ntmps10
  go_wp2_with fail
  refine HCC.out.mono ?_
  rintro e w1 ⟨rfl, b1⟩
  have B1 := B0.trans (b1.mono B0.size)
  have HB1 := Lib.hid B1
  have HBX := Lib.hid (bx.below b1)
  have hsw := B1.size
  have hbw : w.heap.size < w1.heap.size := by have := b1.size; simp at this; omega
  obtain ⟨q0, q1, q2, q3, q4, q5, _⟩ := bx.below b1
  simp only [Nat.zero_add] at q1 q2 q3 q4 q5
  clear b1 bx B0 B1
  go_wp2_with fail
  clear q0 q1 q2 q3 q4 q5
  go_loopw [7, 8] (fun s i wr => ∃ k : Nat, k ≤ cuts.length ∧ i = .int .i64 k ∧ s = .string (str (sysT t cuts k)) ∧ Below w1.heap.size w1 wr) (fun _ i _ => cuts.length - (intOf i).toNat)
  case atStart => exact ⟨0, by omega, rfl, rfl, Below.refl _ _⟩
  case round =>
    obtain ⟨k, hk, rfl, rfl, hb⟩ := hrel
    have HB := Lib.hid (HB1.out.trans (hb.mono HB1.out.size))
    have HBr := Lib.hid hb
    have hsz := hb.size
    clear hb
    by_cases hkc : k < cuts.length
    · have hlt : k < t.length := by have := HLEN.out; omega
      have hkt : k < 10 := by omega
      obtain ⟨bT, oT, T', cT, rfl, hcT, hqT, hrT⟩ := (HH.out.below HB.out).at_ hlt
      obtain ⟨bK, oK, K', cK, rfl, hcK, hqK, hrK⟩ := (HG.out.below HB.out).at_ hkc
      have hrd := HDT.out k hlt
      have hkd := HDC.out k hkc
      obtain ⟨rs, hrs⟩ : ∃ x, x = t[k] := ⟨_, rfl⟩
      obtain ⟨ks, hks⟩ : ∃ x, x = cuts[k] := ⟨_, rfl⟩
      rw [← hrs] at hcT hrT hqT hrd
      rw [← hks] at hcK hrK hqK hkd
      have hso : (sysT t cuts k).length ≤ 40 * k := HSL.out k
      obtain ⟨so, hso2⟩ : ∃ s, s = str (sysT t cuts k) := ⟨_, rfl⟩
      obtain ⟨sn, hsn⟩ : ∃ s, s = str (sysT t cuts (k + 1)) := ⟨_, rfl⟩
      obtain ⟨sk, hsk⟩ : ∃ s, s = str (txt ks) := ⟨_, rfl⟩
      obtain ⟨sr, hsr⟩ : ∃ s, s = str (txt rs) := ⟨_, rfl⟩
      have hsq : sysT t cuts (k + 1) = sysT t cuts k ++ rowT ks rs := by rw [sysT_succ, getD_row hlt, getD_row hkc, hrs, hks]
      have lk := txt_len ks; have lr := txt_len rs
      have b1 := hrd.2.2; have b2 := hkd.2.2
      obtain ⟨s1, hs1⟩ : ∃ s, s = str (sysT t cuts k ++ txt ks) := ⟨_, rfl⟩
      obtain ⟨s2, hs2⟩ : ∃ s, s = str ((sysT t cuts k ++ txt ks) ++ [32]) := ⟨_, rfl⟩
      obtain ⟨s3, hs3⟩ : ∃ s, s = str (((sysT t cuts k ++ txt ks) ++ [32]) ++ txt rs) := ⟨_, rfl⟩
      have a1 : ∀ W, (Op.stringOp .add so sk).run Tryz.prog W = .ok (.string s1) W := fun W => by rw [hso2, hsk, hs1]; exact add_str (sysT t cuts k) (txt ks) (by omega) (by omega) W
      have a2 : ∀ W, (Op.stringOp .add s1 ⟨#[32]⟩).run Tryz.prog W = .ok (.string s2) W := fun W => by rw [hs1, hs2]; exact add_str (sysT t cuts k ++ txt ks) [32] (by rw [List.length_append]; omega) (by simp) W
      have a3 : ∀ W, (Op.stringOp .add s2 sr).run Tryz.prog W = .ok (.string s3) W := fun W => by rw [hs2, hsr, hs3]; exact add_str ((sysT t cuts k ++ txt ks) ++ [32]) (txt rs) (by simp only [List.length_append, List.length_cons, List.length_nil]; omega) (by omega) W
      have a4 : ∀ W, (Op.stringOp .add s3 ⟨#[10]⟩).run Tryz.prog W = .ok (.string sn) W := fun W => by
        rw [hs3, hsn, hsq]
        have := add_str (((sysT t cuts k ++ txt ks) ++ [32]) ++ txt rs) [10] (by simp only [List.length_append, List.length_cons, List.length_nil]; omega) (by simp) W
        rw [show sysT t cuts k ++ rowT ks rs = (((sysT t cuts k ++ txt ks) ++ [32]) ++ txt rs) ++ [10] by unfold rowT; simp only [List.append_assoc]]
        exact this
      have HJ := Lib.hid (fun W (hW : Below wr.heap.size wr W) => (show Calls Tryz.prog 24 #[.slice K' ks.length cK] W fun e w' => e = .returned (.string sk) ∧ Below W.heap.size W w' by rw [hsk]; exact l02Text_any K' cK ks W (hrK.below hW) hkd.1 hkd.2.1 (by omega)))
      have HI := Lib.hid (fun W (hW : Below wr.heap.size wr W) => (show Calls Tryz.prog 24 #[.slice T' rs.length cT] W fun e w' => e = .returned (.string sr) ∧ Below W.heap.size W w' by rw [hsr]; exact l02Text_any T' cT rs W (hrT.below hW) hrd.1 hrd.2.1 (by omega)))
      have i0 : (0 : Int) ≤ (k : Int) := by omega
      have i1 : (k : Int) < (t.length : Int) := by omega
      have i2 : (k : Int) < (cuts.length : Int) := by omega
      have HSN := Lib.hid hsn
      rw [← hso2]
      have KS := Lib.hid (show ∀ w' : World, Below wr.heap.size wr w' → (w'.cell? ⟨w.heap.size, 5, none⟩ = some (.slice (some ⟨bT, oT, none⟩) t.length c) ∧ w'.cell? ⟨bT, oT + k, none⟩ = some (.slice T' rs.length cT) ∧ w'.cell? ⟨bK, oK + k, none⟩ = some (.slice K' ks.length cK)) from fun w' hw => by
        obtain ⟨_, _, _, _, _, z5, _⟩ := (HBX.out.below HBr.out).below hw
        exact ⟨z5, cell_in hw (World.block_lt_of_cell? _ _ hcT) hcT, cell_in hw (World.block_lt_of_cell? _ _ hcK) hcK⟩)
      clear hrs hks hso hso2 hsn hsk hsr hsq lk lr b1 b2 hs1 hs2 hs3 hrd hkd hrT hrK hqT hqK hcT hcK
      go_wp2_with fail
      refine wp_region_held_drew (S := (fun w' => (w'.cell? ⟨w.heap.size, 5, none⟩ = some (.slice (some ⟨bT, oT, none⟩) t.length c) ∧ w'.cell? ⟨bT, oT + k, none⟩ = some (.slice T' rs.length cT) ∧ w'.cell? ⟨bK, oK + k, none⟩ = some (.slice K' ks.length cK)))) (by kernel_rfl) (KS.out _ (belowDrew0 _)) (fun hHeld => ?_)
      refine takeD (i := 0) (some 21) (.string so) rfl (by kernel_rfl) (by kernel_rfl) (by kernel_rfl) (by kernel_rfl) (fun _ _ _ h => h) (by assumption) (Or.inl ⟨by rfl, fun w hSw => by (try dsimp only at hSw); go_simp⟩) ?_
      simp only [Act.put, List.setIfInBounds_toArray, List.set_cons_zero, List.set_cons_succ]
      refine takeD (i := 1) (some 22) (.slice (some ⟨bK, oK, none⟩) cuts.length d) rfl (by kernel_rfl) (by kernel_rfl) (by kernel_rfl) (by kernel_rfl) (fun _ _ _ h => h) (by assumption) (Or.inl ⟨by rfl, fun w hSw => by (try dsimp only at hSw); go_simp⟩) ?_
      simp only [Act.put, List.setIfInBounds_toArray, List.set_cons_zero, List.set_cons_succ]
      refine takeD (i := 2) (some 23) (.int .i64 (k : Int)) rfl (by kernel_rfl) (by kernel_rfl) (by kernel_rfl) (by kernel_rfl) (fun _ _ _ h => h) (by assumption) (Or.inl ⟨by rfl, fun w hSw => by (try dsimp only at hSw); go_simp⟩) ?_
      simp only [Act.put, List.setIfInBounds_toArray, List.set_cons_zero, List.set_cons_succ]
      refine takeD (i := 3) (some 24) (.pointer (some ⟨bK, oK + k, none⟩)) rfl (by kernel_rfl) (by kernel_rfl) (by kernel_rfl) (by kernel_rfl) (fun _ _ _ h => h) (by assumption) (Or.inl ⟨by rfl, fun w hSw => by (try dsimp only at hSw); go_simp⟩) ?_
      simp only [Act.put, List.setIfInBounds_toArray, List.set_cons_zero, List.set_cons_succ]
      refine takeD (i := 4) (some 25) (.slice K' ks.length cK) rfl (by kernel_rfl) (by kernel_rfl) (by kernel_rfl) (by kernel_rfl) (fun _ _ _ h => h) (by assumption) (Or.inl ⟨by rfl, fun w hSw => by (try dsimp only at hSw); go_simp⟩) ?_
      simp only [Act.put, List.setIfInBounds_toArray, List.set_cons_zero, List.set_cons_succ]
      refine takeD (i := 8) (some 29) (.pointer (some ⟨w.heap.size, 5, none⟩)) rfl (by kernel_rfl) (by kernel_rfl) (by kernel_rfl) (by kernel_rfl) (fun _ _ _ h => h) (by assumption) (Or.inl ⟨by rfl, fun w hSw => by (try dsimp only at hSw); go_simp⟩) ?_
      simp only [Act.put, List.setIfInBounds_toArray, List.set_cons_zero, List.set_cons_succ]
      refine takeD (i := 9) (some 30) (.slice (some ⟨bT, oT, none⟩) t.length c) rfl (by kernel_rfl) (by kernel_rfl) (by kernel_rfl) (by kernel_rfl) (fun _ _ _ h => h) (by assumption) (Or.inl ⟨by rfl, fun w hSw => by (try dsimp only at hSw); go_simp⟩) ?_
      simp only [Act.put, List.setIfInBounds_toArray, List.set_cons_zero, List.set_cons_succ]
      refine takeD (i := 10) (some 31) (.int .i64 (k : Int)) rfl (by kernel_rfl) (by kernel_rfl) (by kernel_rfl) (by kernel_rfl) (fun _ _ _ h => h) (by assumption) (Or.inl ⟨by rfl, fun w hSw => by (try dsimp only at hSw); go_simp⟩) ?_
      simp only [Act.put, List.setIfInBounds_toArray, List.set_cons_zero, List.set_cons_succ]
      refine takeD (i := 11) (some 32) (.pointer (some ⟨bT, oT + k, none⟩)) rfl (by kernel_rfl) (by kernel_rfl) (by kernel_rfl) (by kernel_rfl) (fun _ _ _ h => h) (by assumption) (Or.inl ⟨by rfl, fun w hSw => by (try dsimp only at hSw); go_simp⟩) ?_
      simp only [Act.put, List.setIfInBounds_toArray, List.set_cons_zero, List.set_cons_succ]
      refine takeD (i := 12) (some 33) (.slice T' rs.length cT) rfl (by kernel_rfl) (by kernel_rfl) (by kernel_rfl) (by kernel_rfl) (fun _ _ _ h => h) (by assumption) (Or.inl ⟨by rfl, fun w hSw => by (try dsimp only at hSw); go_simp⟩) ?_
      simp only [Act.put, List.setIfInBounds_toArray, List.set_cons_zero, List.set_cons_succ]
      refine wpAnyH_ready (rs := [5]) (by kernel_rfl) (by simp) (AllReadyH.cons rfl (fun K hK => ?_) AllReadyH.nil)
      go_simp
      refine (HJ.out _ (belowDrew0 _)).mono ?_
      rintro e w2 ⟨rfl, b2⟩
      have HB2 := Lib.hid (belowDrew b2)
      clear b2
      have HHeld := KS.out _ HB2.out
      refine hK.out _ _ HHeld (fun _ => ?_)
      clear hK K
      try simp only [Act.put, List.setIfInBounds_toArray, List.set_cons_zero, List.set_cons_succ]
      refine takeD (i := 6) (some 27) (.string s1) rfl (by kernel_rfl) (by kernel_rfl) (by kernel_rfl) (by kernel_rfl) (fun _ _ _ h => h) (by assumption) (Or.inl ⟨by rfl, fun w hSw => by (try dsimp only at hSw); go_simp⟩) ?_
      simp only [Act.put, List.setIfInBounds_toArray, List.set_cons_zero, List.set_cons_succ]
      refine takeD (i := 7) (some 28) (.string s2) rfl (by kernel_rfl) (by kernel_rfl) (by kernel_rfl) (by kernel_rfl) (fun _ _ _ h => h) (by assumption) (Or.inl ⟨by rfl, fun w hSw => by (try dsimp only at hSw); go_simp⟩) ?_
      simp only [Act.put, List.setIfInBounds_toArray, List.set_cons_zero, List.set_cons_succ]
      refine wpAnyH_ready (rs := [13]) (by kernel_rfl) (by simp) (AllReadyH.cons rfl (fun K hK => ?_) AllReadyH.nil)
      go_simp
      refine (HI.out _ HB2.out).mono ?_
      rintro e w3 ⟨rfl, b3⟩
      have HB3 := Lib.hid (HB2.out.trans (b3.mono HB2.out.size))
      clear b3
      have HHeld := KS.out _ HB3.out
      refine hK.out _ _ HHeld (fun _ => ?_)
      clear hK K
      try simp only [Act.put, List.setIfInBounds_toArray, List.set_cons_zero, List.set_cons_succ]
      refine takeD (i := 14) (some 35) (.string s3) rfl (by kernel_rfl) (by kernel_rfl) (by kernel_rfl) (by kernel_rfl) (fun _ _ _ h => h) (by assumption) (Or.inl ⟨by rfl, fun w hSw => by (try dsimp only at hSw); go_simp⟩) ?_
      simp only [Act.put, List.setIfInBounds_toArray, List.set_cons_zero, List.set_cons_succ]
      refine takeD (i := 15) (some 36) (.string sn) rfl (by kernel_rfl) (by kernel_rfl) (by kernel_rfl) (by kernel_rfl) (fun _ _ _ h => h) (by assumption) (Or.inl ⟨by rfl, fun w hSw => by (try dsimp only at hSw); go_simp⟩) ?_
      simp only [Act.put, List.setIfInBounds_toArray, List.set_cons_zero, List.set_cons_succ]
      refine takeD (i := 16) (some 7) (.string sn) rfl (by kernel_rfl) (by kernel_rfl) (by kernel_rfl) (by kernel_rfl) (fun _ _ _ h => h) (by assumption) (Or.inl ⟨by rfl, fun w hSw => by (try dsimp only at hSw); go_simp⟩) ?_
      simp only [Act.put, List.setIfInBounds_toArray, List.set_cons_zero, List.set_cons_succ]
      refine wpAnyH_done (by kernel_rfl) ?_ _
      clear KS
      have HB4 := Lib.hid (HBr.out.trans (HB3.out.mono HBr.out.size))
      go_wp2_with fail
      go_roundw
      case rel => exact ⟨k + 1, by omega, by go_num, congrArg Value.string HSN.out, HB4.out⟩
      case measure => simp [intOf]; omega
    · have HYC := Lib.hid (show (sysT t cuts cuts.length, 0) = sysTextR m t cuts by rw [HLEN.out]; exact HY.out)
      obtain rfl : k = cuts.length := by omega
      go_wp2_with fail
      go_ret2
      exact resTC_of HYC.out HB.out
end Go.Proofs.YtdedajohkdbdkaaGreatDoor
