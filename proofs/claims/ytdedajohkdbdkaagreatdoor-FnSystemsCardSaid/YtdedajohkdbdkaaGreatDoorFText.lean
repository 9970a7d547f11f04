/- Contracts of text, joined (of the program) and l02Text (of the reference): one digit for each number from 0 to 9. -/
import Derived.Test.YtdedajohkdbdkaaGreatDoorLayStr
import Derived.Test.YtdedajohkdbdkaaGreatDoorFCodes
import Derived.Laws.IdiomStrings
import Derived.Laws.Concat
namespace Go.Proofs.YtdedajohkdbdkaaGreatDoor
set_option linter.unusedVariables false
open Go.RowKit
/-- the digit of a number from 0 to 9 -/
def digB (x : Int) : UInt8 := UInt8.ofNat (48 + x.toNat)
def txt (xs : List Int) : List UInt8 := xs.map digB
def strV (x : Int) : Value := .string ⟨[digB x].toArray⟩
def byteV (x : Int) : Value := .int .u8 (48 + x)
/-- all numbers are digits -/
def digs (xs : List Int) : Prop := ∀ i (h : i < xs.length), 0 ≤ xs[i] ∧ xs[i] < 10
theorem txt_len (xs : List Int) : (txt xs).length = xs.length := by simp [txt]
theorem digB_nat {x : Int} (h0 : 0 ≤ x) (h1 : x < 10) : ((digB x).toNat : Int) = 48 + x := by
  unfold digB
  rw [UInt8.toNat_ofNat']
  omega
theorem digits_one {x : Int} (h0 : 0 ≤ x) (h1 : x < 10) : Lib.decDigits x.toNat = [digB x] := by
  rw [Lib.decDigits, dif_pos (by omega)]; rfl
theorem info_str : (Tryz.prog.info? 9).map (fun i => (i.zero, i.size, i.bytes)) = some (some (.string ⟨#[]⟩), 1, 16) := by kernel_rfl
theorem info_byte : (Tryz.prog.info? 5).map (fun i => (i.zero, i.size, i.bytes)) = some (some (.int .u8 0), 1, 1) := by kernel_rfl
set_option maxHeartbeats 400000 in
theorem text_any (x : Int) (h0 : 0 ≤ x) (h1 : x < 10) (w : World) :
    Calls Tryz.prog 45 #[.int .i64 x] w fun e w' => e = .returned (.string ⟨[digB x].toArray⟩) ∧ w = w' := by
  obtain ⟨n, rfl⟩ : ∃ n : Nat, x = n := ⟨x.toNat, by omega⟩
  have HF := Lib.hid (strconv_FormatInt_10_small n (by omega) w)
  have HD := Lib.hid (digits_one h0 h1)
  go_enter Tryz.func45, Tryz.ntmps45
  go_wp2_with fail
  refine HF.out.mono ?_
  rintro e w1 ⟨rfl, rfl⟩
  go_wp2_with fail
  go_ret
  refine ⟨?_, rfl⟩
  have := HD.out
  rw [Int.toNat_natCast] at this
  rw [this]; rfl
theorem join_txt (xs : List Int) : Lib.join (xs.map fun x => [digB x]) [] = txt xs := by
  unfold Lib.join txt
  induction xs with
  | nil => rfl
  | cons x r ih =>
    cases r with
    | nil => simp [List.intercalate]
    | cons y r =>
      simp only [List.map_cons, List.intercalate, List.intersperse, List.flatten_cons, List.nil_append] at ih ⊢
      rw [ih]; rfl
set_option maxRecDepth 100000 in
set_option maxHeartbeats 1000000 in
theorem joined_any (A : Option Addr) (c : Nat) (xs : List Int) (w : World) (h : RI w A xs) (hd : digs xs) (hl : xs.length ≤ 100) :
    Calls Tryz.prog 23 #[.slice A xs.length c, .string ⟨#[]⟩] w fun e w' => e = .returned (.string ⟨(txt xs).toArray⟩) ∧ Below w.heap.size w w' := by
  have hle := h.le
  have HD := Lib.hid hd
  have HR := Lib.hid h
  clear hd h
  go_enter Tryz.func23, Tryz.ntmps23
  go_wp2_with fail
  go_loopw [5, 7, 11] (fun v _ i wr => ∃ k : Nat, k ≤ xs.length ∧ i = .int .i64 k ∧ OV wr w.heap.size 9 v ((xs.take k).map strV) ∧ Below w.heap.size w wr) (fun _ _ i _ => xs.length - (intOf i).toNat)
  case atStart => exact ⟨0, by omega, rfl, by simpa using OV.new0 (w := w) (e := 9) (B := w.heap.size) (Nat.le_refl _), (Below.refl _ _).alloc (Nat.le_refl _) _⟩
  case round =>
    obtain ⟨k, hk, rfl, ho, hb⟩ := hrel
    have HB := Lib.hid hb
    have hsz := hb.size
    by_cases hlt : k < xs.length
    · obtain ⟨b, o, rfl, hc⟩ := (HR.out.below hb).at_ hlt
      have hxx := HD.out k hlt
      obtain ⟨x, hx⟩ : ∃ x, x = xs[k] := ⟨_, rfl⟩
      rw [← hx] at hc hxx
      obtain ⟨s, hs⟩ : ∃ s : ByteArray, s = ⟨[digB x].toArray⟩ := ⟨_, rfl⟩
      have ht := text_any x hxx.1 hxx.2 wr
      rw [← hs] at ht
      have HT := Lib.hid ht
      have HS := Lib.hid (show (xs.take k).map strV ++ [.string s] = (xs.take (k + 1)).map strV by rw [List.take_succ_eq_append_getElem hlt, List.map_append, hs, hx]; rfl)
      have i0 : (0 : Int) ≤ (k : Int) := by omega
      have i1 : (k : Int) < (xs.length : Int) := by omega
      have hul : ((xs.take k).map strV).length ≤ 100 := by simp; omega
      have HO := Lib.hid ho
      clear hx hxx ho ht hs
      go_wp2_with fail
      refine HT.out.mono ?_
      rintro e w1 ⟨rfl, rfl⟩
      go_wp2_with (at_builtin; refine wpList_app1 _ rfl _ _ _ rfl w.heap.size 9 _ 16 Tryz.underlying72 info_str rfl (by omega) _ _ rfl (HO.out.alloc _) _ _ rfl (one_cell _ _ _) rfl (by omega) (by simp; omega) ?_; intro v' w9 ho9 hg9 hn9 hat9)
      rw [HS.out] at ho9
      have hb9 := (HO.out.alloc (.cells #[.string s] 9)).own (Nat.le_refl _) (HB.out.alloc HB.out.size (.cells #[.string s] 9)) hg9 (by simp; omega)
      have HO9 := Lib.hid ho9; have HB9 := Lib.hid hb9
      clear ho9 hg9 hn9 hat9 hb9
      go_roundw
      case rel => exact ⟨k + 1, by omega, by go_num, HO9.out, HB9.out⟩
      case measure => simp [intOf]; omega
    · obtain rfl : k = xs.length := by omega
      rw [List.take_length] at ho
      obtain ⟨B, d, rfl, hc, hr⟩ := ho.reads
      rw [List.length_map] at hc ⊢
      by_cases h0 : xs.length = 0
      · have hx0 : xs = [] := List.length_eq_zero_iff.1 h0
        subst hx0
        have HJ := Lib.hid (strings_Join_none B d ⟨#[]⟩ wr)
        clear hr ho hc
        go_wp2_with fail
        refine HJ.out.mono ?_
        rintro e w1 ⟨rfl, rfl⟩
        go_wp2_with fail
        go_ret
        exact ⟨rfl, HB.out⟩
      · obtain ⟨g, o, rfl, hcell⟩ := hr.2 (by intro e; exact h0 (by simpa using congrArg List.length e))
        have hcc : ∀ (j : Nat) (x : ByteArray), (xs.map fun x => (⟨[digB x].toArray⟩ : ByteArray))[j]? = some x → wr.cell? ⟨g, o + j, none⟩ = some (.string x) := fun j x hj => by
          refine hcell j _ ?_
          rw [List.getElem?_map] at hj ⊢
          cases hq : xs[j]? with
          | none => rw [hq] at hj; cases hj
          | some y => rw [hq] at hj; injection hj with hj; subst hj; rfl
        have hgb : g < wr.heap.size := by
          have h1 := hcell 0 (strV xs[0]) (by rw [List.getElem?_map, List.getElem?_eq_getElem (by omega)]; rfl)
          have := World.block_lt_of_cell? wr _ h1
          simpa using this
        have hJ0 : Lib.join ((xs.map fun x => (⟨[digB x].toArray⟩ : ByteArray)).map (·.data.toList)) (ByteArray.mk #[]).data.toList = txt xs := by
          rw [List.map_map]
          exact (congrArg (fun l => Lib.join l []) (List.map_congr_left fun x _ => rfl)).trans (join_txt xs)
        have hJ := strings_Join g o d (xs.map fun x => (⟨[digB x].toArray⟩ : ByteArray)) ⟨#[]⟩ wr hcc hgb (by simp; omega) (by simpa using hc) (by rw [hJ0, txt_len]; omega)
        rw [List.length_map, hJ0] at hJ
        have HJ := Lib.hid hJ
        clear hJ hJ0 hcc hgb hcell hr hc ho
        go_wp2_with fail
        refine HJ.out.mono ?_
        rintro e w1 ⟨rfl, hb1⟩
        have HB1 := Lib.hid (HB.out.trans (hb1.mono HB.out.size))
        go_wp2_with fail
        go_ret
        exact ⟨rfl, HB1.out⟩
set_option maxRecDepth 100000 in
set_option maxHeartbeats 1000000 in
theorem l02Text_any (A : Option Addr) (c : Nat) (xs : List Int) (w : World) (h : RI w A xs) (hd : digs xs) (h1 : 0 < xs.length) (hl : xs.length ≤ 100) :
    Calls Tryz.prog 24 #[.slice A xs.length c] w fun e w' => e = .returned (.string ⟨(txt xs).toArray⟩) ∧ Below w.heap.size w w' := by
  have hle := h.le
  have HD := Lib.hid hd
  have HR := Lib.hid h
  clear hd h
  go_enter Tryz.func24, Tryz.ntmps24
  go_wp2_with fail
  go_loopw [3, 4] (fun v i wr => ∃ k : Nat, k ≤ xs.length ∧ i = .int .i64 k ∧ OV wr w.heap.size 5 v ((xs.take k).map byteV) ∧ Below w.heap.size w wr) (fun _ i _ => xs.length - (intOf i).toNat)
  case atStart => exact ⟨0, by omega, rfl, by simpa using OV.new0 (w := w) (e := 5) (B := w.heap.size) (Nat.le_refl _), (Below.refl _ _).alloc (Nat.le_refl _) _⟩
  case round =>
    obtain ⟨k, hk, rfl, ho, hb⟩ := hrel
    have HB := Lib.hid hb
    have hsz := hb.size
    by_cases hlt : k < xs.length
    · obtain ⟨b, o, rfl, hc⟩ := (HR.out.below hb).at_ hlt
      have hxx := HD.out k hlt
      obtain ⟨x, hx⟩ : ∃ x, x = xs[k] := ⟨_, rfl⟩
      rw [← hx] at hc hxx
      have hx0 := hxx.1
      have hx1 := hxx.2
      have HS := Lib.hid (show (xs.take k).map byteV ++ [.int .u8 (48 + x)] = (xs.take (k + 1)).map byteV by rw [List.take_succ_eq_append_getElem hlt, List.map_append, hx]; rfl)
      have i0 : (0 : Int) ≤ (k : Int) := by omega
      have i1 : (k : Int) < (xs.length : Int) := by omega
      have hul : ((xs.take k).map byteV).length ≤ 100 := by simp; omega
      have HO := Lib.hid ho
      clear hx hxx ho
      go_wp2_with (at_builtin; refine wpList_app1 _ rfl _ _ _ rfl w.heap.size 5 _ 1 Tryz.underlying22 info_byte rfl (by omega) _ _ rfl (HO.out.alloc _) _ _ rfl (one_cell _ _ _) rfl (by omega) (by simp; omega) ?_; intro v' w9 ho9 hg9 hn9 hat9)
      rw [HS.out] at ho9
      have hb9 := (HO.out.alloc _).own (Nat.le_refl _) (HB.out.alloc HB.out.size _) hg9 (by simp; omega)
      have HO9 := Lib.hid ho9; have HB9 := Lib.hid hb9
      clear ho9 hg9 hn9 hat9 hb9
      go_roundw
      case rel => exact ⟨k + 1, by omega, by go_num, HO9.out, HB9.out⟩
      case measure => simp [intOf]; omega
    · obtain rfl : k = xs.length := by omega
      rw [List.take_length] at ho
      obtain ⟨B, d, rfl, hc, hr⟩ := ho.reads
      rw [List.length_map] at hc ⊢
      obtain ⟨g, o, rfl, hcell⟩ := hr.2 (fun e => by have := congrArg List.length e; rw [List.length_map, List.length_nil] at this; omega)
      have hcv : (convert 22 9 (.slice (some ⟨g, o, none⟩) xs.length d)).run Tryz.prog wr = .ok (.string ⟨(txt xs).toArray⟩) wr := by
        have := run_convert_bytes_back (P := Tryz.prog) wr 22 9 5 ⟨g, o, none⟩ d (txt xs) Tryz.underlying22 Tryz.underlying5 Tryz.underlying9 (fun j hj => by
          rw [txt_len] at hj
          have h2 := hcell j (byteV xs[j]) (by rw [List.getElem?_map, List.getElem?_eq_getElem hj]; rfl)
          have h3 := HD.out j hj
          have e : (txt xs)[j]'(by rw [txt_len]; exact hj) = digB xs[j] := by simp [txt]
          rw [e, digB_nat h3.1 h3.2, show (⟨g, o, none⟩ : Addr).add j = ⟨g, o + j, none⟩ by first | rfl | simp [Addr.add] | (simp [Addr.add]; omega)]
          exact h2)
        rw [txt_len] at this
        exact this
      clear hr hcell hc ho
      go_wp2_with fail
      go_ret
      exact ⟨rfl, HB.out⟩
end Go.Proofs.YtdedajohkdbdkaaGreatDoor
