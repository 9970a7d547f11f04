/- Contracts of MasterKeys. -/
import Derived.Test.YtlpkcjnifbdfdaaFTable
namespace Go.Proofs.Ytlpkcjnifbdfdaa
set_option linter.unusedVariables false
open Go.RowKit
/-- the numbers of the rows that p keeps -/
def selF (p : List Int → Bool) (t : List (List Int)) : List Int := (t.zipIdx.filter fun x => p x.1).map fun x => (x.2 : Int)
theorem selF_succ (p : List Int → Bool) (t : List (List Int)) (k : Nat) (h : k < t.length) : selF p (t.take (k + 1)) = selF p (t.take k) ++ if p t[k] then [(k : Int)] else [] := by
  have hl : (t.take k).length = k := by simp; omega
  unfold selF
  rw [List.take_succ_eq_append_getElem h, List.zipIdx_append, List.filter_append, List.map_append, hl]
  cases hp : p t[k] <;> simp [hp]
theorem selF_len (p : List Int → Bool) (t : List (List Int)) : (selF p t).length ≤ t.length := by
  unfold selF
  rw [List.length_map]
  exact Nat.le_trans (List.length_filter_le _ _) (by simp)
def masterKeys (t : List (List Int)) : List Int × Int := if isTable t then (selF (fun r => !hasI r 0) t, 0) else ([], 1)
set_option maxHeartbeats 2000000 in
theorem specMaster_any (A : Option Addr) (c : Nat) (t : List (List Int)) (w : World) (h : RII w A t) :
    Calls Try.prog 27 #[.slice A t.length c] w (ResIC w (masterKeys t)) := by
  have HB := Lib.hid (Below.refl w.heap.size w)
  cases h1 : isTable t with
  | false =>
    have HR := Lib.hid (show ([], 1) = masterKeys t by simp [masterKeys, h1])
    go_enter Try.func27, Try.ntmps27
    go_wp2_with (go_at_call 66; refine (specIsTable_any _ _ _ _ h).mono ?_; rintro e w1 ⟨rfl, n1, rfl⟩)
    go_ret2
    exact resIC_nil HR.out (belowD HB.out _)
  | true =>
    have hT := isTable_get h1
    have hT1 := hT.1; have hT2 := hT.2.1
    have HR := Lib.hid (show (selF (fun r => !hasI r 0) t, 0) = masterKeys t by simp [masterKeys, h1])
    clear hT
    go_enter Try.func27, Try.ntmps27
    go_wp2_with (go_at_call 66; refine (specIsTable_any _ _ _ _ h).mono ?_; rintro e w1 ⟨rfl, n1, rfl⟩)
    go_loopw [4, 5] (fun v i wr => ∃ k : Nat, k ≤ t.length ∧ i = .int .i64 k ∧ OV wr w.heap.size 2 v (ints (selF (fun r => !hasI r 0) (t.take k))) ∧ Below w.heap.size w wr)
      (fun _ i _ => t.length - (intOf i).toNat)
    case atStart => exact ⟨0, by omega, rfl, OV.new0 (w := w.drewN n1) (Nat.le_refl _), (belowD HB.out n1).alloc (Nat.le_refl _) _⟩
    case round =>
      obtain ⟨k, hk, rfl, ho, hb⟩ := hrel
      have hsz := hb.size
      by_cases hlt : k < t.length
      · obtain ⟨b, o, A', c', rfl, hc, hcc, hr⟩ := (h.below hb).at_ hlt
        have hs := Lib.hid (selF_succ (fun r => !hasI r 0) t k hlt)
        have HL := Lib.hid (selF_len (fun r => !hasI r 0) (t.take k))
        cases hp : hasI t[k] 0 with
        | true =>
          go_wp2_with (go_at_call 67; refine (l01Has_any _ _ _ _ _ hr).mono ?_; rintro e w' ⟨rfl, rfl⟩)
          go_roundw
          case rel => exact ⟨k + 1, by omega, by go_num, by rw [hs.out, hp]; simpa using ho, hb⟩
          case measure => simp [intOf]; omega
        | false =>
          go_wp2_with (first
            | (go_at_call 67; refine (l01Has_any _ _ _ _ _ hr).mono ?_; rintro e w' ⟨rfl, rfl⟩)
            | (at_builtin; refine wpList_app1 _ rfl _ _ _ rfl w.heap.size 2 _ 8 Try.underlying22 info_int rfl (by omega) _ _ rfl (ho.alloc _) _ _ rfl (one_cell _ _ _) rfl (by rw [ints_length]; have := HL.out; simp at this; omega) (by simp; omega) ?_; intro v' w3 ho3 hg3 hn3 hat3))
          go_roundw
          case rel => exact ⟨k + 1, by omega, by go_num, by rw [hs.out, hp, ints_append]; exact ho3, (ho.alloc _).own (Nat.le_refl _) (hb.alloc (by omega) _) hg3 (by simp; omega)⟩
          case measure => simp [intOf]; omega
      · obtain rfl : k = t.length := by omega
        rw [List.take_length] at ho
        go_wp2_with fail
        go_ret2
        exact resIC_own HR.out ho (Nat.le_refl _) hb
set_option maxHeartbeats 2000000 in
theorem implMaster_any (A : Option Addr) (c : Nat) (t : List (List Int)) (w : World) (h : RII w A t) :
    Calls Try.prog 29 #[.slice A t.length c] w (ResIC w (masterKeys t)) := by
  have HB := Lib.hid (Below.refl w.heap.size w)
  have CT := fun W (h : RII W A t) => tableCode_any A none c 0 t [] W h RI.nil
  simp only [List.length_nil] at CT
  have HCT := Lib.hid CT; clear CT
  cases h1 : isTable t with
  | false =>
    have hc1 : tableCode t [] = 1 := by simp [tableCode, h1]
    have HR := Lib.hid (show ([], 1) = masterKeys t by simp [masterKeys, h1])
    go_enter Try.func29, Try.ntmps29
    go_wp2_with (go_at_call 68; refine (HCT.out _ h).mono ?_; rintro e w1 ⟨rfl, rfl⟩)
    go_ret2
    exact resIC_nil HR.out HB.out
  | true =>
    have hc1 : tableCode t [] = 0 := by simp [tableCode, h1, allW]
    have hT := isTable_get h1
    have hT1 := hT.1; have hT2 := hT.2.1
    have HR := Lib.hid (show (selF (fun r => !hasI r 0) t, 0) = masterKeys t by simp [masterKeys, h1])
    clear hT
    go_enter Try.func29, Try.ntmps29
    go_wp2_with (go_at_call 68; refine (HCT.out _ h).mono ?_; rintro e w1 ⟨rfl, rfl⟩)
    go_loopw [5, 16] (fun v i wr => ∃ k : Nat, k ≤ t.length ∧ i = .int .i64 k ∧ OV wr w.heap.size 2 v (ints (selF (fun r => !hasI r 0) (t.take k))) ∧ Below w.heap.size w wr)
      (fun _ i _ => t.length - (intOf i).toNat)
    case atStart => exact ⟨0, by omega, rfl, OV.new0 (w := w) (Nat.le_refl _), HB.out.alloc (Nat.le_refl _) _⟩
    case round =>
      obtain ⟨k, hk, rfl, ho, hb⟩ := hrel
      have hsz := hb.size
      by_cases hlt : k < t.length
      · obtain ⟨b, o, A', c', rfl, hc, hcc, hr⟩ := (h.below hb).at_ hlt
        have hs := Lib.hid (selF_succ (fun r => !hasI r 0) t k hlt)
        have HL := Lib.hid (selF_len (fun r => !hasI r 0) (t.take k))
        cases hp : hasI t[k] 0 with
        | true =>
          go_wp2_with (go_at_call 69; refine (sContains_any _ _ _ _ _ hr).mono ?_; rintro e w' ⟨rfl, rfl⟩)
          go_roundw
          case rel => exact ⟨k + 1, by omega, by go_num, by rw [hs.out, hp]; simpa using ho, hb⟩
          case measure => simp [intOf]; omega
        | false =>
          go_wp2_with (first
            | (go_at_call 69; refine (sContains_any _ _ _ _ _ hr).mono ?_; rintro e w' ⟨rfl, rfl⟩)
            | (at_builtin; refine wpList_app1 _ rfl _ _ _ rfl w.heap.size 2 _ 8 Try.underlying22 info_int rfl (by omega) _ _ rfl (ho.alloc _) _ _ rfl (one_cell _ _ _) rfl (by rw [ints_length]; have := HL.out; simp at this; omega) (by simp; omega) ?_; intro v' w3 ho3 hg3 hn3 hat3))
          go_roundw
          case rel => exact ⟨k + 1, by omega, by go_num, by rw [hs.out, hp, ints_append]; exact ho3, (ho.alloc _).own (Nat.le_refl _) (hb.alloc (by omega) _) hg3 (by simp; omega)⟩
          case measure => simp [intOf]; omega
      · obtain rfl : k = t.length := by omega
        rw [List.take_length] at ho
        go_wp2_with fail
        go_ret2
        exact resIC_own HR.out ho (Nat.le_refl _) hb
end Go.Proofs.Ytlpkcjnifbdfdaa
