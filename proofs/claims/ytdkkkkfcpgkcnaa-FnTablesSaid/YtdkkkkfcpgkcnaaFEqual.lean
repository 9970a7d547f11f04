/- Contracts of EqualRows. -/
import Derived.Test.YtdkkkkfcpgkcnaaFTable
namespace Go.Proofs.Ytdkkkkfcpgkcnaa
set_option linter.unusedVariables false
open Go.RowKit
/-- the number of the first element that p keeps, or -1 -/
def findI {α : Type} (p : α → Bool) (t : List α) : Int := if t.any p then (t.findIdx p : Int) else -1
theorem findI_hit {α : Type} {p : α → Bool} {t : List α} {k : Nat} (h : k < t.length) (hk : p t[k] = true) (hn : ∀ j (hj : j < k), p (t[j]'(by omega)) = false) : findI p t = k := by
  unfold findI
  rw [if_pos (List.any_eq_true.2 ⟨_, List.getElem_mem h, hk⟩)]
  have : t.findIdx p = k := by
    rw [List.findIdx_eq h]
    exact ⟨hk, fun j hj => by rw [hn j hj]⟩
  rw [this]
theorem findI_none {α : Type} {p : α → Bool} {t : List α} (hn : ∀ j (hj : j < t.length), p t[j] = false) : findI p t = -1 := by
  unfold findI
  rw [if_neg]
  intro h
  obtain ⟨x, hx, hp⟩ := List.any_eq_true.1 h
  obtain ⟨j, hj, rfl⟩ := List.getElem_of_mem hx
  rw [hn j hj] at hp; cases hp
def eqRowsF (t s : List (List Int)) : List Int := s.map fun r => findI (fun x => x == r) t
def equalRows (t : List (List Int)) : List Int × Int := if isTable t then (eqRowsF t t, 0) else ([], 1)
theorem eqRowsF_succ (t s : List (List Int)) (k : Nat) (h : k < s.length) : ints (eqRowsF t (s.take (k + 1))) = ints (eqRowsF t (s.take k)) ++ [.int .i64 (findI (fun x => x == s[k]) t)] := by
  rw [List.take_succ_eq_append_getElem h]; simp only [eqRowsF, ints, List.map_append, List.map_cons, List.map_nil]
theorem eqRowsF_len (t s : List (List Int)) : (ints (eqRowsF t s)).length = s.length := by simp [ints, eqRowsF]
set_option maxHeartbeats 400000 in
theorem eqRowClo (A A1 : Option Addr) (c c1 g : Nat) (xs row : List Int) (w : World) (h : RI w A xs) (hc : w.cell? ⟨g, 0, none⟩ = some (.slice A1 row.length c1)) (hr : RI w A1 row) :
    Calls Try.prog 104 #[.slice A xs.length c, .pointer (some ⟨g, 0, none⟩)] w fun e w' => e = .returned (.bool (xs == row)) ∧ ∃ n, w' = w.drewN n := by
  have hb : (row == xs) = (xs == row) := by rw [Bool.eq_iff_iff, beq_iff_eq, beq_iff_eq]; exact eq_comm
  have HB := Lib.hid hb; clear hb
  go_enter Try.func104, Try.ntmps104
  go_wp2_with (go_at_call 105; refine (sEqual_any _ _ _ _ _ _ _ hr h).mono ?_; rintro e w' ⟨rfl, n, rfl⟩)
  go_ret
  exact ⟨retB HB.out, _, rfl⟩
set_option maxHeartbeats 1000000 in
theorem eqRowIdx (A A1 : Option Addr) (c c1 g : Nat) (t : List (List Int)) (row : List Int) (w : World) (h : RII w A t) (hc : w.cell? ⟨g, 0, none⟩ = some (.slice A1 row.length c1)) (hr : RI w A1 row) :
    Calls Try.prog 103 #[.slice A t.length c, .func (.func 104) #[] #[.pointer (some ⟨g, 0, none⟩)]] w fun e w' => e = .returned (.int .i64 (findI (fun x => x == row) t)) ∧ ∃ n, w' = w.drewN n := by
  have hle := h.le
  go_enter Try.func103, Try.ntmps103
  go_wp2_with fail
  go_loopw [8] (fun i wr => ∃ k n : Nat, k ≤ t.length ∧ i = .int .i64 k ∧ wr = w.drewN n ∧ ∀ j (hj : j < k) (hl : j < t.length), (t[j] == row) = false) (fun i _ => t.length - (intOf i).toNat)
  case atStart => exact ⟨0, 0, by omega, rfl, rfl, fun j hj => by omega⟩
  case round =>
    obtain ⟨k, n, hk, rfl, rfl, hrel⟩ := hrel
    have Hrel := Lib.hid hrel; clear hrel
    by_cases hlt : k < t.length
    · obtain ⟨b, o, A', c', rfl, hcell, hcc, hr'⟩ := h.at_ hlt
      cases hp : (t[k] == row) with
      | true =>
        have HF := Lib.hid (findI_hit (p := fun x => x == row) hlt hp (fun j hj => Hrel.out j hj (by omega)))
        go_wp2_with (go_at_call 104; refine (eqRowClo _ _ _ _ _ _ _ _ (hr'.drewN _) hc (hr.drewN _)).mono ?_; rintro e w' ⟨rfl, m, rfl⟩)
        go_ret
        exact ⟨retI HF.out.symm, by first | exact ⟨_, rfl⟩ | exact drewEx⟩
      | false =>
        go_wp2_with (go_at_call 104; refine (eqRowClo _ _ _ _ _ _ _ _ (hr'.drewN _) hc (hr.drewN _)).mono ?_; rintro e w' ⟨rfl, m, rfl⟩)
        go_roundw
        case rel => exact ⟨k + 1, _, by omega, by go_num, by first | rfl | exact World.drewN_drewN _ _ _, fun j hj hl => by
          by_cases e : j = k
          · subst e; exact hp
          · exact Hrel.out j (by omega) hl⟩
        case measure => simp [intOf]; omega
    · obtain rfl : k = t.length := by omega
      have HF := Lib.hid (findI_none (p := fun x => x == row) (fun j hj => Hrel.out j hj hj))
      go_wp2_with fail
      go_ret
      exact ⟨retI HF.out.symm, _, rfl⟩
set_option maxRecDepth 100000 in
set_option maxHeartbeats 2000000 in
theorem implEqual_any (A : Option Addr) (c : Nat) (t : List (List Int)) (w : World) (h : RII w A t) :
    Calls Try.prog 30 #[.slice A t.length c] w (ResIC w (equalRows t)) := by
  have HB := Lib.hid (Below.refl w.heap.size w)
  have CT := fun W (h : RII W A t) => tableCode_any A none c 0 t [] W h RI.nil
  simp only [List.length_nil] at CT
  have HCT := Lib.hid CT; clear CT
  cases h1 : isTable t with
  | false =>
    have hc1 : tableCode t [] = 1 := by simp [tableCode, h1]
    have HR := Lib.hid (show ([], 1) = equalRows t by simp [equalRows, h1])
    go_enter Try.func30, Try.ntmps30
    go_wp2_with (go_at_call 93; refine (HCT.out _ h).mono ?_; rintro e w1 ⟨rfl, rfl⟩)
    go_ret2
    exact resIC_nil HR.out HB.out
  | true =>
    have hc1 : tableCode t [] = 0 := by simp [tableCode, h1, allW]
    have hT := isTable_get h1
    have hT1 := hT.1; have hT2 := hT.2.1
    have HR := Lib.hid (show (eqRowsF t t, 0) = equalRows t by simp [equalRows, h1])
    clear hT
    go_enter Try.func30, Try.ntmps30
    go_wp2_with (go_at_call 93; refine (HCT.out _ h).mono ?_; rintro e w1 ⟨rfl, rfl⟩)
    go_loopw [5, 16] (fun v i wr => ∃ k : Nat, k ≤ t.length ∧ i = .int .i64 k ∧ OV wr w.heap.size 2 v (ints (eqRowsF t (t.take k))) ∧ Below w.heap.size w wr)
      (fun _ i _ => t.length - (intOf i).toNat)
    case atStart => exact ⟨0, by omega, rfl, OV.new0 (w := w) (Nat.le_refl _), HB.out.alloc (Nat.le_refl _) _⟩
    case round =>
      obtain ⟨k, hk, rfl, ho, hb⟩ := hrel
      have hsz := hb.size
      by_cases hlt : k < t.length
      · obtain ⟨b, o, A', c', rfl, hc, hcc, hr⟩ := (h.below hb).at_ hlt
        have hs := Lib.hid (eqRowsF_succ t t k hlt)
        have HL := Lib.hid (eqRowsF_len t (t.take k))
        have HR2 := Lib.hid (h.below hb); have HR1 := Lib.hid hr; have HO := Lib.hid ho; have HBB := Lib.hid hb
        go_wp2_with fail
        refine (eqRowIdx _ _ _ _ _ _ _ _ (HR2.out.alloc _) (one_cell _ _ _) (HR1.out.alloc _)).mono ?_
        rintro e w' ⟨rfl, n, rfl⟩
        go_wp2_with (first
          | (at_builtin; refine wpList_app1 _ rfl _ _ _ rfl w.heap.size 2 _ 8 Try.underlying30 info_int rfl (by omega) _ _ rfl (((ho.alloc _).drewN _).alloc _) _ _ rfl (one_cell' (by simp)) rfl (by rw [HL.out]; simp; omega) (by simp; omega) ?_; intro v' w3 ho3 hg3 hn3 hat3))
        go_roundw
        case rel => exact ⟨k + 1, by omega, by go_num, by rw [hs.out]; exact ho3, (((ho.alloc _).drewN _).alloc _).own (Nat.le_refl _) ((belowD (hb.alloc (by omega) _) _).alloc (by simp; omega) _) hg3 (by simp; omega)⟩
        case measure => simp [intOf]; omega
      · obtain rfl : k = t.length := by omega
        rw [List.take_length] at ho
        go_wp2_with fail
        go_ret2
        exact resIC_own HR.out ho (Nat.le_refl _) hb
set_option maxHeartbeats 2000000 in
theorem specEqual_any (A : Option Addr) (c : Nat) (t : List (List Int)) (w : World) (h : RII w A t) :
    Calls Try.prog 31 #[.slice A t.length c] w (ResIC w (equalRows t)) := by
  have HB := Lib.hid (Below.refl w.heap.size w)
  cases h1 : isTable t with
  | false =>
    have HR := Lib.hid (show ([], 1) = equalRows t by simp [equalRows, h1])
    go_enter Try.func31, Try.ntmps31
    go_wp2_with (go_at_call 96; refine (specIsTable_any _ _ _ _ h).mono ?_; rintro e w1 ⟨rfl, n1, rfl⟩)
    go_ret2
    exact resIC_nil HR.out (belowD HB.out _)
  | true =>
    have hT := isTable_get h1
    have hT1 := hT.1; have hT2 := hT.2.1
    have HR := Lib.hid (show (eqRowsF t t, 0) = equalRows t by simp [equalRows, h1])
    clear hT
    go_enter Try.func31, Try.ntmps31
    go_wp2_with (go_at_call 96; refine (specIsTable_any _ _ _ _ h).mono ?_; rintro e w1 ⟨rfl, n1, rfl⟩)
    go_loopw [4, 5, 6] (fun v i _ wr => ∃ k : Nat, k ≤ t.length ∧ i = .int .i64 k ∧ OV wr w.heap.size 2 v (ints (eqRowsF t (t.take k))) ∧ Below w.heap.size w wr)
      (fun _ i _ _ => t.length - (intOf i).toNat)
    case atStart => exact ⟨0, by omega, rfl, OV.new0 (w := w.drewN n1) (Nat.le_refl _), (belowD HB.out n1).alloc (Nat.le_refl _) _⟩
    case round =>
      obtain ⟨k, hk, rfl, ho, hb⟩ := hrel
      have hsz := hb.size
      by_cases hlt : k < t.length
      · have hs := Lib.hid (eqRowsF_succ t t k hlt)
        have HL := Lib.hid (eqRowsF_len t (t.take k))
        have HR2 := Lib.hid (h.below hb)
        obtain ⟨wo, rfl⟩ : ∃ wo : World, wo = wr := ⟨_, rfl⟩
        go_wp2_with fail
        go_loopw [6] (fun i wx => ∃ j n : Nat, j ≤ k ∧ i = .int .i64 j ∧ wx = wo.drewN n ∧ ∀ q (hq : q < j) (hl : q < t.length), (t[q] == t[k]) = false) (fun i _ => k - (intOf i).toNat)
        case atStart => exact ⟨0, 0, by omega, rfl, rfl, fun j hj => by omega⟩
        case round =>
          obtain ⟨j, n, hj, rfl, rfl, hrel⟩ := hrel
          have Hrel := Lib.hid hrel; clear hrel
          have hjt : j < t.length := by omega
          obtain ⟨b, o, A1, c1, A2, c2, rfl, hc1, hcc1, hr1, hc2, hcc2, hr2⟩ := HR2.out.at2 hjt hlt
          have i0 : (0 : Int) ≤ (k : Int) := by omega
          have i1 : (k : Int) < (t.length : Int) := by omega
          have i2 : (0 : Int) ≤ (j : Int) := by omega
          have i3 : (j : Int) < (t.length : Int) := by omega
          cases hp : (t[j] == t[k]) with
          | true =>
            have HF := Lib.hid (findI_hit (p := fun x => x == t[k]) hjt hp (fun q hq => Hrel.out q hq (by omega)))
            go_wp2_with fail
            go_quiet ((go_at_call 106; first | exact quietQA (l01Same_any _ _ _ _ _ _ _ (hr1.drewN _) (hr2.drewN _)) | exact quietQ (l01Same_any _ _ _ _ _ _ _ (hr1.drewN _) (hr2.drewN _))))
            go_wp2_with (at_builtin; refine wpList_app1 _ rfl _ _ _ rfl w.heap.size 2 _ 8 Try.underlying30 info_int rfl (by omega) _ _ rfl ((ho.drewN _).alloc _) _ _ rfl (one_cell _ _ _) rfl (by rw [HL.out]; simp; omega) (by simp; omega) ?_; intro v' w3 ho3 hg3 hn3 hat3)
            go_roundw
            case rel => exact ⟨k + 1, by omega, by go_num, by rw [hs.out, HF.out]; exact ho3, ((ho.drewN _).alloc _).own (Nat.le_refl _) ((belowD hb _).alloc (by simp; omega) _) hg3 (by simp; omega)⟩
            case measure => simp [intOf]; omega
          | false =>
            have hjk : j < k := by
              rcases Nat.lt_or_ge j k with h | h
              · exact h
              · obtain rfl : j = k := by omega
                simp at hp
            go_wp2_with fail
            go_quiet ((go_at_call 106; first | exact quietQA (l01Same_any _ _ _ _ _ _ _ (hr1.drewN _) (hr2.drewN _)) | exact quietQ (l01Same_any _ _ _ _ _ _ _ (hr1.drewN _) (hr2.drewN _))))
            go_wp2_with fail
            go_roundw
            case rel => exact ⟨j + 1, _, by omega, by go_num, by first | rfl | exact World.drewN_drewN _ _ _, fun q hq hl => by
              by_cases e : q = j
              · subst e; exact hp
              · exact Hrel.out q (by omega) hl⟩
            case measure => simp [intOf]; omega
      · obtain rfl : k = t.length := by omega
        rw [List.take_length] at ho
        go_wp2_with fail
        go_ret2
        exact resIC_own HR.out ho (Nat.le_refl _) hb
end Go.Proofs.Ytdkkkkfcpgkcnaa
