/- Contracts of LeastLevels. -/
import Derived.Test.YtdkkkkfcpgkcnaaFLevels
namespace Go.Proofs.Ytdkkkkfcpgkcnaa
set_option linter.unusedVariables false
open Go.RowKit
def climb (b left need : Int) : Nat → Int → Int
  | 0, c => c
  | f + 1, c => if c < left ∧ powW b c.toNat < need then climb b left need f (c + 1) else c
def climbR (b left need c : Int) : Int := climb b left need (left - c).toNat c
theorem climbR_step {b left need c : Int} (h1 : c < left) (h2 : powW b c.toNat < need) : climbR b left need c = climbR b left need (c + 1) := by
  unfold climbR
  obtain ⟨f, hf⟩ : ∃ f, (left - c).toNat = f + 1 := ⟨(left - c).toNat - 1, by omega⟩
  rw [hf, show (left - (c + 1)).toNat = f by omega, climb, if_pos ⟨h1, h2⟩]
theorem climbR_stop {b left need c : Int} (h : ¬ (c < left ∧ powW b c.toNat < need)) : climbR b left need c = c := by
  unfold climbR
  cases (left - c).toNat with
  | zero => rfl
  | succ f => rw [climb, if_neg h]
theorem climb_le {b left need : Int} : ∀ (f : Nat) (c : Int), c + f ≤ left ∨ f = 0 → c ≤ climb b left need f c ∧ (climb b left need f c ≤ left ∨ climb b left need f c = c)
  | 0, c, _ => ⟨by simp [climb], .inr rfl⟩
  | f + 1, c, h => by
    rw [climb]
    split
    · rename_i g
      have := climb_le (b := b) (need := need) (left := left) f (c + 1) (by omega)
      refine ⟨by omega, ?_⟩
      rcases this.2 with h2 | h2
      · exact .inl h2
      · rw [h2]; left; omega
    · exact ⟨by omega, .inr rfl⟩
theorem climbR_le {b left need c : Int} : c ≤ climbR b left need c ∧ (climbR b left need c ≤ left ∨ climbR b left need c = c) := climb_le _ _ (by omega)
def leastGo (b : Int) : List Int → Int → Option (List Int)
  | [], _ => some []
  | need :: rest, left =>
    if left < 1 ∨ powW b (if rest = [] then left else climbR b left need 1).toNat < need then none
    else (leastGo b rest (left - (if rest = [] then left else climbR b left need 1))).map ((if rest = [] then left else climbR b left need 1) :: ·)
def leastLevels (m : Mk) (ns : List Int) : List Int × Int :=
  if isMaker m then (if 1 ≤ ns.length ∧ ns.length ≤ 4 ∧ allW 1 1000000000000 ns = true then (match leastGo (m.d - 1) ns m.c with | none => ([], 4) | some l => (l, 0)) else ([], 2)) else ([], 1)
/-- What one round does: the number of chambers; then an end, or the rest. -/
theorem leastGo_at (b : Int) (ns : List Int) (k : Nat) (h : k < ns.length) (left : Int) (c : Int) (hc : c = if ns.length = k + 1 then left else climbR b left ns[k] 1) :
    leastGo b (ns.drop k) left = if left < 1 ∨ powW b c.toNat < ns[k] then none else (leastGo b (ns.drop (k + 1)) (left - c)).map (c :: ·) := by
  rw [List.drop_eq_getElem_cons h, leastGo]
  have e : ns.drop (k + 1) = [] ↔ ns.length = k + 1 := by rw [List.drop_eq_nil_iff]; omega
  simp only [e, ← hc]
structure LState (b : Int) (ns : List Int) (top : Int) (k : Nat) (left : Int) (acc : List Int) : Prop where
  len : acc.length = k
  lo : 0 ≤ left
  hi : left ≤ 6
  eq : leastGo b ns top = (leastGo b (ns.drop k) left).map (acc ++ ·)
theorem LState.next {b : Int} {ns : List Int} {top left c : Int} {k : Nat} {acc : List Int} (h : LState b ns top k left acc) (hk : k < ns.length) (hc : c = if ns.length = k + 1 then left else climbR b left ns[k] 1)
    (h1 : 1 ≤ left) (h2 : ¬ powW b c.toNat < ns[k]) (h3 : 1 ≤ c) (h4 : c ≤ left) : LState b ns top (k + 1) (left - c) (acc ++ [c]) := by
  refine ⟨by simp [h.len], by omega, by have := h.hi; omega, ?_⟩
  rw [h.eq, leastGo_at b ns k hk left c hc, if_neg (by omega)]
  cases leastGo b (ns.drop (k + 1)) (left - c) <;> simp
theorem LState.none {b : Int} {ns : List Int} {top left c : Int} {k : Nat} {acc : List Int} (h : LState b ns top k left acc) (hk : k < ns.length) (hc : c = if ns.length = k + 1 then left else climbR b left ns[k] 1)
    (h1 : left < 1 ∨ powW b c.toNat < ns[k]) : leastGo b ns top = Option.none := by
  rw [h.eq, leastGo_at b ns k hk left c hc, if_pos h1]; rfl
theorem LState.done {b : Int} {ns : List Int} {top left : Int} {acc : List Int} (h : LState b ns top ns.length left acc) : leastGo b ns top = some acc := by
  rw [h.eq, List.drop_length]; simp [leastGo]
theorem ll_1 {m : Mk} {ns : List Int} (h : isMaker m = false) : ([], 1) = leastLevels m ns := by simp [leastLevels, h]
theorem ll_2 {m : Mk} {ns : List Int} (h : isMaker m = true) (h2 : ¬ (1 ≤ ns.length ∧ ns.length ≤ 4 ∧ allW 1 1000000000000 ns = true)) : ([], 2) = leastLevels m ns := by simp only [leastLevels, h, if_true, if_neg h2]
theorem ll_4 {m : Mk} {ns : List Int} (h : isMaker m = true) (h2 : 1 ≤ ns.length ∧ ns.length ≤ 4 ∧ allW 1 1000000000000 ns = true) (h3 : leastGo (m.d - 1) ns m.c = none) : ([], 4) = leastLevels m ns := by simp only [leastLevels, h, if_true, if_pos h2, h3]
theorem ll_0 {m : Mk} {ns acc : List Int} (h : isMaker m = true) (h2 : 1 ≤ ns.length ∧ ns.length ≤ 4 ∧ allW 1 1000000000000 ns = true) (h3 : leastGo (m.d - 1) ns m.c = some acc) : (acc, 0) = leastLevels m ns := by simp only [leastLevels, h, if_true, if_pos h2, h3]
end Go.Proofs.Ytdkkkkfcpgkcnaa
