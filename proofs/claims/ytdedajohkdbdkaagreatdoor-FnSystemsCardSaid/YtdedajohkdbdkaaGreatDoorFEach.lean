/- Contract of eachKey: all keys whose cuts are allowed are visited, in order. -/
import Derived.Test.YtdedajohkdbdkaaGreatDoorEach
namespace Go.Proofs.YtdedajohkdbdkaaGreatDoor
set_option linter.unusedVariables false
open Go.RowKit
/-- behind the closure of eachKey -/
def EKPost {σ : Type} (m : Mk) (Af : Option Addr) (nf cf : Nat) (va vv vc : Value) (R : σ → World → (Nat → Prop) → Prop) (w : World) (F : Nat → Prop) (key : List Int) (b : Bool) (s : σ) (e : Ending) (w' : World) : Prop :=
  e = .returned (.bool b) ∧ ∃ v G, EK m Af nf cf va vv vc R w F w' key v s G
theorem EK.open {σ : Type} {m : Mk} {Af : Option Addr} {nf cf : Nat} {va vv vc : Value} {R : σ → World → (Nat → Prop) → Prop} {w wr : World} {F : Nat → Prop} {key : List Int} {v : Value} {s : σ} {G : Nat → Prop} (h : EK m Af nf cf va vv vc R w F wr key v s G) :
    ∃ A c, v = .slice A key.length c ∧ key.length ≤ c ∧ RI wr A key ∧ ∀ b o, A = some ⟨b, o, none⟩ → ¬ G b := by
  obtain ⟨A, c, rfl, hc, hr⟩ := h.own.reads
  rw [ints_length] at *
  exact ⟨A, c, rfl, hc, hr, fun b o e => by subst e; exact (h.row b rfl).1⟩
/-- the cells that the closure reads -/
def EKS (m : Mk) (vf va vv vc vk : Value) (N : Nat) (w' : World) : Prop :=
  (w'.cell? ⟨N, 0, none⟩ = some (.int .i64 m.c) ∧ w'.cell? ⟨N, 1, none⟩ = some (.int .i64 m.d) ∧ w'.cell? ⟨N, 2, none⟩ = some (.int .i64 m.s) ∧ w'.cell? ⟨N, 3, none⟩ = some (.int .i64 m.a) ∧ w'.cell? ⟨N, 4, none⟩ = some (.int .i64 m.l) ∧ True) ∧
  w'.cell? ⟨N + 1, 0, none⟩ = some vf ∧ w'.cell? ⟨N + 2, 0, none⟩ = some va ∧ w'.cell? ⟨N + 3, 0, none⟩ = some vv ∧ w'.cell? ⟨N + 5, 0, none⟩ = some vk ∧ w'.cell? ⟨N + 6, 0, none⟩ = some vc
theorem EK.cells {σ : Type} {m : Mk} {Af : Option Addr} {nf cf : Nat} {va vv vc : Value} {R : σ → World → (Nat → Prop) → Prop} {w wr : World} {F : Nat → Prop} {key : List Int} {v : Value} {s : σ} {G : Nat → Prop} (h : EK m Af nf cf va vv vc R w F wr key v s G) :
    EKS m (.slice Af nf cf) va vv vc v w.heap.size wr := ⟨h.cM, h.cF, h.cA, h.cV, h.cK, h.cC⟩
/-- the same, but for the key -/
def EKT (m : Mk) (vf va vv vc : Value) (N : Nat) (w' : World) : Prop :=
  (w'.cell? ⟨N, 0, none⟩ = some (.int .i64 m.c) ∧ w'.cell? ⟨N, 1, none⟩ = some (.int .i64 m.d) ∧ w'.cell? ⟨N, 2, none⟩ = some (.int .i64 m.s) ∧ w'.cell? ⟨N, 3, none⟩ = some (.int .i64 m.a) ∧ w'.cell? ⟨N, 4, none⟩ = some (.int .i64 m.l) ∧ True) ∧
  w'.cell? ⟨N + 1, 0, none⟩ = some vf ∧ w'.cell? ⟨N + 2, 0, none⟩ = some va ∧ w'.cell? ⟨N + 3, 0, none⟩ = some vv ∧ w'.cell? ⟨N + 6, 0, none⟩ = some vc
theorem EK.cellsT {σ : Type} {m : Mk} {Af : Option Addr} {nf cf : Nat} {va vv vc : Value} {R : σ → World → (Nat → Prop) → Prop} {w wr : World} {F : Nat → Prop} {key : List Int} {v : Value} {s : σ} {G : Nat → Prop} (h : EK m Af nf cf va vv vc R w F wr key v s G) :
    EKT m (.slice Af nf cf) va vv vc w.heap.size wr := ⟨h.cM, h.cF, h.cA, h.cV, h.cC⟩
/-- the key's cut at its end, as the closure reads it -/
def EKL (m : Mk) (vf va vv vc vk : Value) (N : Nat) (g i : Nat) (x : Int) (w' : World) : Prop := EKS m vf va vv vc vk N w' ∧ w'.cell? ⟨g, i, none⟩ = some (.int .i64 x)
end Go.Proofs.YtdedajohkdbdkaaGreatDoor
