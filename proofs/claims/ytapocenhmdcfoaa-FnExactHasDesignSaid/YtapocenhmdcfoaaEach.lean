/- eachKey's memory: its own blocks, the visitor's blocks, and what stays. -/
import Derived.Test.YtapocenhmdcfoaaRegion
import Derived.Test.YtapocenhmdcfoaaPOpen
namespace Go.Proofs.Ytapocenhmdcfoaa
set_option linter.unusedVariables false
open Go.RowKit
theorem run_equalIn_func_nil {P : Program} (w : World) (n : Nat) {t : TypeId} {ps rs : Array TypeId} {vr : Bool} (f : Fn) (ca cap : Array Value) (h : P.underlying t = some (.func ps rs vr)) : (Op.equalIn (n + 1) t (.func f ca cap) .nilFunc).run P w = .ok false w := by
  simp [Op.equalIn, run_underlying h]
theorem run_equalIn_nil_nil {P : Program} (w : World) (n : Nat) {t : TypeId} {ps rs : Array TypeId} {vr : Bool} (h : P.underlying t = some (.func ps rs vr)) : (Op.equalIn (n + 1) t .nilFunc .nilFunc).run P w = .ok true w := by
  simp [Op.equalIn, run_underlying h]
theorem run_neq_func_nil {P : Program} (w : World) {t : TypeId} {ps rs : Array TypeId} {vr : Bool} (f : Fn) (ca cap : Array Value) (h : P.underlying t = some (.func ps rs vr)) : (binOp .neq t (.func f ca cap) .nilFunc).run P w = .ok (.bool true) w := by
  simp only [binOp]
  simp [Op.equal, Op.maxDepth, run_equalIn_func_nil w 9999 f ca cap h]
theorem run_neq_nil_nil {P : Program} (w : World) {t : TypeId} {ps rs : Array TypeId} {vr : Bool} (h : P.underlying t = some (.func ps rs vr)) : (binOp .neq t .nilFunc .nilFunc).run P w = .ok (.bool false) w := by
  simp only [binOp]
  simp [Op.equal, Op.maxDepth, run_equalIn_nil_nil w 9999 h]
/-- All blocks but those of F are as they were. -/
structure KeepF (F : Nat → Prop) (w w' : World) : Prop where
  os : w'.os = w.os
  tape : w'.tape = w.tape
  output : w'.output = w.output
  size : w.heap.size ≤ w'.heap.size
  block : ∀ g, g < w.heap.size → ¬ F g → w'.heap[g]? = w.heap[g]?
theorem KeepF.refl (F : Nat → Prop) (w : World) : KeepF F w w := ⟨rfl, rfl, rfl, Nat.le_refl _, fun _ _ _ => rfl⟩
theorem KeepF.trans {F G : Nat → Prop} {a b c : World} (h : KeepF F a b) (k : KeepF G b c) (hG : ∀ g, g < a.heap.size → G g → F g) : KeepF F a c :=
  ⟨k.os.trans h.os, k.tape.trans h.tape, k.output.trans h.output, Nat.le_trans h.size k.size, fun g hg hF => (k.block g (by have := h.size; omega) fun e => hF (hG g hg e)).trans (h.block g hg hF)⟩
theorem KeepF.ofBelow {F : Nat → Prop} {w w' : World} (h : Below w.heap.size w w') : KeepF F w w' := ⟨h.os, h.tape, h.output, h.size, fun g hg _ => h.block g hg⟩
theorem KeepF.toBelow {F : Nat → Prop} {B : Nat} {w w' : World} (h : KeepF F w w') (hB : B ≤ w.heap.size) (hF : ∀ g, g < B → ¬ F g) : Below B w w' := ⟨h.os, h.tape, h.output, h.size, fun g hg => h.block g (by omega) (hF g hg)⟩
theorem KeepF.cell {F : Nat → Prop} {w w' : World} (h : KeepF F w w') {p : Addr} (hp : p.block < w.heap.size) (hF : ¬ F p.block) : w'.cell? p = w.cell? p := World.cell?_of_block (w := w) (h.block p.block hp hF)
theorem KeepF.frozen {F : Nat → Prop} {w w' : World} (h : KeepF F w w') {p : Addr} (hp : p.block < w.heap.size) (hF : ¬ F p.block) : w'.frozen? p = w.frozen? p := World.frozen?_of_block (w := w) (h.block p.block hp hF)
theorem KeepF.setCell {F : Nat → Prop} {a w : World} (h : KeepF F a w) {p : Addr} (hp : F p.block ∨ a.heap.size ≤ p.block) (u : Value) : KeepF F a (w.setCell p u) :=
  h.trans (G := fun g => g = p.block) ⟨rfl, rfl, rfl, by simp [World.setCell], fun g _ hF => Below.heap_setCell _ _ _ _ hF⟩ (fun g hg e => by subst e; rcases hp with h | h; exact h; omega)
theorem KeepF.alloc {F : Nat → Prop} {a w : World} (h : KeepF F a w) (o : Obj) : KeepF F a (w.alloc o) :=
  h.trans (G := F) (KeepF.ofBelow ((Below.refl _ _).alloc (Nat.le_refl _) o)) (fun _ _ e => e)
theorem KeepF.grown {F : Nat → Prop} {a w w' : World} {row : Option Nat} (h : KeepF F a w) (hg : w.grownBy w' row) (hr : ∀ g, row = some g → F g ∨ a.heap.size ≤ g) : KeepF F a w' :=
  h.trans (G := fun g => row = some g) ⟨hg.os, hg.tape, hg.output, hg.size, fun g hlt hF => hg.block g hlt (fun e => hF e.symm)⟩ (fun g hlt e => by rcases hr g e with h | h; exact h; omega)
theorem KeepF.mono {F G : Nat → Prop} {w w' : World} (h : KeepF F w w') (hG : ∀ g, F g → G g) : KeepF G w w' := ⟨h.os, h.tape, h.output, h.size, fun g hg hn => h.block g hg fun e => hn (hG g e)⟩
theorem OV.keepF {F : Nat → Prop} {w w' : World} {B e : Nat} {v : Value} {us : List Value} (h : OV w B e v us) (k : KeepF F w w') (hF : ∀ g, v.ownBlock = some g → ¬ F g) : OV w' B e v us :=
  h.same fun g hg => k.block g (h.lt g hg).2 (hF g hg)
theorem RV.keepF {F : Nat → Prop} {w w' : World} {A : Option Addr} {us : List Value} (h : RV w A us) (k : KeepF F w w') (hF : ∀ b o, A = some ⟨b, o, none⟩ → ¬ F b) : RV w' A us := by
  refine ⟨h.1, fun hn => ?_⟩
  obtain ⟨b, o, rfl, hc⟩ := h.2 hn
  exact ⟨b, o, rfl, fun j u hu => (k.cell (p := ⟨b, o + j, none⟩) (World.block_lt_of_cell? w _ (hc j u hu)) (hF b o rfl)).trans (hc j u hu)⟩
/-- A row of the call's own, cut at its end. -/
theorem OV.cut' {w : World} {B e n c : Nat} {A : Option Addr} {us : List Value} (h : OV w B e (.slice A n c) us) (k : Nat) (hk : k ≤ n) (hk0 : 0 < n) : OV w B e (.slice A k c) (us.take k) := by
  obtain ⟨hl, hr⟩ := h
  refine ⟨by simp, ?_⟩
  rcases hr with ⟨h', h0⟩ | ⟨g, cap, cur, h', hB, hh, hc, hm, hs, ht⟩
  · injection h' with h1 h2 h3
    omega
  · injection h' with h1 h2 h3
    subst h1 h3
    right
    have e : (us.take k).length = k := by simp only [List.length_take]; omega
    refine ⟨g, c, cur, by rw [e], hB, hh, by rw [e]; omega, hm, hs, ?_⟩
    rw [e]
    conv => rhs; rw [← ht, List.take_take]
    rw [Nat.min_eq_left (by omega), Nat.mul_one]
/-- behind a visit -/
def VisPost {σ : Type} (vis : σ → List Int → Bool × σ) (R : σ → World → (Nat → Prop) → Prop) (s : σ) (key : List Int) (w : World) (G : Nat → Prop) (e : Ending) (w' : World) : Prop :=
  e = .returned (.bool (vis s key).1) ∧ ∃ G', R (vis s key).2 w' G' ∧ KeepF G w w' ∧ ∀ g, G' g → G g ∨ w.heap.size ≤ g
/-- A visitor: its state s lies in the blocks F, and is 'live' till a visit says no; what it does in a world that keeps to w but for these. -/
structure VisOK {σ : Type} (kv : FuncId) (capV : Array Value) (vis : σ → List Int → Bool × σ) (R : σ → World → (Nat → Prop) → Prop) (L : σ → Prop) (P : List Int → Prop) (w : World) (F : Nat → Prop) : Prop where
  ent : Enters Try.prog kv
  live : ∀ s key, L s → P key → (vis s key).1 = true → L (vis s key).2
  lt : ∀ s w F, R s w F → ∀ g, F g → g < w.heap.size
  fr : ∀ s w w' F, R s w F → KeepF (fun g => ¬ F g) w w' → R s w' F
  call : ∀ s w' G A c key, L s → KeepF F w w' → R s w' G → (∀ g, G g → F g ∨ w.heap.size ≤ g) → P key → key.length ≤ c → RI w' A key → (∀ b o, A = some ⟨b, o, none⟩ → ¬ G b) → Calls Try.prog kv (#[.slice A key.length c] ++ capV) w' (VisPost vis R s key w' G)
/-- What tells which cuts are allowed. -/
structure AlOK (ka : FuncId) (capA : Array Value) (al : Nat → Int → Bool) (m : Mk) (w : World) (F : Nat → Prop) : Prop where
  ent : Enters Try.prog ka
  call : ∀ w', KeepF F w w' → ∀ (ch : Nat) (d : Int), (ch : Int) < m.c → 0 ≤ d → d < m.d → Calls Try.prog ka (#[.int .i64 (ch : Int), .int .i64 d] ++ capA) w' fun e w'' => e = .returned (.bool (al ch d)) ∧ Below w'.heap.size w' w''
/-- The call's own blocks: from N on the boxes of the maker, the first cuts, the allowed, the visit, (the first row), the key, the cut. -/
structure EK {σ : Type} (m : Mk) (Af : Option Addr) (nf cf : Nat) (va vv vc : Value) (R : σ → World → (Nat → Prop) → Prop) (w : World) (F : Nat → Prop) (wr : World) (key : List Int) (v : Value) (s : σ) (G : Nat → Prop) : Prop where
  keep : KeepF F w wr
  size : w.heap.size + 7 ≤ wr.heap.size
  rep : R s wr G
  sub : ∀ g, G g → F g ∨ w.heap.size + 7 ≤ g
  low : ∀ g, F g → g < w.heap.size
  row : ∀ g, v.ownBlock = some g → ¬ G g ∧ (g = w.heap.size + 4 ∨ w.heap.size + 7 ≤ g)
  own : OV wr (w.heap.size + 4) 2 v (ints key)
  cM : BoxC wr w.heap.size 0 [.int .i64 m.c, .int .i64 m.d, .int .i64 m.s, .int .i64 m.a, .int .i64 m.l]
  cF : wr.cell? ⟨w.heap.size + 1, 0, none⟩ = some (.slice Af nf cf)
  cA : wr.cell? ⟨w.heap.size + 2, 0, none⟩ = some va
  cV : wr.cell? ⟨w.heap.size + 3, 0, none⟩ = some vv
  cK : wr.cell? ⟨w.heap.size + 5, 0, none⟩ = some v
  cC : wr.cell? ⟨w.heap.size + 6, 0, none⟩ = some vc
  fz : wr.frozen? ⟨w.heap.size + 5, 0, none⟩ = false
section
variable {σ : Type} {m : Mk} {Af : Option Addr} {nf cf : Nat} {va vv vc : Value} {R : σ → World → (Nat → Prop) → Prop} {w wr w' : World} {F : Nat → Prop} {key : List Int} {v : Value} {s : σ} {G : Nat → Prop}
theorem EK.notG (h : EK m Af nf cf va vv vc R w F wr key v s G) {j : Nat} (h0 : w.heap.size ≤ j) (h7 : j < w.heap.size + 7) : ¬ G j := fun e => by
  rcases h.sub j e with h1 | h1
  · have := h.low j h1; omega
  · omega
theorem BoxC.keepF {b i : Nat} {vs : List Value} (h : BoxC wr b i vs) (k : KeepF G wr w') (hb : b < wr.heap.size) (hG : ¬ G b) : BoxC w' b i vs := h.keep fun i v hv => (k.cell (p := ⟨b, i, none⟩) hb hG).trans hv
/-- what the visitor has done -/
theorem EK.visited (h : EK m Af nf cf va vv vc R w F wr key v s G) {s' : σ} {G' : Nat → Prop} (hR : R s' w' G') (k : KeepF G wr w') (hs : ∀ g, G' g → G g ∨ wr.heap.size ≤ g) : EK m Af nf cf va vv vc R w F w' key v s' G' := by
  have hz := h.size
  have hw := k.size
  refine ⟨h.keep.trans k (fun g hg e => ?_), by omega, hR, fun g e => ?_, h.low, fun g e => ?_, h.own.keepF k (fun g e => (h.row g e).1), ?_, ?_, ?_, ?_, ?_, ?_, ?_⟩
  · rcases h.sub g e with h1 | h1
    · exact h1
    · omega
  · rcases hs g e with h1 | h1
    · exact h.sub g h1
    · right; omega
  · refine ⟨fun e' => ?_, (h.row g e).2⟩
    rcases hs g e' with h1 | h1
    · exact (h.row g e).1 h1
    · have := (h.own.lt g e).2; omega
  · exact h.cM.keepF k (by omega) (h.notG (by omega) (by omega))
  all_goals first | exact (k.frozen (by simp only; omega) (h.notG (by simp only; omega) (by simp only; omega))).trans (by first | exact h.fz) | exact (k.cell (by simp only; omega) (h.notG (by simp only; omega) (by simp only; omega))).trans (by first | exact h.cF | exact h.cA | exact h.cV | exact h.cK | exact h.cC)
theorem EK.below (h : EK m Af nf cf va vv vc R w F wr key v s G) (hb : Below wr.heap.size wr w') (fr : ∀ s w w' F, R s w F → KeepF (fun g => ¬ F g) w w' → R s w' F) : EK m Af nf cf va vv vc R w F w' key v s G :=
  h.visited (fr s wr w' G h.rep (KeepF.ofBelow hb)) (KeepF.ofBelow hb) fun g e => .inl e
/-- one block has been written that is the call's own -/
theorem EK.stored (h : EK m Af nf cf va vv vc R w F wr key v s G) (fr : ∀ s w w' F, R s w F → KeepF (fun g => ¬ F g) w w' → R s w' F) {key' : List Int} {A : Option Addr} {n c : Nat}
    (hr : ∀ g, (Value.slice A n c).ownBlock = some g → ¬ G g ∧ (g = w.heap.size + 4 ∨ w.heap.size + 7 ≤ g)) (ho : OV wr (w.heap.size + 4) 2 (.slice A n c) (ints key')) :
    EK m Af nf cf va vv vc R w F (wr.setCell ⟨w.heap.size + 5, 0, none⟩ (.slice A n c)) key' (.slice A n c) s G := by
  have hz := h.size
  have hF : ¬ F (w.heap.size + 5) := fun e => by have := h.low _ e; omega
  have k : KeepF (fun g => g = w.heap.size + 5) wr (wr.setCell ⟨w.heap.size + 5, 0, none⟩ (.slice A n c)) := (KeepF.refl (fun g => g = w.heap.size + 5) wr).setCell (p := ⟨w.heap.size + 5, 0, none⟩) (.inl rfl) _
  have hn : ¬ G (w.heap.size + 5) := h.notG (by omega) (by omega)
  refine ⟨h.keep.trans k (fun g hg e => by omega), by simpa using hz, fr s wr _ G h.rep (k.mono fun g e => by subst e; exact hn), h.sub, h.low, hr, ho.keepF k (fun g e => ?_), h.cM.keepF k (by omega) (by omega), ?_, ?_, ?_, ?_, ?_, ?_⟩
  · rcases (hr g e).2 with h1 | h1 <;> omega
  · exact (k.cell (by simp only; omega) (by simp only; omega)).trans h.cF
  · exact (k.cell (by simp only; omega) (by simp only; omega)).trans h.cA
  · exact (k.cell (by simp only; omega) (by simp only; omega)).trans h.cV
  · exact World.cell?_setCell_same _ _ _ h.cK
  · exact (k.cell (by simp only; omega) (by simp only; omega)).trans h.cC
  · simpa using h.fz
/-- the key has been written: a new row, or a shorter one -/
theorem EK.move (h : EK m Af nf cf va vv vc R w F wr key v s G) (fr : ∀ s w w' F, R s w F → KeepF (fun g => ¬ F g) w w' → R s w' F) {K : Nat → Prop} {w5 : World} {key' : List Int} {v' : Value} (k : KeepF K wr w5)
    (hK : ∀ g, g < wr.heap.size → K g → ¬ G g ∧ (g = w.heap.size + 4 ∨ g = w.heap.size + 5 ∨ w.heap.size + 7 ≤ g)) (hr : ∀ g, v'.ownBlock = some g → ¬ G g ∧ (g = w.heap.size + 4 ∨ w.heap.size + 7 ≤ g))
    (ho : OV w5 (w.heap.size + 4) 2 v' (ints key')) (hc : w5.cell? ⟨w.heap.size + 5, 0, none⟩ = some v') (hf : w5.frozen? ⟨w.heap.size + 5, 0, none⟩ = false) :
    EK m Af nf cf va vv vc R w F w5 key' v' s G := by
  have hz := h.size
  have hw := k.size
  have k' : KeepF (fun g => g < wr.heap.size ∧ K g) wr w5 := ⟨k.os, k.tape, k.output, k.size, fun g hg hn => k.block g hg fun e => hn ⟨hg, e⟩⟩
  have hn : ∀ j, j < w.heap.size + 7 → j ≠ w.heap.size + 4 → j ≠ w.heap.size + 5 → ¬ (j < wr.heap.size ∧ K j) := fun j h1 h2 h3 e => by have := (hK j e.1 e.2).2; omega
  refine ⟨h.keep.trans k' (fun g hg e => ?_), by omega, fr s wr _ G h.rep (k'.mono fun g e => (hK g e.1 e.2).1), h.sub, h.low, hr, ho, h.cM.keepF k' (by omega) (hn _ (by omega) (by omega) (by omega)), ?_, ?_, ?_, hc, ?_, hf⟩
  · exfalso; have := (hK g e.1 e.2).2; omega
  · exact (k'.cell (by simp only; omega) (hn _ (by simp only; omega) (by simp only; omega) (by simp only; omega))).trans h.cF
  · exact (k'.cell (by simp only; omega) (hn _ (by simp only; omega) (by simp only; omega) (by simp only; omega))).trans h.cA
  · exact (k'.cell (by simp only; omega) (hn _ (by simp only; omega) (by simp only; omega) (by simp only; omega))).trans h.cV
  · exact (k'.cell (by simp only; omega) (hn _ (by simp only; omega) (by simp only; omega) (by simp only; omega))).trans h.cC
/-- behind an append of the key, ahead of the store -/
theorem EK.grow (h : EK m Af nf cf va vv vc R w F wr key v s G) {o : Obj} {w4 : World} (hg : (wr.alloc o).grownBy w4 v.ownBlock) :
    w4.cell? ⟨w.heap.size + 5, 0, none⟩ = some v ∧ w4.frozen? ⟨w.heap.size + 5, 0, none⟩ = false ∧ KeepF (fun g => v.ownBlock = some g) wr w4 := by
  have hz := h.size
  have k : KeepF (fun g => v.ownBlock = some g) wr w4 := ((KeepF.refl _ _).alloc o).grown hg (fun g e => .inl e)
  have hn : ¬ (v.ownBlock = some (w.heap.size + 5)) := fun e => by have := (h.row _ e).2; omega
  exact ⟨(k.cell (by simp only; omega) hn).trans h.cK, (k.frozen (by simp only; omega) hn).trans h.fz, k⟩
/-- and behind the store -/
theorem EK.push (h : EK m Af nf cf va vv vc R w F wr key v s G) (lt : ∀ s w F, R s w F → ∀ g, F g → g < w.heap.size) (fr : ∀ s w w' F, R s w F → KeepF (fun g => ¬ F g) w w' → R s w' F) {o : Obj} {w4 : World} (hg : (wr.alloc o).grownBy w4 v.ownBlock)
    {v' : Value} {key' : List Int} (hat : v'.ownBlock = v.ownBlock ∨ v'.ownBlock = some (wr.alloc o).heap.size) (ho : OV w4 (w.heap.size + 4) 2 v' (ints key')) :
    EK m Af nf cf va vv vc R w F (w4.setCell ⟨w.heap.size + 5, 0, none⟩ v') key' v' s G := by
  obtain ⟨h1, h2, k⟩ := h.grow hg
  have hz := h.size
  have hrow : ∀ g, v'.ownBlock = some g → ¬ G g ∧ (g = w.heap.size + 4 ∨ w.heap.size + 7 ≤ g) := fun g e => by
    rcases hat with e1 | e1
    · exact h.row g (e1.symm.trans e)
    · have e2 := e1.symm.trans e
      injection e2 with e2
      rw [World.size_alloc] at e2
      exact ⟨fun hg => by have := lt _ _ _ h.rep g hg; omega, by omega⟩
  have k5 : KeepF (fun g => v.ownBlock = some g ∨ g = w.heap.size + 5) wr (w4.setCell ⟨w.heap.size + 5, 0, none⟩ v') := (k.mono (fun g e => .inl e)).setCell (p := ⟨w.heap.size + 5, 0, none⟩) (.inl (.inr rfl)) _
  refine h.move fr k5 (fun g hlt e => ?_) hrow ?_ (World.cell?_setCell_same _ _ _ h1) (by simpa using h2)
  · rcases e with e | e
    · have := h.row g e; exact ⟨this.1, by omega⟩
    · subst e; exact ⟨h.notG (by omega) (by omega), by omega⟩
  · exact ho.keepF ((KeepF.refl (fun g => g = w.heap.size + 5) w4).setCell (p := ⟨w.heap.size + 5, 0, none⟩) (.inl rfl) _) (fun g e e' => by have := (hrow g e).2; omega)
/-- the key is cut at its end again -/
theorem EK.pop {A : Option Addr} {n c : Nat} (h : EK m Af nf cf va vv vc R w F wr key (.slice A n c) s G) (fr : ∀ s w w' F, R s w F → KeepF (fun g => ¬ F g) w w' → R s w' F) {key' : List Int} {d : Int} (hk : key = key' ++ [d]) (hn : n = key.length) :
    EK m Af nf cf va vv vc R w F (wr.setCell ⟨w.heap.size + 5, 0, none⟩ (.slice A key'.length c)) key' (.slice A key'.length c) s G := by
  have hlen : key.length = key'.length + 1 := by rw [hk]; simp
  have ho := h.own.cut' key'.length (by omega) (by omega)
  have e : (ints key).take key'.length = ints key' := by rw [hk, ← ints_take, List.take_left]
  rw [e] at ho
  exact h.stored fr (fun g hg => h.row g (by cases A with | none => simp [Value.ownBlock] at hg | some a => simpa [Value.ownBlock] using hg)) ho
end
end Go.Proofs.Ytapocenhmdcfoaa
