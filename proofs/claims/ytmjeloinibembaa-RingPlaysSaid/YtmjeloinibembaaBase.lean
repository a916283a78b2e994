/-
  THE GROUND of the walks of package region: what a call leaves alone ('Only'), cells of blocks.
-/
import Derived.Test.YtmjeloinibembaaRows
import Derived.WalkKit
import Derived.ProofKit
import Derived.OpenShut
import Derived.Handy
import Derived.WalkSpells
import Derived.WalkLawsBesides
import Derived.Below
import Derived.Lib.Hide
import Derived.Lib.SliceRun
namespace Go.Proofs.Ytmjeloinibembaa
open Go.RowKit
set_option linter.unusedVariables false

/-- block b bears cells of element type e. -/
def KindAt (w : World) (b : Nat) (e : TypeId) : Prop := ∃ cs fz, w.heap[b]? = some (.cells cs e fz)
theorem KindAt.lt {w : World} {b : Nat} {e : TypeId} (h : KindAt w b e) : b < w.heap.size := by obtain ⟨cs, fz, h⟩ := h; exact (Array.getElem?_eq_some_iff.1 h).1
theorem KindAt.inj {w : World} {b : Nat} {e e' : TypeId} (h : KindAt w b e) (h' : KindAt w b e') : e = e' := by
  obtain ⟨cs, fz, h⟩ := h
  obtain ⟨cs', fz', h'⟩ := h'
  rw [h] at h'
  injection h' with h'
  injection h'
theorem KindAt.ne {w : World} {b b' : Nat} {e e' : TypeId} (h : KindAt w b e) (h' : KindAt w b' e') (hn : e ≠ e') : b ≠ b' := fun hb => hn (by subst hb; exact h.inj h')
theorem KindAt.setCell {w : World} {b : Nat} {e : TypeId} (h : KindAt w b e) (p : Addr) (u : Value) : KindAt (w.setCell p u) b e := by
  obtain ⟨cs, fz, h⟩ := h
  by_cases hb : p.block = b
  · subst hb
    exact ⟨if p.spot.isSome = true then cs else cs.setIfInBounds p.off u, fz, by simp only [World.setCell, Array.getElem?_modify, h, if_true, Option.map_some]⟩
  · exact ⟨cs, fz, by rw [Below.heap_setCell _ _ _ _ (fun e => hb e.symm)]; exact h⟩
theorem KindAt.alloc {w : World} {b : Nat} {e : TypeId} (h : KindAt w b e) (o : Obj) : KindAt (w.alloc o) b e := by
  have hl := h.lt
  obtain ⟨cs, fz, h⟩ := h
  exact ⟨cs, fz, by rw [Below.heap_alloc _ _ _ hl]; exact h⟩
theorem KindAt.new (w : World) (cs : Array Value) (e : TypeId) : KindAt (w.alloc (.cells cs e)) w.heap.size e := ⟨cs, _, heap_alloc_new w _⟩
/-- element types of blocks that no append turns. -/
abbrev Sol (e : TypeId) : Prop := e = 83 ∨ e = 95 ∨ e = 5 ∨ e = 121 ∨ e = 80 ∨ e = 85
/-- blocks that were there are as they were, but for those of S. -/
structure Only (S : Nat → Prop) (w w' : World) : Prop where
  os : w'.os = w.os
  tape : w'.tape = w.tape
  output : w'.output = w.output
  size : w.heap.size ≤ w'.heap.size
  block : ∀ k, k < w.heap.size → ¬ S k → w'.heap[k]? = w.heap[k]?
  kind : ∀ k e, Sol e → KindAt w k e → KindAt w' k e

theorem Only.refl (S : Nat → Prop) (w : World) : Only S w w := ⟨rfl, rfl, rfl, Nat.le_refl _, fun _ _ _ => rfl, fun _ _ _ h => h⟩
/-- two steps, the second of which may turn new blocks too. -/
theorem Only.then {S T : Nat → Prop} {a b c : World} (h : Only S a b) (k : Only T b c) (hs : ∀ i, i < a.heap.size → T i → S i) : Only S a c :=
  ⟨k.os.trans h.os, k.tape.trans h.tape, k.output.trans h.output, Nat.le_trans h.size k.size,
    fun i hi hn => (k.block i (Nat.lt_of_lt_of_le hi h.size) fun hx => hn (hs i hi hx)).trans (h.block i hi hn), fun i e he hk => k.kind i e he (h.kind i e he hk)⟩
theorem Only.trans {S : Nat → Prop} {a b c : World} (h : Only S a b) (k : Only S b c) : Only S a c := h.then k fun _ _ h => h
theorem Only.mono {S T : Nat → Prop} {a b : World} (h : Only S a b) (hs : ∀ k, k < a.heap.size → S k → T k) : Only T a b :=
  ⟨h.os, h.tape, h.output, h.size, fun i hi hn => h.block i hi fun hx => hn (hs i hi hx), h.kind⟩
theorem Only.below {S : Nat → Prop} {a b : World} (h : Only S a b) (hs : ∀ k, k < a.heap.size → ¬ S k) : Below a.heap.size a b :=
  ⟨h.os, h.tape, h.output, h.size, fun k hk => h.block k hk (hs k hk)⟩
theorem Only.belowN {S : Nat → Prop} {a b : World} {n : Nat} (h : Only S a b) (hn : n ≤ a.heap.size) (hs : ∀ k, k < n → ¬ S k) : Below n a b :=
  ⟨h.os, h.tape, h.output, h.size, fun k hk => h.block k (by omega) (hs k hk)⟩
theorem KindAt.below {w w' : World} {b : Nat} {e : TypeId} (h : KindAt w b e) (hb : Below w.heap.size w w') : KindAt w' b e := by
  have hl := h.lt
  obtain ⟨cs, fz, h⟩ := h
  exact ⟨cs, fz, by rw [hb.block b hl]; exact h⟩
theorem Only.of_below {S : Nat → Prop} {a b : World} (h : Below a.heap.size a b) : Only S a b :=
  ⟨h.os, h.tape, h.output, h.size, fun k hk _ => h.block k hk, fun k e _ hk => hk.below h⟩
theorem Only.drew {S : Nat → Prop} {a w : World} (h : Only S a w) : Only S a w.drew := ⟨h.os, h.tape, h.output, h.size, h.block, h.kind⟩
theorem Only.setCell {S : Nat → Prop} {a w : World} (h : Only S a w) {p : Addr} (hp : p.block < a.heap.size → S p.block) (u : Value) : Only S a (w.setCell p u) :=
  ⟨h.os, h.tape, h.output, by simpa using h.size, fun k hk hn => (Below.heap_setCell _ _ _ _ (fun e => hn (by subst e; exact hp hk))).trans (h.block k hk hn), fun k e he hk => (h.kind k e he hk).setCell _ _⟩
theorem Only.alloc {S : Nat → Prop} {a w : World} (h : Only S a w) (o : Obj) : Only S a (w.alloc o) :=
  ⟨h.os, h.tape, h.output, by have := h.size; simp; omega, fun k hk hn => (Below.heap_alloc _ _ _ (Nat.lt_of_lt_of_le hk h.size)).trans (h.block k hk hn), fun k e he hk => (h.kind k e he hk).alloc _⟩
/-- behind a law that ends in 'grownBy': the row that may have been written is new, or bears rows. -/
theorem Only.grown {S : Nat → Prop} {a w w' : World} {row : Option Nat} (h : Only S a w) (hg : w.grownBy w' row) (hr : ∀ k, row = some k → (k < a.heap.size → S k) ∧ (a.heap.size ≤ k ∨ ∃ e, ¬ Sol e ∧ KindAt w k e)) : Only S a w' :=
  ⟨hg.os.trans h.os, hg.tape.trans h.tape, hg.output.trans h.output, Nat.le_trans h.size hg.size,
    fun k hk hn => (hg.block k (Nat.lt_of_lt_of_le hk h.size) (fun e => hn ((hr k e.symm).1 hk))).trans (h.block k hk hn),
    fun k e he hk => by
      have h1 := h.kind k e he hk
      have h2 := h1.lt
      by_cases hrow : some k = row
      · exfalso
        rcases (hr k hrow.symm).2 with h3 | ⟨e', h3, h4⟩
        · have := hk.lt; omega
        · exact h3 (h1.inj h4 ▸ he)
      · obtain ⟨cs, fz, h3⟩ := h1
        exact ⟨cs, fz, by rw [hg.block k h2 hrow]; exact h3⟩⟩
theorem Only.cell {S : Nat → Prop} {w w' : World} (h : Only S w w') {p : Addr} (hp : p.block < w.heap.size) (hn : ¬ S p.block) : w'.cell? p = w.cell? p := World.cell?_of_block (w := w) (h.block p.block hp hn)
theorem Only.frozen {S : Nat → Prop} {w w' : World} (h : Only S w w') {p : Addr} (hp : p.block < w.heap.size) (hn : ¬ S p.block) : w'.frozen? p = w.frozen? p := World.frozen?_of_block (w := w) (h.block p.block hp hn)

/-- a block of which no cell is barred from being written. -/
def Thaw (w : World) (b : Nat) : Prop := ∀ j : Nat, w.frozen? ⟨b, j, none⟩ = false
theorem Thaw.setCell {w : World} {b : Nat} (h : Thaw w b) (p : Addr) (v : Value) : Thaw (w.setCell p v) b := fun j => by rw [World.frozen?_setCell]; exact h j
theorem Thaw.only {S : Nat → Prop} {w w' : World} {b : Nat} (h : Thaw w b) (ho : Only S w w') (hb : b < w.heap.size) (hn : ¬ S b) : Thaw w' b := fun j => by rw [ho.frozen (p := ⟨b, j, none⟩) hb hn]; exact h j
theorem Thaw.alloc {w : World} {b : Nat} (h : Thaw w b) (hb : b < w.heap.size) (o : Obj) : Thaw (w.alloc o) b := fun j => by rw [World.frozen?_alloc_old]; exact h j; exact Nat.ne_of_lt hb
theorem Thaw.new (w : World) (c : Array Value) (t : TypeId) : Thaw (w.alloc (.cells c t)) w.heap.size := fun j => World.frozen?_alloc_new w c t j

/-- bytes that stand in a block from place o on. -/
def Bts (w : World) (b o n : Nat) (f : Nat → Nat) : Prop := ∀ i : Nat, i < n → w.cell? ⟨b, o + i, none⟩ = some (.int .u8 ((f i : Nat) : Int))

theorem cell_same {w : World} {b j : Nat} {u : Value} (v : Value) (h : w.cell? ⟨b, j, none⟩ = some u) : (w.setCell ⟨b, j, none⟩ v).cell? ⟨b, j, none⟩ = some v := World.cell?_setCell_same _ _ _ h
theorem cell_ne {w : World} {b j b' j' : Nat} (v : Value) (h : b ≠ b' ∨ j ≠ j') : (w.setCell ⟨b, j, none⟩ v).cell? ⟨b', j', none⟩ = w.cell? ⟨b', j', none⟩ :=
  World.cell?_setCell_other _ _ _ _ (fun e => by injection e with e1 e2; omega)

theorem below_then {w w1 w2 : World} (h1 : Below w.heap.size w w1) (h2 : Below w1.heap.size w1 w2) : Below w.heap.size w w2 :=
  h1.trans (h2.mono h1.size)
theorem Below.one {w : World} (o : Obj) : Below w.heap.size w (w.alloc o) := (Below.refl _ _).alloc (Nat.le_refl _) _
end Go.Proofs.Ytmjeloinibembaa
