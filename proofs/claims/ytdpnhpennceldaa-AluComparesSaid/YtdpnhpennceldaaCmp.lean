/-
  THE WALKS of Cmp, the program's and the reference's.
-/
import Derived.Test.YtdpnhpennceldaaTurns
import Derived.Deep.RegionHeld3
import Derived.Test.YtdpnhpennceldaaReg
namespace Go.Proofs.Ytdpnhpennceldaa
open Go.RowKit M
set_option linter.unusedVariables false
set_option linter.unusedSimpArgs false
/-- what a comparison tells of two numbers without a sign and the same with one. -/
def cmpV (o : Nat) (a b : Nat) (s t : Int) : Bool :=
  match o with
  | 1 => (a : Int) == b
  | 2 => decide ((b : Int) < a)
  | 3 => decide ((b : Int) ≤ a)
  | 4 => bits BinOp.and IntKind.u64 (a : Int) b != 0
  | 5 => (a : Int) != b
  | 6 => decide (t < s)
  | 7 => decide (t ≤ s)
  | 10 => decide ((a : Int) < b)
  | 11 => decide ((a : Int) ≤ b)
  | 12 => decide (s < t)
  | _ => decide (s ≤ t)
set_option maxRecDepth 100000 in
set_option maxHeartbeats 1000000 in
theorem asks_1 (a b : Nat) (s t : Int) (p0 p1 p2 p3 p4 : Addr) (w : World) (h0 : w.cell? p0 = some (.int .i64 1)) (h1 : w.cell? p1 = some (.int .u64 a)) (h2 : w.cell? p2 = some (.int .u64 b)) (h3 : w.cell? p3 = some (.int .i64 s)) (h4 : w.cell? p4 = some (.int .i64 t)) :
    Calls Try.prog 27 #[.pointer (some p0), .pointer (some p1), .pointer (some p2), .pointer (some p3), .pointer (some p4)] w fun e w' => e = .returned (.bool (cmpV 1 a b s t)) ∧ w = w' := by
  go_enter Try.func27, Try.ntmps27
  go_wp2_with fail
  all_goals go_ret
  all_goals (first | exact ⟨rfl, rfl⟩ | (simp [cmpV, *]; done))
set_option maxRecDepth 100000 in
set_option maxHeartbeats 1000000 in
theorem asks_2 (a b : Nat) (s t : Int) (p0 p1 p2 p3 p4 : Addr) (w : World) (h0 : w.cell? p0 = some (.int .i64 2)) (h1 : w.cell? p1 = some (.int .u64 a)) (h2 : w.cell? p2 = some (.int .u64 b)) (h3 : w.cell? p3 = some (.int .i64 s)) (h4 : w.cell? p4 = some (.int .i64 t)) :
    Calls Try.prog 27 #[.pointer (some p0), .pointer (some p1), .pointer (some p2), .pointer (some p3), .pointer (some p4)] w fun e w' => e = .returned (.bool (cmpV 2 a b s t)) ∧ w = w' := by
  go_enter Try.func27, Try.ntmps27
  go_wp2_with fail
  all_goals go_ret
  all_goals (first | exact ⟨rfl, rfl⟩ | (simp [cmpV, *]; done))
set_option maxRecDepth 100000 in
set_option maxHeartbeats 1000000 in
theorem asks_3 (a b : Nat) (s t : Int) (p0 p1 p2 p3 p4 : Addr) (w : World) (h0 : w.cell? p0 = some (.int .i64 3)) (h1 : w.cell? p1 = some (.int .u64 a)) (h2 : w.cell? p2 = some (.int .u64 b)) (h3 : w.cell? p3 = some (.int .i64 s)) (h4 : w.cell? p4 = some (.int .i64 t)) :
    Calls Try.prog 27 #[.pointer (some p0), .pointer (some p1), .pointer (some p2), .pointer (some p3), .pointer (some p4)] w fun e w' => e = .returned (.bool (cmpV 3 a b s t)) ∧ w = w' := by
  go_enter Try.func27, Try.ntmps27
  go_wp2_with fail
  all_goals go_ret
  all_goals (first | exact ⟨rfl, rfl⟩ | (simp [cmpV, *]; done))
set_option maxRecDepth 100000 in
set_option maxHeartbeats 1000000 in
theorem asks_4 (a b : Nat) (s t : Int) (p0 p1 p2 p3 p4 : Addr) (w : World) (h0 : w.cell? p0 = some (.int .i64 4)) (h1 : w.cell? p1 = some (.int .u64 a)) (h2 : w.cell? p2 = some (.int .u64 b)) (h3 : w.cell? p3 = some (.int .i64 s)) (h4 : w.cell? p4 = some (.int .i64 t)) :
    Calls Try.prog 27 #[.pointer (some p0), .pointer (some p1), .pointer (some p2), .pointer (some p3), .pointer (some p4)] w fun e w' => e = .returned (.bool (cmpV 4 a b s t)) ∧ w = w' := by
  go_enter Try.func27, Try.ntmps27
  go_wp2_with fail
  all_goals go_ret
  all_goals (first | exact ⟨rfl, rfl⟩ | (simp [cmpV, *]; done))
set_option maxRecDepth 100000 in
set_option maxHeartbeats 1000000 in
theorem asks_5 (a b : Nat) (s t : Int) (p0 p1 p2 p3 p4 : Addr) (w : World) (h0 : w.cell? p0 = some (.int .i64 5)) (h1 : w.cell? p1 = some (.int .u64 a)) (h2 : w.cell? p2 = some (.int .u64 b)) (h3 : w.cell? p3 = some (.int .i64 s)) (h4 : w.cell? p4 = some (.int .i64 t)) :
    Calls Try.prog 27 #[.pointer (some p0), .pointer (some p1), .pointer (some p2), .pointer (some p3), .pointer (some p4)] w fun e w' => e = .returned (.bool (cmpV 5 a b s t)) ∧ w = w' := by
  go_enter Try.func27, Try.ntmps27
  go_wp2_with fail
  all_goals go_ret
  all_goals (first | exact ⟨rfl, rfl⟩ | (simp [cmpV, *]; done))
set_option maxRecDepth 100000 in
set_option maxHeartbeats 1000000 in
theorem asks_6 (a b : Nat) (s t : Int) (p0 p1 p2 p3 p4 : Addr) (w : World) (h0 : w.cell? p0 = some (.int .i64 6)) (h1 : w.cell? p1 = some (.int .u64 a)) (h2 : w.cell? p2 = some (.int .u64 b)) (h3 : w.cell? p3 = some (.int .i64 s)) (h4 : w.cell? p4 = some (.int .i64 t)) :
    Calls Try.prog 27 #[.pointer (some p0), .pointer (some p1), .pointer (some p2), .pointer (some p3), .pointer (some p4)] w fun e w' => e = .returned (.bool (cmpV 6 a b s t)) ∧ w = w' := by
  go_enter Try.func27, Try.ntmps27
  go_wp2_with fail
  all_goals go_ret
  all_goals (first | exact ⟨rfl, rfl⟩ | (simp [cmpV, *]; done))
set_option maxRecDepth 100000 in
set_option maxHeartbeats 1000000 in
theorem asks_7 (a b : Nat) (s t : Int) (p0 p1 p2 p3 p4 : Addr) (w : World) (h0 : w.cell? p0 = some (.int .i64 7)) (h1 : w.cell? p1 = some (.int .u64 a)) (h2 : w.cell? p2 = some (.int .u64 b)) (h3 : w.cell? p3 = some (.int .i64 s)) (h4 : w.cell? p4 = some (.int .i64 t)) :
    Calls Try.prog 27 #[.pointer (some p0), .pointer (some p1), .pointer (some p2), .pointer (some p3), .pointer (some p4)] w fun e w' => e = .returned (.bool (cmpV 7 a b s t)) ∧ w = w' := by
  go_enter Try.func27, Try.ntmps27
  go_wp2_with fail
  all_goals go_ret
  all_goals (first | exact ⟨rfl, rfl⟩ | (simp [cmpV, *]; done))
set_option maxRecDepth 100000 in
set_option maxHeartbeats 1000000 in
theorem asks_10 (a b : Nat) (s t : Int) (p0 p1 p2 p3 p4 : Addr) (w : World) (h0 : w.cell? p0 = some (.int .i64 10)) (h1 : w.cell? p1 = some (.int .u64 a)) (h2 : w.cell? p2 = some (.int .u64 b)) (h3 : w.cell? p3 = some (.int .i64 s)) (h4 : w.cell? p4 = some (.int .i64 t)) :
    Calls Try.prog 27 #[.pointer (some p0), .pointer (some p1), .pointer (some p2), .pointer (some p3), .pointer (some p4)] w fun e w' => e = .returned (.bool (cmpV 10 a b s t)) ∧ w = w' := by
  go_enter Try.func27, Try.ntmps27
  go_wp2_with fail
  all_goals go_ret
  all_goals (first | exact ⟨rfl, rfl⟩ | (simp [cmpV, *]; done))
set_option maxRecDepth 100000 in
set_option maxHeartbeats 1000000 in
theorem asks_11 (a b : Nat) (s t : Int) (p0 p1 p2 p3 p4 : Addr) (w : World) (h0 : w.cell? p0 = some (.int .i64 11)) (h1 : w.cell? p1 = some (.int .u64 a)) (h2 : w.cell? p2 = some (.int .u64 b)) (h3 : w.cell? p3 = some (.int .i64 s)) (h4 : w.cell? p4 = some (.int .i64 t)) :
    Calls Try.prog 27 #[.pointer (some p0), .pointer (some p1), .pointer (some p2), .pointer (some p3), .pointer (some p4)] w fun e w' => e = .returned (.bool (cmpV 11 a b s t)) ∧ w = w' := by
  go_enter Try.func27, Try.ntmps27
  go_wp2_with fail
  all_goals go_ret
  all_goals (first | exact ⟨rfl, rfl⟩ | (simp [cmpV, *]; done))
set_option maxRecDepth 100000 in
set_option maxHeartbeats 1000000 in
theorem asks_12 (a b : Nat) (s t : Int) (p0 p1 p2 p3 p4 : Addr) (w : World) (h0 : w.cell? p0 = some (.int .i64 12)) (h1 : w.cell? p1 = some (.int .u64 a)) (h2 : w.cell? p2 = some (.int .u64 b)) (h3 : w.cell? p3 = some (.int .i64 s)) (h4 : w.cell? p4 = some (.int .i64 t)) :
    Calls Try.prog 27 #[.pointer (some p0), .pointer (some p1), .pointer (some p2), .pointer (some p3), .pointer (some p4)] w fun e w' => e = .returned (.bool (cmpV 12 a b s t)) ∧ w = w' := by
  go_enter Try.func27, Try.ntmps27
  go_wp2_with fail
  all_goals go_ret
  all_goals (first | exact ⟨rfl, rfl⟩ | (simp [cmpV, *]; done))
set_option maxRecDepth 100000 in
set_option maxHeartbeats 1000000 in
theorem asks_13 (a b : Nat) (s t : Int) (p0 p1 p2 p3 p4 : Addr) (w : World) (h0 : w.cell? p0 = some (.int .i64 13)) (h1 : w.cell? p1 = some (.int .u64 a)) (h2 : w.cell? p2 = some (.int .u64 b)) (h3 : w.cell? p3 = some (.int .i64 s)) (h4 : w.cell? p4 = some (.int .i64 t)) :
    Calls Try.prog 27 #[.pointer (some p0), .pointer (some p1), .pointer (some p2), .pointer (some p3), .pointer (some p4)] w fun e w' => e = .returned (.bool (cmpV 13 a b s t)) ∧ w = w' := by
  go_enter Try.func27, Try.ntmps27
  go_wp2_with fail
  all_goals go_ret
  all_goals (first | exact ⟨rfl, rfl⟩ | (simp [cmpV, *]; done))

def valid (o : Nat) : Bool := (1 ≤ o && o ≤ 7) || (10 ≤ o && o ≤ 13)
theorem asks_any (o a b : Nat) (s t : Int) (p0 p1 p2 p3 p4 : Addr) (w : World) (ho : valid o = true) (h0 : w.cell? p0 = some (.int .i64 o)) (h1 : w.cell? p1 = some (.int .u64 a)) (h2 : w.cell? p2 = some (.int .u64 b)) (h3 : w.cell? p3 = some (.int .i64 s)) (h4 : w.cell? p4 = some (.int .i64 t)) :
    Calls Try.prog 27 #[.pointer (some p0), .pointer (some p1), .pointer (some p2), .pointer (some p3), .pointer (some p4)] w fun e w' => e = .returned (.bool (cmpV o a b s t)) ∧ w = w' := by
  match o, ho with
  | 1, _ => exact asks_1 a b s t p0 p1 p2 p3 p4 w h0 h1 h2 h3 h4
  | 2, _ => exact asks_2 a b s t p0 p1 p2 p3 p4 w h0 h1 h2 h3 h4
  | 3, _ => exact asks_3 a b s t p0 p1 p2 p3 p4 w h0 h1 h2 h3 h4
  | 4, _ => exact asks_4 a b s t p0 p1 p2 p3 p4 w h0 h1 h2 h3 h4
  | 5, _ => exact asks_5 a b s t p0 p1 p2 p3 p4 w h0 h1 h2 h3 h4
  | 6, _ => exact asks_6 a b s t p0 p1 p2 p3 p4 w h0 h1 h2 h3 h4
  | 7, _ => exact asks_7 a b s t p0 p1 p2 p3 p4 w h0 h1 h2 h3 h4
  | 10, _ => exact asks_10 a b s t p0 p1 p2 p3 p4 w h0 h1 h2 h3 h4
  | 11, _ => exact asks_11 a b s t p0 p1 p2 p3 p4 w h0 h1 h2 h3 h4
  | 12, _ => exact asks_12 a b s t p0 p1 p2 p3 p4 w h0 h1 h2 h3 h4
  | 13, _ => exact asks_13 a b s t p0 p1 p2 p3 p4 w h0 h1 h2 h3 h4

theorem kp0 {W : World} {a : Addr} {v : Value} (h : W.cell? a = some v) : W.drew.cell? a = some v := h
theorem kpa {W : World} {a : Addr} {v : Value} {o : Obj} (h : W.cell? a = some v) : (W.alloc o).cell? a = some v := by
  rw [World.cell?_alloc_some]; exact h; rw [h]; rfl
theorem frozen_out {W : World} {a : Addr} (h : W.heap.size ≤ a.block) : W.frozen? a = false := by
  have e : W.heap[a.block]? = Option.none := Array.getElem?_eq_none h
  simp [World.frozen?, e]
theorem W_facts (o : Int) (x y : Nat) (w : World) : ∃ W b4 b6 b7, W = ((w.alloc (Obj.cells #[Value.int IntKind.i64 o] 3)).alloc (Obj.cells #[Value.int IntKind.u64 ↑x] 22)).alloc (Obj.cells #[Value.int IntKind.u64 ↑y] 22) ∧ w.heap.size = b4 ∧ w.heap.size + 1 = b6 ∧ w.heap.size + 1 + 1 = b7 ∧
   Hid (W.heap.size = b4 + 3) ∧ W.cell? ⟨b4, 0, none⟩ = some (.int .i64 o) ∧ W.cell? ⟨b6, 0, none⟩ = some (.int .u64 x) ∧ W.cell? ⟨b7, 0, none⟩ = some (.int .u64 y) ∧ W.frozen? ⟨b6, 0, none⟩ = false ∧ W.frozen? ⟨b7, 0, none⟩ = false ∧ Below w.heap.size w W := by
  refine ⟨_, _, _, _, rfl, rfl, rfl, rfl, (by show _ = _; simp), ?_, ?_, ?_, ?_, ?_, (((Below.refl _ _).alloc (Nat.le_refl _) _).alloc (by simp) _).alloc (by simp; omega) _⟩
  · rw [World.cell?_alloc_past _ _ _ (by simp; omega), World.cell?_alloc_past _ _ _ (by simp), World.cell?_alloc_at _ _ _ _ rfl]; rfl
  · rw [World.cell?_alloc_past _ _ _ (by simp), World.cell?_alloc_at _ _ _ _ (by simp)]; rfl
  · rw [World.cell?_alloc_at _ _ _ _ (by simp)]; rfl
  · rw [frozen?_alloc_cells, frozen?_alloc_cells, frozen?_alloc_cells]; exact frozen_out (by simp)
  · rw [frozen?_alloc_cells, frozen?_alloc_cells, frozen?_alloc_cells]; exact frozen_out (by simp; omega)
/-- behind the first statement: two new cells, in whichever order they were made. -/
def After (w0 : World) (n : Nat) (o : Int) (x y : Nat) (s t : Int) (b4 b6 b7 b10 b11 : Nat) (W : World) : Prop :=
  W.cell? ⟨b4, 0, none⟩ = some (.int .i64 o) ∧ W.cell? ⟨b6, 0, none⟩ = some (.int .u64 x) ∧ W.cell? ⟨b7, 0, none⟩ = some (.int .u64 y) ∧ W.cell? ⟨b10, 0, none⟩ = some (.int .i64 s) ∧ W.cell? ⟨b11, 0, none⟩ = some (.int .i64 t) ∧
  W.frozen? ⟨b6, 0, none⟩ = false ∧ W.frozen? ⟨b7, 0, none⟩ = false ∧ W.frozen? ⟨b10, 0, none⟩ = false ∧ W.frozen? ⟨b11, 0, none⟩ = false ∧ (b10 ≠ b11 ∧ b4 ≠ b10 ∧ b6 ≠ b10 ∧ b7 ≠ b10 ∧ b4 ≠ b11 ∧ b6 ≠ b11 ∧ b7 ≠ b11) ∧ n ≤ b10 ∧ n ≤ b11 ∧ Below n w0 W
theorem after_mk {w0 W : World} {n b4 b6 b7 : Nat} {o : Int} {x y : Nat} {s t : Int} (c4 : W.cell? ⟨b4, 0, none⟩ = some (.int .i64 o)) (c6 : W.cell? ⟨b6, 0, none⟩ = some (.int .u64 x)) (c7 : W.cell? ⟨b7, 0, none⟩ = some (.int .u64 y))
    (f6 : W.frozen? ⟨b6, 0, none⟩ = false) (f7 : W.frozen? ⟨b7, 0, none⟩ = false) (hb : Below n w0 W) (hn : n ≤ W.heap.size) :
    After w0 n o x y s t b4 b6 b7 W.heap.size (W.heap.size + 1) ((W.alloc (Obj.cells #[Value.int IntKind.i64 s] 2)).alloc (Obj.cells #[Value.int IntKind.i64 t] 2)).drew := by
  have l4 := World.block_lt_of_cell? W _ c4
  have l6 := World.block_lt_of_cell? W _ c6
  have l7 := World.block_lt_of_cell? W _ c7
  simp only at l4 l6 l7
  refine ⟨kp0 (kpa (kpa c4)), kp0 (kpa (kpa c6)), kp0 (kpa (kpa c7)), ?_, ?_, ?_, ?_, ?_, ?_, ⟨by omega, by omega, by omega, by omega, by omega, by omega, by omega⟩, hn, by omega, ((hb.alloc hn _).alloc (by simp; omega) _).drew⟩
  · exact kp0 (kpa (by rw [World.cell?_alloc_at _ _ _ _ rfl]; rfl))
  · exact kp0 (by rw [World.cell?_alloc_at _ _ _ _ (by simp)]; rfl)
  · show ((W.alloc _).alloc _).frozen? _ = _; rw [frozen?_alloc_cells, frozen?_alloc_cells]; exact f6
  · show ((W.alloc _).alloc _).frozen? _ = _; rw [frozen?_alloc_cells, frozen?_alloc_cells]; exact f7
  · show ((W.alloc _).alloc _).frozen? _ = _; rw [frozen?_alloc_cells, frozen?_alloc_cells]; exact frozen_out (by simp)
  · show ((W.alloc _).alloc _).frozen? _ = _; rw [frozen?_alloc_cells, frozen?_alloc_cells]; exact frozen_out (by simp)
theorem After.swap {w0 W : World} {n b4 b6 b7 b10 b11 : Nat} {o : Int} {x y : Nat} {s t : Int} (h : After w0 n o x y s t b4 b6 b7 b10 b11 W) : After w0 n o x y t s b4 b6 b7 b11 b10 W := by
  obtain ⟨c4, c6, c7, c10, c11, f6, f7, f10, f11, ⟨n1, n2, n3, n4, n5, n6, n7⟩, l1, l2, hb⟩ := h
  exact ⟨c4, c6, c7, c11, c10, f6, f7, f11, f10, ⟨n1.symm, n5, n6, n7, n2, n3, n4⟩, l2, l1, hb⟩
theorem low_c {a r : Nat} (ha : a < 2 ^ 64) (hr : a % 2 ^ 32 = r) (w : World) :
    Calls Try.prog 22 #[.int .u64 a] w fun e w' => e = .returned (.int .u64 r) ∧ w = w' := by
  subst hr; exact low_any a w ha
set_option maxRecDepth 100000 in
set_option maxHeartbeats 4000000 in
theorem cmp_wide (o : Nat) (x y : Nat) (s t : Int) (w : World) (es : Hid (IntKind.i64.wrap (x : Int) = s)) (et : Hid (IntKind.i64.wrap (y : Int) = t)) (hv : Hid (valid o = true)) (ho1 : 1 ≤ (o : Int)) (ho2 : (o : Int) ≤ 13) (h8 : ((o : Int) == 8) = false) (h9 : ((o : Int) == 9) = false) :
    Calls Try.prog 19 #[.int .i64 o, .bool true, .int .u64 x, .int .u64 y] w fun e w' => e = .returned (.tuple #[.bool (cmpV o x y s t), .bool true]) ∧ Below w.heap.size w w' := by
  have hmf : ∀ (fn : Fn) (first cap : Array Value) (w : World), (Instr.makeFunc fn first cap).run Try.prog w = .ok (.func fn first cap) w := fun _ _ _ _ => rfl
  obtain ⟨W, b4, b6, b7, hW, e4, e6, e7, hs, c4, c6, c7, f6, f7, hbW⟩ := W_facts o x y w
  have E4 := Lib.hid e4
  have E6 := Lib.hid e6
  have E7 := Lib.hid e7
  have HW := Lib.hid hW
  clear e4 e6 e7 hW
  go_enter Try.func19, Try.ntmps19
  go_wp2_with fail
  rw [← HW.out, E7.out, E6.out, E4.out]
  clear HW
  have n8 : b6 ≠ b7 := by have := E6.out; have := E7.out; omega
  have n9 : b4 ≠ b6 := by have := E6.out; have := E4.out; omega
  have n10 : b4 ≠ b7 := by have := E4.out; have := E7.out; omega
  have hl6 : w.heap.size ≤ b6 := by have := E6.out; omega
  have hl7 : w.heap.size ≤ b7 := by have := E7.out; omega
  refine Reg.start (S := (fun w' => w'.cell? ⟨b6, 0, none⟩ = some (.int .u64 x) ∧ w'.cell? ⟨b7, 0, none⟩ = some (.int .u64 y))) (B := (fun _ => false)) (by kernel_rfl) ?_
  refine Reg.take1 (i := 0) (v := .int .u64 x) rfl (by kernel_rfl) (by kernel_rfl) (by kernel_rfl) (by kernel_rfl) (by kernel_rfl) (fun _ _ _ h => h) (Or.inl ⟨by rfl, ?_⟩) ⟨kp0 c6, kp0 c7⟩ ?_
  · (intro w hS; obtain ⟨hs1, hs2⟩ := hS; go_simp; try with_reducible rfl)
  try simp only [Act.put, List.setIfInBounds_toArray, List.set_cons_zero, List.set_cons_succ]
  refine Reg.take0 (i := 1) (v := .int .i64 s) rfl (by kernel_rfl) (by kernel_rfl) (by kernel_rfl) (by kernel_rfl) (fun _ _ _ h => h) (Or.inl ⟨by rfl, ?_⟩) ?_
  · (intro w _; have hh := es.out; go_simp; try with_reducible rfl)
  try simp only [Act.put, List.setIfInBounds_toArray, List.set_cons_zero, List.set_cons_succ]
  refine Reg.take1 (i := 2) (v := .int .u64 y) rfl (by kernel_rfl) (by kernel_rfl) (by kernel_rfl) (by kernel_rfl) (by kernel_rfl) (fun _ _ _ h => h) (Or.inl ⟨by rfl, ?_⟩) ⟨kp0 c6, kp0 c7⟩ ?_
  · (intro w hS; obtain ⟨hs1, hs2⟩ := hS; go_simp; try with_reducible rfl)
  try simp only [Act.put, List.setIfInBounds_toArray, List.set_cons_zero, List.set_cons_succ]
  refine Reg.take0 (i := 3) (v := .int .i64 t) rfl (by kernel_rfl) (by kernel_rfl) (by kernel_rfl) (by kernel_rfl) (fun _ _ _ h => h) (Or.inl ⟨by rfl, ?_⟩) ?_
  · (intro w _; have hh := et.out; go_simp; try with_reducible rfl)
  try simp only [Act.put, List.setIfInBounds_toArray, List.set_cons_zero, List.set_cons_succ]
  refine Reg.both (i := 4) (i2 := 5) (by kernel_rfl) rfl rfl (fun K hK => ?_) (fun K hK => ?_)
  · have hA := after_mk (s := s) (t := t) c4 c6 c7 f6 f7 hbW (by have := hs.out; have := E4.out; omega)
    go_simp
    refine hK _ _ (fun _ h => ⟨kp0 (kpa c6), kp0 (kpa c7)⟩) ?_
    clear hK K
    try simp only [Act.put, List.setIfInBounds_toArray, List.set_cons_zero, List.set_cons_succ]
    refine Reg.only (i := 5) (by kernel_rfl) rfl (fun K hK => ?_)
    go_simp
    refine hK _ _ (fun _ _ => ⟨kp0 (kpa (kpa c6)), kp0 (kpa (kpa c7))⟩) ?_
    clear hK K
    try simp only [Act.put, List.setIfInBounds_toArray, List.set_cons_zero, List.set_cons_succ]
    refine Reg.only (i := 6) (by kernel_rfl) rfl (fun K hK => ?_)
    go_simp
    refine hK _ _ (fun _ _ => ⟨kp0 (kpa (kpa c6)), kp0 (kpa (kpa c7))⟩) ?_
    clear hK K
    try simp only [Act.put, List.setIfInBounds_toArray, List.set_cons_zero, List.set_cons_succ]
    refine Reg.only (i := 7) (by kernel_rfl) rfl (fun K hK => ?_)
    go_simp
    refine hK _ _ (fun _ _ => ⟨kp0 (kpa (kpa c6)), kp0 (kpa (kpa c7))⟩) ?_
    clear hK K
    try simp only [Act.put, List.setIfInBounds_toArray, List.set_cons_zero, List.set_cons_succ]
    refine Reg.done (by kernel_rfl) ?_ _
    clear c4 c6 c7 f6 f7 hbW hs
    revert hA
    generalize ((W.alloc (Obj.cells #[Value.int IntKind.i64 s] 2)).alloc (Obj.cells #[Value.int IntKind.i64 t] 2)).drew = W2
    generalize W.heap.size + 1 = b11
    generalize W.heap.size = b10
    rintro ⟨c4, c6, c7, c10, c11, f6, f7, f10, f11, hne, hl1, hl2, hb⟩
    obtain ⟨n1, n2, n3, n4, n5, n6, n7⟩ := hne
    go_wp2_with fail
    refine (asks_any o x y _ _ _ _ _ _ _ _ hv.out c4 c6 c7 c10 c11).mono ?_; rintro e w' ⟨rfl, rfl⟩
    go_wp2_with fail
    go_ret2
    exact ⟨rfl, hb⟩
  · have hA := (after_mk (s := t) (t := s) c4 c6 c7 f6 f7 hbW (by have := hs.out; have := E4.out; omega)).swap
    go_simp
    refine hK _ _ (fun _ h => ⟨kp0 (kpa c6), kp0 (kpa c7)⟩) ?_
    clear hK K
    try simp only [Act.put, List.setIfInBounds_toArray, List.set_cons_zero, List.set_cons_succ]
    refine Reg.only (i := 4) (by kernel_rfl) rfl (fun K hK => ?_)
    go_simp
    refine hK _ _ (fun _ _ => ⟨kp0 (kpa (kpa c6)), kp0 (kpa (kpa c7))⟩) ?_
    clear hK K
    try simp only [Act.put, List.setIfInBounds_toArray, List.set_cons_zero, List.set_cons_succ]
    refine Reg.only (i := 6) (by kernel_rfl) rfl (fun K hK => ?_)
    go_simp
    refine hK _ _ (fun _ _ => ⟨kp0 (kpa (kpa c6)), kp0 (kpa (kpa c7))⟩) ?_
    clear hK K
    try simp only [Act.put, List.setIfInBounds_toArray, List.set_cons_zero, List.set_cons_succ]
    refine Reg.only (i := 7) (by kernel_rfl) rfl (fun K hK => ?_)
    go_simp
    refine hK _ _ (fun _ _ => ⟨kp0 (kpa (kpa c6)), kp0 (kpa (kpa c7))⟩) ?_
    clear hK K
    try simp only [Act.put, List.setIfInBounds_toArray, List.set_cons_zero, List.set_cons_succ]
    refine Reg.done (by kernel_rfl) ?_ _
    clear c4 c6 c7 f6 f7 hbW hs
    revert hA
    generalize ((W.alloc (Obj.cells #[Value.int IntKind.i64 t] 2)).alloc (Obj.cells #[Value.int IntKind.i64 s] 2)).drew = W2
    generalize W.heap.size + 1 = b10
    generalize W.heap.size = b11
    rintro ⟨c4, c6, c7, c10, c11, f6, f7, f10, f11, hne, hl1, hl2, hb⟩
    obtain ⟨n1, n2, n3, n4, n5, n6, n7⟩ := hne
    go_wp2_with fail
    refine (asks_any o x y _ _ _ _ _ _ _ _ hv.out c4 c6 c7 c10 c11).mono ?_; rintro e w' ⟨rfl, rfl⟩
    go_wp2_with fail
    go_ret2
    exact ⟨rfl, hb⟩

set_option maxRecDepth 100000 in
set_option maxHeartbeats 4000000 in
theorem cmp_narrow (o : Nat) (x y xl yl : Nat) (s t s2 t2 : Int) (w : World) (hx : x < 2 ^ 64) (hy : y < 2 ^ 64) (es : Hid (IntKind.i64.wrap (x : Int) = s)) (et : Hid (IntKind.i64.wrap (y : Int) = t)) (exl : Hid (x % 2 ^ 32 = xl)) (eyl : Hid (y % 2 ^ 32 = yl))
    (es2 : Hid (IntKind.i32.wrap (x : Int) = s2)) (et2 : Hid (IntKind.i32.wrap (y : Int) = t2)) (hs1 : -2147483648 ≤ s2) (hs2 : s2 ≤ 2147483647) (ht1 : -2147483648 ≤ t2) (ht2 : t2 ≤ 2147483647) (hv : Hid (valid o = true)) (ho1 : 1 ≤ (o : Int)) (ho2 : (o : Int) ≤ 13) (h8 : ((o : Int) == 8) = false) (h9 : ((o : Int) == 9) = false) :
    Calls Try.prog 19 #[.int .i64 o, .bool false, .int .u64 x, .int .u64 y] w fun e w' => e = .returned (.tuple #[.bool (cmpV o xl yl s2 t2), .bool true]) ∧ Below w.heap.size w w' := by
  have hmf : ∀ (fn : Fn) (first cap : Array Value) (w : World), (Instr.makeFunc fn first cap).run Try.prog w = .ok (.func fn first cap) w := fun _ _ _ _ => rfl
  obtain ⟨W, b4, b6, b7, hW, e4, e6, e7, hs, c4, c6, c7, f6, f7, hbW⟩ := W_facts o x y w
  have E4 := Lib.hid e4
  have E6 := Lib.hid e6
  have E7 := Lib.hid e7
  have HW := Lib.hid hW
  clear e4 e6 e7 hW
  go_enter Try.func19, Try.ntmps19
  go_wp2_with fail
  rw [← HW.out, E7.out, E6.out, E4.out]
  clear HW
  have n8 : b6 ≠ b7 := by have := E6.out; have := E7.out; omega
  have n9 : b4 ≠ b6 := by have := E6.out; have := E4.out; omega
  have n10 : b4 ≠ b7 := by have := E4.out; have := E7.out; omega
  have hl6 : w.heap.size ≤ b6 := by have := E6.out; omega
  have hl7 : w.heap.size ≤ b7 := by have := E7.out; omega
  refine Reg.start (S := (fun w' => w'.cell? ⟨b6, 0, none⟩ = some (.int .u64 x) ∧ w'.cell? ⟨b7, 0, none⟩ = some (.int .u64 y))) (B := (fun _ => false)) (by kernel_rfl) ?_
  refine Reg.take1 (i := 0) (v := .int .u64 x) rfl (by kernel_rfl) (by kernel_rfl) (by kernel_rfl) (by kernel_rfl) (by kernel_rfl) (fun _ _ _ h => h) (Or.inl ⟨by rfl, ?_⟩) ⟨kp0 c6, kp0 c7⟩ ?_
  · (intro w hS; obtain ⟨hs1, hs2⟩ := hS; go_simp; try with_reducible rfl)
  try simp only [Act.put, List.setIfInBounds_toArray, List.set_cons_zero, List.set_cons_succ]
  refine Reg.take0 (i := 1) (v := .int .i64 s) rfl (by kernel_rfl) (by kernel_rfl) (by kernel_rfl) (by kernel_rfl) (fun _ _ _ h => h) (Or.inl ⟨by rfl, ?_⟩) ?_
  · (intro w _; have hh := es.out; go_simp; try with_reducible rfl)
  try simp only [Act.put, List.setIfInBounds_toArray, List.set_cons_zero, List.set_cons_succ]
  refine Reg.take1 (i := 2) (v := .int .u64 y) rfl (by kernel_rfl) (by kernel_rfl) (by kernel_rfl) (by kernel_rfl) (by kernel_rfl) (fun _ _ _ h => h) (Or.inl ⟨by rfl, ?_⟩) ⟨kp0 c6, kp0 c7⟩ ?_
  · (intro w hS; obtain ⟨hs1, hs2⟩ := hS; go_simp; try with_reducible rfl)
  try simp only [Act.put, List.setIfInBounds_toArray, List.set_cons_zero, List.set_cons_succ]
  refine Reg.take0 (i := 3) (v := .int .i64 t) rfl (by kernel_rfl) (by kernel_rfl) (by kernel_rfl) (by kernel_rfl) (fun _ _ _ h => h) (Or.inl ⟨by rfl, ?_⟩) ?_
  · (intro w _; have hh := et.out; go_simp; try with_reducible rfl)
  try simp only [Act.put, List.setIfInBounds_toArray, List.set_cons_zero, List.set_cons_succ]
  refine Reg.both (i := 4) (i2 := 5) (by kernel_rfl) rfl rfl (fun K hK => ?_) (fun K hK => ?_)
  · have hA := after_mk (s := s) (t := t) c4 c6 c7 f6 f7 hbW (by have := hs.out; have := E4.out; omega)
    go_simp
    refine hK _ _ (fun _ h => ⟨kp0 (kpa c6), kp0 (kpa c7)⟩) ?_
    clear hK K
    try simp only [Act.put, List.setIfInBounds_toArray, List.set_cons_zero, List.set_cons_succ]
    refine Reg.only (i := 5) (by kernel_rfl) rfl (fun K hK => ?_)
    go_simp
    refine hK _ _ (fun _ _ => ⟨kp0 (kpa (kpa c6)), kp0 (kpa (kpa c7))⟩) ?_
    clear hK K
    try simp only [Act.put, List.setIfInBounds_toArray, List.set_cons_zero, List.set_cons_succ]
    refine Reg.only (i := 6) (by kernel_rfl) rfl (fun K hK => ?_)
    go_simp
    refine hK _ _ (fun _ _ => ⟨kp0 (kpa (kpa c6)), kp0 (kpa (kpa c7))⟩) ?_
    clear hK K
    try simp only [Act.put, List.setIfInBounds_toArray, List.set_cons_zero, List.set_cons_succ]
    refine Reg.only (i := 7) (by kernel_rfl) rfl (fun K hK => ?_)
    go_simp
    refine hK _ _ (fun _ _ => ⟨kp0 (kpa (kpa c6)), kp0 (kpa (kpa c7))⟩) ?_
    clear hK K
    try simp only [Act.put, List.setIfInBounds_toArray, List.set_cons_zero, List.set_cons_succ]
    refine Reg.done (by kernel_rfl) ?_ _
    clear c4 c6 c7 f6 f7 hbW hs
    revert hA
    generalize ((W.alloc (Obj.cells #[Value.int IntKind.i64 s] 2)).alloc (Obj.cells #[Value.int IntKind.i64 t] 2)).drew = W2
    generalize W.heap.size + 1 = b11
    generalize W.heap.size = b10
    rintro ⟨c4, c6, c7, c10, c11, f6, f7, f10, f11, hne, hl1, hl2, hb⟩
    obtain ⟨n1, n2, n3, n4, n5, n6, n7⟩ := hne
    go_wp2_with fail
    refine Reg.start (S := (fun w' => w'.cell? ⟨b6, 0, none⟩ = some (.int .u64 x) ∧ w'.cell? ⟨b7, 0, none⟩ = some (.int .u64 y))) (B := (fun j => [10, 11, 12, 13].contains j)) (by kernel_rfl) ?_
    refine Reg.take1 (i := 0) (v := .int .u64 x) rfl (by kernel_rfl) (by kernel_rfl) (by kernel_rfl) (by kernel_rfl) (by kernel_rfl) (fun _ _ _ h => h) (Or.inl ⟨by rfl, ?_⟩) ⟨kp0 c6, kp0 c7⟩ ?_
    · (intro w hS; obtain ⟨hs1, hs2⟩ := hS; go_simp; try with_reducible rfl)
    try simp only [Act.put, List.setIfInBounds_toArray, List.set_cons_zero, List.set_cons_succ]
    refine Reg.take1 (i := 2) (v := .int .u64 y) rfl (by kernel_rfl) (by kernel_rfl) (by kernel_rfl) (by kernel_rfl) (by kernel_rfl) (fun _ _ _ h => h) (Or.inl ⟨by rfl, ?_⟩) ⟨kp0 c6, kp0 c7⟩ ?_
    · (intro w hS; obtain ⟨hs1, hs2⟩ := hS; go_simp; try with_reducible rfl)
    try simp only [Act.put, List.setIfInBounds_toArray, List.set_cons_zero, List.set_cons_succ]
    refine Reg.take1 (i := 4) (v := .int .u64 x) rfl (by kernel_rfl) (by kernel_rfl) (by kernel_rfl) (by kernel_rfl) (by kernel_rfl) (fun _ _ _ h => h) (Or.inl ⟨by rfl, ?_⟩) ⟨kp0 c6, kp0 c7⟩ ?_
    · (intro w hS; obtain ⟨hs1, hs2⟩ := hS; go_simp; try with_reducible rfl)
    try simp only [Act.put, List.setIfInBounds_toArray, List.set_cons_zero, List.set_cons_succ]
    refine Reg.take1 (i := 7) (v := .int .u64 y) rfl (by kernel_rfl) (by kernel_rfl) (by kernel_rfl) (by kernel_rfl) (by kernel_rfl) (fun _ _ _ h => h) (Or.inl ⟨by rfl, ?_⟩) ⟨kp0 c6, kp0 c7⟩ ?_
    · (intro w hS; obtain ⟨hs1, hs2⟩ := hS; go_simp; try with_reducible rfl)
    try simp only [Act.put, List.setIfInBounds_toArray, List.set_cons_zero, List.set_cons_succ]
    refine Reg.take0 (i := 5) (v := .int .i32 s2) rfl (by kernel_rfl) (by kernel_rfl) (by kernel_rfl) (by kernel_rfl) (fun _ _ _ h => h) (Or.inl ⟨by rfl, ?_⟩) ?_
    · (intro w _; have hh := es2.out; go_simp; try with_reducible rfl)
    try simp only [Act.put, List.setIfInBounds_toArray, List.set_cons_zero, List.set_cons_succ]
    refine Reg.take0 (i := 6) (v := .int .i64 s2) rfl (by kernel_rfl) (by kernel_rfl) (by kernel_rfl) (by kernel_rfl) (fun _ _ _ h => h) (Or.inl ⟨by rfl, ?_⟩) ?_
    · (intro w _; go_simp; exact IntWalk.i64_in _ (by omega); try with_reducible rfl)
    try simp only [Act.put, List.setIfInBounds_toArray, List.set_cons_zero, List.set_cons_succ]
    refine Reg.take0 (i := 8) (v := .int .i32 t2) rfl (by kernel_rfl) (by kernel_rfl) (by kernel_rfl) (by kernel_rfl) (fun _ _ _ h => h) (Or.inl ⟨by rfl, ?_⟩) ?_
    · (intro w _; have hh := et2.out; go_simp; try with_reducible rfl)
    try simp only [Act.put, List.setIfInBounds_toArray, List.set_cons_zero, List.set_cons_succ]
    refine Reg.take0 (i := 9) (v := .int .i64 t2) rfl (by kernel_rfl) (by kernel_rfl) (by kernel_rfl) (by kernel_rfl) (fun _ _ _ h => h) (Or.inl ⟨by rfl, ?_⟩) ?_
    · (intro w _; go_simp; exact IntWalk.i64_in _ (by omega); try with_reducible rfl)
    try simp only [Act.put, List.setIfInBounds_toArray, List.set_cons_zero, List.set_cons_succ]
    refine Reg.only (i := 1) (by kernel_rfl) rfl (fun K hK => ?_)
    go_simp
    refine (low_c hx exl.out _).mono ?_; rintro e w' ⟨rfl, rfl⟩
    simp only []
    refine hK _ _ (fun _ h => h) ?_
    clear hK K
    try simp only [Act.put, List.setIfInBounds_toArray, List.set_cons_zero, List.set_cons_succ]
    refine Reg.only (i := 3) (by kernel_rfl) rfl (fun K hK => ?_)
    go_simp
    refine (low_c hy eyl.out _).mono ?_; rintro e w' ⟨rfl, rfl⟩
    simp only []
    refine hK _ _ (fun _ h => h) ?_
    clear hK K
    try simp only [Act.put, List.setIfInBounds_toArray, List.set_cons_zero, List.set_cons_succ]
    refine Reg.only (i := 10) (by kernel_rfl) rfl (fun K hK => ?_)
    go_simp
    refine hK _ _ (fun hb => absurd hb (by decide)) ?_
    clear hK K
    try simp only [Act.put, List.setIfInBounds_toArray, List.set_cons_zero, List.set_cons_succ]
    refine Reg.only (i := 11) (by kernel_rfl) rfl (fun K hK => ?_)
    go_simp
    refine hK _ _ (fun hb => absurd hb (by decide)) ?_
    clear hK K
    try simp only [Act.put, List.setIfInBounds_toArray, List.set_cons_zero, List.set_cons_succ]
    refine Reg.only (i := 12) (by kernel_rfl) rfl (fun K hK => ?_)
    go_simp
    refine hK _ _ (fun hb => absurd hb (by decide)) ?_
    clear hK K
    try simp only [Act.put, List.setIfInBounds_toArray, List.set_cons_zero, List.set_cons_succ]
    refine Reg.only (i := 13) (by kernel_rfl) rfl (fun K hK => ?_)
    go_simp
    refine hK _ _ (fun hb => absurd hb (by decide)) ?_
    clear hK K
    try simp only [Act.put, List.setIfInBounds_toArray, List.set_cons_zero, List.set_cons_succ]
    refine Reg.done (by kernel_rfl) ?_ _
    go_wp2_with fail
    refine (asks_any o xl yl s2 t2 _ _ _ _ _ _ hv.out ?_ ?_ ?_ ?_ ?_).mono ?_
    · go_simp
    · go_simp
    · go_simp
    · go_simp
    · go_simp
    rintro e w' ⟨rfl, rfl⟩
    go_wp2_with fail
    go_ret2
    exact ⟨rfl, ((((hb.setCell hl6 _).setCell hl7 _).setCell hl1 _).setCell hl2 _).drew⟩
  · have hA := (after_mk (s := t) (t := s) c4 c6 c7 f6 f7 hbW (by have := hs.out; have := E4.out; omega)).swap
    go_simp
    refine hK _ _ (fun _ h => ⟨kp0 (kpa c6), kp0 (kpa c7)⟩) ?_
    clear hK K
    try simp only [Act.put, List.setIfInBounds_toArray, List.set_cons_zero, List.set_cons_succ]
    refine Reg.only (i := 4) (by kernel_rfl) rfl (fun K hK => ?_)
    go_simp
    refine hK _ _ (fun _ _ => ⟨kp0 (kpa (kpa c6)), kp0 (kpa (kpa c7))⟩) ?_
    clear hK K
    try simp only [Act.put, List.setIfInBounds_toArray, List.set_cons_zero, List.set_cons_succ]
    refine Reg.only (i := 6) (by kernel_rfl) rfl (fun K hK => ?_)
    go_simp
    refine hK _ _ (fun _ _ => ⟨kp0 (kpa (kpa c6)), kp0 (kpa (kpa c7))⟩) ?_
    clear hK K
    try simp only [Act.put, List.setIfInBounds_toArray, List.set_cons_zero, List.set_cons_succ]
    refine Reg.only (i := 7) (by kernel_rfl) rfl (fun K hK => ?_)
    go_simp
    refine hK _ _ (fun _ _ => ⟨kp0 (kpa (kpa c6)), kp0 (kpa (kpa c7))⟩) ?_
    clear hK K
    try simp only [Act.put, List.setIfInBounds_toArray, List.set_cons_zero, List.set_cons_succ]
    refine Reg.done (by kernel_rfl) ?_ _
    clear c4 c6 c7 f6 f7 hbW hs
    revert hA
    generalize ((W.alloc (Obj.cells #[Value.int IntKind.i64 t] 2)).alloc (Obj.cells #[Value.int IntKind.i64 s] 2)).drew = W2
    generalize W.heap.size + 1 = b10
    generalize W.heap.size = b11
    rintro ⟨c4, c6, c7, c10, c11, f6, f7, f10, f11, hne, hl1, hl2, hb⟩
    obtain ⟨n1, n2, n3, n4, n5, n6, n7⟩ := hne
    go_wp2_with fail
    refine Reg.start (S := (fun w' => w'.cell? ⟨b6, 0, none⟩ = some (.int .u64 x) ∧ w'.cell? ⟨b7, 0, none⟩ = some (.int .u64 y))) (B := (fun j => [10, 11, 12, 13].contains j)) (by kernel_rfl) ?_
    refine Reg.take1 (i := 0) (v := .int .u64 x) rfl (by kernel_rfl) (by kernel_rfl) (by kernel_rfl) (by kernel_rfl) (by kernel_rfl) (fun _ _ _ h => h) (Or.inl ⟨by rfl, ?_⟩) ⟨kp0 c6, kp0 c7⟩ ?_
    · (intro w hS; obtain ⟨hs1, hs2⟩ := hS; go_simp; try with_reducible rfl)
    try simp only [Act.put, List.setIfInBounds_toArray, List.set_cons_zero, List.set_cons_succ]
    refine Reg.take1 (i := 2) (v := .int .u64 y) rfl (by kernel_rfl) (by kernel_rfl) (by kernel_rfl) (by kernel_rfl) (by kernel_rfl) (fun _ _ _ h => h) (Or.inl ⟨by rfl, ?_⟩) ⟨kp0 c6, kp0 c7⟩ ?_
    · (intro w hS; obtain ⟨hs1, hs2⟩ := hS; go_simp; try with_reducible rfl)
    try simp only [Act.put, List.setIfInBounds_toArray, List.set_cons_zero, List.set_cons_succ]
    refine Reg.take1 (i := 4) (v := .int .u64 x) rfl (by kernel_rfl) (by kernel_rfl) (by kernel_rfl) (by kernel_rfl) (by kernel_rfl) (fun _ _ _ h => h) (Or.inl ⟨by rfl, ?_⟩) ⟨kp0 c6, kp0 c7⟩ ?_
    · (intro w hS; obtain ⟨hs1, hs2⟩ := hS; go_simp; try with_reducible rfl)
    try simp only [Act.put, List.setIfInBounds_toArray, List.set_cons_zero, List.set_cons_succ]
    refine Reg.take1 (i := 7) (v := .int .u64 y) rfl (by kernel_rfl) (by kernel_rfl) (by kernel_rfl) (by kernel_rfl) (by kernel_rfl) (fun _ _ _ h => h) (Or.inl ⟨by rfl, ?_⟩) ⟨kp0 c6, kp0 c7⟩ ?_
    · (intro w hS; obtain ⟨hs1, hs2⟩ := hS; go_simp; try with_reducible rfl)
    try simp only [Act.put, List.setIfInBounds_toArray, List.set_cons_zero, List.set_cons_succ]
    refine Reg.take0 (i := 5) (v := .int .i32 s2) rfl (by kernel_rfl) (by kernel_rfl) (by kernel_rfl) (by kernel_rfl) (fun _ _ _ h => h) (Or.inl ⟨by rfl, ?_⟩) ?_
    · (intro w _; have hh := es2.out; go_simp; try with_reducible rfl)
    try simp only [Act.put, List.setIfInBounds_toArray, List.set_cons_zero, List.set_cons_succ]
    refine Reg.take0 (i := 6) (v := .int .i64 s2) rfl (by kernel_rfl) (by kernel_rfl) (by kernel_rfl) (by kernel_rfl) (fun _ _ _ h => h) (Or.inl ⟨by rfl, ?_⟩) ?_
    · (intro w _; go_simp; exact IntWalk.i64_in _ (by omega); try with_reducible rfl)
    try simp only [Act.put, List.setIfInBounds_toArray, List.set_cons_zero, List.set_cons_succ]
    refine Reg.take0 (i := 8) (v := .int .i32 t2) rfl (by kernel_rfl) (by kernel_rfl) (by kernel_rfl) (by kernel_rfl) (fun _ _ _ h => h) (Or.inl ⟨by rfl, ?_⟩) ?_
    · (intro w _; have hh := et2.out; go_simp; try with_reducible rfl)
    try simp only [Act.put, List.setIfInBounds_toArray, List.set_cons_zero, List.set_cons_succ]
    refine Reg.take0 (i := 9) (v := .int .i64 t2) rfl (by kernel_rfl) (by kernel_rfl) (by kernel_rfl) (by kernel_rfl) (fun _ _ _ h => h) (Or.inl ⟨by rfl, ?_⟩) ?_
    · (intro w _; go_simp; exact IntWalk.i64_in _ (by omega); try with_reducible rfl)
    try simp only [Act.put, List.setIfInBounds_toArray, List.set_cons_zero, List.set_cons_succ]
    refine Reg.only (i := 1) (by kernel_rfl) rfl (fun K hK => ?_)
    go_simp
    refine (low_c hx exl.out _).mono ?_; rintro e w' ⟨rfl, rfl⟩
    simp only []
    refine hK _ _ (fun _ h => h) ?_
    clear hK K
    try simp only [Act.put, List.setIfInBounds_toArray, List.set_cons_zero, List.set_cons_succ]
    refine Reg.only (i := 3) (by kernel_rfl) rfl (fun K hK => ?_)
    go_simp
    refine (low_c hy eyl.out _).mono ?_; rintro e w' ⟨rfl, rfl⟩
    simp only []
    refine hK _ _ (fun _ h => h) ?_
    clear hK K
    try simp only [Act.put, List.setIfInBounds_toArray, List.set_cons_zero, List.set_cons_succ]
    refine Reg.only (i := 10) (by kernel_rfl) rfl (fun K hK => ?_)
    go_simp
    refine hK _ _ (fun hb => absurd hb (by decide)) ?_
    clear hK K
    try simp only [Act.put, List.setIfInBounds_toArray, List.set_cons_zero, List.set_cons_succ]
    refine Reg.only (i := 11) (by kernel_rfl) rfl (fun K hK => ?_)
    go_simp
    refine hK _ _ (fun hb => absurd hb (by decide)) ?_
    clear hK K
    try simp only [Act.put, List.setIfInBounds_toArray, List.set_cons_zero, List.set_cons_succ]
    refine Reg.only (i := 12) (by kernel_rfl) rfl (fun K hK => ?_)
    go_simp
    refine hK _ _ (fun hb => absurd hb (by decide)) ?_
    clear hK K
    try simp only [Act.put, List.setIfInBounds_toArray, List.set_cons_zero, List.set_cons_succ]
    refine Reg.only (i := 13) (by kernel_rfl) rfl (fun K hK => ?_)
    go_simp
    refine hK _ _ (fun hb => absurd hb (by decide)) ?_
    clear hK K
    try simp only [Act.put, List.setIfInBounds_toArray, List.set_cons_zero, List.set_cons_succ]
    refine Reg.done (by kernel_rfl) ?_ _
    go_wp2_with fail
    refine (asks_any o xl yl s2 t2 _ _ _ _ _ _ hv.out ?_ ?_ ?_ ?_ ?_).mono ?_
    · go_simp
    · go_simp
    · go_simp
    · go_simp
    · go_simp
    rintro e w' ⟨rfl, rfl⟩
    go_wp2_with fail
    go_ret2
    exact ⟨rfl, ((((hb.setCell hl6 _).setCell hl7 _).setCell hl1 _).setCell hl2 _).drew⟩

set_option maxRecDepth 100000 in
set_option maxHeartbeats 4000000 in
theorem cmp_lt_wide (o : Int) (x y xl yl : Nat) (s t s2 t2 : Int) (w : World) (hx : x < 2 ^ 64) (hy : y < 2 ^ 64) (es : Hid (IntKind.i64.wrap (x : Int) = s)) (et : Hid (IntKind.i64.wrap (y : Int) = t)) (exl : Hid (x % 2 ^ 32 = xl)) (eyl : Hid (y % 2 ^ 32 = yl))
    (es2 : Hid (IntKind.i32.wrap (x : Int) = s2)) (et2 : Hid (IntKind.i32.wrap (y : Int) = t2)) (hs1 : -2147483648 ≤ s2) (hs2 : s2 ≤ 2147483647) (ht1 : -2147483648 ≤ t2) (ht2 : t2 ≤ 2147483647) (ho : o < 1) :
    Calls Try.prog 19 #[.int .i64 o, .bool true, .int .u64 x, .int .u64 y] w fun e w' => e = .returned (.tuple #[.bool false, .bool false]) ∧ Below w.heap.size w w' := by
  have hmf : ∀ (fn : Fn) (first cap : Array Value) (w : World), (Instr.makeFunc fn first cap).run Try.prog w = .ok (.func fn first cap) w := fun _ _ _ _ => rfl
  obtain ⟨W, b4, b6, b7, hW, e4, e6, e7, hs, c4, c6, c7, f6, f7, hbW⟩ := W_facts o x y w
  have E4 := Lib.hid e4
  have E6 := Lib.hid e6
  have E7 := Lib.hid e7
  have HW := Lib.hid hW
  clear e4 e6 e7 hW
  go_enter Try.func19, Try.ntmps19
  go_wp2_with fail
  rw [← HW.out, E7.out, E6.out, E4.out]
  clear HW
  have n8 : b6 ≠ b7 := by have := E6.out; have := E7.out; omega
  have n9 : b4 ≠ b6 := by have := E6.out; have := E4.out; omega
  have n10 : b4 ≠ b7 := by have := E4.out; have := E7.out; omega
  have hl6 : w.heap.size ≤ b6 := by have := E6.out; omega
  have hl7 : w.heap.size ≤ b7 := by have := E7.out; omega
  refine Reg.start (S := (fun w' => w'.cell? ⟨b6, 0, none⟩ = some (.int .u64 x) ∧ w'.cell? ⟨b7, 0, none⟩ = some (.int .u64 y))) (B := (fun _ => false)) (by kernel_rfl) ?_
  refine Reg.take1 (i := 0) (v := .int .u64 x) rfl (by kernel_rfl) (by kernel_rfl) (by kernel_rfl) (by kernel_rfl) (by kernel_rfl) (fun _ _ _ h => h) (Or.inl ⟨by rfl, ?_⟩) ⟨kp0 c6, kp0 c7⟩ ?_
  · (intro w hS; obtain ⟨hs1, hs2⟩ := hS; go_simp; try with_reducible rfl)
  try simp only [Act.put, List.setIfInBounds_toArray, List.set_cons_zero, List.set_cons_succ]
  refine Reg.take0 (i := 1) (v := .int .i64 s) rfl (by kernel_rfl) (by kernel_rfl) (by kernel_rfl) (by kernel_rfl) (fun _ _ _ h => h) (Or.inl ⟨by rfl, ?_⟩) ?_
  · (intro w _; have hh := es.out; go_simp; try with_reducible rfl)
  try simp only [Act.put, List.setIfInBounds_toArray, List.set_cons_zero, List.set_cons_succ]
  refine Reg.take1 (i := 2) (v := .int .u64 y) rfl (by kernel_rfl) (by kernel_rfl) (by kernel_rfl) (by kernel_rfl) (by kernel_rfl) (fun _ _ _ h => h) (Or.inl ⟨by rfl, ?_⟩) ⟨kp0 c6, kp0 c7⟩ ?_
  · (intro w hS; obtain ⟨hs1, hs2⟩ := hS; go_simp; try with_reducible rfl)
  try simp only [Act.put, List.setIfInBounds_toArray, List.set_cons_zero, List.set_cons_succ]
  refine Reg.take0 (i := 3) (v := .int .i64 t) rfl (by kernel_rfl) (by kernel_rfl) (by kernel_rfl) (by kernel_rfl) (fun _ _ _ h => h) (Or.inl ⟨by rfl, ?_⟩) ?_
  · (intro w _; have hh := et.out; go_simp; try with_reducible rfl)
  try simp only [Act.put, List.setIfInBounds_toArray, List.set_cons_zero, List.set_cons_succ]
  refine Reg.both (i := 4) (i2 := 5) (by kernel_rfl) rfl rfl (fun K hK => ?_) (fun K hK => ?_)
  · have hA := after_mk (s := s) (t := t) c4 c6 c7 f6 f7 hbW (by have := hs.out; have := E4.out; omega)
    go_simp
    refine hK _ _ (fun _ h => ⟨kp0 (kpa c6), kp0 (kpa c7)⟩) ?_
    clear hK K
    try simp only [Act.put, List.setIfInBounds_toArray, List.set_cons_zero, List.set_cons_succ]
    refine Reg.only (i := 5) (by kernel_rfl) rfl (fun K hK => ?_)
    go_simp
    refine hK _ _ (fun _ _ => ⟨kp0 (kpa (kpa c6)), kp0 (kpa (kpa c7))⟩) ?_
    clear hK K
    try simp only [Act.put, List.setIfInBounds_toArray, List.set_cons_zero, List.set_cons_succ]
    refine Reg.only (i := 6) (by kernel_rfl) rfl (fun K hK => ?_)
    go_simp
    refine hK _ _ (fun _ _ => ⟨kp0 (kpa (kpa c6)), kp0 (kpa (kpa c7))⟩) ?_
    clear hK K
    try simp only [Act.put, List.setIfInBounds_toArray, List.set_cons_zero, List.set_cons_succ]
    refine Reg.only (i := 7) (by kernel_rfl) rfl (fun K hK => ?_)
    go_simp
    refine hK _ _ (fun _ _ => ⟨kp0 (kpa (kpa c6)), kp0 (kpa (kpa c7))⟩) ?_
    clear hK K
    try simp only [Act.put, List.setIfInBounds_toArray, List.set_cons_zero, List.set_cons_succ]
    refine Reg.done (by kernel_rfl) ?_ _
    clear c4 c6 c7 f6 f7 hbW hs
    revert hA
    generalize ((W.alloc (Obj.cells #[Value.int IntKind.i64 s] 2)).alloc (Obj.cells #[Value.int IntKind.i64 t] 2)).drew = W2
    generalize W.heap.size + 1 = b11
    generalize W.heap.size = b10
    rintro ⟨c4, c6, c7, c10, c11, f6, f7, f10, f11, hne, hl1, hl2, hb⟩
    obtain ⟨n1, n2, n3, n4, n5, n6, n7⟩ := hne
    go_wp2_with fail
    go_ret2
    exact ⟨rfl, hb⟩
  · have hA := (after_mk (s := t) (t := s) c4 c6 c7 f6 f7 hbW (by have := hs.out; have := E4.out; omega)).swap
    go_simp
    refine hK _ _ (fun _ h => ⟨kp0 (kpa c6), kp0 (kpa c7)⟩) ?_
    clear hK K
    try simp only [Act.put, List.setIfInBounds_toArray, List.set_cons_zero, List.set_cons_succ]
    refine Reg.only (i := 4) (by kernel_rfl) rfl (fun K hK => ?_)
    go_simp
    refine hK _ _ (fun _ _ => ⟨kp0 (kpa (kpa c6)), kp0 (kpa (kpa c7))⟩) ?_
    clear hK K
    try simp only [Act.put, List.setIfInBounds_toArray, List.set_cons_zero, List.set_cons_succ]
    refine Reg.only (i := 6) (by kernel_rfl) rfl (fun K hK => ?_)
    go_simp
    refine hK _ _ (fun _ _ => ⟨kp0 (kpa (kpa c6)), kp0 (kpa (kpa c7))⟩) ?_
    clear hK K
    try simp only [Act.put, List.setIfInBounds_toArray, List.set_cons_zero, List.set_cons_succ]
    refine Reg.only (i := 7) (by kernel_rfl) rfl (fun K hK => ?_)
    go_simp
    refine hK _ _ (fun _ _ => ⟨kp0 (kpa (kpa c6)), kp0 (kpa (kpa c7))⟩) ?_
    clear hK K
    try simp only [Act.put, List.setIfInBounds_toArray, List.set_cons_zero, List.set_cons_succ]
    refine Reg.done (by kernel_rfl) ?_ _
    clear c4 c6 c7 f6 f7 hbW hs
    revert hA
    generalize ((W.alloc (Obj.cells #[Value.int IntKind.i64 t] 2)).alloc (Obj.cells #[Value.int IntKind.i64 s] 2)).drew = W2
    generalize W.heap.size + 1 = b10
    generalize W.heap.size = b11
    rintro ⟨c4, c6, c7, c10, c11, f6, f7, f10, f11, hne, hl1, hl2, hb⟩
    obtain ⟨n1, n2, n3, n4, n5, n6, n7⟩ := hne
    go_wp2_with fail
    go_ret2
    exact ⟨rfl, hb⟩

set_option maxRecDepth 100000 in
set_option maxHeartbeats 4000000 in
theorem cmp_gt_wide (o : Int) (x y xl yl : Nat) (s t s2 t2 : Int) (w : World) (hx : x < 2 ^ 64) (hy : y < 2 ^ 64) (es : Hid (IntKind.i64.wrap (x : Int) = s)) (et : Hid (IntKind.i64.wrap (y : Int) = t)) (exl : Hid (x % 2 ^ 32 = xl)) (eyl : Hid (y % 2 ^ 32 = yl))
    (es2 : Hid (IntKind.i32.wrap (x : Int) = s2)) (et2 : Hid (IntKind.i32.wrap (y : Int) = t2)) (hs1 : -2147483648 ≤ s2) (hs2 : s2 ≤ 2147483647) (ht1 : -2147483648 ≤ t2) (ht2 : t2 ≤ 2147483647) (h0 : 1 ≤ o) (ho : 13 < o) :
    Calls Try.prog 19 #[.int .i64 o, .bool true, .int .u64 x, .int .u64 y] w fun e w' => e = .returned (.tuple #[.bool false, .bool false]) ∧ Below w.heap.size w w' := by
  have hmf : ∀ (fn : Fn) (first cap : Array Value) (w : World), (Instr.makeFunc fn first cap).run Try.prog w = .ok (.func fn first cap) w := fun _ _ _ _ => rfl
  obtain ⟨W, b4, b6, b7, hW, e4, e6, e7, hs, c4, c6, c7, f6, f7, hbW⟩ := W_facts o x y w
  have E4 := Lib.hid e4
  have E6 := Lib.hid e6
  have E7 := Lib.hid e7
  have HW := Lib.hid hW
  clear e4 e6 e7 hW
  go_enter Try.func19, Try.ntmps19
  go_wp2_with fail
  rw [← HW.out, E7.out, E6.out, E4.out]
  clear HW
  have n8 : b6 ≠ b7 := by have := E6.out; have := E7.out; omega
  have n9 : b4 ≠ b6 := by have := E6.out; have := E4.out; omega
  have n10 : b4 ≠ b7 := by have := E4.out; have := E7.out; omega
  have hl6 : w.heap.size ≤ b6 := by have := E6.out; omega
  have hl7 : w.heap.size ≤ b7 := by have := E7.out; omega
  refine Reg.start (S := (fun w' => w'.cell? ⟨b6, 0, none⟩ = some (.int .u64 x) ∧ w'.cell? ⟨b7, 0, none⟩ = some (.int .u64 y))) (B := (fun _ => false)) (by kernel_rfl) ?_
  refine Reg.take1 (i := 0) (v := .int .u64 x) rfl (by kernel_rfl) (by kernel_rfl) (by kernel_rfl) (by kernel_rfl) (by kernel_rfl) (fun _ _ _ h => h) (Or.inl ⟨by rfl, ?_⟩) ⟨kp0 c6, kp0 c7⟩ ?_
  · (intro w hS; obtain ⟨hs1, hs2⟩ := hS; go_simp; try with_reducible rfl)
  try simp only [Act.put, List.setIfInBounds_toArray, List.set_cons_zero, List.set_cons_succ]
  refine Reg.take0 (i := 1) (v := .int .i64 s) rfl (by kernel_rfl) (by kernel_rfl) (by kernel_rfl) (by kernel_rfl) (fun _ _ _ h => h) (Or.inl ⟨by rfl, ?_⟩) ?_
  · (intro w _; have hh := es.out; go_simp; try with_reducible rfl)
  try simp only [Act.put, List.setIfInBounds_toArray, List.set_cons_zero, List.set_cons_succ]
  refine Reg.take1 (i := 2) (v := .int .u64 y) rfl (by kernel_rfl) (by kernel_rfl) (by kernel_rfl) (by kernel_rfl) (by kernel_rfl) (fun _ _ _ h => h) (Or.inl ⟨by rfl, ?_⟩) ⟨kp0 c6, kp0 c7⟩ ?_
  · (intro w hS; obtain ⟨hs1, hs2⟩ := hS; go_simp; try with_reducible rfl)
  try simp only [Act.put, List.setIfInBounds_toArray, List.set_cons_zero, List.set_cons_succ]
  refine Reg.take0 (i := 3) (v := .int .i64 t) rfl (by kernel_rfl) (by kernel_rfl) (by kernel_rfl) (by kernel_rfl) (fun _ _ _ h => h) (Or.inl ⟨by rfl, ?_⟩) ?_
  · (intro w _; have hh := et.out; go_simp; try with_reducible rfl)
  try simp only [Act.put, List.setIfInBounds_toArray, List.set_cons_zero, List.set_cons_succ]
  refine Reg.both (i := 4) (i2 := 5) (by kernel_rfl) rfl rfl (fun K hK => ?_) (fun K hK => ?_)
  · have hA := after_mk (s := s) (t := t) c4 c6 c7 f6 f7 hbW (by have := hs.out; have := E4.out; omega)
    go_simp
    refine hK _ _ (fun _ h => ⟨kp0 (kpa c6), kp0 (kpa c7)⟩) ?_
    clear hK K
    try simp only [Act.put, List.setIfInBounds_toArray, List.set_cons_zero, List.set_cons_succ]
    refine Reg.only (i := 5) (by kernel_rfl) rfl (fun K hK => ?_)
    go_simp
    refine hK _ _ (fun _ _ => ⟨kp0 (kpa (kpa c6)), kp0 (kpa (kpa c7))⟩) ?_
    clear hK K
    try simp only [Act.put, List.setIfInBounds_toArray, List.set_cons_zero, List.set_cons_succ]
    refine Reg.only (i := 6) (by kernel_rfl) rfl (fun K hK => ?_)
    go_simp
    refine hK _ _ (fun _ _ => ⟨kp0 (kpa (kpa c6)), kp0 (kpa (kpa c7))⟩) ?_
    clear hK K
    try simp only [Act.put, List.setIfInBounds_toArray, List.set_cons_zero, List.set_cons_succ]
    refine Reg.only (i := 7) (by kernel_rfl) rfl (fun K hK => ?_)
    go_simp
    refine hK _ _ (fun _ _ => ⟨kp0 (kpa (kpa c6)), kp0 (kpa (kpa c7))⟩) ?_
    clear hK K
    try simp only [Act.put, List.setIfInBounds_toArray, List.set_cons_zero, List.set_cons_succ]
    refine Reg.done (by kernel_rfl) ?_ _
    clear c4 c6 c7 f6 f7 hbW hs
    revert hA
    generalize ((W.alloc (Obj.cells #[Value.int IntKind.i64 s] 2)).alloc (Obj.cells #[Value.int IntKind.i64 t] 2)).drew = W2
    generalize W.heap.size + 1 = b11
    generalize W.heap.size = b10
    rintro ⟨c4, c6, c7, c10, c11, f6, f7, f10, f11, hne, hl1, hl2, hb⟩
    obtain ⟨n1, n2, n3, n4, n5, n6, n7⟩ := hne
    go_wp2_with fail
    go_ret2
    exact ⟨rfl, hb⟩
  · have hA := (after_mk (s := t) (t := s) c4 c6 c7 f6 f7 hbW (by have := hs.out; have := E4.out; omega)).swap
    go_simp
    refine hK _ _ (fun _ h => ⟨kp0 (kpa c6), kp0 (kpa c7)⟩) ?_
    clear hK K
    try simp only [Act.put, List.setIfInBounds_toArray, List.set_cons_zero, List.set_cons_succ]
    refine Reg.only (i := 4) (by kernel_rfl) rfl (fun K hK => ?_)
    go_simp
    refine hK _ _ (fun _ _ => ⟨kp0 (kpa (kpa c6)), kp0 (kpa (kpa c7))⟩) ?_
    clear hK K
    try simp only [Act.put, List.setIfInBounds_toArray, List.set_cons_zero, List.set_cons_succ]
    refine Reg.only (i := 6) (by kernel_rfl) rfl (fun K hK => ?_)
    go_simp
    refine hK _ _ (fun _ _ => ⟨kp0 (kpa (kpa c6)), kp0 (kpa (kpa c7))⟩) ?_
    clear hK K
    try simp only [Act.put, List.setIfInBounds_toArray, List.set_cons_zero, List.set_cons_succ]
    refine Reg.only (i := 7) (by kernel_rfl) rfl (fun K hK => ?_)
    go_simp
    refine hK _ _ (fun _ _ => ⟨kp0 (kpa (kpa c6)), kp0 (kpa (kpa c7))⟩) ?_
    clear hK K
    try simp only [Act.put, List.setIfInBounds_toArray, List.set_cons_zero, List.set_cons_succ]
    refine Reg.done (by kernel_rfl) ?_ _
    clear c4 c6 c7 f6 f7 hbW hs
    revert hA
    generalize ((W.alloc (Obj.cells #[Value.int IntKind.i64 t] 2)).alloc (Obj.cells #[Value.int IntKind.i64 s] 2)).drew = W2
    generalize W.heap.size + 1 = b10
    generalize W.heap.size = b11
    rintro ⟨c4, c6, c7, c10, c11, f6, f7, f10, f11, hne, hl1, hl2, hb⟩
    obtain ⟨n1, n2, n3, n4, n5, n6, n7⟩ := hne
    go_wp2_with fail
    go_ret2
    exact ⟨rfl, hb⟩

set_option maxRecDepth 100000 in
set_option maxHeartbeats 4000000 in
theorem cmp_e8_wide  (x y xl yl : Nat) (s t s2 t2 : Int) (w : World) (hx : x < 2 ^ 64) (hy : y < 2 ^ 64) (es : Hid (IntKind.i64.wrap (x : Int) = s)) (et : Hid (IntKind.i64.wrap (y : Int) = t)) (exl : Hid (x % 2 ^ 32 = xl)) (eyl : Hid (y % 2 ^ 32 = yl))
    (es2 : Hid (IntKind.i32.wrap (x : Int) = s2)) (et2 : Hid (IntKind.i32.wrap (y : Int) = t2)) (hs1 : -2147483648 ≤ s2) (hs2 : s2 ≤ 2147483647) (ht1 : -2147483648 ≤ t2) (ht2 : t2 ≤ 2147483647)  :
    Calls Try.prog 19 #[.int .i64 8, .bool true, .int .u64 x, .int .u64 y] w fun e w' => e = .returned (.tuple #[.bool false, .bool false]) ∧ Below w.heap.size w w' := by
  have hmf : ∀ (fn : Fn) (first cap : Array Value) (w : World), (Instr.makeFunc fn first cap).run Try.prog w = .ok (.func fn first cap) w := fun _ _ _ _ => rfl
  obtain ⟨W, b4, b6, b7, hW, e4, e6, e7, hs, c4, c6, c7, f6, f7, hbW⟩ := W_facts 8 x y w
  have E4 := Lib.hid e4
  have E6 := Lib.hid e6
  have E7 := Lib.hid e7
  have HW := Lib.hid hW
  clear e4 e6 e7 hW
  go_enter Try.func19, Try.ntmps19
  go_wp2_with fail
  rw [← HW.out, E7.out, E6.out, E4.out]
  clear HW
  have n8 : b6 ≠ b7 := by have := E6.out; have := E7.out; omega
  have n9 : b4 ≠ b6 := by have := E6.out; have := E4.out; omega
  have n10 : b4 ≠ b7 := by have := E4.out; have := E7.out; omega
  have hl6 : w.heap.size ≤ b6 := by have := E6.out; omega
  have hl7 : w.heap.size ≤ b7 := by have := E7.out; omega
  refine Reg.start (S := (fun w' => w'.cell? ⟨b6, 0, none⟩ = some (.int .u64 x) ∧ w'.cell? ⟨b7, 0, none⟩ = some (.int .u64 y))) (B := (fun _ => false)) (by kernel_rfl) ?_
  refine Reg.take1 (i := 0) (v := .int .u64 x) rfl (by kernel_rfl) (by kernel_rfl) (by kernel_rfl) (by kernel_rfl) (by kernel_rfl) (fun _ _ _ h => h) (Or.inl ⟨by rfl, ?_⟩) ⟨kp0 c6, kp0 c7⟩ ?_
  · (intro w hS; obtain ⟨hs1, hs2⟩ := hS; go_simp; try with_reducible rfl)
  try simp only [Act.put, List.setIfInBounds_toArray, List.set_cons_zero, List.set_cons_succ]
  refine Reg.take0 (i := 1) (v := .int .i64 s) rfl (by kernel_rfl) (by kernel_rfl) (by kernel_rfl) (by kernel_rfl) (fun _ _ _ h => h) (Or.inl ⟨by rfl, ?_⟩) ?_
  · (intro w _; have hh := es.out; go_simp; try with_reducible rfl)
  try simp only [Act.put, List.setIfInBounds_toArray, List.set_cons_zero, List.set_cons_succ]
  refine Reg.take1 (i := 2) (v := .int .u64 y) rfl (by kernel_rfl) (by kernel_rfl) (by kernel_rfl) (by kernel_rfl) (by kernel_rfl) (fun _ _ _ h => h) (Or.inl ⟨by rfl, ?_⟩) ⟨kp0 c6, kp0 c7⟩ ?_
  · (intro w hS; obtain ⟨hs1, hs2⟩ := hS; go_simp; try with_reducible rfl)
  try simp only [Act.put, List.setIfInBounds_toArray, List.set_cons_zero, List.set_cons_succ]
  refine Reg.take0 (i := 3) (v := .int .i64 t) rfl (by kernel_rfl) (by kernel_rfl) (by kernel_rfl) (by kernel_rfl) (fun _ _ _ h => h) (Or.inl ⟨by rfl, ?_⟩) ?_
  · (intro w _; have hh := et.out; go_simp; try with_reducible rfl)
  try simp only [Act.put, List.setIfInBounds_toArray, List.set_cons_zero, List.set_cons_succ]
  refine Reg.both (i := 4) (i2 := 5) (by kernel_rfl) rfl rfl (fun K hK => ?_) (fun K hK => ?_)
  · have hA := after_mk (s := s) (t := t) c4 c6 c7 f6 f7 hbW (by have := hs.out; have := E4.out; omega)
    go_simp
    refine hK _ _ (fun _ h => ⟨kp0 (kpa c6), kp0 (kpa c7)⟩) ?_
    clear hK K
    try simp only [Act.put, List.setIfInBounds_toArray, List.set_cons_zero, List.set_cons_succ]
    refine Reg.only (i := 5) (by kernel_rfl) rfl (fun K hK => ?_)
    go_simp
    refine hK _ _ (fun _ _ => ⟨kp0 (kpa (kpa c6)), kp0 (kpa (kpa c7))⟩) ?_
    clear hK K
    try simp only [Act.put, List.setIfInBounds_toArray, List.set_cons_zero, List.set_cons_succ]
    refine Reg.only (i := 6) (by kernel_rfl) rfl (fun K hK => ?_)
    go_simp
    refine hK _ _ (fun _ _ => ⟨kp0 (kpa (kpa c6)), kp0 (kpa (kpa c7))⟩) ?_
    clear hK K
    try simp only [Act.put, List.setIfInBounds_toArray, List.set_cons_zero, List.set_cons_succ]
    refine Reg.only (i := 7) (by kernel_rfl) rfl (fun K hK => ?_)
    go_simp
    refine hK _ _ (fun _ _ => ⟨kp0 (kpa (kpa c6)), kp0 (kpa (kpa c7))⟩) ?_
    clear hK K
    try simp only [Act.put, List.setIfInBounds_toArray, List.set_cons_zero, List.set_cons_succ]
    refine Reg.done (by kernel_rfl) ?_ _
    clear c4 c6 c7 f6 f7 hbW hs
    revert hA
    generalize ((W.alloc (Obj.cells #[Value.int IntKind.i64 s] 2)).alloc (Obj.cells #[Value.int IntKind.i64 t] 2)).drew = W2
    generalize W.heap.size + 1 = b11
    generalize W.heap.size = b10
    rintro ⟨c4, c6, c7, c10, c11, f6, f7, f10, f11, hne, hl1, hl2, hb⟩
    obtain ⟨n1, n2, n3, n4, n5, n6, n7⟩ := hne
    go_wp2_with fail
    go_ret2
    exact ⟨rfl, hb⟩
  · have hA := (after_mk (s := t) (t := s) c4 c6 c7 f6 f7 hbW (by have := hs.out; have := E4.out; omega)).swap
    go_simp
    refine hK _ _ (fun _ h => ⟨kp0 (kpa c6), kp0 (kpa c7)⟩) ?_
    clear hK K
    try simp only [Act.put, List.setIfInBounds_toArray, List.set_cons_zero, List.set_cons_succ]
    refine Reg.only (i := 4) (by kernel_rfl) rfl (fun K hK => ?_)
    go_simp
    refine hK _ _ (fun _ _ => ⟨kp0 (kpa (kpa c6)), kp0 (kpa (kpa c7))⟩) ?_
    clear hK K
    try simp only [Act.put, List.setIfInBounds_toArray, List.set_cons_zero, List.set_cons_succ]
    refine Reg.only (i := 6) (by kernel_rfl) rfl (fun K hK => ?_)
    go_simp
    refine hK _ _ (fun _ _ => ⟨kp0 (kpa (kpa c6)), kp0 (kpa (kpa c7))⟩) ?_
    clear hK K
    try simp only [Act.put, List.setIfInBounds_toArray, List.set_cons_zero, List.set_cons_succ]
    refine Reg.only (i := 7) (by kernel_rfl) rfl (fun K hK => ?_)
    go_simp
    refine hK _ _ (fun _ _ => ⟨kp0 (kpa (kpa c6)), kp0 (kpa (kpa c7))⟩) ?_
    clear hK K
    try simp only [Act.put, List.setIfInBounds_toArray, List.set_cons_zero, List.set_cons_succ]
    refine Reg.done (by kernel_rfl) ?_ _
    clear c4 c6 c7 f6 f7 hbW hs
    revert hA
    generalize ((W.alloc (Obj.cells #[Value.int IntKind.i64 t] 2)).alloc (Obj.cells #[Value.int IntKind.i64 s] 2)).drew = W2
    generalize W.heap.size + 1 = b10
    generalize W.heap.size = b11
    rintro ⟨c4, c6, c7, c10, c11, f6, f7, f10, f11, hne, hl1, hl2, hb⟩
    obtain ⟨n1, n2, n3, n4, n5, n6, n7⟩ := hne
    go_wp2_with fail
    go_ret2
    exact ⟨rfl, hb⟩

set_option maxRecDepth 100000 in
set_option maxHeartbeats 4000000 in
theorem cmp_e9_wide  (x y xl yl : Nat) (s t s2 t2 : Int) (w : World) (hx : x < 2 ^ 64) (hy : y < 2 ^ 64) (es : Hid (IntKind.i64.wrap (x : Int) = s)) (et : Hid (IntKind.i64.wrap (y : Int) = t)) (exl : Hid (x % 2 ^ 32 = xl)) (eyl : Hid (y % 2 ^ 32 = yl))
    (es2 : Hid (IntKind.i32.wrap (x : Int) = s2)) (et2 : Hid (IntKind.i32.wrap (y : Int) = t2)) (hs1 : -2147483648 ≤ s2) (hs2 : s2 ≤ 2147483647) (ht1 : -2147483648 ≤ t2) (ht2 : t2 ≤ 2147483647)  :
    Calls Try.prog 19 #[.int .i64 9, .bool true, .int .u64 x, .int .u64 y] w fun e w' => e = .returned (.tuple #[.bool false, .bool false]) ∧ Below w.heap.size w w' := by
  have hmf : ∀ (fn : Fn) (first cap : Array Value) (w : World), (Instr.makeFunc fn first cap).run Try.prog w = .ok (.func fn first cap) w := fun _ _ _ _ => rfl
  obtain ⟨W, b4, b6, b7, hW, e4, e6, e7, hs, c4, c6, c7, f6, f7, hbW⟩ := W_facts 9 x y w
  have E4 := Lib.hid e4
  have E6 := Lib.hid e6
  have E7 := Lib.hid e7
  have HW := Lib.hid hW
  clear e4 e6 e7 hW
  go_enter Try.func19, Try.ntmps19
  go_wp2_with fail
  rw [← HW.out, E7.out, E6.out, E4.out]
  clear HW
  have n8 : b6 ≠ b7 := by have := E6.out; have := E7.out; omega
  have n9 : b4 ≠ b6 := by have := E6.out; have := E4.out; omega
  have n10 : b4 ≠ b7 := by have := E4.out; have := E7.out; omega
  have hl6 : w.heap.size ≤ b6 := by have := E6.out; omega
  have hl7 : w.heap.size ≤ b7 := by have := E7.out; omega
  refine Reg.start (S := (fun w' => w'.cell? ⟨b6, 0, none⟩ = some (.int .u64 x) ∧ w'.cell? ⟨b7, 0, none⟩ = some (.int .u64 y))) (B := (fun _ => false)) (by kernel_rfl) ?_
  refine Reg.take1 (i := 0) (v := .int .u64 x) rfl (by kernel_rfl) (by kernel_rfl) (by kernel_rfl) (by kernel_rfl) (by kernel_rfl) (fun _ _ _ h => h) (Or.inl ⟨by rfl, ?_⟩) ⟨kp0 c6, kp0 c7⟩ ?_
  · (intro w hS; obtain ⟨hs1, hs2⟩ := hS; go_simp; try with_reducible rfl)
  try simp only [Act.put, List.setIfInBounds_toArray, List.set_cons_zero, List.set_cons_succ]
  refine Reg.take0 (i := 1) (v := .int .i64 s) rfl (by kernel_rfl) (by kernel_rfl) (by kernel_rfl) (by kernel_rfl) (fun _ _ _ h => h) (Or.inl ⟨by rfl, ?_⟩) ?_
  · (intro w _; have hh := es.out; go_simp; try with_reducible rfl)
  try simp only [Act.put, List.setIfInBounds_toArray, List.set_cons_zero, List.set_cons_succ]
  refine Reg.take1 (i := 2) (v := .int .u64 y) rfl (by kernel_rfl) (by kernel_rfl) (by kernel_rfl) (by kernel_rfl) (by kernel_rfl) (fun _ _ _ h => h) (Or.inl ⟨by rfl, ?_⟩) ⟨kp0 c6, kp0 c7⟩ ?_
  · (intro w hS; obtain ⟨hs1, hs2⟩ := hS; go_simp; try with_reducible rfl)
  try simp only [Act.put, List.setIfInBounds_toArray, List.set_cons_zero, List.set_cons_succ]
  refine Reg.take0 (i := 3) (v := .int .i64 t) rfl (by kernel_rfl) (by kernel_rfl) (by kernel_rfl) (by kernel_rfl) (fun _ _ _ h => h) (Or.inl ⟨by rfl, ?_⟩) ?_
  · (intro w _; have hh := et.out; go_simp; try with_reducible rfl)
  try simp only [Act.put, List.setIfInBounds_toArray, List.set_cons_zero, List.set_cons_succ]
  refine Reg.both (i := 4) (i2 := 5) (by kernel_rfl) rfl rfl (fun K hK => ?_) (fun K hK => ?_)
  · have hA := after_mk (s := s) (t := t) c4 c6 c7 f6 f7 hbW (by have := hs.out; have := E4.out; omega)
    go_simp
    refine hK _ _ (fun _ h => ⟨kp0 (kpa c6), kp0 (kpa c7)⟩) ?_
    clear hK K
    try simp only [Act.put, List.setIfInBounds_toArray, List.set_cons_zero, List.set_cons_succ]
    refine Reg.only (i := 5) (by kernel_rfl) rfl (fun K hK => ?_)
    go_simp
    refine hK _ _ (fun _ _ => ⟨kp0 (kpa (kpa c6)), kp0 (kpa (kpa c7))⟩) ?_
    clear hK K
    try simp only [Act.put, List.setIfInBounds_toArray, List.set_cons_zero, List.set_cons_succ]
    refine Reg.only (i := 6) (by kernel_rfl) rfl (fun K hK => ?_)
    go_simp
    refine hK _ _ (fun _ _ => ⟨kp0 (kpa (kpa c6)), kp0 (kpa (kpa c7))⟩) ?_
    clear hK K
    try simp only [Act.put, List.setIfInBounds_toArray, List.set_cons_zero, List.set_cons_succ]
    refine Reg.only (i := 7) (by kernel_rfl) rfl (fun K hK => ?_)
    go_simp
    refine hK _ _ (fun _ _ => ⟨kp0 (kpa (kpa c6)), kp0 (kpa (kpa c7))⟩) ?_
    clear hK K
    try simp only [Act.put, List.setIfInBounds_toArray, List.set_cons_zero, List.set_cons_succ]
    refine Reg.done (by kernel_rfl) ?_ _
    clear c4 c6 c7 f6 f7 hbW hs
    revert hA
    generalize ((W.alloc (Obj.cells #[Value.int IntKind.i64 s] 2)).alloc (Obj.cells #[Value.int IntKind.i64 t] 2)).drew = W2
    generalize W.heap.size + 1 = b11
    generalize W.heap.size = b10
    rintro ⟨c4, c6, c7, c10, c11, f6, f7, f10, f11, hne, hl1, hl2, hb⟩
    obtain ⟨n1, n2, n3, n4, n5, n6, n7⟩ := hne
    go_wp2_with fail
    go_ret2
    exact ⟨rfl, hb⟩
  · have hA := (after_mk (s := t) (t := s) c4 c6 c7 f6 f7 hbW (by have := hs.out; have := E4.out; omega)).swap
    go_simp
    refine hK _ _ (fun _ h => ⟨kp0 (kpa c6), kp0 (kpa c7)⟩) ?_
    clear hK K
    try simp only [Act.put, List.setIfInBounds_toArray, List.set_cons_zero, List.set_cons_succ]
    refine Reg.only (i := 4) (by kernel_rfl) rfl (fun K hK => ?_)
    go_simp
    refine hK _ _ (fun _ _ => ⟨kp0 (kpa (kpa c6)), kp0 (kpa (kpa c7))⟩) ?_
    clear hK K
    try simp only [Act.put, List.setIfInBounds_toArray, List.set_cons_zero, List.set_cons_succ]
    refine Reg.only (i := 6) (by kernel_rfl) rfl (fun K hK => ?_)
    go_simp
    refine hK _ _ (fun _ _ => ⟨kp0 (kpa (kpa c6)), kp0 (kpa (kpa c7))⟩) ?_
    clear hK K
    try simp only [Act.put, List.setIfInBounds_toArray, List.set_cons_zero, List.set_cons_succ]
    refine Reg.only (i := 7) (by kernel_rfl) rfl (fun K hK => ?_)
    go_simp
    refine hK _ _ (fun _ _ => ⟨kp0 (kpa (kpa c6)), kp0 (kpa (kpa c7))⟩) ?_
    clear hK K
    try simp only [Act.put, List.setIfInBounds_toArray, List.set_cons_zero, List.set_cons_succ]
    refine Reg.done (by kernel_rfl) ?_ _
    clear c4 c6 c7 f6 f7 hbW hs
    revert hA
    generalize ((W.alloc (Obj.cells #[Value.int IntKind.i64 t] 2)).alloc (Obj.cells #[Value.int IntKind.i64 s] 2)).drew = W2
    generalize W.heap.size + 1 = b10
    generalize W.heap.size = b11
    rintro ⟨c4, c6, c7, c10, c11, f6, f7, f10, f11, hne, hl1, hl2, hb⟩
    obtain ⟨n1, n2, n3, n4, n5, n6, n7⟩ := hne
    go_wp2_with fail
    go_ret2
    exact ⟨rfl, hb⟩

set_option maxRecDepth 100000 in
set_option maxHeartbeats 4000000 in
theorem cmp_lt_narrow (o : Int) (x y xl yl : Nat) (s t s2 t2 : Int) (w : World) (hx : x < 2 ^ 64) (hy : y < 2 ^ 64) (es : Hid (IntKind.i64.wrap (x : Int) = s)) (et : Hid (IntKind.i64.wrap (y : Int) = t)) (exl : Hid (x % 2 ^ 32 = xl)) (eyl : Hid (y % 2 ^ 32 = yl))
    (es2 : Hid (IntKind.i32.wrap (x : Int) = s2)) (et2 : Hid (IntKind.i32.wrap (y : Int) = t2)) (hs1 : -2147483648 ≤ s2) (hs2 : s2 ≤ 2147483647) (ht1 : -2147483648 ≤ t2) (ht2 : t2 ≤ 2147483647) (ho : o < 1) :
    Calls Try.prog 19 #[.int .i64 o, .bool false, .int .u64 x, .int .u64 y] w fun e w' => e = .returned (.tuple #[.bool false, .bool false]) ∧ Below w.heap.size w w' := by
  have hmf : ∀ (fn : Fn) (first cap : Array Value) (w : World), (Instr.makeFunc fn first cap).run Try.prog w = .ok (.func fn first cap) w := fun _ _ _ _ => rfl
  obtain ⟨W, b4, b6, b7, hW, e4, e6, e7, hs, c4, c6, c7, f6, f7, hbW⟩ := W_facts o x y w
  have E4 := Lib.hid e4
  have E6 := Lib.hid e6
  have E7 := Lib.hid e7
  have HW := Lib.hid hW
  clear e4 e6 e7 hW
  go_enter Try.func19, Try.ntmps19
  go_wp2_with fail
  rw [← HW.out, E7.out, E6.out, E4.out]
  clear HW
  have n8 : b6 ≠ b7 := by have := E6.out; have := E7.out; omega
  have n9 : b4 ≠ b6 := by have := E6.out; have := E4.out; omega
  have n10 : b4 ≠ b7 := by have := E4.out; have := E7.out; omega
  have hl6 : w.heap.size ≤ b6 := by have := E6.out; omega
  have hl7 : w.heap.size ≤ b7 := by have := E7.out; omega
  refine Reg.start (S := (fun w' => w'.cell? ⟨b6, 0, none⟩ = some (.int .u64 x) ∧ w'.cell? ⟨b7, 0, none⟩ = some (.int .u64 y))) (B := (fun _ => false)) (by kernel_rfl) ?_
  refine Reg.take1 (i := 0) (v := .int .u64 x) rfl (by kernel_rfl) (by kernel_rfl) (by kernel_rfl) (by kernel_rfl) (by kernel_rfl) (fun _ _ _ h => h) (Or.inl ⟨by rfl, ?_⟩) ⟨kp0 c6, kp0 c7⟩ ?_
  · (intro w hS; obtain ⟨hs1, hs2⟩ := hS; go_simp; try with_reducible rfl)
  try simp only [Act.put, List.setIfInBounds_toArray, List.set_cons_zero, List.set_cons_succ]
  refine Reg.take0 (i := 1) (v := .int .i64 s) rfl (by kernel_rfl) (by kernel_rfl) (by kernel_rfl) (by kernel_rfl) (fun _ _ _ h => h) (Or.inl ⟨by rfl, ?_⟩) ?_
  · (intro w _; have hh := es.out; go_simp; try with_reducible rfl)
  try simp only [Act.put, List.setIfInBounds_toArray, List.set_cons_zero, List.set_cons_succ]
  refine Reg.take1 (i := 2) (v := .int .u64 y) rfl (by kernel_rfl) (by kernel_rfl) (by kernel_rfl) (by kernel_rfl) (by kernel_rfl) (fun _ _ _ h => h) (Or.inl ⟨by rfl, ?_⟩) ⟨kp0 c6, kp0 c7⟩ ?_
  · (intro w hS; obtain ⟨hs1, hs2⟩ := hS; go_simp; try with_reducible rfl)
  try simp only [Act.put, List.setIfInBounds_toArray, List.set_cons_zero, List.set_cons_succ]
  refine Reg.take0 (i := 3) (v := .int .i64 t) rfl (by kernel_rfl) (by kernel_rfl) (by kernel_rfl) (by kernel_rfl) (fun _ _ _ h => h) (Or.inl ⟨by rfl, ?_⟩) ?_
  · (intro w _; have hh := et.out; go_simp; try with_reducible rfl)
  try simp only [Act.put, List.setIfInBounds_toArray, List.set_cons_zero, List.set_cons_succ]
  refine Reg.both (i := 4) (i2 := 5) (by kernel_rfl) rfl rfl (fun K hK => ?_) (fun K hK => ?_)
  · have hA := after_mk (s := s) (t := t) c4 c6 c7 f6 f7 hbW (by have := hs.out; have := E4.out; omega)
    go_simp
    refine hK _ _ (fun _ h => ⟨kp0 (kpa c6), kp0 (kpa c7)⟩) ?_
    clear hK K
    try simp only [Act.put, List.setIfInBounds_toArray, List.set_cons_zero, List.set_cons_succ]
    refine Reg.only (i := 5) (by kernel_rfl) rfl (fun K hK => ?_)
    go_simp
    refine hK _ _ (fun _ _ => ⟨kp0 (kpa (kpa c6)), kp0 (kpa (kpa c7))⟩) ?_
    clear hK K
    try simp only [Act.put, List.setIfInBounds_toArray, List.set_cons_zero, List.set_cons_succ]
    refine Reg.only (i := 6) (by kernel_rfl) rfl (fun K hK => ?_)
    go_simp
    refine hK _ _ (fun _ _ => ⟨kp0 (kpa (kpa c6)), kp0 (kpa (kpa c7))⟩) ?_
    clear hK K
    try simp only [Act.put, List.setIfInBounds_toArray, List.set_cons_zero, List.set_cons_succ]
    refine Reg.only (i := 7) (by kernel_rfl) rfl (fun K hK => ?_)
    go_simp
    refine hK _ _ (fun _ _ => ⟨kp0 (kpa (kpa c6)), kp0 (kpa (kpa c7))⟩) ?_
    clear hK K
    try simp only [Act.put, List.setIfInBounds_toArray, List.set_cons_zero, List.set_cons_succ]
    refine Reg.done (by kernel_rfl) ?_ _
    clear c4 c6 c7 f6 f7 hbW hs
    revert hA
    generalize ((W.alloc (Obj.cells #[Value.int IntKind.i64 s] 2)).alloc (Obj.cells #[Value.int IntKind.i64 t] 2)).drew = W2
    generalize W.heap.size + 1 = b11
    generalize W.heap.size = b10
    rintro ⟨c4, c6, c7, c10, c11, f6, f7, f10, f11, hne, hl1, hl2, hb⟩
    obtain ⟨n1, n2, n3, n4, n5, n6, n7⟩ := hne
    go_wp2_with fail
    refine Reg.start (S := (fun w' => w'.cell? ⟨b6, 0, none⟩ = some (.int .u64 x) ∧ w'.cell? ⟨b7, 0, none⟩ = some (.int .u64 y))) (B := (fun j => [10, 11, 12, 13].contains j)) (by kernel_rfl) ?_
    refine Reg.take1 (i := 0) (v := .int .u64 x) rfl (by kernel_rfl) (by kernel_rfl) (by kernel_rfl) (by kernel_rfl) (by kernel_rfl) (fun _ _ _ h => h) (Or.inl ⟨by rfl, ?_⟩) ⟨kp0 c6, kp0 c7⟩ ?_
    · (intro w hS; obtain ⟨hs1, hs2⟩ := hS; go_simp; try with_reducible rfl)
    try simp only [Act.put, List.setIfInBounds_toArray, List.set_cons_zero, List.set_cons_succ]
    refine Reg.take1 (i := 2) (v := .int .u64 y) rfl (by kernel_rfl) (by kernel_rfl) (by kernel_rfl) (by kernel_rfl) (by kernel_rfl) (fun _ _ _ h => h) (Or.inl ⟨by rfl, ?_⟩) ⟨kp0 c6, kp0 c7⟩ ?_
    · (intro w hS; obtain ⟨hs1, hs2⟩ := hS; go_simp; try with_reducible rfl)
    try simp only [Act.put, List.setIfInBounds_toArray, List.set_cons_zero, List.set_cons_succ]
    refine Reg.take1 (i := 4) (v := .int .u64 x) rfl (by kernel_rfl) (by kernel_rfl) (by kernel_rfl) (by kernel_rfl) (by kernel_rfl) (fun _ _ _ h => h) (Or.inl ⟨by rfl, ?_⟩) ⟨kp0 c6, kp0 c7⟩ ?_
    · (intro w hS; obtain ⟨hs1, hs2⟩ := hS; go_simp; try with_reducible rfl)
    try simp only [Act.put, List.setIfInBounds_toArray, List.set_cons_zero, List.set_cons_succ]
    refine Reg.take1 (i := 7) (v := .int .u64 y) rfl (by kernel_rfl) (by kernel_rfl) (by kernel_rfl) (by kernel_rfl) (by kernel_rfl) (fun _ _ _ h => h) (Or.inl ⟨by rfl, ?_⟩) ⟨kp0 c6, kp0 c7⟩ ?_
    · (intro w hS; obtain ⟨hs1, hs2⟩ := hS; go_simp; try with_reducible rfl)
    try simp only [Act.put, List.setIfInBounds_toArray, List.set_cons_zero, List.set_cons_succ]
    refine Reg.take0 (i := 5) (v := .int .i32 s2) rfl (by kernel_rfl) (by kernel_rfl) (by kernel_rfl) (by kernel_rfl) (fun _ _ _ h => h) (Or.inl ⟨by rfl, ?_⟩) ?_
    · (intro w _; have hh := es2.out; go_simp; try with_reducible rfl)
    try simp only [Act.put, List.setIfInBounds_toArray, List.set_cons_zero, List.set_cons_succ]
    refine Reg.take0 (i := 6) (v := .int .i64 s2) rfl (by kernel_rfl) (by kernel_rfl) (by kernel_rfl) (by kernel_rfl) (fun _ _ _ h => h) (Or.inl ⟨by rfl, ?_⟩) ?_
    · (intro w _; go_simp; exact IntWalk.i64_in _ (by omega); try with_reducible rfl)
    try simp only [Act.put, List.setIfInBounds_toArray, List.set_cons_zero, List.set_cons_succ]
    refine Reg.take0 (i := 8) (v := .int .i32 t2) rfl (by kernel_rfl) (by kernel_rfl) (by kernel_rfl) (by kernel_rfl) (fun _ _ _ h => h) (Or.inl ⟨by rfl, ?_⟩) ?_
    · (intro w _; have hh := et2.out; go_simp; try with_reducible rfl)
    try simp only [Act.put, List.setIfInBounds_toArray, List.set_cons_zero, List.set_cons_succ]
    refine Reg.take0 (i := 9) (v := .int .i64 t2) rfl (by kernel_rfl) (by kernel_rfl) (by kernel_rfl) (by kernel_rfl) (fun _ _ _ h => h) (Or.inl ⟨by rfl, ?_⟩) ?_
    · (intro w _; go_simp; exact IntWalk.i64_in _ (by omega); try with_reducible rfl)
    try simp only [Act.put, List.setIfInBounds_toArray, List.set_cons_zero, List.set_cons_succ]
    refine Reg.only (i := 1) (by kernel_rfl) rfl (fun K hK => ?_)
    go_simp
    refine (low_c hx exl.out _).mono ?_; rintro e w' ⟨rfl, rfl⟩
    simp only []
    refine hK _ _ (fun _ h => h) ?_
    clear hK K
    try simp only [Act.put, List.setIfInBounds_toArray, List.set_cons_zero, List.set_cons_succ]
    refine Reg.only (i := 3) (by kernel_rfl) rfl (fun K hK => ?_)
    go_simp
    refine (low_c hy eyl.out _).mono ?_; rintro e w' ⟨rfl, rfl⟩
    simp only []
    refine hK _ _ (fun _ h => h) ?_
    clear hK K
    try simp only [Act.put, List.setIfInBounds_toArray, List.set_cons_zero, List.set_cons_succ]
    refine Reg.only (i := 10) (by kernel_rfl) rfl (fun K hK => ?_)
    go_simp
    refine hK _ _ (fun hb => absurd hb (by decide)) ?_
    clear hK K
    try simp only [Act.put, List.setIfInBounds_toArray, List.set_cons_zero, List.set_cons_succ]
    refine Reg.only (i := 11) (by kernel_rfl) rfl (fun K hK => ?_)
    go_simp
    refine hK _ _ (fun hb => absurd hb (by decide)) ?_
    clear hK K
    try simp only [Act.put, List.setIfInBounds_toArray, List.set_cons_zero, List.set_cons_succ]
    refine Reg.only (i := 12) (by kernel_rfl) rfl (fun K hK => ?_)
    go_simp
    refine hK _ _ (fun hb => absurd hb (by decide)) ?_
    clear hK K
    try simp only [Act.put, List.setIfInBounds_toArray, List.set_cons_zero, List.set_cons_succ]
    refine Reg.only (i := 13) (by kernel_rfl) rfl (fun K hK => ?_)
    go_simp
    refine hK _ _ (fun hb => absurd hb (by decide)) ?_
    clear hK K
    try simp only [Act.put, List.setIfInBounds_toArray, List.set_cons_zero, List.set_cons_succ]
    refine Reg.done (by kernel_rfl) ?_ _
    go_wp2_with fail
    go_ret2
    exact ⟨rfl, ((((hb.setCell hl6 _).setCell hl7 _).setCell hl1 _).setCell hl2 _).drew⟩
  · have hA := (after_mk (s := t) (t := s) c4 c6 c7 f6 f7 hbW (by have := hs.out; have := E4.out; omega)).swap
    go_simp
    refine hK _ _ (fun _ h => ⟨kp0 (kpa c6), kp0 (kpa c7)⟩) ?_
    clear hK K
    try simp only [Act.put, List.setIfInBounds_toArray, List.set_cons_zero, List.set_cons_succ]
    refine Reg.only (i := 4) (by kernel_rfl) rfl (fun K hK => ?_)
    go_simp
    refine hK _ _ (fun _ _ => ⟨kp0 (kpa (kpa c6)), kp0 (kpa (kpa c7))⟩) ?_
    clear hK K
    try simp only [Act.put, List.setIfInBounds_toArray, List.set_cons_zero, List.set_cons_succ]
    refine Reg.only (i := 6) (by kernel_rfl) rfl (fun K hK => ?_)
    go_simp
    refine hK _ _ (fun _ _ => ⟨kp0 (kpa (kpa c6)), kp0 (kpa (kpa c7))⟩) ?_
    clear hK K
    try simp only [Act.put, List.setIfInBounds_toArray, List.set_cons_zero, List.set_cons_succ]
    refine Reg.only (i := 7) (by kernel_rfl) rfl (fun K hK => ?_)
    go_simp
    refine hK _ _ (fun _ _ => ⟨kp0 (kpa (kpa c6)), kp0 (kpa (kpa c7))⟩) ?_
    clear hK K
    try simp only [Act.put, List.setIfInBounds_toArray, List.set_cons_zero, List.set_cons_succ]
    refine Reg.done (by kernel_rfl) ?_ _
    clear c4 c6 c7 f6 f7 hbW hs
    revert hA
    generalize ((W.alloc (Obj.cells #[Value.int IntKind.i64 t] 2)).alloc (Obj.cells #[Value.int IntKind.i64 s] 2)).drew = W2
    generalize W.heap.size + 1 = b10
    generalize W.heap.size = b11
    rintro ⟨c4, c6, c7, c10, c11, f6, f7, f10, f11, hne, hl1, hl2, hb⟩
    obtain ⟨n1, n2, n3, n4, n5, n6, n7⟩ := hne
    go_wp2_with fail
    refine Reg.start (S := (fun w' => w'.cell? ⟨b6, 0, none⟩ = some (.int .u64 x) ∧ w'.cell? ⟨b7, 0, none⟩ = some (.int .u64 y))) (B := (fun j => [10, 11, 12, 13].contains j)) (by kernel_rfl) ?_
    refine Reg.take1 (i := 0) (v := .int .u64 x) rfl (by kernel_rfl) (by kernel_rfl) (by kernel_rfl) (by kernel_rfl) (by kernel_rfl) (fun _ _ _ h => h) (Or.inl ⟨by rfl, ?_⟩) ⟨kp0 c6, kp0 c7⟩ ?_
    · (intro w hS; obtain ⟨hs1, hs2⟩ := hS; go_simp; try with_reducible rfl)
    try simp only [Act.put, List.setIfInBounds_toArray, List.set_cons_zero, List.set_cons_succ]
    refine Reg.take1 (i := 2) (v := .int .u64 y) rfl (by kernel_rfl) (by kernel_rfl) (by kernel_rfl) (by kernel_rfl) (by kernel_rfl) (fun _ _ _ h => h) (Or.inl ⟨by rfl, ?_⟩) ⟨kp0 c6, kp0 c7⟩ ?_
    · (intro w hS; obtain ⟨hs1, hs2⟩ := hS; go_simp; try with_reducible rfl)
    try simp only [Act.put, List.setIfInBounds_toArray, List.set_cons_zero, List.set_cons_succ]
    refine Reg.take1 (i := 4) (v := .int .u64 x) rfl (by kernel_rfl) (by kernel_rfl) (by kernel_rfl) (by kernel_rfl) (by kernel_rfl) (fun _ _ _ h => h) (Or.inl ⟨by rfl, ?_⟩) ⟨kp0 c6, kp0 c7⟩ ?_
    · (intro w hS; obtain ⟨hs1, hs2⟩ := hS; go_simp; try with_reducible rfl)
    try simp only [Act.put, List.setIfInBounds_toArray, List.set_cons_zero, List.set_cons_succ]
    refine Reg.take1 (i := 7) (v := .int .u64 y) rfl (by kernel_rfl) (by kernel_rfl) (by kernel_rfl) (by kernel_rfl) (by kernel_rfl) (fun _ _ _ h => h) (Or.inl ⟨by rfl, ?_⟩) ⟨kp0 c6, kp0 c7⟩ ?_
    · (intro w hS; obtain ⟨hs1, hs2⟩ := hS; go_simp; try with_reducible rfl)
    try simp only [Act.put, List.setIfInBounds_toArray, List.set_cons_zero, List.set_cons_succ]
    refine Reg.take0 (i := 5) (v := .int .i32 s2) rfl (by kernel_rfl) (by kernel_rfl) (by kernel_rfl) (by kernel_rfl) (fun _ _ _ h => h) (Or.inl ⟨by rfl, ?_⟩) ?_
    · (intro w _; have hh := es2.out; go_simp; try with_reducible rfl)
    try simp only [Act.put, List.setIfInBounds_toArray, List.set_cons_zero, List.set_cons_succ]
    refine Reg.take0 (i := 6) (v := .int .i64 s2) rfl (by kernel_rfl) (by kernel_rfl) (by kernel_rfl) (by kernel_rfl) (fun _ _ _ h => h) (Or.inl ⟨by rfl, ?_⟩) ?_
    · (intro w _; go_simp; exact IntWalk.i64_in _ (by omega); try with_reducible rfl)
    try simp only [Act.put, List.setIfInBounds_toArray, List.set_cons_zero, List.set_cons_succ]
    refine Reg.take0 (i := 8) (v := .int .i32 t2) rfl (by kernel_rfl) (by kernel_rfl) (by kernel_rfl) (by kernel_rfl) (fun _ _ _ h => h) (Or.inl ⟨by rfl, ?_⟩) ?_
    · (intro w _; have hh := et2.out; go_simp; try with_reducible rfl)
    try simp only [Act.put, List.setIfInBounds_toArray, List.set_cons_zero, List.set_cons_succ]
    refine Reg.take0 (i := 9) (v := .int .i64 t2) rfl (by kernel_rfl) (by kernel_rfl) (by kernel_rfl) (by kernel_rfl) (fun _ _ _ h => h) (Or.inl ⟨by rfl, ?_⟩) ?_
    · (intro w _; go_simp; exact IntWalk.i64_in _ (by omega); try with_reducible rfl)
    try simp only [Act.put, List.setIfInBounds_toArray, List.set_cons_zero, List.set_cons_succ]
    refine Reg.only (i := 1) (by kernel_rfl) rfl (fun K hK => ?_)
    go_simp
    refine (low_c hx exl.out _).mono ?_; rintro e w' ⟨rfl, rfl⟩
    simp only []
    refine hK _ _ (fun _ h => h) ?_
    clear hK K
    try simp only [Act.put, List.setIfInBounds_toArray, List.set_cons_zero, List.set_cons_succ]
    refine Reg.only (i := 3) (by kernel_rfl) rfl (fun K hK => ?_)
    go_simp
    refine (low_c hy eyl.out _).mono ?_; rintro e w' ⟨rfl, rfl⟩
    simp only []
    refine hK _ _ (fun _ h => h) ?_
    clear hK K
    try simp only [Act.put, List.setIfInBounds_toArray, List.set_cons_zero, List.set_cons_succ]
    refine Reg.only (i := 10) (by kernel_rfl) rfl (fun K hK => ?_)
    go_simp
    refine hK _ _ (fun hb => absurd hb (by decide)) ?_
    clear hK K
    try simp only [Act.put, List.setIfInBounds_toArray, List.set_cons_zero, List.set_cons_succ]
    refine Reg.only (i := 11) (by kernel_rfl) rfl (fun K hK => ?_)
    go_simp
    refine hK _ _ (fun hb => absurd hb (by decide)) ?_
    clear hK K
    try simp only [Act.put, List.setIfInBounds_toArray, List.set_cons_zero, List.set_cons_succ]
    refine Reg.only (i := 12) (by kernel_rfl) rfl (fun K hK => ?_)
    go_simp
    refine hK _ _ (fun hb => absurd hb (by decide)) ?_
    clear hK K
    try simp only [Act.put, List.setIfInBounds_toArray, List.set_cons_zero, List.set_cons_succ]
    refine Reg.only (i := 13) (by kernel_rfl) rfl (fun K hK => ?_)
    go_simp
    refine hK _ _ (fun hb => absurd hb (by decide)) ?_
    clear hK K
    try simp only [Act.put, List.setIfInBounds_toArray, List.set_cons_zero, List.set_cons_succ]
    refine Reg.done (by kernel_rfl) ?_ _
    go_wp2_with fail
    go_ret2
    exact ⟨rfl, ((((hb.setCell hl6 _).setCell hl7 _).setCell hl1 _).setCell hl2 _).drew⟩

set_option maxRecDepth 100000 in
set_option maxHeartbeats 4000000 in
theorem cmp_gt_narrow (o : Int) (x y xl yl : Nat) (s t s2 t2 : Int) (w : World) (hx : x < 2 ^ 64) (hy : y < 2 ^ 64) (es : Hid (IntKind.i64.wrap (x : Int) = s)) (et : Hid (IntKind.i64.wrap (y : Int) = t)) (exl : Hid (x % 2 ^ 32 = xl)) (eyl : Hid (y % 2 ^ 32 = yl))
    (es2 : Hid (IntKind.i32.wrap (x : Int) = s2)) (et2 : Hid (IntKind.i32.wrap (y : Int) = t2)) (hs1 : -2147483648 ≤ s2) (hs2 : s2 ≤ 2147483647) (ht1 : -2147483648 ≤ t2) (ht2 : t2 ≤ 2147483647) (h0 : 1 ≤ o) (ho : 13 < o) :
    Calls Try.prog 19 #[.int .i64 o, .bool false, .int .u64 x, .int .u64 y] w fun e w' => e = .returned (.tuple #[.bool false, .bool false]) ∧ Below w.heap.size w w' := by
  have hmf : ∀ (fn : Fn) (first cap : Array Value) (w : World), (Instr.makeFunc fn first cap).run Try.prog w = .ok (.func fn first cap) w := fun _ _ _ _ => rfl
  obtain ⟨W, b4, b6, b7, hW, e4, e6, e7, hs, c4, c6, c7, f6, f7, hbW⟩ := W_facts o x y w
  have E4 := Lib.hid e4
  have E6 := Lib.hid e6
  have E7 := Lib.hid e7
  have HW := Lib.hid hW
  clear e4 e6 e7 hW
  go_enter Try.func19, Try.ntmps19
  go_wp2_with fail
  rw [← HW.out, E7.out, E6.out, E4.out]
  clear HW
  have n8 : b6 ≠ b7 := by have := E6.out; have := E7.out; omega
  have n9 : b4 ≠ b6 := by have := E6.out; have := E4.out; omega
  have n10 : b4 ≠ b7 := by have := E4.out; have := E7.out; omega
  have hl6 : w.heap.size ≤ b6 := by have := E6.out; omega
  have hl7 : w.heap.size ≤ b7 := by have := E7.out; omega
  refine Reg.start (S := (fun w' => w'.cell? ⟨b6, 0, none⟩ = some (.int .u64 x) ∧ w'.cell? ⟨b7, 0, none⟩ = some (.int .u64 y))) (B := (fun _ => false)) (by kernel_rfl) ?_
  refine Reg.take1 (i := 0) (v := .int .u64 x) rfl (by kernel_rfl) (by kernel_rfl) (by kernel_rfl) (by kernel_rfl) (by kernel_rfl) (fun _ _ _ h => h) (Or.inl ⟨by rfl, ?_⟩) ⟨kp0 c6, kp0 c7⟩ ?_
  · (intro w hS; obtain ⟨hs1, hs2⟩ := hS; go_simp; try with_reducible rfl)
  try simp only [Act.put, List.setIfInBounds_toArray, List.set_cons_zero, List.set_cons_succ]
  refine Reg.take0 (i := 1) (v := .int .i64 s) rfl (by kernel_rfl) (by kernel_rfl) (by kernel_rfl) (by kernel_rfl) (fun _ _ _ h => h) (Or.inl ⟨by rfl, ?_⟩) ?_
  · (intro w _; have hh := es.out; go_simp; try with_reducible rfl)
  try simp only [Act.put, List.setIfInBounds_toArray, List.set_cons_zero, List.set_cons_succ]
  refine Reg.take1 (i := 2) (v := .int .u64 y) rfl (by kernel_rfl) (by kernel_rfl) (by kernel_rfl) (by kernel_rfl) (by kernel_rfl) (fun _ _ _ h => h) (Or.inl ⟨by rfl, ?_⟩) ⟨kp0 c6, kp0 c7⟩ ?_
  · (intro w hS; obtain ⟨hs1, hs2⟩ := hS; go_simp; try with_reducible rfl)
  try simp only [Act.put, List.setIfInBounds_toArray, List.set_cons_zero, List.set_cons_succ]
  refine Reg.take0 (i := 3) (v := .int .i64 t) rfl (by kernel_rfl) (by kernel_rfl) (by kernel_rfl) (by kernel_rfl) (fun _ _ _ h => h) (Or.inl ⟨by rfl, ?_⟩) ?_
  · (intro w _; have hh := et.out; go_simp; try with_reducible rfl)
  try simp only [Act.put, List.setIfInBounds_toArray, List.set_cons_zero, List.set_cons_succ]
  refine Reg.both (i := 4) (i2 := 5) (by kernel_rfl) rfl rfl (fun K hK => ?_) (fun K hK => ?_)
  · have hA := after_mk (s := s) (t := t) c4 c6 c7 f6 f7 hbW (by have := hs.out; have := E4.out; omega)
    go_simp
    refine hK _ _ (fun _ h => ⟨kp0 (kpa c6), kp0 (kpa c7)⟩) ?_
    clear hK K
    try simp only [Act.put, List.setIfInBounds_toArray, List.set_cons_zero, List.set_cons_succ]
    refine Reg.only (i := 5) (by kernel_rfl) rfl (fun K hK => ?_)
    go_simp
    refine hK _ _ (fun _ _ => ⟨kp0 (kpa (kpa c6)), kp0 (kpa (kpa c7))⟩) ?_
    clear hK K
    try simp only [Act.put, List.setIfInBounds_toArray, List.set_cons_zero, List.set_cons_succ]
    refine Reg.only (i := 6) (by kernel_rfl) rfl (fun K hK => ?_)
    go_simp
    refine hK _ _ (fun _ _ => ⟨kp0 (kpa (kpa c6)), kp0 (kpa (kpa c7))⟩) ?_
    clear hK K
    try simp only [Act.put, List.setIfInBounds_toArray, List.set_cons_zero, List.set_cons_succ]
    refine Reg.only (i := 7) (by kernel_rfl) rfl (fun K hK => ?_)
    go_simp
    refine hK _ _ (fun _ _ => ⟨kp0 (kpa (kpa c6)), kp0 (kpa (kpa c7))⟩) ?_
    clear hK K
    try simp only [Act.put, List.setIfInBounds_toArray, List.set_cons_zero, List.set_cons_succ]
    refine Reg.done (by kernel_rfl) ?_ _
    clear c4 c6 c7 f6 f7 hbW hs
    revert hA
    generalize ((W.alloc (Obj.cells #[Value.int IntKind.i64 s] 2)).alloc (Obj.cells #[Value.int IntKind.i64 t] 2)).drew = W2
    generalize W.heap.size + 1 = b11
    generalize W.heap.size = b10
    rintro ⟨c4, c6, c7, c10, c11, f6, f7, f10, f11, hne, hl1, hl2, hb⟩
    obtain ⟨n1, n2, n3, n4, n5, n6, n7⟩ := hne
    go_wp2_with fail
    refine Reg.start (S := (fun w' => w'.cell? ⟨b6, 0, none⟩ = some (.int .u64 x) ∧ w'.cell? ⟨b7, 0, none⟩ = some (.int .u64 y))) (B := (fun j => [10, 11, 12, 13].contains j)) (by kernel_rfl) ?_
    refine Reg.take1 (i := 0) (v := .int .u64 x) rfl (by kernel_rfl) (by kernel_rfl) (by kernel_rfl) (by kernel_rfl) (by kernel_rfl) (fun _ _ _ h => h) (Or.inl ⟨by rfl, ?_⟩) ⟨kp0 c6, kp0 c7⟩ ?_
    · (intro w hS; obtain ⟨hs1, hs2⟩ := hS; go_simp; try with_reducible rfl)
    try simp only [Act.put, List.setIfInBounds_toArray, List.set_cons_zero, List.set_cons_succ]
    refine Reg.take1 (i := 2) (v := .int .u64 y) rfl (by kernel_rfl) (by kernel_rfl) (by kernel_rfl) (by kernel_rfl) (by kernel_rfl) (fun _ _ _ h => h) (Or.inl ⟨by rfl, ?_⟩) ⟨kp0 c6, kp0 c7⟩ ?_
    · (intro w hS; obtain ⟨hs1, hs2⟩ := hS; go_simp; try with_reducible rfl)
    try simp only [Act.put, List.setIfInBounds_toArray, List.set_cons_zero, List.set_cons_succ]
    refine Reg.take1 (i := 4) (v := .int .u64 x) rfl (by kernel_rfl) (by kernel_rfl) (by kernel_rfl) (by kernel_rfl) (by kernel_rfl) (fun _ _ _ h => h) (Or.inl ⟨by rfl, ?_⟩) ⟨kp0 c6, kp0 c7⟩ ?_
    · (intro w hS; obtain ⟨hs1, hs2⟩ := hS; go_simp; try with_reducible rfl)
    try simp only [Act.put, List.setIfInBounds_toArray, List.set_cons_zero, List.set_cons_succ]
    refine Reg.take1 (i := 7) (v := .int .u64 y) rfl (by kernel_rfl) (by kernel_rfl) (by kernel_rfl) (by kernel_rfl) (by kernel_rfl) (fun _ _ _ h => h) (Or.inl ⟨by rfl, ?_⟩) ⟨kp0 c6, kp0 c7⟩ ?_
    · (intro w hS; obtain ⟨hs1, hs2⟩ := hS; go_simp; try with_reducible rfl)
    try simp only [Act.put, List.setIfInBounds_toArray, List.set_cons_zero, List.set_cons_succ]
    refine Reg.take0 (i := 5) (v := .int .i32 s2) rfl (by kernel_rfl) (by kernel_rfl) (by kernel_rfl) (by kernel_rfl) (fun _ _ _ h => h) (Or.inl ⟨by rfl, ?_⟩) ?_
    · (intro w _; have hh := es2.out; go_simp; try with_reducible rfl)
    try simp only [Act.put, List.setIfInBounds_toArray, List.set_cons_zero, List.set_cons_succ]
    refine Reg.take0 (i := 6) (v := .int .i64 s2) rfl (by kernel_rfl) (by kernel_rfl) (by kernel_rfl) (by kernel_rfl) (fun _ _ _ h => h) (Or.inl ⟨by rfl, ?_⟩) ?_
    · (intro w _; go_simp; exact IntWalk.i64_in _ (by omega); try with_reducible rfl)
    try simp only [Act.put, List.setIfInBounds_toArray, List.set_cons_zero, List.set_cons_succ]
    refine Reg.take0 (i := 8) (v := .int .i32 t2) rfl (by kernel_rfl) (by kernel_rfl) (by kernel_rfl) (by kernel_rfl) (fun _ _ _ h => h) (Or.inl ⟨by rfl, ?_⟩) ?_
    · (intro w _; have hh := et2.out; go_simp; try with_reducible rfl)
    try simp only [Act.put, List.setIfInBounds_toArray, List.set_cons_zero, List.set_cons_succ]
    refine Reg.take0 (i := 9) (v := .int .i64 t2) rfl (by kernel_rfl) (by kernel_rfl) (by kernel_rfl) (by kernel_rfl) (fun _ _ _ h => h) (Or.inl ⟨by rfl, ?_⟩) ?_
    · (intro w _; go_simp; exact IntWalk.i64_in _ (by omega); try with_reducible rfl)
    try simp only [Act.put, List.setIfInBounds_toArray, List.set_cons_zero, List.set_cons_succ]
    refine Reg.only (i := 1) (by kernel_rfl) rfl (fun K hK => ?_)
    go_simp
    refine (low_c hx exl.out _).mono ?_; rintro e w' ⟨rfl, rfl⟩
    simp only []
    refine hK _ _ (fun _ h => h) ?_
    clear hK K
    try simp only [Act.put, List.setIfInBounds_toArray, List.set_cons_zero, List.set_cons_succ]
    refine Reg.only (i := 3) (by kernel_rfl) rfl (fun K hK => ?_)
    go_simp
    refine (low_c hy eyl.out _).mono ?_; rintro e w' ⟨rfl, rfl⟩
    simp only []
    refine hK _ _ (fun _ h => h) ?_
    clear hK K
    try simp only [Act.put, List.setIfInBounds_toArray, List.set_cons_zero, List.set_cons_succ]
    refine Reg.only (i := 10) (by kernel_rfl) rfl (fun K hK => ?_)
    go_simp
    refine hK _ _ (fun hb => absurd hb (by decide)) ?_
    clear hK K
    try simp only [Act.put, List.setIfInBounds_toArray, List.set_cons_zero, List.set_cons_succ]
    refine Reg.only (i := 11) (by kernel_rfl) rfl (fun K hK => ?_)
    go_simp
    refine hK _ _ (fun hb => absurd hb (by decide)) ?_
    clear hK K
    try simp only [Act.put, List.setIfInBounds_toArray, List.set_cons_zero, List.set_cons_succ]
    refine Reg.only (i := 12) (by kernel_rfl) rfl (fun K hK => ?_)
    go_simp
    refine hK _ _ (fun hb => absurd hb (by decide)) ?_
    clear hK K
    try simp only [Act.put, List.setIfInBounds_toArray, List.set_cons_zero, List.set_cons_succ]
    refine Reg.only (i := 13) (by kernel_rfl) rfl (fun K hK => ?_)
    go_simp
    refine hK _ _ (fun hb => absurd hb (by decide)) ?_
    clear hK K
    try simp only [Act.put, List.setIfInBounds_toArray, List.set_cons_zero, List.set_cons_succ]
    refine Reg.done (by kernel_rfl) ?_ _
    go_wp2_with fail
    go_ret2
    exact ⟨rfl, ((((hb.setCell hl6 _).setCell hl7 _).setCell hl1 _).setCell hl2 _).drew⟩
  · have hA := (after_mk (s := t) (t := s) c4 c6 c7 f6 f7 hbW (by have := hs.out; have := E4.out; omega)).swap
    go_simp
    refine hK _ _ (fun _ h => ⟨kp0 (kpa c6), kp0 (kpa c7)⟩) ?_
    clear hK K
    try simp only [Act.put, List.setIfInBounds_toArray, List.set_cons_zero, List.set_cons_succ]
    refine Reg.only (i := 4) (by kernel_rfl) rfl (fun K hK => ?_)
    go_simp
    refine hK _ _ (fun _ _ => ⟨kp0 (kpa (kpa c6)), kp0 (kpa (kpa c7))⟩) ?_
    clear hK K
    try simp only [Act.put, List.setIfInBounds_toArray, List.set_cons_zero, List.set_cons_succ]
    refine Reg.only (i := 6) (by kernel_rfl) rfl (fun K hK => ?_)
    go_simp
    refine hK _ _ (fun _ _ => ⟨kp0 (kpa (kpa c6)), kp0 (kpa (kpa c7))⟩) ?_
    clear hK K
    try simp only [Act.put, List.setIfInBounds_toArray, List.set_cons_zero, List.set_cons_succ]
    refine Reg.only (i := 7) (by kernel_rfl) rfl (fun K hK => ?_)
    go_simp
    refine hK _ _ (fun _ _ => ⟨kp0 (kpa (kpa c6)), kp0 (kpa (kpa c7))⟩) ?_
    clear hK K
    try simp only [Act.put, List.setIfInBounds_toArray, List.set_cons_zero, List.set_cons_succ]
    refine Reg.done (by kernel_rfl) ?_ _
    clear c4 c6 c7 f6 f7 hbW hs
    revert hA
    generalize ((W.alloc (Obj.cells #[Value.int IntKind.i64 t] 2)).alloc (Obj.cells #[Value.int IntKind.i64 s] 2)).drew = W2
    generalize W.heap.size + 1 = b10
    generalize W.heap.size = b11
    rintro ⟨c4, c6, c7, c10, c11, f6, f7, f10, f11, hne, hl1, hl2, hb⟩
    obtain ⟨n1, n2, n3, n4, n5, n6, n7⟩ := hne
    go_wp2_with fail
    refine Reg.start (S := (fun w' => w'.cell? ⟨b6, 0, none⟩ = some (.int .u64 x) ∧ w'.cell? ⟨b7, 0, none⟩ = some (.int .u64 y))) (B := (fun j => [10, 11, 12, 13].contains j)) (by kernel_rfl) ?_
    refine Reg.take1 (i := 0) (v := .int .u64 x) rfl (by kernel_rfl) (by kernel_rfl) (by kernel_rfl) (by kernel_rfl) (by kernel_rfl) (fun _ _ _ h => h) (Or.inl ⟨by rfl, ?_⟩) ⟨kp0 c6, kp0 c7⟩ ?_
    · (intro w hS; obtain ⟨hs1, hs2⟩ := hS; go_simp; try with_reducible rfl)
    try simp only [Act.put, List.setIfInBounds_toArray, List.set_cons_zero, List.set_cons_succ]
    refine Reg.take1 (i := 2) (v := .int .u64 y) rfl (by kernel_rfl) (by kernel_rfl) (by kernel_rfl) (by kernel_rfl) (by kernel_rfl) (fun _ _ _ h => h) (Or.inl ⟨by rfl, ?_⟩) ⟨kp0 c6, kp0 c7⟩ ?_
    · (intro w hS; obtain ⟨hs1, hs2⟩ := hS; go_simp; try with_reducible rfl)
    try simp only [Act.put, List.setIfInBounds_toArray, List.set_cons_zero, List.set_cons_succ]
    refine Reg.take1 (i := 4) (v := .int .u64 x) rfl (by kernel_rfl) (by kernel_rfl) (by kernel_rfl) (by kernel_rfl) (by kernel_rfl) (fun _ _ _ h => h) (Or.inl ⟨by rfl, ?_⟩) ⟨kp0 c6, kp0 c7⟩ ?_
    · (intro w hS; obtain ⟨hs1, hs2⟩ := hS; go_simp; try with_reducible rfl)
    try simp only [Act.put, List.setIfInBounds_toArray, List.set_cons_zero, List.set_cons_succ]
    refine Reg.take1 (i := 7) (v := .int .u64 y) rfl (by kernel_rfl) (by kernel_rfl) (by kernel_rfl) (by kernel_rfl) (by kernel_rfl) (fun _ _ _ h => h) (Or.inl ⟨by rfl, ?_⟩) ⟨kp0 c6, kp0 c7⟩ ?_
    · (intro w hS; obtain ⟨hs1, hs2⟩ := hS; go_simp; try with_reducible rfl)
    try simp only [Act.put, List.setIfInBounds_toArray, List.set_cons_zero, List.set_cons_succ]
    refine Reg.take0 (i := 5) (v := .int .i32 s2) rfl (by kernel_rfl) (by kernel_rfl) (by kernel_rfl) (by kernel_rfl) (fun _ _ _ h => h) (Or.inl ⟨by rfl, ?_⟩) ?_
    · (intro w _; have hh := es2.out; go_simp; try with_reducible rfl)
    try simp only [Act.put, List.setIfInBounds_toArray, List.set_cons_zero, List.set_cons_succ]
    refine Reg.take0 (i := 6) (v := .int .i64 s2) rfl (by kernel_rfl) (by kernel_rfl) (by kernel_rfl) (by kernel_rfl) (fun _ _ _ h => h) (Or.inl ⟨by rfl, ?_⟩) ?_
    · (intro w _; go_simp; exact IntWalk.i64_in _ (by omega); try with_reducible rfl)
    try simp only [Act.put, List.setIfInBounds_toArray, List.set_cons_zero, List.set_cons_succ]
    refine Reg.take0 (i := 8) (v := .int .i32 t2) rfl (by kernel_rfl) (by kernel_rfl) (by kernel_rfl) (by kernel_rfl) (fun _ _ _ h => h) (Or.inl ⟨by rfl, ?_⟩) ?_
    · (intro w _; have hh := et2.out; go_simp; try with_reducible rfl)
    try simp only [Act.put, List.setIfInBounds_toArray, List.set_cons_zero, List.set_cons_succ]
    refine Reg.take0 (i := 9) (v := .int .i64 t2) rfl (by kernel_rfl) (by kernel_rfl) (by kernel_rfl) (by kernel_rfl) (fun _ _ _ h => h) (Or.inl ⟨by rfl, ?_⟩) ?_
    · (intro w _; go_simp; exact IntWalk.i64_in _ (by omega); try with_reducible rfl)
    try simp only [Act.put, List.setIfInBounds_toArray, List.set_cons_zero, List.set_cons_succ]
    refine Reg.only (i := 1) (by kernel_rfl) rfl (fun K hK => ?_)
    go_simp
    refine (low_c hx exl.out _).mono ?_; rintro e w' ⟨rfl, rfl⟩
    simp only []
    refine hK _ _ (fun _ h => h) ?_
    clear hK K
    try simp only [Act.put, List.setIfInBounds_toArray, List.set_cons_zero, List.set_cons_succ]
    refine Reg.only (i := 3) (by kernel_rfl) rfl (fun K hK => ?_)
    go_simp
    refine (low_c hy eyl.out _).mono ?_; rintro e w' ⟨rfl, rfl⟩
    simp only []
    refine hK _ _ (fun _ h => h) ?_
    clear hK K
    try simp only [Act.put, List.setIfInBounds_toArray, List.set_cons_zero, List.set_cons_succ]
    refine Reg.only (i := 10) (by kernel_rfl) rfl (fun K hK => ?_)
    go_simp
    refine hK _ _ (fun hb => absurd hb (by decide)) ?_
    clear hK K
    try simp only [Act.put, List.setIfInBounds_toArray, List.set_cons_zero, List.set_cons_succ]
    refine Reg.only (i := 11) (by kernel_rfl) rfl (fun K hK => ?_)
    go_simp
    refine hK _ _ (fun hb => absurd hb (by decide)) ?_
    clear hK K
    try simp only [Act.put, List.setIfInBounds_toArray, List.set_cons_zero, List.set_cons_succ]
    refine Reg.only (i := 12) (by kernel_rfl) rfl (fun K hK => ?_)
    go_simp
    refine hK _ _ (fun hb => absurd hb (by decide)) ?_
    clear hK K
    try simp only [Act.put, List.setIfInBounds_toArray, List.set_cons_zero, List.set_cons_succ]
    refine Reg.only (i := 13) (by kernel_rfl) rfl (fun K hK => ?_)
    go_simp
    refine hK _ _ (fun hb => absurd hb (by decide)) ?_
    clear hK K
    try simp only [Act.put, List.setIfInBounds_toArray, List.set_cons_zero, List.set_cons_succ]
    refine Reg.done (by kernel_rfl) ?_ _
    go_wp2_with fail
    go_ret2
    exact ⟨rfl, ((((hb.setCell hl6 _).setCell hl7 _).setCell hl1 _).setCell hl2 _).drew⟩

set_option maxRecDepth 100000 in
set_option maxHeartbeats 4000000 in
theorem cmp_e8_narrow  (x y xl yl : Nat) (s t s2 t2 : Int) (w : World) (hx : x < 2 ^ 64) (hy : y < 2 ^ 64) (es : Hid (IntKind.i64.wrap (x : Int) = s)) (et : Hid (IntKind.i64.wrap (y : Int) = t)) (exl : Hid (x % 2 ^ 32 = xl)) (eyl : Hid (y % 2 ^ 32 = yl))
    (es2 : Hid (IntKind.i32.wrap (x : Int) = s2)) (et2 : Hid (IntKind.i32.wrap (y : Int) = t2)) (hs1 : -2147483648 ≤ s2) (hs2 : s2 ≤ 2147483647) (ht1 : -2147483648 ≤ t2) (ht2 : t2 ≤ 2147483647)  :
    Calls Try.prog 19 #[.int .i64 8, .bool false, .int .u64 x, .int .u64 y] w fun e w' => e = .returned (.tuple #[.bool false, .bool false]) ∧ Below w.heap.size w w' := by
  have hmf : ∀ (fn : Fn) (first cap : Array Value) (w : World), (Instr.makeFunc fn first cap).run Try.prog w = .ok (.func fn first cap) w := fun _ _ _ _ => rfl
  obtain ⟨W, b4, b6, b7, hW, e4, e6, e7, hs, c4, c6, c7, f6, f7, hbW⟩ := W_facts 8 x y w
  have E4 := Lib.hid e4
  have E6 := Lib.hid e6
  have E7 := Lib.hid e7
  have HW := Lib.hid hW
  clear e4 e6 e7 hW
  go_enter Try.func19, Try.ntmps19
  go_wp2_with fail
  rw [← HW.out, E7.out, E6.out, E4.out]
  clear HW
  have n8 : b6 ≠ b7 := by have := E6.out; have := E7.out; omega
  have n9 : b4 ≠ b6 := by have := E6.out; have := E4.out; omega
  have n10 : b4 ≠ b7 := by have := E4.out; have := E7.out; omega
  have hl6 : w.heap.size ≤ b6 := by have := E6.out; omega
  have hl7 : w.heap.size ≤ b7 := by have := E7.out; omega
  refine Reg.start (S := (fun w' => w'.cell? ⟨b6, 0, none⟩ = some (.int .u64 x) ∧ w'.cell? ⟨b7, 0, none⟩ = some (.int .u64 y))) (B := (fun _ => false)) (by kernel_rfl) ?_
  refine Reg.take1 (i := 0) (v := .int .u64 x) rfl (by kernel_rfl) (by kernel_rfl) (by kernel_rfl) (by kernel_rfl) (by kernel_rfl) (fun _ _ _ h => h) (Or.inl ⟨by rfl, ?_⟩) ⟨kp0 c6, kp0 c7⟩ ?_
  · (intro w hS; obtain ⟨hs1, hs2⟩ := hS; go_simp; try with_reducible rfl)
  try simp only [Act.put, List.setIfInBounds_toArray, List.set_cons_zero, List.set_cons_succ]
  refine Reg.take0 (i := 1) (v := .int .i64 s) rfl (by kernel_rfl) (by kernel_rfl) (by kernel_rfl) (by kernel_rfl) (fun _ _ _ h => h) (Or.inl ⟨by rfl, ?_⟩) ?_
  · (intro w _; have hh := es.out; go_simp; try with_reducible rfl)
  try simp only [Act.put, List.setIfInBounds_toArray, List.set_cons_zero, List.set_cons_succ]
  refine Reg.take1 (i := 2) (v := .int .u64 y) rfl (by kernel_rfl) (by kernel_rfl) (by kernel_rfl) (by kernel_rfl) (by kernel_rfl) (fun _ _ _ h => h) (Or.inl ⟨by rfl, ?_⟩) ⟨kp0 c6, kp0 c7⟩ ?_
  · (intro w hS; obtain ⟨hs1, hs2⟩ := hS; go_simp; try with_reducible rfl)
  try simp only [Act.put, List.setIfInBounds_toArray, List.set_cons_zero, List.set_cons_succ]
  refine Reg.take0 (i := 3) (v := .int .i64 t) rfl (by kernel_rfl) (by kernel_rfl) (by kernel_rfl) (by kernel_rfl) (fun _ _ _ h => h) (Or.inl ⟨by rfl, ?_⟩) ?_
  · (intro w _; have hh := et.out; go_simp; try with_reducible rfl)
  try simp only [Act.put, List.setIfInBounds_toArray, List.set_cons_zero, List.set_cons_succ]
  refine Reg.both (i := 4) (i2 := 5) (by kernel_rfl) rfl rfl (fun K hK => ?_) (fun K hK => ?_)
  · have hA := after_mk (s := s) (t := t) c4 c6 c7 f6 f7 hbW (by have := hs.out; have := E4.out; omega)
    go_simp
    refine hK _ _ (fun _ h => ⟨kp0 (kpa c6), kp0 (kpa c7)⟩) ?_
    clear hK K
    try simp only [Act.put, List.setIfInBounds_toArray, List.set_cons_zero, List.set_cons_succ]
    refine Reg.only (i := 5) (by kernel_rfl) rfl (fun K hK => ?_)
    go_simp
    refine hK _ _ (fun _ _ => ⟨kp0 (kpa (kpa c6)), kp0 (kpa (kpa c7))⟩) ?_
    clear hK K
    try simp only [Act.put, List.setIfInBounds_toArray, List.set_cons_zero, List.set_cons_succ]
    refine Reg.only (i := 6) (by kernel_rfl) rfl (fun K hK => ?_)
    go_simp
    refine hK _ _ (fun _ _ => ⟨kp0 (kpa (kpa c6)), kp0 (kpa (kpa c7))⟩) ?_
    clear hK K
    try simp only [Act.put, List.setIfInBounds_toArray, List.set_cons_zero, List.set_cons_succ]
    refine Reg.only (i := 7) (by kernel_rfl) rfl (fun K hK => ?_)
    go_simp
    refine hK _ _ (fun _ _ => ⟨kp0 (kpa (kpa c6)), kp0 (kpa (kpa c7))⟩) ?_
    clear hK K
    try simp only [Act.put, List.setIfInBounds_toArray, List.set_cons_zero, List.set_cons_succ]
    refine Reg.done (by kernel_rfl) ?_ _
    clear c4 c6 c7 f6 f7 hbW hs
    revert hA
    generalize ((W.alloc (Obj.cells #[Value.int IntKind.i64 s] 2)).alloc (Obj.cells #[Value.int IntKind.i64 t] 2)).drew = W2
    generalize W.heap.size + 1 = b11
    generalize W.heap.size = b10
    rintro ⟨c4, c6, c7, c10, c11, f6, f7, f10, f11, hne, hl1, hl2, hb⟩
    obtain ⟨n1, n2, n3, n4, n5, n6, n7⟩ := hne
    go_wp2_with fail
    refine Reg.start (S := (fun w' => w'.cell? ⟨b6, 0, none⟩ = some (.int .u64 x) ∧ w'.cell? ⟨b7, 0, none⟩ = some (.int .u64 y))) (B := (fun j => [10, 11, 12, 13].contains j)) (by kernel_rfl) ?_
    refine Reg.take1 (i := 0) (v := .int .u64 x) rfl (by kernel_rfl) (by kernel_rfl) (by kernel_rfl) (by kernel_rfl) (by kernel_rfl) (fun _ _ _ h => h) (Or.inl ⟨by rfl, ?_⟩) ⟨kp0 c6, kp0 c7⟩ ?_
    · (intro w hS; obtain ⟨hs1, hs2⟩ := hS; go_simp; try with_reducible rfl)
    try simp only [Act.put, List.setIfInBounds_toArray, List.set_cons_zero, List.set_cons_succ]
    refine Reg.take1 (i := 2) (v := .int .u64 y) rfl (by kernel_rfl) (by kernel_rfl) (by kernel_rfl) (by kernel_rfl) (by kernel_rfl) (fun _ _ _ h => h) (Or.inl ⟨by rfl, ?_⟩) ⟨kp0 c6, kp0 c7⟩ ?_
    · (intro w hS; obtain ⟨hs1, hs2⟩ := hS; go_simp; try with_reducible rfl)
    try simp only [Act.put, List.setIfInBounds_toArray, List.set_cons_zero, List.set_cons_succ]
    refine Reg.take1 (i := 4) (v := .int .u64 x) rfl (by kernel_rfl) (by kernel_rfl) (by kernel_rfl) (by kernel_rfl) (by kernel_rfl) (fun _ _ _ h => h) (Or.inl ⟨by rfl, ?_⟩) ⟨kp0 c6, kp0 c7⟩ ?_
    · (intro w hS; obtain ⟨hs1, hs2⟩ := hS; go_simp; try with_reducible rfl)
    try simp only [Act.put, List.setIfInBounds_toArray, List.set_cons_zero, List.set_cons_succ]
    refine Reg.take1 (i := 7) (v := .int .u64 y) rfl (by kernel_rfl) (by kernel_rfl) (by kernel_rfl) (by kernel_rfl) (by kernel_rfl) (fun _ _ _ h => h) (Or.inl ⟨by rfl, ?_⟩) ⟨kp0 c6, kp0 c7⟩ ?_
    · (intro w hS; obtain ⟨hs1, hs2⟩ := hS; go_simp; try with_reducible rfl)
    try simp only [Act.put, List.setIfInBounds_toArray, List.set_cons_zero, List.set_cons_succ]
    refine Reg.take0 (i := 5) (v := .int .i32 s2) rfl (by kernel_rfl) (by kernel_rfl) (by kernel_rfl) (by kernel_rfl) (fun _ _ _ h => h) (Or.inl ⟨by rfl, ?_⟩) ?_
    · (intro w _; have hh := es2.out; go_simp; try with_reducible rfl)
    try simp only [Act.put, List.setIfInBounds_toArray, List.set_cons_zero, List.set_cons_succ]
    refine Reg.take0 (i := 6) (v := .int .i64 s2) rfl (by kernel_rfl) (by kernel_rfl) (by kernel_rfl) (by kernel_rfl) (fun _ _ _ h => h) (Or.inl ⟨by rfl, ?_⟩) ?_
    · (intro w _; go_simp; exact IntWalk.i64_in _ (by omega); try with_reducible rfl)
    try simp only [Act.put, List.setIfInBounds_toArray, List.set_cons_zero, List.set_cons_succ]
    refine Reg.take0 (i := 8) (v := .int .i32 t2) rfl (by kernel_rfl) (by kernel_rfl) (by kernel_rfl) (by kernel_rfl) (fun _ _ _ h => h) (Or.inl ⟨by rfl, ?_⟩) ?_
    · (intro w _; have hh := et2.out; go_simp; try with_reducible rfl)
    try simp only [Act.put, List.setIfInBounds_toArray, List.set_cons_zero, List.set_cons_succ]
    refine Reg.take0 (i := 9) (v := .int .i64 t2) rfl (by kernel_rfl) (by kernel_rfl) (by kernel_rfl) (by kernel_rfl) (fun _ _ _ h => h) (Or.inl ⟨by rfl, ?_⟩) ?_
    · (intro w _; go_simp; exact IntWalk.i64_in _ (by omega); try with_reducible rfl)
    try simp only [Act.put, List.setIfInBounds_toArray, List.set_cons_zero, List.set_cons_succ]
    refine Reg.only (i := 1) (by kernel_rfl) rfl (fun K hK => ?_)
    go_simp
    refine (low_c hx exl.out _).mono ?_; rintro e w' ⟨rfl, rfl⟩
    simp only []
    refine hK _ _ (fun _ h => h) ?_
    clear hK K
    try simp only [Act.put, List.setIfInBounds_toArray, List.set_cons_zero, List.set_cons_succ]
    refine Reg.only (i := 3) (by kernel_rfl) rfl (fun K hK => ?_)
    go_simp
    refine (low_c hy eyl.out _).mono ?_; rintro e w' ⟨rfl, rfl⟩
    simp only []
    refine hK _ _ (fun _ h => h) ?_
    clear hK K
    try simp only [Act.put, List.setIfInBounds_toArray, List.set_cons_zero, List.set_cons_succ]
    refine Reg.only (i := 10) (by kernel_rfl) rfl (fun K hK => ?_)
    go_simp
    refine hK _ _ (fun hb => absurd hb (by decide)) ?_
    clear hK K
    try simp only [Act.put, List.setIfInBounds_toArray, List.set_cons_zero, List.set_cons_succ]
    refine Reg.only (i := 11) (by kernel_rfl) rfl (fun K hK => ?_)
    go_simp
    refine hK _ _ (fun hb => absurd hb (by decide)) ?_
    clear hK K
    try simp only [Act.put, List.setIfInBounds_toArray, List.set_cons_zero, List.set_cons_succ]
    refine Reg.only (i := 12) (by kernel_rfl) rfl (fun K hK => ?_)
    go_simp
    refine hK _ _ (fun hb => absurd hb (by decide)) ?_
    clear hK K
    try simp only [Act.put, List.setIfInBounds_toArray, List.set_cons_zero, List.set_cons_succ]
    refine Reg.only (i := 13) (by kernel_rfl) rfl (fun K hK => ?_)
    go_simp
    refine hK _ _ (fun hb => absurd hb (by decide)) ?_
    clear hK K
    try simp only [Act.put, List.setIfInBounds_toArray, List.set_cons_zero, List.set_cons_succ]
    refine Reg.done (by kernel_rfl) ?_ _
    go_wp2_with fail
    go_ret2
    exact ⟨rfl, ((((hb.setCell hl6 _).setCell hl7 _).setCell hl1 _).setCell hl2 _).drew⟩
  · have hA := (after_mk (s := t) (t := s) c4 c6 c7 f6 f7 hbW (by have := hs.out; have := E4.out; omega)).swap
    go_simp
    refine hK _ _ (fun _ h => ⟨kp0 (kpa c6), kp0 (kpa c7)⟩) ?_
    clear hK K
    try simp only [Act.put, List.setIfInBounds_toArray, List.set_cons_zero, List.set_cons_succ]
    refine Reg.only (i := 4) (by kernel_rfl) rfl (fun K hK => ?_)
    go_simp
    refine hK _ _ (fun _ _ => ⟨kp0 (kpa (kpa c6)), kp0 (kpa (kpa c7))⟩) ?_
    clear hK K
    try simp only [Act.put, List.setIfInBounds_toArray, List.set_cons_zero, List.set_cons_succ]
    refine Reg.only (i := 6) (by kernel_rfl) rfl (fun K hK => ?_)
    go_simp
    refine hK _ _ (fun _ _ => ⟨kp0 (kpa (kpa c6)), kp0 (kpa (kpa c7))⟩) ?_
    clear hK K
    try simp only [Act.put, List.setIfInBounds_toArray, List.set_cons_zero, List.set_cons_succ]
    refine Reg.only (i := 7) (by kernel_rfl) rfl (fun K hK => ?_)
    go_simp
    refine hK _ _ (fun _ _ => ⟨kp0 (kpa (kpa c6)), kp0 (kpa (kpa c7))⟩) ?_
    clear hK K
    try simp only [Act.put, List.setIfInBounds_toArray, List.set_cons_zero, List.set_cons_succ]
    refine Reg.done (by kernel_rfl) ?_ _
    clear c4 c6 c7 f6 f7 hbW hs
    revert hA
    generalize ((W.alloc (Obj.cells #[Value.int IntKind.i64 t] 2)).alloc (Obj.cells #[Value.int IntKind.i64 s] 2)).drew = W2
    generalize W.heap.size + 1 = b10
    generalize W.heap.size = b11
    rintro ⟨c4, c6, c7, c10, c11, f6, f7, f10, f11, hne, hl1, hl2, hb⟩
    obtain ⟨n1, n2, n3, n4, n5, n6, n7⟩ := hne
    go_wp2_with fail
    refine Reg.start (S := (fun w' => w'.cell? ⟨b6, 0, none⟩ = some (.int .u64 x) ∧ w'.cell? ⟨b7, 0, none⟩ = some (.int .u64 y))) (B := (fun j => [10, 11, 12, 13].contains j)) (by kernel_rfl) ?_
    refine Reg.take1 (i := 0) (v := .int .u64 x) rfl (by kernel_rfl) (by kernel_rfl) (by kernel_rfl) (by kernel_rfl) (by kernel_rfl) (fun _ _ _ h => h) (Or.inl ⟨by rfl, ?_⟩) ⟨kp0 c6, kp0 c7⟩ ?_
    · (intro w hS; obtain ⟨hs1, hs2⟩ := hS; go_simp; try with_reducible rfl)
    try simp only [Act.put, List.setIfInBounds_toArray, List.set_cons_zero, List.set_cons_succ]
    refine Reg.take1 (i := 2) (v := .int .u64 y) rfl (by kernel_rfl) (by kernel_rfl) (by kernel_rfl) (by kernel_rfl) (by kernel_rfl) (fun _ _ _ h => h) (Or.inl ⟨by rfl, ?_⟩) ⟨kp0 c6, kp0 c7⟩ ?_
    · (intro w hS; obtain ⟨hs1, hs2⟩ := hS; go_simp; try with_reducible rfl)
    try simp only [Act.put, List.setIfInBounds_toArray, List.set_cons_zero, List.set_cons_succ]
    refine Reg.take1 (i := 4) (v := .int .u64 x) rfl (by kernel_rfl) (by kernel_rfl) (by kernel_rfl) (by kernel_rfl) (by kernel_rfl) (fun _ _ _ h => h) (Or.inl ⟨by rfl, ?_⟩) ⟨kp0 c6, kp0 c7⟩ ?_
    · (intro w hS; obtain ⟨hs1, hs2⟩ := hS; go_simp; try with_reducible rfl)
    try simp only [Act.put, List.setIfInBounds_toArray, List.set_cons_zero, List.set_cons_succ]
    refine Reg.take1 (i := 7) (v := .int .u64 y) rfl (by kernel_rfl) (by kernel_rfl) (by kernel_rfl) (by kernel_rfl) (by kernel_rfl) (fun _ _ _ h => h) (Or.inl ⟨by rfl, ?_⟩) ⟨kp0 c6, kp0 c7⟩ ?_
    · (intro w hS; obtain ⟨hs1, hs2⟩ := hS; go_simp; try with_reducible rfl)
    try simp only [Act.put, List.setIfInBounds_toArray, List.set_cons_zero, List.set_cons_succ]
    refine Reg.take0 (i := 5) (v := .int .i32 s2) rfl (by kernel_rfl) (by kernel_rfl) (by kernel_rfl) (by kernel_rfl) (fun _ _ _ h => h) (Or.inl ⟨by rfl, ?_⟩) ?_
    · (intro w _; have hh := es2.out; go_simp; try with_reducible rfl)
    try simp only [Act.put, List.setIfInBounds_toArray, List.set_cons_zero, List.set_cons_succ]
    refine Reg.take0 (i := 6) (v := .int .i64 s2) rfl (by kernel_rfl) (by kernel_rfl) (by kernel_rfl) (by kernel_rfl) (fun _ _ _ h => h) (Or.inl ⟨by rfl, ?_⟩) ?_
    · (intro w _; go_simp; exact IntWalk.i64_in _ (by omega); try with_reducible rfl)
    try simp only [Act.put, List.setIfInBounds_toArray, List.set_cons_zero, List.set_cons_succ]
    refine Reg.take0 (i := 8) (v := .int .i32 t2) rfl (by kernel_rfl) (by kernel_rfl) (by kernel_rfl) (by kernel_rfl) (fun _ _ _ h => h) (Or.inl ⟨by rfl, ?_⟩) ?_
    · (intro w _; have hh := et2.out; go_simp; try with_reducible rfl)
    try simp only [Act.put, List.setIfInBounds_toArray, List.set_cons_zero, List.set_cons_succ]
    refine Reg.take0 (i := 9) (v := .int .i64 t2) rfl (by kernel_rfl) (by kernel_rfl) (by kernel_rfl) (by kernel_rfl) (fun _ _ _ h => h) (Or.inl ⟨by rfl, ?_⟩) ?_
    · (intro w _; go_simp; exact IntWalk.i64_in _ (by omega); try with_reducible rfl)
    try simp only [Act.put, List.setIfInBounds_toArray, List.set_cons_zero, List.set_cons_succ]
    refine Reg.only (i := 1) (by kernel_rfl) rfl (fun K hK => ?_)
    go_simp
    refine (low_c hx exl.out _).mono ?_; rintro e w' ⟨rfl, rfl⟩
    simp only []
    refine hK _ _ (fun _ h => h) ?_
    clear hK K
    try simp only [Act.put, List.setIfInBounds_toArray, List.set_cons_zero, List.set_cons_succ]
    refine Reg.only (i := 3) (by kernel_rfl) rfl (fun K hK => ?_)
    go_simp
    refine (low_c hy eyl.out _).mono ?_; rintro e w' ⟨rfl, rfl⟩
    simp only []
    refine hK _ _ (fun _ h => h) ?_
    clear hK K
    try simp only [Act.put, List.setIfInBounds_toArray, List.set_cons_zero, List.set_cons_succ]
    refine Reg.only (i := 10) (by kernel_rfl) rfl (fun K hK => ?_)
    go_simp
    refine hK _ _ (fun hb => absurd hb (by decide)) ?_
    clear hK K
    try simp only [Act.put, List.setIfInBounds_toArray, List.set_cons_zero, List.set_cons_succ]
    refine Reg.only (i := 11) (by kernel_rfl) rfl (fun K hK => ?_)
    go_simp
    refine hK _ _ (fun hb => absurd hb (by decide)) ?_
    clear hK K
    try simp only [Act.put, List.setIfInBounds_toArray, List.set_cons_zero, List.set_cons_succ]
    refine Reg.only (i := 12) (by kernel_rfl) rfl (fun K hK => ?_)
    go_simp
    refine hK _ _ (fun hb => absurd hb (by decide)) ?_
    clear hK K
    try simp only [Act.put, List.setIfInBounds_toArray, List.set_cons_zero, List.set_cons_succ]
    refine Reg.only (i := 13) (by kernel_rfl) rfl (fun K hK => ?_)
    go_simp
    refine hK _ _ (fun hb => absurd hb (by decide)) ?_
    clear hK K
    try simp only [Act.put, List.setIfInBounds_toArray, List.set_cons_zero, List.set_cons_succ]
    refine Reg.done (by kernel_rfl) ?_ _
    go_wp2_with fail
    go_ret2
    exact ⟨rfl, ((((hb.setCell hl6 _).setCell hl7 _).setCell hl1 _).setCell hl2 _).drew⟩

set_option maxRecDepth 100000 in
set_option maxHeartbeats 4000000 in
theorem cmp_e9_narrow  (x y xl yl : Nat) (s t s2 t2 : Int) (w : World) (hx : x < 2 ^ 64) (hy : y < 2 ^ 64) (es : Hid (IntKind.i64.wrap (x : Int) = s)) (et : Hid (IntKind.i64.wrap (y : Int) = t)) (exl : Hid (x % 2 ^ 32 = xl)) (eyl : Hid (y % 2 ^ 32 = yl))
    (es2 : Hid (IntKind.i32.wrap (x : Int) = s2)) (et2 : Hid (IntKind.i32.wrap (y : Int) = t2)) (hs1 : -2147483648 ≤ s2) (hs2 : s2 ≤ 2147483647) (ht1 : -2147483648 ≤ t2) (ht2 : t2 ≤ 2147483647)  :
    Calls Try.prog 19 #[.int .i64 9, .bool false, .int .u64 x, .int .u64 y] w fun e w' => e = .returned (.tuple #[.bool false, .bool false]) ∧ Below w.heap.size w w' := by
  have hmf : ∀ (fn : Fn) (first cap : Array Value) (w : World), (Instr.makeFunc fn first cap).run Try.prog w = .ok (.func fn first cap) w := fun _ _ _ _ => rfl
  obtain ⟨W, b4, b6, b7, hW, e4, e6, e7, hs, c4, c6, c7, f6, f7, hbW⟩ := W_facts 9 x y w
  have E4 := Lib.hid e4
  have E6 := Lib.hid e6
  have E7 := Lib.hid e7
  have HW := Lib.hid hW
  clear e4 e6 e7 hW
  go_enter Try.func19, Try.ntmps19
  go_wp2_with fail
  rw [← HW.out, E7.out, E6.out, E4.out]
  clear HW
  have n8 : b6 ≠ b7 := by have := E6.out; have := E7.out; omega
  have n9 : b4 ≠ b6 := by have := E6.out; have := E4.out; omega
  have n10 : b4 ≠ b7 := by have := E4.out; have := E7.out; omega
  have hl6 : w.heap.size ≤ b6 := by have := E6.out; omega
  have hl7 : w.heap.size ≤ b7 := by have := E7.out; omega
  refine Reg.start (S := (fun w' => w'.cell? ⟨b6, 0, none⟩ = some (.int .u64 x) ∧ w'.cell? ⟨b7, 0, none⟩ = some (.int .u64 y))) (B := (fun _ => false)) (by kernel_rfl) ?_
  refine Reg.take1 (i := 0) (v := .int .u64 x) rfl (by kernel_rfl) (by kernel_rfl) (by kernel_rfl) (by kernel_rfl) (by kernel_rfl) (fun _ _ _ h => h) (Or.inl ⟨by rfl, ?_⟩) ⟨kp0 c6, kp0 c7⟩ ?_
  · (intro w hS; obtain ⟨hs1, hs2⟩ := hS; go_simp; try with_reducible rfl)
  try simp only [Act.put, List.setIfInBounds_toArray, List.set_cons_zero, List.set_cons_succ]
  refine Reg.take0 (i := 1) (v := .int .i64 s) rfl (by kernel_rfl) (by kernel_rfl) (by kernel_rfl) (by kernel_rfl) (fun _ _ _ h => h) (Or.inl ⟨by rfl, ?_⟩) ?_
  · (intro w _; have hh := es.out; go_simp; try with_reducible rfl)
  try simp only [Act.put, List.setIfInBounds_toArray, List.set_cons_zero, List.set_cons_succ]
  refine Reg.take1 (i := 2) (v := .int .u64 y) rfl (by kernel_rfl) (by kernel_rfl) (by kernel_rfl) (by kernel_rfl) (by kernel_rfl) (fun _ _ _ h => h) (Or.inl ⟨by rfl, ?_⟩) ⟨kp0 c6, kp0 c7⟩ ?_
  · (intro w hS; obtain ⟨hs1, hs2⟩ := hS; go_simp; try with_reducible rfl)
  try simp only [Act.put, List.setIfInBounds_toArray, List.set_cons_zero, List.set_cons_succ]
  refine Reg.take0 (i := 3) (v := .int .i64 t) rfl (by kernel_rfl) (by kernel_rfl) (by kernel_rfl) (by kernel_rfl) (fun _ _ _ h => h) (Or.inl ⟨by rfl, ?_⟩) ?_
  · (intro w _; have hh := et.out; go_simp; try with_reducible rfl)
  try simp only [Act.put, List.setIfInBounds_toArray, List.set_cons_zero, List.set_cons_succ]
  refine Reg.both (i := 4) (i2 := 5) (by kernel_rfl) rfl rfl (fun K hK => ?_) (fun K hK => ?_)
  · have hA := after_mk (s := s) (t := t) c4 c6 c7 f6 f7 hbW (by have := hs.out; have := E4.out; omega)
    go_simp
    refine hK _ _ (fun _ h => ⟨kp0 (kpa c6), kp0 (kpa c7)⟩) ?_
    clear hK K
    try simp only [Act.put, List.setIfInBounds_toArray, List.set_cons_zero, List.set_cons_succ]
    refine Reg.only (i := 5) (by kernel_rfl) rfl (fun K hK => ?_)
    go_simp
    refine hK _ _ (fun _ _ => ⟨kp0 (kpa (kpa c6)), kp0 (kpa (kpa c7))⟩) ?_
    clear hK K
    try simp only [Act.put, List.setIfInBounds_toArray, List.set_cons_zero, List.set_cons_succ]
    refine Reg.only (i := 6) (by kernel_rfl) rfl (fun K hK => ?_)
    go_simp
    refine hK _ _ (fun _ _ => ⟨kp0 (kpa (kpa c6)), kp0 (kpa (kpa c7))⟩) ?_
    clear hK K
    try simp only [Act.put, List.setIfInBounds_toArray, List.set_cons_zero, List.set_cons_succ]
    refine Reg.only (i := 7) (by kernel_rfl) rfl (fun K hK => ?_)
    go_simp
    refine hK _ _ (fun _ _ => ⟨kp0 (kpa (kpa c6)), kp0 (kpa (kpa c7))⟩) ?_
    clear hK K
    try simp only [Act.put, List.setIfInBounds_toArray, List.set_cons_zero, List.set_cons_succ]
    refine Reg.done (by kernel_rfl) ?_ _
    clear c4 c6 c7 f6 f7 hbW hs
    revert hA
    generalize ((W.alloc (Obj.cells #[Value.int IntKind.i64 s] 2)).alloc (Obj.cells #[Value.int IntKind.i64 t] 2)).drew = W2
    generalize W.heap.size + 1 = b11
    generalize W.heap.size = b10
    rintro ⟨c4, c6, c7, c10, c11, f6, f7, f10, f11, hne, hl1, hl2, hb⟩
    obtain ⟨n1, n2, n3, n4, n5, n6, n7⟩ := hne
    go_wp2_with fail
    refine Reg.start (S := (fun w' => w'.cell? ⟨b6, 0, none⟩ = some (.int .u64 x) ∧ w'.cell? ⟨b7, 0, none⟩ = some (.int .u64 y))) (B := (fun j => [10, 11, 12, 13].contains j)) (by kernel_rfl) ?_
    refine Reg.take1 (i := 0) (v := .int .u64 x) rfl (by kernel_rfl) (by kernel_rfl) (by kernel_rfl) (by kernel_rfl) (by kernel_rfl) (fun _ _ _ h => h) (Or.inl ⟨by rfl, ?_⟩) ⟨kp0 c6, kp0 c7⟩ ?_
    · (intro w hS; obtain ⟨hs1, hs2⟩ := hS; go_simp; try with_reducible rfl)
    try simp only [Act.put, List.setIfInBounds_toArray, List.set_cons_zero, List.set_cons_succ]
    refine Reg.take1 (i := 2) (v := .int .u64 y) rfl (by kernel_rfl) (by kernel_rfl) (by kernel_rfl) (by kernel_rfl) (by kernel_rfl) (fun _ _ _ h => h) (Or.inl ⟨by rfl, ?_⟩) ⟨kp0 c6, kp0 c7⟩ ?_
    · (intro w hS; obtain ⟨hs1, hs2⟩ := hS; go_simp; try with_reducible rfl)
    try simp only [Act.put, List.setIfInBounds_toArray, List.set_cons_zero, List.set_cons_succ]
    refine Reg.take1 (i := 4) (v := .int .u64 x) rfl (by kernel_rfl) (by kernel_rfl) (by kernel_rfl) (by kernel_rfl) (by kernel_rfl) (fun _ _ _ h => h) (Or.inl ⟨by rfl, ?_⟩) ⟨kp0 c6, kp0 c7⟩ ?_
    · (intro w hS; obtain ⟨hs1, hs2⟩ := hS; go_simp; try with_reducible rfl)
    try simp only [Act.put, List.setIfInBounds_toArray, List.set_cons_zero, List.set_cons_succ]
    refine Reg.take1 (i := 7) (v := .int .u64 y) rfl (by kernel_rfl) (by kernel_rfl) (by kernel_rfl) (by kernel_rfl) (by kernel_rfl) (fun _ _ _ h => h) (Or.inl ⟨by rfl, ?_⟩) ⟨kp0 c6, kp0 c7⟩ ?_
    · (intro w hS; obtain ⟨hs1, hs2⟩ := hS; go_simp; try with_reducible rfl)
    try simp only [Act.put, List.setIfInBounds_toArray, List.set_cons_zero, List.set_cons_succ]
    refine Reg.take0 (i := 5) (v := .int .i32 s2) rfl (by kernel_rfl) (by kernel_rfl) (by kernel_rfl) (by kernel_rfl) (fun _ _ _ h => h) (Or.inl ⟨by rfl, ?_⟩) ?_
    · (intro w _; have hh := es2.out; go_simp; try with_reducible rfl)
    try simp only [Act.put, List.setIfInBounds_toArray, List.set_cons_zero, List.set_cons_succ]
    refine Reg.take0 (i := 6) (v := .int .i64 s2) rfl (by kernel_rfl) (by kernel_rfl) (by kernel_rfl) (by kernel_rfl) (fun _ _ _ h => h) (Or.inl ⟨by rfl, ?_⟩) ?_
    · (intro w _; go_simp; exact IntWalk.i64_in _ (by omega); try with_reducible rfl)
    try simp only [Act.put, List.setIfInBounds_toArray, List.set_cons_zero, List.set_cons_succ]
    refine Reg.take0 (i := 8) (v := .int .i32 t2) rfl (by kernel_rfl) (by kernel_rfl) (by kernel_rfl) (by kernel_rfl) (fun _ _ _ h => h) (Or.inl ⟨by rfl, ?_⟩) ?_
    · (intro w _; have hh := et2.out; go_simp; try with_reducible rfl)
    try simp only [Act.put, List.setIfInBounds_toArray, List.set_cons_zero, List.set_cons_succ]
    refine Reg.take0 (i := 9) (v := .int .i64 t2) rfl (by kernel_rfl) (by kernel_rfl) (by kernel_rfl) (by kernel_rfl) (fun _ _ _ h => h) (Or.inl ⟨by rfl, ?_⟩) ?_
    · (intro w _; go_simp; exact IntWalk.i64_in _ (by omega); try with_reducible rfl)
    try simp only [Act.put, List.setIfInBounds_toArray, List.set_cons_zero, List.set_cons_succ]
    refine Reg.only (i := 1) (by kernel_rfl) rfl (fun K hK => ?_)
    go_simp
    refine (low_c hx exl.out _).mono ?_; rintro e w' ⟨rfl, rfl⟩
    simp only []
    refine hK _ _ (fun _ h => h) ?_
    clear hK K
    try simp only [Act.put, List.setIfInBounds_toArray, List.set_cons_zero, List.set_cons_succ]
    refine Reg.only (i := 3) (by kernel_rfl) rfl (fun K hK => ?_)
    go_simp
    refine (low_c hy eyl.out _).mono ?_; rintro e w' ⟨rfl, rfl⟩
    simp only []
    refine hK _ _ (fun _ h => h) ?_
    clear hK K
    try simp only [Act.put, List.setIfInBounds_toArray, List.set_cons_zero, List.set_cons_succ]
    refine Reg.only (i := 10) (by kernel_rfl) rfl (fun K hK => ?_)
    go_simp
    refine hK _ _ (fun hb => absurd hb (by decide)) ?_
    clear hK K
    try simp only [Act.put, List.setIfInBounds_toArray, List.set_cons_zero, List.set_cons_succ]
    refine Reg.only (i := 11) (by kernel_rfl) rfl (fun K hK => ?_)
    go_simp
    refine hK _ _ (fun hb => absurd hb (by decide)) ?_
    clear hK K
    try simp only [Act.put, List.setIfInBounds_toArray, List.set_cons_zero, List.set_cons_succ]
    refine Reg.only (i := 12) (by kernel_rfl) rfl (fun K hK => ?_)
    go_simp
    refine hK _ _ (fun hb => absurd hb (by decide)) ?_
    clear hK K
    try simp only [Act.put, List.setIfInBounds_toArray, List.set_cons_zero, List.set_cons_succ]
    refine Reg.only (i := 13) (by kernel_rfl) rfl (fun K hK => ?_)
    go_simp
    refine hK _ _ (fun hb => absurd hb (by decide)) ?_
    clear hK K
    try simp only [Act.put, List.setIfInBounds_toArray, List.set_cons_zero, List.set_cons_succ]
    refine Reg.done (by kernel_rfl) ?_ _
    go_wp2_with fail
    go_ret2
    exact ⟨rfl, ((((hb.setCell hl6 _).setCell hl7 _).setCell hl1 _).setCell hl2 _).drew⟩
  · have hA := (after_mk (s := t) (t := s) c4 c6 c7 f6 f7 hbW (by have := hs.out; have := E4.out; omega)).swap
    go_simp
    refine hK _ _ (fun _ h => ⟨kp0 (kpa c6), kp0 (kpa c7)⟩) ?_
    clear hK K
    try simp only [Act.put, List.setIfInBounds_toArray, List.set_cons_zero, List.set_cons_succ]
    refine Reg.only (i := 4) (by kernel_rfl) rfl (fun K hK => ?_)
    go_simp
    refine hK _ _ (fun _ _ => ⟨kp0 (kpa (kpa c6)), kp0 (kpa (kpa c7))⟩) ?_
    clear hK K
    try simp only [Act.put, List.setIfInBounds_toArray, List.set_cons_zero, List.set_cons_succ]
    refine Reg.only (i := 6) (by kernel_rfl) rfl (fun K hK => ?_)
    go_simp
    refine hK _ _ (fun _ _ => ⟨kp0 (kpa (kpa c6)), kp0 (kpa (kpa c7))⟩) ?_
    clear hK K
    try simp only [Act.put, List.setIfInBounds_toArray, List.set_cons_zero, List.set_cons_succ]
    refine Reg.only (i := 7) (by kernel_rfl) rfl (fun K hK => ?_)
    go_simp
    refine hK _ _ (fun _ _ => ⟨kp0 (kpa (kpa c6)), kp0 (kpa (kpa c7))⟩) ?_
    clear hK K
    try simp only [Act.put, List.setIfInBounds_toArray, List.set_cons_zero, List.set_cons_succ]
    refine Reg.done (by kernel_rfl) ?_ _
    clear c4 c6 c7 f6 f7 hbW hs
    revert hA
    generalize ((W.alloc (Obj.cells #[Value.int IntKind.i64 t] 2)).alloc (Obj.cells #[Value.int IntKind.i64 s] 2)).drew = W2
    generalize W.heap.size + 1 = b10
    generalize W.heap.size = b11
    rintro ⟨c4, c6, c7, c10, c11, f6, f7, f10, f11, hne, hl1, hl2, hb⟩
    obtain ⟨n1, n2, n3, n4, n5, n6, n7⟩ := hne
    go_wp2_with fail
    refine Reg.start (S := (fun w' => w'.cell? ⟨b6, 0, none⟩ = some (.int .u64 x) ∧ w'.cell? ⟨b7, 0, none⟩ = some (.int .u64 y))) (B := (fun j => [10, 11, 12, 13].contains j)) (by kernel_rfl) ?_
    refine Reg.take1 (i := 0) (v := .int .u64 x) rfl (by kernel_rfl) (by kernel_rfl) (by kernel_rfl) (by kernel_rfl) (by kernel_rfl) (fun _ _ _ h => h) (Or.inl ⟨by rfl, ?_⟩) ⟨kp0 c6, kp0 c7⟩ ?_
    · (intro w hS; obtain ⟨hs1, hs2⟩ := hS; go_simp; try with_reducible rfl)
    try simp only [Act.put, List.setIfInBounds_toArray, List.set_cons_zero, List.set_cons_succ]
    refine Reg.take1 (i := 2) (v := .int .u64 y) rfl (by kernel_rfl) (by kernel_rfl) (by kernel_rfl) (by kernel_rfl) (by kernel_rfl) (fun _ _ _ h => h) (Or.inl ⟨by rfl, ?_⟩) ⟨kp0 c6, kp0 c7⟩ ?_
    · (intro w hS; obtain ⟨hs1, hs2⟩ := hS; go_simp; try with_reducible rfl)
    try simp only [Act.put, List.setIfInBounds_toArray, List.set_cons_zero, List.set_cons_succ]
    refine Reg.take1 (i := 4) (v := .int .u64 x) rfl (by kernel_rfl) (by kernel_rfl) (by kernel_rfl) (by kernel_rfl) (by kernel_rfl) (fun _ _ _ h => h) (Or.inl ⟨by rfl, ?_⟩) ⟨kp0 c6, kp0 c7⟩ ?_
    · (intro w hS; obtain ⟨hs1, hs2⟩ := hS; go_simp; try with_reducible rfl)
    try simp only [Act.put, List.setIfInBounds_toArray, List.set_cons_zero, List.set_cons_succ]
    refine Reg.take1 (i := 7) (v := .int .u64 y) rfl (by kernel_rfl) (by kernel_rfl) (by kernel_rfl) (by kernel_rfl) (by kernel_rfl) (fun _ _ _ h => h) (Or.inl ⟨by rfl, ?_⟩) ⟨kp0 c6, kp0 c7⟩ ?_
    · (intro w hS; obtain ⟨hs1, hs2⟩ := hS; go_simp; try with_reducible rfl)
    try simp only [Act.put, List.setIfInBounds_toArray, List.set_cons_zero, List.set_cons_succ]
    refine Reg.take0 (i := 5) (v := .int .i32 s2) rfl (by kernel_rfl) (by kernel_rfl) (by kernel_rfl) (by kernel_rfl) (fun _ _ _ h => h) (Or.inl ⟨by rfl, ?_⟩) ?_
    · (intro w _; have hh := es2.out; go_simp; try with_reducible rfl)
    try simp only [Act.put, List.setIfInBounds_toArray, List.set_cons_zero, List.set_cons_succ]
    refine Reg.take0 (i := 6) (v := .int .i64 s2) rfl (by kernel_rfl) (by kernel_rfl) (by kernel_rfl) (by kernel_rfl) (fun _ _ _ h => h) (Or.inl ⟨by rfl, ?_⟩) ?_
    · (intro w _; go_simp; exact IntWalk.i64_in _ (by omega); try with_reducible rfl)
    try simp only [Act.put, List.setIfInBounds_toArray, List.set_cons_zero, List.set_cons_succ]
    refine Reg.take0 (i := 8) (v := .int .i32 t2) rfl (by kernel_rfl) (by kernel_rfl) (by kernel_rfl) (by kernel_rfl) (fun _ _ _ h => h) (Or.inl ⟨by rfl, ?_⟩) ?_
    · (intro w _; have hh := et2.out; go_simp; try with_reducible rfl)
    try simp only [Act.put, List.setIfInBounds_toArray, List.set_cons_zero, List.set_cons_succ]
    refine Reg.take0 (i := 9) (v := .int .i64 t2) rfl (by kernel_rfl) (by kernel_rfl) (by kernel_rfl) (by kernel_rfl) (fun _ _ _ h => h) (Or.inl ⟨by rfl, ?_⟩) ?_
    · (intro w _; go_simp; exact IntWalk.i64_in _ (by omega); try with_reducible rfl)
    try simp only [Act.put, List.setIfInBounds_toArray, List.set_cons_zero, List.set_cons_succ]
    refine Reg.only (i := 1) (by kernel_rfl) rfl (fun K hK => ?_)
    go_simp
    refine (low_c hx exl.out _).mono ?_; rintro e w' ⟨rfl, rfl⟩
    simp only []
    refine hK _ _ (fun _ h => h) ?_
    clear hK K
    try simp only [Act.put, List.setIfInBounds_toArray, List.set_cons_zero, List.set_cons_succ]
    refine Reg.only (i := 3) (by kernel_rfl) rfl (fun K hK => ?_)
    go_simp
    refine (low_c hy eyl.out _).mono ?_; rintro e w' ⟨rfl, rfl⟩
    simp only []
    refine hK _ _ (fun _ h => h) ?_
    clear hK K
    try simp only [Act.put, List.setIfInBounds_toArray, List.set_cons_zero, List.set_cons_succ]
    refine Reg.only (i := 10) (by kernel_rfl) rfl (fun K hK => ?_)
    go_simp
    refine hK _ _ (fun hb => absurd hb (by decide)) ?_
    clear hK K
    try simp only [Act.put, List.setIfInBounds_toArray, List.set_cons_zero, List.set_cons_succ]
    refine Reg.only (i := 11) (by kernel_rfl) rfl (fun K hK => ?_)
    go_simp
    refine hK _ _ (fun hb => absurd hb (by decide)) ?_
    clear hK K
    try simp only [Act.put, List.setIfInBounds_toArray, List.set_cons_zero, List.set_cons_succ]
    refine Reg.only (i := 12) (by kernel_rfl) rfl (fun K hK => ?_)
    go_simp
    refine hK _ _ (fun hb => absurd hb (by decide)) ?_
    clear hK K
    try simp only [Act.put, List.setIfInBounds_toArray, List.set_cons_zero, List.set_cons_succ]
    refine Reg.only (i := 13) (by kernel_rfl) rfl (fun K hK => ?_)
    go_simp
    refine hK _ _ (fun hb => absurd hb (by decide)) ?_
    clear hK K
    try simp only [Act.put, List.setIfInBounds_toArray, List.set_cons_zero, List.set_cons_succ]
    refine Reg.done (by kernel_rfl) ?_ _
    go_wp2_with fail
    go_ret2
    exact ⟨rfl, ((((hb.setCell hl6 _).setCell hl7 _).setCell hl1 _).setCell hl2 _).drew⟩
end Go.Proofs.Ytdpnhpennceldaa
