/-
  THE WALK of AluDoes: the program's Do and the reference's answer alike at every operation, and both say no elsewhere.
-/
import Derived.Test.YtdpnhpennceldaaKnown
import Derived.OpenShut
namespace Go.Proofs.Ytdpnhpennceldaa
open Go.RowKit M
set_option linter.unusedVariables false
set_option maxRecDepth 100000 in
set_option maxHeartbeats 400000 in
theorem aluDoes_none (o : Int) (b : Bool) (x y : Nat) (w : World) (ho : o < 0 ∨ 12 < o) :
    Calls Try.prog 3 #[.int .i64 o, .bool b, .int .u64 x, .int .u64 y] w fun e w' => e = .returned (.bool true) ∧ Below w.heap.size w w' := by
  go_enter Try.func3, Try.ntmps3
  go_wp2_with fail
  refine (known_any _).mono ?_; rintro e w1 ⟨rfl, h1⟩
  go_wp2_with fail
  refine (do_none o b x y _ ho).mono ?_; rintro e w2 ⟨rfl, h2⟩
  go_wp2_with fail
  refine (ref_none o b x y _ ho).mono ?_; rintro e w' ⟨rfl, rfl⟩
  go_wp2_with fail
  go_ret
  exact ⟨rfl, below_then h1 h2⟩
set_option maxRecDepth 100000 in
set_option maxHeartbeats 400000 in
theorem aluDoes_op (o : Nat) (b : Bool) (x y : Nat) (w : World) (ho : o ≤ 12) (hx : x < 2 ^ 64) (hy : y < 2 ^ 64) :
    Calls Try.prog 3 #[.int .i64 o, .bool b, .int .u64 x, .int .u64 y] w fun e w' => e = .returned (.bool true) ∧ Below w.heap.size w w' := by
  go_enter Try.func3, Try.ntmps3
  go_wp2_with fail
  refine (known_any _).mono ?_; rintro e w1 ⟨rfl, h1⟩
  go_wp2_with fail
  refine (do_op o b x y _ ho hx hy).mono ?_; rintro e w2 ⟨rfl, h2⟩
  go_wp2_with fail
  refine (ref_op o b x y _ ho hx hy).mono ?_; rintro e w' ⟨rfl, rfl⟩
  go_wp2_with fail
  go_ret
  exact ⟨rfl, below_then h1 h2⟩
theorem aluDoes_walk (a0 : Int) (a1 : Bool) (a2 : Int) (a3 : Int) (w0 : (Lit.int .i64 a0).wf = true) (w2 : (Lit.int .u64 a2).wf = true) (w3 : (Lit.int .u64 a3).wf = true) (w : World) :
    Calls Try.prog 3 #[.int .i64 a0, .bool a1, .int .u64 a2, .int .u64 a3] w fun e w' => e = .returned (.bool true) ∧ Below w.heap.size w w' := by
  obtain ⟨x, rfl, hx⟩ := nat_of_u64 w2
  obtain ⟨y, rfl, hy⟩ := nat_of_u64 w3
  by_cases h : a0 < 0 ∨ 12 < a0
  · exact aluDoes_none a0 a1 x y w h
  · obtain ⟨o, rfl⟩ : ∃ o : Nat, a0 = o := ⟨a0.toNat, by omega⟩
    exact aluDoes_op o a1 x y w (by omega) hx hy
end Go.Proofs.Ytdpnhpennceldaa
