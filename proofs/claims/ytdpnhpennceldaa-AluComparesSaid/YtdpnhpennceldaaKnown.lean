/-
  WHAT THE LAWS SHARE: alu.Do at values whose result has a name; 'known' is true; worlds in a row.
-/
import Derived.Test.YtdpnhpennceldaaDo
import Derived.Test.YtdpnhpennceldaaRefArsh
import Derived.OpenShut
namespace Go.Proofs.Ytdpnhpennceldaa
open Go.RowKit M
set_option linter.unusedVariables false

theorem nat_of_u64 {a : Int} (h : (Lit.int .u64 a).wf = true) : ∃ n : Nat, a = n ∧ n < 2 ^ 64 := by
  have := bounds_u64 h
  exact ⟨a.toNat, by omega, by omega⟩

theorem below_then {w w1 w2 : World} (h1 : Below w.heap.size w w1) (h2 : Below w1.heap.size w1 w2) : Below w.heap.size w w2 :=
  h1.trans (h2.mono h1.size)

/-- alu.Do at an operation; 'v' is what it makes. -/
theorem do_val {o x y : Int} {b : Bool} {o' x' y' v : Nat} (ho : o = o') (hx : x = x') (hy : y = y') (ho' : o' ≤ 12) (hx' : x' < 2 ^ 64) (hy' : y' < 2 ^ 64) (hv : doV o' b x' y' = v) (w : World) :
    Calls Try.prog 11 #[.int .i64 o, .bool b, .int .u64 x, .int .u64 y] w fun e w' => e = .returned (.tuple #[.int .u64 v, .bool true]) ∧ Below w.heap.size w w' := by
  subst ho hx hy hv
  exact do_op o' b x' y' w ho' hx' hy'

set_option maxRecDepth 100000 in
set_option maxHeartbeats 400000 in
theorem known_any (w : World) : Calls Try.prog 10 #[] w fun e w' => e = .returned (.bool true) ∧ Below w.heap.size w w' := by
  go_enter Try.func10, Try.ntmps10
  go_wp2_with fail
  refine (do_val (o' := 3) (x' := 7) (y' := 0) (v := 0) rfl rfl rfl (by decide) (by decide) (by decide) (by decide) _).mono ?_; rintro e w1 ⟨rfl, h1⟩
  go_wp2_with fail
  refine (do_val (o' := 12) (x' := 2147483648) (y' := 31) (v := 4294967295) rfl rfl rfl (by decide) (by decide) (by decide) (by decide) _).mono ?_; rintro e w2 ⟨rfl, h2⟩
  go_wp2_with fail
  go_ret
  exact ⟨rfl, below_then h1 h2⟩
end Go.Proofs.Ytdpnhpennceldaa
