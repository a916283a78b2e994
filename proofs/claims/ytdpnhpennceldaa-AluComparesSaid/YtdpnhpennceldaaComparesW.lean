/-
  AluCompares: the walk of the law.
-/
import Derived.Test.YtdpnhpennceldaaRCmp
import Derived.Deep.WholeRow
namespace Go.Proofs.Ytdpnhpennceldaa
open Go.RowKit M
set_option linter.unusedVariables false
set_option linter.unusedSimpArgs false
theorem storePairs (w : World) : (Instr.storeAt 36 (.pointer (some ⟨w.heap.size, 0, none⟩)) (.agg #[.int .i64 1, .int .i64 5, .int .i64 5, .int .i64 1, .int .i64 2, .int .i64 11, .int .i64 11, .int .i64 2, .int .i64 3, .int .i64 10, .int .i64 10, .int .i64 3, .int .i64 6, .int .i64 13, .int .i64 13, .int .i64 6, .int .i64 7, .int .i64 12, .int .i64 12, .int .i64 7])).run Try.prog
    (w.alloc (.cells #[.int .i64 0, .int .i64 0, .int .i64 0, .int .i64 0, .int .i64 0, .int .i64 0, .int .i64 0, .int .i64 0, .int .i64 0, .int .i64 0, .int .i64 0, .int .i64 0, .int .i64 0, .int .i64 0, .int .i64 0, .int .i64 0, .int .i64 0, .int .i64 0, .int .i64 0, .int .i64 0] 36)) = .ok () (w.alloc (.cells #[.int .i64 1, .int .i64 5, .int .i64 5, .int .i64 1, .int .i64 2, .int .i64 11, .int .i64 11, .int .i64 2, .int .i64 3, .int .i64 10, .int .i64 10, .int .i64 3, .int .i64 6, .int .i64 13, .int .i64 13, .int .i64 6, .int .i64 7, .int .i64 12, .int .i64 12, .int .i64 7] 36)) :=
  run_storeAt_new w 36 _ _ (by kernel_rfl) rfl (by simp [Value.oneCell'])
theorem allocPairs (w : World) : (Instr.alloc 36 true (.tuple #[])).run Try.prog w = .ok (.pointer (some ⟨w.heap.size, 0, none⟩)) (w.alloc (.cells #[.int .i64 0, .int .i64 0, .int .i64 0, .int .i64 0, .int .i64 0, .int .i64 0, .int .i64 0, .int .i64 0, .int .i64 0, .int .i64 0, .int .i64 0, .int .i64 0, .int .i64 0, .int .i64 0, .int .i64 0, .int .i64 0, .int .i64 0, .int .i64 0, .int .i64 0, .int .i64 0] 36)) := by kernel_rfl
theorem buildPairs (w : World) : (Instr.build 36 #[(0, .agg #[.int .i64 1, .int .i64 5]), (1, .agg #[.int .i64 5, .int .i64 1]), (2, .agg #[.int .i64 2, .int .i64 11]), (3, .agg #[.int .i64 11, .int .i64 2]), (4, .agg #[.int .i64 3, .int .i64 10]), (5, .agg #[.int .i64 10, .int .i64 3]), (6, .agg #[.int .i64 6, .int .i64 13]), (7, .agg #[.int .i64 13, .int .i64 6]), (8, .agg #[.int .i64 7, .int .i64 12]), (9, .agg #[.int .i64 12, .int .i64 7])]).run Try.prog w = .ok (.agg #[.int .i64 1, .int .i64 5, .int .i64 5, .int .i64 1, .int .i64 2, .int .i64 11, .int .i64 11, .int .i64 2, .int .i64 3, .int .i64 10, .int .i64 10, .int .i64 3, .int .i64 6, .int .i64 13, .int .i64 13, .int .i64 6, .int .i64 7, .int .i64 12, .int .i64 12, .int .i64 7]) w := by kernel_rfl
theorem buildPair (a b : Int) (w : World) : (Instr.build 35 #[(0, .int .i64 a), (1, .int .i64 b)]).run Try.prog w = .ok (.agg #[.int .i64 a, .int .i64 b]) w := by kernel_rfl
/-- an operation whose run is known: its value is laid down and the walk goes on. -/
theorem wpList_val {P : Program} {ops : Array Oper} {Q : Exit → Act → World → Prop} {rest : List Oper} {o : Oper} {a : Act} {w : World} (v : Value) (hg : o.guard = none)
    (hrun : (execOp a.eval o).run P w = .ok (.value v) w) (h : wpList P ops Q rest (a.put o.dst v) w) : wpList P ops Q (o :: rest) a w :=
  wpList_plain hg fun K hK => by unfold Oper.wp; rw [hrun]; exact hK _ _ h
theorem wpList_val' {P : Program} {ops : Array Oper} {Q : Exit → Act → World → Prop} {rest : List Oper} {o : Oper} {a : Act} {w : World} (w' : World) (v : Value) (hg : o.guard = none)
    (hrun : (execOp a.eval o).run P w = .ok (.value v) w') (h : wpList P ops Q rest (a.put o.dst v) w') : wpList P ops Q (o :: rest) a w :=
  wpList_plain hg fun K hK => by unfold Oper.wp; rw [hrun]; exact hK _ _ h
theorem wpList_done {P : Program} {ops : Array Oper} {Q : Exit → Act → World → Prop} {rest : List Oper} {o : Oper} {a : Act} {w : World} (w' : World) (hg : o.guard = none)
    (hrun : (execOp a.eval o).run P w = .ok .skip w') (h : wpList P ops Q rest (a.put o.dst undef) w') : wpList P ops Q (o :: rest) a w :=
  wpList_plain hg fun K hK => by unfold Oper.wp; rw [hrun]; exact hK _ _ h
def prs : List (Int × Int) := [(1, 5), (5, 1), (2, 11), (11, 2), (3, 10), (10, 3), (6, 13), (13, 6), (7, 12), (12, 7)]
def Rel (w : World) (bp : Nat) (i : Value) (wr : World) : Prop := ∃ k : Nat, k ≤ 10 ∧ i = .int .i64 k ∧ Hid (∀ j : Nat, wr.cell? ⟨bp, j, none⟩ = (#[.int .i64 1, .int .i64 5, .int .i64 5, .int .i64 1, .int .i64 2, .int .i64 11, .int .i64 11, .int .i64 2, .int .i64 3, .int .i64 10, .int .i64 10, .int .i64 3, .int .i64 6, .int .i64 13, .int .i64 13, .int .i64 6, .int .i64 7, .int .i64 12, .int .i64 12, .int .i64 7] : Array Value)[j]?) ∧ bp < wr.heap.size ∧ Below w.heap.size w wr
theorem keep_pairs {wr w' : World} {bp : Nat} (hc : Hid (∀ j : Nat, wr.cell? ⟨bp, j, none⟩ = (#[.int .i64 1, .int .i64 5, .int .i64 5, .int .i64 1, .int .i64 2, .int .i64 11, .int .i64 11, .int .i64 2, .int .i64 3, .int .i64 10, .int .i64 10, .int .i64 3, .int .i64 6, .int .i64 13, .int .i64 13, .int .i64 6, .int .i64 7, .int .i64 12, .int .i64 12, .int .i64 7] : Array Value)[j]?)) (hb : Below wr.heap.size wr w') (h : bp < wr.heap.size) :
    Hid (∀ j : Nat, w'.cell? ⟨bp, j, none⟩ = (#[.int .i64 1, .int .i64 5, .int .i64 5, .int .i64 1, .int .i64 2, .int .i64 11, .int .i64 11, .int .i64 2, .int .i64 3, .int .i64 10, .int .i64 10, .int .i64 3, .int .i64 6, .int .i64 13, .int .i64 13, .int .i64 6, .int .i64 7, .int .i64 12, .int .i64 12, .int .i64 7] : Array Value)[j]?) :=
  Lib.hid fun j => by rw [hb.cell (by exact h)]; exact hc.out j
set_option maxRecDepth 100000 in
set_option maxHeartbeats 4000000 in
theorem core (o : Int) (b : Bool) (x y : Nat) (v ok : Bool) (w : World)
    (hc : Hid (∀ w, Calls Try.prog 19 #[.int .i64 o, .bool b, .int .u64 x, .int .u64 y] w fun e w' => e = .returned (.tuple #[.bool v, .bool ok]) ∧ Below w.heap.size w w'))
    (hr : Hid (∀ w, Calls Try.prog 20 #[.int .i64 o, .bool b, .int .u64 x, .int .u64 y] w fun e w' => e = .returned (.tuple #[.bool v, .bool ok]) ∧ w = w'))
    (hk : Hid (∀ p q : Int, (p, q) ∈ prs → p = o → ∀ w, Calls Try.prog 19 #[.int .i64 q, .bool b, .int .u64 x, .int .u64 y] w fun e w' => e = .returned (.tuple #[.bool (!v), .bool true]) ∧ Below w.heap.size w w')) :
    Calls Try.prog 9 #[.int .i64 o, .bool b, .int .u64 x, .int .u64 y] w fun e w' => e = .returned (.bool true) ∧ Below w.heap.size w w' := by
  have hst := storePairs
  go_enter Try.func9, Try.ntmps9
  go_wp2_with fail
  refine (known_any _).mono ?_; rintro e w1 ⟨rfl, h1⟩
  go_wp2_with fail
  refine (hc.out _).mono ?_; rintro e w2 ⟨rfl, h2⟩
  go_wp2_with fail
  refine (hr.out _).mono ?_; rintro e w' ⟨rfl, rfl⟩
  simp only []
  iterate 55 (first | go_values | go_skip | go_guarded | go_step | go_upon | skip)
  refine wpList_val (.agg #[.int .i64 1, .int .i64 5]) rfl (by have h := buildPair 1 5 w2; simp only [execOp, List.map_toArray, List.map_cons, List.map_nil, Act.eval, Sem.run_bind, h, Result.andThen_ok, Sem.run_pure]) ?_
  simp only [Act.put, List.setIfInBounds_toArray, List.set_cons_zero, List.set_cons_succ]
  refine wpList_val (.agg #[.int .i64 5, .int .i64 1]) rfl (by have h := buildPair 5 1 w2; simp only [execOp, List.map_toArray, List.map_cons, List.map_nil, Act.eval, Sem.run_bind, h, Result.andThen_ok, Sem.run_pure]) ?_
  simp only [Act.put, List.setIfInBounds_toArray, List.set_cons_zero, List.set_cons_succ]
  refine wpList_val (.agg #[.int .i64 2, .int .i64 11]) rfl (by have h := buildPair 2 11 w2; simp only [execOp, List.map_toArray, List.map_cons, List.map_nil, Act.eval, Sem.run_bind, h, Result.andThen_ok, Sem.run_pure]) ?_
  simp only [Act.put, List.setIfInBounds_toArray, List.set_cons_zero, List.set_cons_succ]
  refine wpList_val (.agg #[.int .i64 11, .int .i64 2]) rfl (by have h := buildPair 11 2 w2; simp only [execOp, List.map_toArray, List.map_cons, List.map_nil, Act.eval, Sem.run_bind, h, Result.andThen_ok, Sem.run_pure]) ?_
  simp only [Act.put, List.setIfInBounds_toArray, List.set_cons_zero, List.set_cons_succ]
  refine wpList_val (.agg #[.int .i64 3, .int .i64 10]) rfl (by have h := buildPair 3 10 w2; simp only [execOp, List.map_toArray, List.map_cons, List.map_nil, Act.eval, Sem.run_bind, h, Result.andThen_ok, Sem.run_pure]) ?_
  simp only [Act.put, List.setIfInBounds_toArray, List.set_cons_zero, List.set_cons_succ]
  refine wpList_val (.agg #[.int .i64 10, .int .i64 3]) rfl (by have h := buildPair 10 3 w2; simp only [execOp, List.map_toArray, List.map_cons, List.map_nil, Act.eval, Sem.run_bind, h, Result.andThen_ok, Sem.run_pure]) ?_
  simp only [Act.put, List.setIfInBounds_toArray, List.set_cons_zero, List.set_cons_succ]
  refine wpList_val (.agg #[.int .i64 6, .int .i64 13]) rfl (by have h := buildPair 6 13 w2; simp only [execOp, List.map_toArray, List.map_cons, List.map_nil, Act.eval, Sem.run_bind, h, Result.andThen_ok, Sem.run_pure]) ?_
  simp only [Act.put, List.setIfInBounds_toArray, List.set_cons_zero, List.set_cons_succ]
  refine wpList_val (.agg #[.int .i64 13, .int .i64 6]) rfl (by have h := buildPair 13 6 w2; simp only [execOp, List.map_toArray, List.map_cons, List.map_nil, Act.eval, Sem.run_bind, h, Result.andThen_ok, Sem.run_pure]) ?_
  simp only [Act.put, List.setIfInBounds_toArray, List.set_cons_zero, List.set_cons_succ]
  refine wpList_val (.agg #[.int .i64 7, .int .i64 12]) rfl (by have h := buildPair 7 12 w2; simp only [execOp, List.map_toArray, List.map_cons, List.map_nil, Act.eval, Sem.run_bind, h, Result.andThen_ok, Sem.run_pure]) ?_
  simp only [Act.put, List.setIfInBounds_toArray, List.set_cons_zero, List.set_cons_succ]
  refine wpList_val (.agg #[.int .i64 12, .int .i64 7]) rfl (by have h := buildPair 12 7 w2; simp only [execOp, List.map_toArray, List.map_cons, List.map_nil, Act.eval, Sem.run_bind, h, Result.andThen_ok, Sem.run_pure]) ?_
  simp only [Act.put, List.setIfInBounds_toArray, List.set_cons_zero, List.set_cons_succ]
  refine wpList_val (.agg #[.int .i64 1, .int .i64 5, .int .i64 5, .int .i64 1, .int .i64 2, .int .i64 11, .int .i64 11, .int .i64 2, .int .i64 3, .int .i64 10, .int .i64 10, .int .i64 3, .int .i64 6, .int .i64 13, .int .i64 13, .int .i64 6, .int .i64 7, .int .i64 12, .int .i64 12, .int .i64 7]) rfl (by have h := buildPairs w2; simp only [execOp, List.map_toArray, List.map_cons, List.map_nil, Act.eval, List.getD_eq_getElem?_getD, Array.getD_eq_getD_getElem?, List.getElem?_toArray, List.getElem?_cons_succ, List.getElem?_cons_zero, Option.getD_some, Sem.run_bind, h, Result.andThen_ok, Sem.run_pure]) ?_
  simp only [Act.put, List.setIfInBounds_toArray, List.set_cons_zero, List.set_cons_succ]
  refine wpList_val' (w2.alloc (.cells #[.int .i64 0, .int .i64 0, .int .i64 0, .int .i64 0, .int .i64 0, .int .i64 0, .int .i64 0, .int .i64 0, .int .i64 0, .int .i64 0, .int .i64 0, .int .i64 0, .int .i64 0, .int .i64 0, .int .i64 0, .int .i64 0, .int .i64 0, .int .i64 0, .int .i64 0, .int .i64 0] 36)) (.pointer (some ⟨w2.heap.size, 0, none⟩)) rfl (by have h := allocPairs w2; simp only [execOp, List.map_toArray, List.map_cons, List.map_nil, Act.eval, List.getD_eq_getElem?_getD, Array.getD_eq_getD_getElem?, List.getElem?_toArray, List.getElem?_cons_succ, List.getElem?_cons_zero, Option.getD_some, Sem.run_bind, h, Result.andThen_ok, Sem.run_pure]) ?_
  simp only [Act.put, List.setIfInBounds_toArray, List.set_cons_zero, List.set_cons_succ]
  refine wpList_done (w2.alloc (.cells #[.int .i64 1, .int .i64 5, .int .i64 5, .int .i64 1, .int .i64 2, .int .i64 11, .int .i64 11, .int .i64 2, .int .i64 3, .int .i64 10, .int .i64 10, .int .i64 3, .int .i64 6, .int .i64 13, .int .i64 13, .int .i64 6, .int .i64 7, .int .i64 12, .int .i64 12, .int .i64 7] 36)) rfl (by have h := storePairs w2; simp only [execOp, List.map_toArray, List.map_cons, List.map_nil, Act.eval, List.getD_eq_getElem?_getD, Array.getD_eq_getD_getElem?, List.getElem?_toArray, List.getElem?_cons_succ, List.getElem?_cons_zero, Option.getD_some, Sem.run_bind, h, Result.andThen_ok, Sem.run_pure]) ?_
  simp only [Act.put, List.setIfInBounds_toArray, List.set_cons_zero, List.set_cons_succ]
  have hb2 : Below w.heap.size w w2 := below_then h1 h2
  obtain ⟨W3, hW3⟩ : ∃ W, W = w2.alloc (.cells #[.int .i64 1, .int .i64 5, .int .i64 5, .int .i64 1, .int .i64 2, .int .i64 11, .int .i64 11, .int .i64 2, .int .i64 3, .int .i64 10, .int .i64 10, .int .i64 3, .int .i64 6, .int .i64 13, .int .i64 13, .int .i64 6, .int .i64 7, .int .i64 12, .int .i64 12, .int .i64 7] 36) := ⟨_, rfl⟩
  have hcell : ∀ j : Nat, W3.cell? ⟨w2.heap.size, j, none⟩ = (#[.int .i64 1, .int .i64 5, .int .i64 5, .int .i64 1, .int .i64 2, .int .i64 11, .int .i64 11, .int .i64 2, .int .i64 3, .int .i64 10, .int .i64 10, .int .i64 3, .int .i64 6, .int .i64 13, .int .i64 13, .int .i64 6, .int .i64 7, .int .i64 12, .int .i64 12, .int .i64 7] : Array Value)[j]? := fun j => by rw [hW3]; exact World.cell?_alloc_at _ _ _ _ rfl
  have hb3 : Below w.heap.size w W3 := by rw [hW3]; exact below_then hb2 ((Below.refl _ _).alloc (Nat.le_refl _) _)
  have hs3 : w2.heap.size < W3.heap.size := by rw [hW3, World.size_alloc]; omega
  rw [← hW3]
  have HC := Lib.hid hcell
  clear hcell hst hW3
  obtain ⟨bp, hbp⟩ : ∃ b, b = w2.heap.size := ⟨_, rfl⟩
  rw [← hbp] at HC hs3 ⊢
  clear hbp h1 h2 hb2
  go_wp2_with fail
  go_loopw [14] (fun i wr => Rel w bp i wr) (fun i _ => 10 - (intOf i).toNat)
  case atStart => exact ⟨0, by omega, rfl, HC, hs3, hb3⟩
  case round =>
    obtain ⟨k, hk10, rfl, HC, hs3, hb3⟩ := hrel
    by_cases hlt : k < 10
    · have hcase : k = 0 ∨ k = 1 ∨ k = 2 ∨ k = 3 ∨ k = 4 ∨ k = 5 ∨ k = 6 ∨ k = 7 ∨ k = 8 ∨ k = 9 := by omega
      clear hlt hk10
      rcases hcase with rfl | rfl | rfl | rfl | rfl | rfl | rfl | rfl | rfl | rfl
      · have c0 : wr.cell? ⟨bp, 0, none⟩ = some (.int .i64 1) := HC.out 0
        have c1 : wr.cell? ⟨bp, 1, none⟩ = some (.int .i64 5) := HC.out 1
        by_cases he : (1 : Int) = o
        · have hq := Lib.hid (hk.out 1 5 (by simp [prs]) he)
          have hvv : ((!v) == v) = false := by cases v <;> rfl
          have hf : ((1 : Int) == o) = true := by simp [he]
          clear he
          go_wp2_with fail
          refine (hq.out _).mono ?_; rintro e w4 ⟨rfl, h4⟩
          go_wp2_with fail
          go_roundw
          case rel => exact ⟨1, by omega, by go_num, keep_pairs HC h4 hs3, Nat.lt_of_lt_of_le hs3 h4.size, below_then hb3 h4⟩
          case measure => simp [intOf]
        · have hf : ((1 : Int) == o) = false := by simp [he]
          clear he
          go_wp2_with fail
          go_roundw
          case rel => exact ⟨1, by omega, by go_num, HC, hs3, hb3⟩
          case measure => simp [intOf]
      · have c0 : wr.cell? ⟨bp, 2, none⟩ = some (.int .i64 5) := HC.out 2
        have c1 : wr.cell? ⟨bp, 3, none⟩ = some (.int .i64 1) := HC.out 3
        by_cases he : (5 : Int) = o
        · have hq := Lib.hid (hk.out 5 1 (by simp [prs]) he)
          have hvv : ((!v) == v) = false := by cases v <;> rfl
          have hf : ((5 : Int) == o) = true := by simp [he]
          clear he
          go_wp2_with fail
          refine (hq.out _).mono ?_; rintro e w4 ⟨rfl, h4⟩
          go_wp2_with fail
          go_roundw
          case rel => exact ⟨2, by omega, by go_num, keep_pairs HC h4 hs3, Nat.lt_of_lt_of_le hs3 h4.size, below_then hb3 h4⟩
          case measure => simp [intOf]
        · have hf : ((5 : Int) == o) = false := by simp [he]
          clear he
          go_wp2_with fail
          go_roundw
          case rel => exact ⟨2, by omega, by go_num, HC, hs3, hb3⟩
          case measure => simp [intOf]
      · have c0 : wr.cell? ⟨bp, 4, none⟩ = some (.int .i64 2) := HC.out 4
        have c1 : wr.cell? ⟨bp, 5, none⟩ = some (.int .i64 11) := HC.out 5
        by_cases he : (2 : Int) = o
        · have hq := Lib.hid (hk.out 2 11 (by simp [prs]) he)
          have hvv : ((!v) == v) = false := by cases v <;> rfl
          have hf : ((2 : Int) == o) = true := by simp [he]
          clear he
          go_wp2_with fail
          refine (hq.out _).mono ?_; rintro e w4 ⟨rfl, h4⟩
          go_wp2_with fail
          go_roundw
          case rel => exact ⟨3, by omega, by go_num, keep_pairs HC h4 hs3, Nat.lt_of_lt_of_le hs3 h4.size, below_then hb3 h4⟩
          case measure => simp [intOf]
        · have hf : ((2 : Int) == o) = false := by simp [he]
          clear he
          go_wp2_with fail
          go_roundw
          case rel => exact ⟨3, by omega, by go_num, HC, hs3, hb3⟩
          case measure => simp [intOf]
      · have c0 : wr.cell? ⟨bp, 6, none⟩ = some (.int .i64 11) := HC.out 6
        have c1 : wr.cell? ⟨bp, 7, none⟩ = some (.int .i64 2) := HC.out 7
        by_cases he : (11 : Int) = o
        · have hq := Lib.hid (hk.out 11 2 (by simp [prs]) he)
          have hvv : ((!v) == v) = false := by cases v <;> rfl
          have hf : ((11 : Int) == o) = true := by simp [he]
          clear he
          go_wp2_with fail
          refine (hq.out _).mono ?_; rintro e w4 ⟨rfl, h4⟩
          go_wp2_with fail
          go_roundw
          case rel => exact ⟨4, by omega, by go_num, keep_pairs HC h4 hs3, Nat.lt_of_lt_of_le hs3 h4.size, below_then hb3 h4⟩
          case measure => simp [intOf]
        · have hf : ((11 : Int) == o) = false := by simp [he]
          clear he
          go_wp2_with fail
          go_roundw
          case rel => exact ⟨4, by omega, by go_num, HC, hs3, hb3⟩
          case measure => simp [intOf]
      · have c0 : wr.cell? ⟨bp, 8, none⟩ = some (.int .i64 3) := HC.out 8
        have c1 : wr.cell? ⟨bp, 9, none⟩ = some (.int .i64 10) := HC.out 9
        by_cases he : (3 : Int) = o
        · have hq := Lib.hid (hk.out 3 10 (by simp [prs]) he)
          have hvv : ((!v) == v) = false := by cases v <;> rfl
          have hf : ((3 : Int) == o) = true := by simp [he]
          clear he
          go_wp2_with fail
          refine (hq.out _).mono ?_; rintro e w4 ⟨rfl, h4⟩
          go_wp2_with fail
          go_roundw
          case rel => exact ⟨5, by omega, by go_num, keep_pairs HC h4 hs3, Nat.lt_of_lt_of_le hs3 h4.size, below_then hb3 h4⟩
          case measure => simp [intOf]
        · have hf : ((3 : Int) == o) = false := by simp [he]
          clear he
          go_wp2_with fail
          go_roundw
          case rel => exact ⟨5, by omega, by go_num, HC, hs3, hb3⟩
          case measure => simp [intOf]
      · have c0 : wr.cell? ⟨bp, 10, none⟩ = some (.int .i64 10) := HC.out 10
        have c1 : wr.cell? ⟨bp, 11, none⟩ = some (.int .i64 3) := HC.out 11
        by_cases he : (10 : Int) = o
        · have hq := Lib.hid (hk.out 10 3 (by simp [prs]) he)
          have hvv : ((!v) == v) = false := by cases v <;> rfl
          have hf : ((10 : Int) == o) = true := by simp [he]
          clear he
          go_wp2_with fail
          refine (hq.out _).mono ?_; rintro e w4 ⟨rfl, h4⟩
          go_wp2_with fail
          go_roundw
          case rel => exact ⟨6, by omega, by go_num, keep_pairs HC h4 hs3, Nat.lt_of_lt_of_le hs3 h4.size, below_then hb3 h4⟩
          case measure => simp [intOf]
        · have hf : ((10 : Int) == o) = false := by simp [he]
          clear he
          go_wp2_with fail
          go_roundw
          case rel => exact ⟨6, by omega, by go_num, HC, hs3, hb3⟩
          case measure => simp [intOf]
      · have c0 : wr.cell? ⟨bp, 12, none⟩ = some (.int .i64 6) := HC.out 12
        have c1 : wr.cell? ⟨bp, 13, none⟩ = some (.int .i64 13) := HC.out 13
        by_cases he : (6 : Int) = o
        · have hq := Lib.hid (hk.out 6 13 (by simp [prs]) he)
          have hvv : ((!v) == v) = false := by cases v <;> rfl
          have hf : ((6 : Int) == o) = true := by simp [he]
          clear he
          go_wp2_with fail
          refine (hq.out _).mono ?_; rintro e w4 ⟨rfl, h4⟩
          go_wp2_with fail
          go_roundw
          case rel => exact ⟨7, by omega, by go_num, keep_pairs HC h4 hs3, Nat.lt_of_lt_of_le hs3 h4.size, below_then hb3 h4⟩
          case measure => simp [intOf]
        · have hf : ((6 : Int) == o) = false := by simp [he]
          clear he
          go_wp2_with fail
          go_roundw
          case rel => exact ⟨7, by omega, by go_num, HC, hs3, hb3⟩
          case measure => simp [intOf]
      · have c0 : wr.cell? ⟨bp, 14, none⟩ = some (.int .i64 13) := HC.out 14
        have c1 : wr.cell? ⟨bp, 15, none⟩ = some (.int .i64 6) := HC.out 15
        by_cases he : (13 : Int) = o
        · have hq := Lib.hid (hk.out 13 6 (by simp [prs]) he)
          have hvv : ((!v) == v) = false := by cases v <;> rfl
          have hf : ((13 : Int) == o) = true := by simp [he]
          clear he
          go_wp2_with fail
          refine (hq.out _).mono ?_; rintro e w4 ⟨rfl, h4⟩
          go_wp2_with fail
          go_roundw
          case rel => exact ⟨8, by omega, by go_num, keep_pairs HC h4 hs3, Nat.lt_of_lt_of_le hs3 h4.size, below_then hb3 h4⟩
          case measure => simp [intOf]
        · have hf : ((13 : Int) == o) = false := by simp [he]
          clear he
          go_wp2_with fail
          go_roundw
          case rel => exact ⟨8, by omega, by go_num, HC, hs3, hb3⟩
          case measure => simp [intOf]
      · have c0 : wr.cell? ⟨bp, 16, none⟩ = some (.int .i64 7) := HC.out 16
        have c1 : wr.cell? ⟨bp, 17, none⟩ = some (.int .i64 12) := HC.out 17
        by_cases he : (7 : Int) = o
        · have hq := Lib.hid (hk.out 7 12 (by simp [prs]) he)
          have hvv : ((!v) == v) = false := by cases v <;> rfl
          have hf : ((7 : Int) == o) = true := by simp [he]
          clear he
          go_wp2_with fail
          refine (hq.out _).mono ?_; rintro e w4 ⟨rfl, h4⟩
          go_wp2_with fail
          go_roundw
          case rel => exact ⟨9, by omega, by go_num, keep_pairs HC h4 hs3, Nat.lt_of_lt_of_le hs3 h4.size, below_then hb3 h4⟩
          case measure => simp [intOf]
        · have hf : ((7 : Int) == o) = false := by simp [he]
          clear he
          go_wp2_with fail
          go_roundw
          case rel => exact ⟨9, by omega, by go_num, HC, hs3, hb3⟩
          case measure => simp [intOf]
      · have c0 : wr.cell? ⟨bp, 18, none⟩ = some (.int .i64 12) := HC.out 18
        have c1 : wr.cell? ⟨bp, 19, none⟩ = some (.int .i64 7) := HC.out 19
        by_cases he : (12 : Int) = o
        · have hq := Lib.hid (hk.out 12 7 (by simp [prs]) he)
          have hvv : ((!v) == v) = false := by cases v <;> rfl
          have hf : ((12 : Int) == o) = true := by simp [he]
          clear he
          go_wp2_with fail
          refine (hq.out _).mono ?_; rintro e w4 ⟨rfl, h4⟩
          go_wp2_with fail
          go_roundw
          case rel => exact ⟨10, by omega, by go_num, keep_pairs HC h4 hs3, Nat.lt_of_lt_of_le hs3 h4.size, below_then hb3 h4⟩
          case measure => simp [intOf]
        · have hf : ((12 : Int) == o) = false := by simp [he]
          clear he
          go_wp2_with fail
          go_roundw
          case rel => exact ⟨10, by omega, by go_num, HC, hs3, hb3⟩
          case measure => simp [intOf]
    · have : k = 10 := by omega
      subst this
      go_wp2_with fail
      go_ret
      exact ⟨rfl, hb3⟩

theorem rcmp_none (o : Int) (b : Bool) (x y : Nat) (w : World) (ho : o < 1 ∨ 13 < o ∨ o = 8 ∨ o = 9) :
    Calls Try.prog 20 #[.int .i64 o, .bool b, .int .u64 x, .int .u64 y] w fun e w' => e = .returned (.tuple #[.bool false, .bool false]) ∧ w = w' := by
  have h1 : (o == 1) = false := by simp; omega
  have h2 : (o == 2) = false := by simp; omega
  have h3 : (o == 3) = false := by simp; omega
  have h4 : (o == 4) = false := by simp; omega
  have h5 : (o == 5) = false := by simp; omega
  have h6 : (o == 6) = false := by simp; omega
  have h7 : (o == 7) = false := by simp; omega
  have h10 : (o == 10) = false := by simp; omega
  have h11 : (o == 11) = false := by simp; omega
  have h12 : (o == 12) = false := by simp; omega
  have h13 : (o == 13) = false := by simp; omega
  have HO := Lib.hid ho
  clear ho
  cases b
  · go_enter Try.func20, Try.ntmps20
    go_wp2_with fail
    refine (cut_narrow (r := x % 2 ^ 32) rfl rfl _).mono ?_; rintro e w' ⟨rfl, rfl⟩
    go_wp2_with fail
    refine (cut_narrow (r := y % 2 ^ 32) rfl rfl _).mono ?_; rintro e w' ⟨rfl, rfl⟩
    go_wp2_with fail
    all_goals go_ret2
    all_goals exact ⟨rfl, rfl⟩
  · go_enter Try.func20, Try.ntmps20
    go_wp2_with fail
    refine (cut_wide (r := x) rfl _).mono ?_; rintro e w' ⟨rfl, rfl⟩
    go_wp2_with fail
    refine (cut_wide (r := y) rfl _).mono ?_; rintro e w' ⟨rfl, rfl⟩
    go_wp2_with fail
    all_goals go_ret2
    all_goals exact ⟨rfl, rfl⟩
theorem wrap_i64_eq (n : Int) : IntKind.i64.wrap n = wrap64 n := IntWalk.i64_left n
theorem wrap_i32_eq (n : Int) : IntKind.i32.wrap n = wrap32 n := IntWalk.i32_left n
theorem wrap32_low (n : Nat) : wrap32 (n : Int) = wrap32 ((n % 2 ^ 32 : Nat) : Int) := by unfold wrap32; omega
theorem wrap32_lo (n : Int) : -2147483648 ≤ wrap32 n := by unfold wrap32; omega
theorem wrap32_hi (n : Int) : wrap32 n ≤ 2147483647 := by unfold wrap32; omega
def lowOf (b : Bool) (x : Nat) : Nat := if b then x else x % 2 ^ 32
def signOf (b : Bool) (x : Nat) : Int := if b then wrap64 (x : Int) else wrap32 ((x % 2 ^ 32 : Nat) : Int)
theorem cmp_any (o : Nat) (b : Bool) (x y : Nat) (w : World) (hx : x < 2 ^ 64) (hy : y < 2 ^ 64) (hv : valid o = true) :
    Calls Try.prog 19 #[.int .i64 o, .bool b, .int .u64 x, .int .u64 y] w fun e w' => e = .returned (.tuple #[.bool (cmpV o (lowOf b x) (lowOf b y) (signOf b x) (signOf b y)), .bool true]) ∧ Below w.heap.size w w' := by
  have hv' := hv
  simp only [valid, Bool.or_eq_true, Bool.and_eq_true, decide_eq_true_eq] at hv'
  have h1 : (1 : Int) ≤ o := by omega
  have h2 : (o : Int) ≤ 13 := by omega
  have h8 : ((o : Int) == 8) = false := by simp; omega
  have h9 : ((o : Int) == 9) = false := by simp; omega
  cases b
  · simp only [lowOf, signOf, Bool.false_eq_true, if_false]
    exact cmp_narrow o x y _ _ (wrap64 x) (wrap64 y) _ _ w hx hy (Lib.hid (wrap_i64_eq _)) (Lib.hid (wrap_i64_eq _)) (Lib.hid rfl) (Lib.hid rfl)
      (Lib.hid ((wrap_i32_eq _).trans (wrap32_low _))) (Lib.hid ((wrap_i32_eq _).trans (wrap32_low _))) (wrap32_lo _) (wrap32_hi _) (wrap32_lo _) (wrap32_hi _) (Lib.hid hv) h1 h2 h8 h9
  · simp only [lowOf, signOf, if_true]
    exact cmp_wide o x y _ _ w (Lib.hid (wrap_i64_eq _)) (Lib.hid (wrap_i64_eq _)) (Lib.hid hv) h1 h2 h8 h9
theorem cmp_no (o : Int) (b : Bool) (x y : Nat) (w : World) (hx : x < 2 ^ 64) (hy : y < 2 ^ 64) (ho : o < 1 ∨ 13 < o ∨ o = 8 ∨ o = 9) :
    Calls Try.prog 19 #[.int .i64 o, .bool b, .int .u64 x, .int .u64 y] w fun e w' => e = .returned (.tuple #[.bool false, .bool false]) ∧ Below w.heap.size w w' := by
  rcases ho with h | h | rfl | rfl
  · cases b
    · exact cmp_lt_narrow o x y _ _ (wrap64 x) (wrap64 y) _ _ w hx hy (Lib.hid (wrap_i64_eq _)) (Lib.hid (wrap_i64_eq _)) (Lib.hid rfl) (Lib.hid rfl) (Lib.hid ((wrap_i32_eq _).trans (wrap32_low _))) (Lib.hid ((wrap_i32_eq _).trans (wrap32_low _))) (wrap32_lo _) (wrap32_hi _) (wrap32_lo _) (wrap32_hi _) h
    · exact cmp_lt_wide o x y _ _ (wrap64 x) (wrap64 y) _ _ w hx hy (Lib.hid (wrap_i64_eq _)) (Lib.hid (wrap_i64_eq _)) (Lib.hid rfl) (Lib.hid rfl) (Lib.hid ((wrap_i32_eq _).trans (wrap32_low _))) (Lib.hid ((wrap_i32_eq _).trans (wrap32_low _))) (wrap32_lo _) (wrap32_hi _) (wrap32_lo _) (wrap32_hi _) h
  · have h0 : 1 ≤ o := by omega
    cases b
    · exact cmp_gt_narrow o x y _ _ (wrap64 x) (wrap64 y) _ _ w hx hy (Lib.hid (wrap_i64_eq _)) (Lib.hid (wrap_i64_eq _)) (Lib.hid rfl) (Lib.hid rfl) (Lib.hid ((wrap_i32_eq _).trans (wrap32_low _))) (Lib.hid ((wrap_i32_eq _).trans (wrap32_low _))) (wrap32_lo _) (wrap32_hi _) (wrap32_lo _) (wrap32_hi _) h0 h
    · exact cmp_gt_wide o x y _ _ (wrap64 x) (wrap64 y) _ _ w hx hy (Lib.hid (wrap_i64_eq _)) (Lib.hid (wrap_i64_eq _)) (Lib.hid rfl) (Lib.hid rfl) (Lib.hid ((wrap_i32_eq _).trans (wrap32_low _))) (Lib.hid ((wrap_i32_eq _).trans (wrap32_low _))) (wrap32_lo _) (wrap32_hi _) (wrap32_lo _) (wrap32_hi _) h0 h
  · cases b
    · exact cmp_e8_narrow x y _ _ (wrap64 x) (wrap64 y) _ _ w hx hy (Lib.hid (wrap_i64_eq _)) (Lib.hid (wrap_i64_eq _)) (Lib.hid rfl) (Lib.hid rfl) (Lib.hid ((wrap_i32_eq _).trans (wrap32_low _))) (Lib.hid ((wrap_i32_eq _).trans (wrap32_low _))) (wrap32_lo _) (wrap32_hi _) (wrap32_lo _) (wrap32_hi _)
    · exact cmp_e8_wide x y _ _ (wrap64 x) (wrap64 y) _ _ w hx hy (Lib.hid (wrap_i64_eq _)) (Lib.hid (wrap_i64_eq _)) (Lib.hid rfl) (Lib.hid rfl) (Lib.hid ((wrap_i32_eq _).trans (wrap32_low _))) (Lib.hid ((wrap_i32_eq _).trans (wrap32_low _))) (wrap32_lo _) (wrap32_hi _) (wrap32_lo _) (wrap32_hi _)
  · cases b
    · exact cmp_e9_narrow x y _ _ (wrap64 x) (wrap64 y) _ _ w hx hy (Lib.hid (wrap_i64_eq _)) (Lib.hid (wrap_i64_eq _)) (Lib.hid rfl) (Lib.hid rfl) (Lib.hid ((wrap_i32_eq _).trans (wrap32_low _))) (Lib.hid ((wrap_i32_eq _).trans (wrap32_low _))) (wrap32_lo _) (wrap32_hi _) (wrap32_lo _) (wrap32_hi _)
    · exact cmp_e9_wide x y _ _ (wrap64 x) (wrap64 y) _ _ w hx hy (Lib.hid (wrap_i64_eq _)) (Lib.hid (wrap_i64_eq _)) (Lib.hid rfl) (Lib.hid rfl) (Lib.hid ((wrap_i32_eq _).trans (wrap32_low _))) (Lib.hid ((wrap_i32_eq _).trans (wrap32_low _))) (wrap32_lo _) (wrap32_hi _) (wrap32_lo _) (wrap32_hi _)
theorem rcmp_any (o : Nat) (b : Bool) (x y : Nat) (w : World) (hv : valid o = true) :
    Calls Try.prog 20 #[.int .i64 o, .bool b, .int .u64 x, .int .u64 y] w fun e w' => e = .returned (.tuple #[.bool (cmpV o (lowOf b x) (lowOf b y) (signOf b x) (signOf b y)), .bool true]) ∧ w = w' := by
  have hlx : x % 2 ^ 32 < 4294967296 := Nat.mod_lt _ (by decide)
  have hly : y % 2 ^ 32 < 4294967296 := Nat.mod_lt _ (by decide)
  cases b
  · simp only [lowOf, signOf, Bool.false_eq_true, if_false]
    match o, hv with
    | 1, _ => exact rcmp_1_narrow x y _ _ _ _ w (Lib.hid rfl) (Lib.hid rfl) hlx hly (Lib.hid rfl) (Lib.hid rfl) (wrap32_lo _) (wrap32_hi _) (wrap32_lo _) (wrap32_hi _)
    | 2, _ => exact rcmp_2_narrow x y _ _ _ _ w (Lib.hid rfl) (Lib.hid rfl) hlx hly (Lib.hid rfl) (Lib.hid rfl) (wrap32_lo _) (wrap32_hi _) (wrap32_lo _) (wrap32_hi _)
    | 3, _ => exact rcmp_3_narrow x y _ _ _ _ w (Lib.hid rfl) (Lib.hid rfl) hlx hly (Lib.hid rfl) (Lib.hid rfl) (wrap32_lo _) (wrap32_hi _) (wrap32_lo _) (wrap32_hi _)
    | 4, _ => exact rcmp_4_narrow x y _ _ _ _ w (Lib.hid rfl) (Lib.hid rfl) hlx hly (Lib.hid rfl) (Lib.hid rfl) (wrap32_lo _) (wrap32_hi _) (wrap32_lo _) (wrap32_hi _)
    | 5, _ => exact rcmp_5_narrow x y _ _ _ _ w (Lib.hid rfl) (Lib.hid rfl) hlx hly (Lib.hid rfl) (Lib.hid rfl) (wrap32_lo _) (wrap32_hi _) (wrap32_lo _) (wrap32_hi _)
    | 6, _ => exact rcmp_6_narrow x y _ _ _ _ w (Lib.hid rfl) (Lib.hid rfl) hlx hly (Lib.hid rfl) (Lib.hid rfl) (wrap32_lo _) (wrap32_hi _) (wrap32_lo _) (wrap32_hi _)
    | 7, _ => exact rcmp_7_narrow x y _ _ _ _ w (Lib.hid rfl) (Lib.hid rfl) hlx hly (Lib.hid rfl) (Lib.hid rfl) (wrap32_lo _) (wrap32_hi _) (wrap32_lo _) (wrap32_hi _)
    | 10, _ => exact rcmp_10_narrow x y _ _ _ _ w (Lib.hid rfl) (Lib.hid rfl) hlx hly (Lib.hid rfl) (Lib.hid rfl) (wrap32_lo _) (wrap32_hi _) (wrap32_lo _) (wrap32_hi _)
    | 11, _ => exact rcmp_11_narrow x y _ _ _ _ w (Lib.hid rfl) (Lib.hid rfl) hlx hly (Lib.hid rfl) (Lib.hid rfl) (wrap32_lo _) (wrap32_hi _) (wrap32_lo _) (wrap32_hi _)
    | 12, _ => exact rcmp_12_narrow x y _ _ _ _ w (Lib.hid rfl) (Lib.hid rfl) hlx hly (Lib.hid rfl) (Lib.hid rfl) (wrap32_lo _) (wrap32_hi _) (wrap32_lo _) (wrap32_hi _)
    | 13, _ => exact rcmp_13_narrow x y _ _ _ _ w (Lib.hid rfl) (Lib.hid rfl) hlx hly (Lib.hid rfl) (Lib.hid rfl) (wrap32_lo _) (wrap32_hi _) (wrap32_lo _) (wrap32_hi _)
  · simp only [lowOf, signOf, if_true]
    match o, hv with
    | 1, _ => exact rcmp_1_wide x y _ _ w (Lib.hid rfl) (Lib.hid rfl)
    | 2, _ => exact rcmp_2_wide x y _ _ w (Lib.hid rfl) (Lib.hid rfl)
    | 3, _ => exact rcmp_3_wide x y _ _ w (Lib.hid rfl) (Lib.hid rfl)
    | 4, _ => exact rcmp_4_wide x y _ _ w (Lib.hid rfl) (Lib.hid rfl)
    | 5, _ => exact rcmp_5_wide x y _ _ w (Lib.hid rfl) (Lib.hid rfl)
    | 6, _ => exact rcmp_6_wide x y _ _ w (Lib.hid rfl) (Lib.hid rfl)
    | 7, _ => exact rcmp_7_wide x y _ _ w (Lib.hid rfl) (Lib.hid rfl)
    | 10, _ => exact rcmp_10_wide x y _ _ w (Lib.hid rfl) (Lib.hid rfl)
    | 11, _ => exact rcmp_11_wide x y _ _ w (Lib.hid rfl) (Lib.hid rfl)
    | 12, _ => exact rcmp_12_wide x y _ _ w (Lib.hid rfl) (Lib.hid rfl)
    | 13, _ => exact rcmp_13_wide x y _ _ w (Lib.hid rfl) (Lib.hid rfl)
theorem contrary (p q : Int) (h : (p, q) ∈ prs) (a b : Nat) (s t : Int) : valid q.toNat = true ∧ ((q.toNat : Nat) : Int) = q ∧ cmpV q.toNat a b s t = !cmpV p.toNat a b s t := by
  simp only [prs, List.mem_cons, Prod.mk.injEq, List.not_mem_nil, or_false] at h
  rcases h with ⟨rfl, rfl⟩ | ⟨rfl, rfl⟩ | ⟨rfl, rfl⟩ | ⟨rfl, rfl⟩ | ⟨rfl, rfl⟩ | ⟨rfl, rfl⟩ | ⟨rfl, rfl⟩ | ⟨rfl, rfl⟩ | ⟨rfl, rfl⟩ | ⟨rfl, rfl⟩
  all_goals refine ⟨by decide, by decide, ?_⟩
  all_goals simp only [Int.reduceToNat, cmpV]
  all_goals first | rfl | (rw [Bool.eq_iff_iff]; simp; done) | (rw [Bool.eq_iff_iff]; simp; omega)
set_option maxRecDepth 100000 in
theorem aluCompares_walk (a0 : Int) (a1 : Bool) (a2 a3 : Int) (w0 : (Lit.int .i64 a0).wf = true) (w2 : (Lit.int .u64 a2).wf = true) (w3 : (Lit.int .u64 a3).wf = true) (W : World) :
    Calls Try.prog 9 #[.int .i64 a0, .bool a1, .int .u64 a2, .int .u64 a3] W fun e w' => e = .returned (.bool true) ∧ Below W.heap.size W w' := by
  obtain ⟨x, rfl, hx⟩ := nat_of_u64 w2
  obtain ⟨y, rfl, hy⟩ := nat_of_u64 w3
  by_cases ho : a0 < 1 ∨ 13 < a0 ∨ a0 = 8 ∨ a0 = 9
  · refine core a0 a1 x y false false W (Lib.hid fun w => cmp_no a0 a1 x y w hx hy ho) (Lib.hid fun w => rcmp_none a0 a1 x y w ho) (Lib.hid fun p q hpq he w => ?_)
    exfalso
    simp only [prs, List.mem_cons, Prod.mk.injEq, List.not_mem_nil, or_false] at hpq
    omega
  · obtain ⟨o, rfl⟩ : ∃ o : Nat, a0 = o := ⟨a0.toNat, by omega⟩
    have hv : valid o = true := by simp only [valid, Bool.or_eq_true, Bool.and_eq_true, decide_eq_true_eq]; omega
    refine core o a1 x y _ true W (Lib.hid fun w => cmp_any o a1 x y w hx hy hv) (Lib.hid fun w => rcmp_any o a1 x y w hv) (Lib.hid fun p q hpq he w => ?_)
    obtain ⟨h1, h2, h3⟩ := contrary p q hpq (lowOf a1 x) (lowOf a1 y) (signOf a1 x) (signOf a1 y)
    have h := cmp_any q.toNat a1 x y w hx hy h1
    rw [h2, h3, he] at h
    simpa using h
end Go.Proofs.Ytdpnhpennceldaa
