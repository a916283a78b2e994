/-
  LOADS AND STORES of a memory, as a law meets them.
-/
import Derived.Test.YtmjeloinibembaaFrE
namespace Go.Proofs.Ytmjeloinibembaa
open Go.RowKit
set_option linter.unusedVariables false
set_option linter.unusedSimpArgs false
theorem hasT_at {F : FS} {o n : Nat} (hn : 0 < n) (h : hasT F o n = false) : F.has (o / 8) = false := by
  have h1 := of_decide_eq_false h
  cases hh : F.has (o / 8) with
  | false => rfl
  | true => exact absurd ⟨0, by omega, by simpa using hh⟩ h1
theorem f98_num (w : World) {fb : Nat} {F : FS} (hF : Hid (FrameAt w fb F)) {o n : Nat} (hn : Hid (0 < n ∧ n ≤ 8)) (ho : Hid (o + n ≤ 512)) (hr : Hid (readT F o n = 0)) :
    Calls Try.prog 98 #[.pointer (some ⟨fb, 0, none⟩), .int .i64 o, .int .i64 n] w fun e w' => e = .returned (.tuple #[.agg #[.int .i64 1, .int .u64 (numB (fun i => F.b (o + i)) n : Nat), .int .i64 0, .int .i64 0], .int .i64 0]) ∧ Below w.heap.size w w' := by
  by_cases h1 : n = 8
  · by_cases h2 : o % 8 = 0
    · by_cases h3 : F.tag (o / 8) = 0
      · refine f98_num4 w hF hn ho (Lib.hid ⟨h1, h2, h3, hasT_at hn.out.1 ?_⟩) hr
        cases hh : hasT F o n with
        | false => rfl
        | true =>
          have := hr.out
          unfold readT at this
          rw [hh] at this
          split at this <;> simp at this
      · exact f98_num3 w hF hn ho (Lib.hid ⟨h1, h2, h3⟩) hr
    · exact f98_num2 w hF hn ho (Lib.hid ⟨h1, h2⟩) hr
  · exact f98_num1 w hF hn ho (Lib.hid h1) hr
theorem f98_trap (w : World) {fb : Nat} {F : FS} (hF : Hid (FrameAt w fb F)) {o n : Nat} (hn : Hid (0 < n ∧ n ≤ 8)) (ho : Hid (o + n ≤ 512)) (hc : ¬ (n = 8 ∧ o % 8 = 0 ∧ F.tag (o / 8) = 0 ∧ F.has (o / 8) = true)) {tr : Int} (hr : Hid (readT F o n = tr)) (htr : (tr == 0) = false) :
    Calls Try.prog 98 #[.pointer (some ⟨fb, 0, none⟩), .int .i64 o, .int .i64 n] w fun e w' => e = .returned (.tuple #[.agg #[.int .i64 0, .int .u64 0, .int .i64 0, .int .i64 0], .int .i64 tr]) ∧ Below w.heap.size w w' := by
  by_cases h1 : n = 8
  · by_cases h2 : o % 8 = 0
    · by_cases h3 : F.tag (o / 8) = 0
      · have h4 : F.has (o / 8) = false := by
          cases hh : F.has (o / 8) with
          | false => rfl
          | true => exact absurd ⟨h1, h2, h3, hh⟩ hc
        exact f98_trap4 w hF hn ho (Lib.hid ⟨h1, h2, h3, h4⟩) hr htr
      · exact f98_trap3 w hF hn ho (Lib.hid ⟨h1, h2, h3⟩) hr htr
    · exact f98_trap2 w hF hn ho (Lib.hid ⟨h1, h2⟩) hr htr
  · exact f98_trap1 w hF hn ho (Lib.hid h1) hr htr

theorem lim_reg {w : World} {rb bb n : Nat} {wr : Bool} {f : Nat → Nat} (hR : Hid (RegAt w rb bb false wr n f)) : Lim w (false, rb) 0 n := by
  obtain ⟨c, hc, h1⟩ := hR.out.sl
  exact ⟨bb, n, c, rfl, rfl, hR.out.small, h1⟩
theorem mem_tab {B : Nat} {w : World} {mb : Nat} {v : Value} {l : List (Bool × Nat)} (M : Hid (MemRow B w mb v l)) {i : Int} {j : Nat} (hij : Hid (i = j + 1)) {x : Bool × Nat} (hx : l[j]? = some x) : ∃ ab, Hid (Tab w mb ab l) := by
  obtain ⟨ab, h⟩ := M.out.tab (fun h => by rw [h] at hx; simp at hx)
  exact ⟨ab, Lib.hid h⟩
theorem ld_f {B : Nat} {w : World} {mb : Nat} {v : Value} {l : List (Bool × Nat)} (M : Hid (MemRow B w mb v l)) {i : Int} {j : Nat} (hij : Hid (i = j + 1)) {fb : Nat} {F : FS} (hF : Hid (FrameAt w fb F)) (hx : Hid (l[j]? = some (true, fb))) {off : Int} {o : Nat} (ho : Hid (off = (o : Int) - 512)) {n : Nat} (hn : Hid (n = 1 ∨ n = 2 ∨ n = 4 ∨ n = 8)) (hon : Hid (o + n ≤ 512)) (nv : Value) {a0 a1 a2 a3 tr : Int} (hm : Hid (∀ w', Below w.heap.size w w' → Calls Try.prog 98 #[.pointer (some ⟨fb, 0, none⟩), .int .i64 o, .int .i64 n] w' fun e w'' => e = .returned (.tuple #[.agg #[.int .i64 a0, .int .u64 a1, .int .i64 a2, .int .i64 a3], .int .i64 tr]) ∧ Below w'.heap.size w' w'')) :
    Calls Try.prog 42 #[.pointer (some ⟨mb, 0, none⟩), .agg #[.int .i64 2, nv, .int .i64 i, .int .i64 off], .int .i64 n] w fun e w' => e = .returned (.tuple #[.agg #[.int .i64 a0, .int .u64 a1, .int .i64 a2, .int .i64 a3], .int .i64 tr]) ∧ Below w.heap.size w w' := by
  obtain ⟨ab, hT⟩ := mem_tab M hij hx.out
  have hoo := ho.out
  have hnn := hn.out
  have hon' := hon.out
  refine f42_in w hT hij hx (Lib.hid hF.out.dead) 2 (Lib.hid rfl) nv off n (-512) 0 (Lib.hid ⟨rfl, rfl⟩) (Lib.hid (by omega)) (Lib.hid (by omega)) (Lib.hid fun w' hb => ?_)
  rw [show off - -512 = (o : Int) by omega]
  exact hm.out w' hb
theorem ld_num {B : Nat} {w : World} {mb : Nat} {v : Value} {l : List (Bool × Nat)} (M : Hid (MemRow B w mb v l)) {i : Int} {j : Nat} (hij : Hid (i = j + 1)) {fb : Nat} {F : FS} (hF : Hid (FrameAt w fb F)) (hx : Hid (l[j]? = some (true, fb))) {off : Int} {o : Nat} (ho : Hid (off = (o : Int) - 512)) {n : Nat} (hn : Hid (n = 1 ∨ n = 2 ∨ n = 4 ∨ n = 8)) (hon : Hid (o + n ≤ 512)) (nv : Value) (hr : Hid (readT F o n = 0)) :
    Calls Try.prog 42 #[.pointer (some ⟨mb, 0, none⟩), .agg #[.int .i64 2, nv, .int .i64 i, .int .i64 off], .int .i64 n] w fun e w' => e = .returned (.tuple #[.agg #[.int .i64 1, .int .u64 (numB (fun i => F.b (o + i)) n : Nat), .int .i64 0, .int .i64 0], .int .i64 0]) ∧ Below w.heap.size w w' :=
  ld_f M hij hF hx ho hn hon nv (Lib.hid fun w' hb => f98_num w' (Lib.hid (hF.out.below.out w' hb)) (Lib.hid (by have := hn.out; omega)) hon hr)
theorem ld_trap {B : Nat} {w : World} {mb : Nat} {v : Value} {l : List (Bool × Nat)} (M : Hid (MemRow B w mb v l)) {i : Int} {j : Nat} (hij : Hid (i = j + 1)) {fb : Nat} {F : FS} (hF : Hid (FrameAt w fb F)) (hx : Hid (l[j]? = some (true, fb))) {off : Int} {o : Nat} (ho : Hid (off = (o : Int) - 512)) {n : Nat} (hn : Hid (n = 1 ∨ n = 2 ∨ n = 4 ∨ n = 8)) (hon : Hid (o + n ≤ 512)) (nv : Value) (hc : ¬ (n = 8 ∧ o % 8 = 0 ∧ F.tag (o / 8) = 0 ∧ F.has (o / 8) = true)) {tr : Int} (hr : Hid (readT F o n = tr)) (htr : (tr == 0) = false) :
    Calls Try.prog 42 #[.pointer (some ⟨mb, 0, none⟩), .agg #[.int .i64 2, nv, .int .i64 i, .int .i64 off], .int .i64 n] w fun e w' => e = .returned (.tuple #[.agg #[.int .i64 0, .int .u64 0, .int .i64 0, .int .i64 0], .int .i64 tr]) ∧ Below w.heap.size w w' :=
  ld_f M hij hF hx ho hn hon nv (Lib.hid fun w' hb => f98_trap w' (Lib.hid (hF.out.below.out w' hb)) (Lib.hid (by have := hn.out; omega)) hon hc hr htr)
theorem st_f {B : Nat} {w : World} {mb : Nat} {v : Value} {l : List (Bool × Nat)} (M : Hid (MemRow B w mb v l)) {i : Int} {j : Nat} (hij : Hid (i = j + 1)) {fb : Nat} {F : FS} (hF : Hid (FrameAt w fb F)) (hx : Hid (l[j]? = some (true, fb))) {off : Int} {o : Nat} (ho : Hid (off = (o : Int) - 512)) {n : Nat} (hn : Hid (n = 1 ∨ n = 2 ∨ n = 4 ∨ n = 8)) (hon : Hid (o + n ≤ 512)) (nv : Value) (vk vn vi vo : Int) (hvk : (vk == 0) = false) {tr : Int} {G : FS} (hm : Hid (∀ w', Below w.heap.size w w' → Calls Try.prog 100 #[.pointer (some ⟨fb, 0, none⟩), .int .i64 o, .int .i64 n, .agg #[.int .i64 vk, .int .u64 vn, .int .i64 vi, .int .i64 vo]] w' fun e w'' => e = .returned (.int .i64 tr) ∧ Only (· = fb) w' w'' ∧ FrameAt w'' fb G)) :
    Calls Try.prog 41 #[.pointer (some ⟨mb, 0, none⟩), .agg #[.int .i64 2, nv, .int .i64 i, .int .i64 off], .int .i64 n, .agg #[.int .i64 vk, .int .u64 vn, .int .i64 vi, .int .i64 vo]] w fun e w' => e = .returned (.int .i64 tr) ∧ Only (· = fb) w w' ∧ FrameAt w' fb G ∧ MemRow B w' mb v l := by
  obtain ⟨ab, hT⟩ := mem_tab M hij hx.out
  have hoo := ho.out
  have hnn := hn.out
  have hon' := hon.out
  refine (f41_in w hT hij hx (Lib.hid hF.out.dead) 2 (Lib.hid rfl) nv off n (-512) 0 (Lib.hid ⟨rfl, rfl⟩) (Lib.hid (by omega)) (Lib.hid (by omega)) vk vn vi vo hvk (tr := tr) (R := fun w' w'' => Only (· = fb) w' w'' ∧ FrameAt w'' fb G) (Lib.hid fun w' hb => ?_)).mono ?_
  · rw [show off - -512 = (o : Int) by omega]
    exact hm.out w' hb
  · rintro e w' ⟨rfl, w1, hb, hO, hG⟩
    have hOO : Only (· = fb) w w' := (Only.of_below hb).then hO (fun _ _ h => h)
    exact ⟨rfl, hOO, hG, M.out.keep hOO (fun k hk => ⟨121, by simp, hk ▸ hF.out.kind⟩)⟩
theorem st_num {B : Nat} {w : World} {mb : Nat} {v : Value} {l : List (Bool × Nat)} (M : Hid (MemRow B w mb v l)) {i : Int} {j : Nat} (hij : Hid (i = j + 1)) {fb : Nat} {F : FS} (hF : Hid (FrameAt w fb F)) (hx : Hid (l[j]? = some (true, fb))) {off : Int} {o : Nat} (ho : Hid (off = (o : Int) - 512)) {n : Nat} (hn : Hid (n = 1 ∨ n = 2 ∨ n = 4 ∨ n = 8)) (hon : Hid (o + n ≤ 512)) (nv : Value) {x : Nat} (hxx : x < 2 ^ 64) (vi vo : Int) (ht : Hid (tagT F o n = false)) :
    Calls Try.prog 41 #[.pointer (some ⟨mb, 0, none⟩), .agg #[.int .i64 2, nv, .int .i64 i, .int .i64 off], .int .i64 n, .agg #[.int .i64 1, .int .u64 x, .int .i64 vi, .int .i64 vo]] w fun e w' => e = .returned (.int .i64 0) ∧ Only (· = fb) w w' ∧ FrameAt w' fb (wrote F o n (fun i => x / 2 ^ (8 * i) % 256)) ∧ MemRow B w' mb v l :=
  st_f M hij hF hx ho hn hon nv 1 x vi vo (by decide) (Lib.hid fun w' hb => f100_num w' (Lib.hid (hF.out.below.out w' hb)) (Lib.hid (by have := hn.out; omega)) hon ht hxx vi vo)
theorem st_tag {B : Nat} {w : World} {mb : Nat} {v : Value} {l : List (Bool × Nat)} (M : Hid (MemRow B w mb v l)) {i : Int} {j : Nat} (hij : Hid (i = j + 1)) {fb : Nat} {F : FS} (hF : Hid (FrameAt w fb F)) (hx : Hid (l[j]? = some (true, fb))) {off : Int} {o : Nat} (ho : Hid (off = (o : Int) - 512)) {n : Nat} (hn : Hid (n = 1 ∨ n = 2 ∨ n = 4 ∨ n = 8)) (hon : Hid (o + n ≤ 512)) (nv : Value) (vk vn vi vo : Int) (hvk : (vk == 0) = false) (ht : Hid (tagT F o n = true)) :
    Calls Try.prog 41 #[.pointer (some ⟨mb, 0, none⟩), .agg #[.int .i64 2, nv, .int .i64 i, .int .i64 off], .int .i64 n, .agg #[.int .i64 vk, .int .u64 vn, .int .i64 vi, .int .i64 vo]] w fun e w' => e = .returned (.int .i64 14) ∧ Only (· = fb) w w' ∧ FrameAt w' fb F ∧ MemRow B w' mb v l :=
  st_f M hij hF hx ho hn hon nv vk vn vi vo hvk (Lib.hid fun w' hb => (f100_tag w' (Lib.hid (hF.out.below.out w' hb)) (Lib.hid (by have := hn.out; omega)) hon ht vk vn vi vo).mono fun e w'' ⟨he, hb2⟩ => ⟨he, Only.of_below hb2, hF.out.below.out w'' (below_then hb hb2)⟩)
theorem st_spill {B : Nat} {w : World} {mb : Nat} {v : Value} {l : List (Bool × Nat)} (M : Hid (MemRow B w mb v l)) {i : Int} {j : Nat} (hij : Hid (i = j + 1)) {fb : Nat} {F : FS} (hF : Hid (FrameAt w fb F)) (hx : Hid (l[j]? = some (true, fb))) {off : Int} {o : Nat} (ho : Hid (off = (o : Int) - 512)) {n : Nat} (hn : Hid (n = 1 ∨ n = 2 ∨ n = 4 ∨ n = 8)) (hon : Hid (o + n ≤ 512)) (nv : Value) (vk vn vi vo : Int) (hvk : (vk == 0) = false) (hk1 : (vk == 1) = false) (ht : Hid (tagT F o n = false)) (hc : Hid (n ≠ 8 ∨ o % 8 ≠ 0)) :
    Calls Try.prog 41 #[.pointer (some ⟨mb, 0, none⟩), .agg #[.int .i64 2, nv, .int .i64 i, .int .i64 off], .int .i64 n, .agg #[.int .i64 vk, .int .u64 vn, .int .i64 vi, .int .i64 vo]] w fun e w' => e = .returned (.int .i64 6) ∧ Only (· = fb) w w' ∧ FrameAt w' fb F ∧ MemRow B w' mb v l :=
  st_f M hij hF hx ho hn hon nv vk vn vi vo hvk (Lib.hid fun w' hb => (f100_spill w' (Lib.hid (hF.out.below.out w' hb)) (Lib.hid (by have := hn.out; omega)) hon ht hc vk vn vi vo hk1).mono fun e w'' ⟨he, hb2⟩ => ⟨he, Only.of_below hb2, hF.out.below.out w'' (below_then hb hb2)⟩)
theorem ld_ptr {B : Nat} {w : World} {mb : Nat} {v : Value} {l : List (Bool × Nat)} (M : Hid (MemRow B w mb v l)) {i : Int} {j : Nat} (hij : Hid (i = j + 1)) {fb : Nat} {F : FS} (hF : Hid (FrameAt w fb F)) (hx : Hid (l[j]? = some (true, fb))) {off : Int} {o : Nat} (ho : Hid (off = (o : Int) - 512)) (hon : Hid (o + 8 ≤ 512)) (h8 : Hid (o % 8 = 0)) (nv : Value) (ht : Hid (F.tag (o / 8) = 0)) (hh : Hid (F.has (o / 8) = true)) :
    Calls Try.prog 42 #[.pointer (some ⟨mb, 0, none⟩), .agg #[.int .i64 2, nv, .int .i64 i, .int .i64 off], .int .i64 8] w fun e w' => e = .returned (.tuple #[.agg #[.int .i64 (F.pk (o / 8)), .int .u64 (F.pn (o / 8)), .int .i64 (F.pi (o / 8)), .int .i64 (F.po (o / 8))], .int .i64 0]) ∧ Below w.heap.size w w' :=
  ld_f (n := 8) M hij hF hx ho (Lib.hid (by omega)) hon nv (Lib.hid fun w' hb => f98_ptr w' (Lib.hid (hF.out.below.out w' hb)) hon h8 ht hh)
theorem st_ptr {B : Nat} {w : World} {mb : Nat} {v : Value} {l : List (Bool × Nat)} (M : Hid (MemRow B w mb v l)) {i : Int} {j : Nat} (hij : Hid (i = j + 1)) {fb : Nat} {F : FS} (hF : Hid (FrameAt w fb F)) (hx : Hid (l[j]? = some (true, fb))) {off : Int} {o : Nat} (ho : Hid (off = (o : Int) - 512)) (hon : Hid (o + 8 ≤ 512)) (h8 : Hid (o % 8 = 0)) (nv : Value) (vk vn vi vo : Int) (hvk : (vk == 0) = false) (hk1 : (vk == 1) = false) (ht : Hid (tagT F o 8 = false)) :
    Calls Try.prog 41 #[.pointer (some ⟨mb, 0, none⟩), .agg #[.int .i64 2, nv, .int .i64 i, .int .i64 off], .int .i64 8, .agg #[.int .i64 vk, .int .u64 vn, .int .i64 vi, .int .i64 vo]] w fun e w' => e = .returned (.int .i64 0) ∧ Only (· = fb) w w' ∧ FrameAt w' fb (putP F (o / 8) vk vn vi vo) ∧ MemRow B w' mb v l :=
  st_f (n := 8) M hij hF hx ho (Lib.hid (by omega)) hon nv vk vn vi vo hvk (Lib.hid fun w' hb => f100_ptr w' (Lib.hid (hF.out.below.out w' hb)) hon h8 ht vk vn vi vo hk1)
theorem ld_reg {B : Nat} {w : World} {mb : Nat} {v : Value} {l : List (Bool × Nat)} (M : Hid (MemRow B w mb v l)) {i : Int} {j : Nat} (hij : Hid (i = j + 1)) {rb bb n : Nat} {wr : Bool} {f : Nat → Nat} (hR : Hid (RegAt w rb bb false wr n f)) (hx : Hid (l[j]? = some (false, rb))) {o k : Nat} (hk : Hid (k = 1 ∨ k = 2 ∨ k = 4 ∨ k = 8)) (nv : Value) (hon : Hid (o + k ≤ n)) :
    Calls Try.prog 42 #[.pointer (some ⟨mb, 0, none⟩), .agg #[.int .i64 5, nv, .int .i64 i, .int .i64 o], .int .i64 k] w fun e w' => e = .returned (.tuple #[.agg #[.int .i64 1, .int .u64 (numB (fun i => f (o + i)) k : Nat), .int .i64 0, .int .i64 0], .int .i64 0]) ∧ Below w.heap.size w w' := by
  obtain ⟨ab, hT⟩ := mem_tab M hij hx.out
  have hkk := hk.out
  have hon' := hon.out
  refine f42_in w hT hij hx (Lib.hid hR.out.dead) 5 (Lib.hid rfl) nv o k 0 n (Lib.hid (lim_reg hR)) (Lib.hid (by omega)) (Lib.hid (by omega)) (Lib.hid fun w' hb => ?_)
  rw [show ((o : Int) - 0) = (o : Int) by omega]
  exact f88_ok w' (Lib.hid (hR.out.below.out w' hb)) (by omega) (by omega) hon'
theorem st_reg {B : Nat} {w : World} {mb : Nat} {v : Value} {l : List (Bool × Nat)} (M : Hid (MemRow B w mb v l)) {i : Int} {j : Nat} (hij : Hid (i = j + 1)) {rb bb n : Nat} {wr : Bool} {f : Nat → Nat} (hR : Hid (RegAt w rb bb false wr n f)) (hx : Hid (l[j]? = some (false, rb))) {o k : Nat} (hk : Hid (k = 1 ∨ k = 2 ∨ k = 4 ∨ k = 8)) (nv : Value) (hon : Hid (o + k ≤ n)) {x : Nat} (hxx : x < 2 ^ 64) (vi vo : Int) :
    Calls Try.prog 41 #[.pointer (some ⟨mb, 0, none⟩), .agg #[.int .i64 5, nv, .int .i64 i, .int .i64 o], .int .i64 k, .agg #[.int .i64 1, .int .u64 x, .int .i64 vi, .int .i64 vo]] w fun e w' => e = .returned (.int .i64 (if wr then 0 else 5)) ∧ Only (· = bb) w w' ∧ RegAt w' rb bb false wr n (if wr then layB f o k x else f) ∧ MemRow B w' mb v l := by
  obtain ⟨ab, hT⟩ := mem_tab M hij hx.out
  have hkk := hk.out
  have hon' := hon.out
  refine (f41_in w hT hij hx (Lib.hid hR.out.dead) 5 (Lib.hid rfl) nv o k 0 n (Lib.hid (lim_reg hR)) (Lib.hid (by omega)) (Lib.hid (by omega)) 1 x vi vo (by decide) (tr := if wr then 0 else 5) (R := fun w' w'' => Only (· = bb) w' w'' ∧ RegAt w'' rb bb false wr n (if wr then layB f o k x else f)) (Lib.hid fun w' hb => ?_)).mono ?_
  · rw [show ((o : Int) - 0) = (o : Int) by omega]
    exact f89_ok w' (Lib.hid (hR.out.below.out w' hb)) (by omega) (by omega) hon' hxx _ _
  · rintro e w' ⟨rfl, w1, hb, hO, hG⟩
    have hOO : Only (· = bb) w w' := (Only.of_below hb).then hO (fun _ _ h => h)
    exact ⟨rfl, hOO, hG, M.out.keep hOO (fun k hk => ⟨5, by simp, hk ▸ hR.out.kB⟩)⟩
theorem reg_out {B : Nat} {w : World} {mb : Nat} {v : Value} {l : List (Bool × Nat)} (M : Hid (MemRow B w mb v l)) {i : Int} {j : Nat} (hij : Hid (i = j + 1)) {rb bb n : Nat} {wr : Bool} {f : Nat → Nat} (hR : Hid (RegAt w rb bb false wr n f)) (hx : Hid (l[j]? = some (false, rb))) {k : Nat} (hk : Hid (k = 1 ∨ k = 2 ∨ k = 4 ∨ k = 8)) (nv : Value) {off : Int} (hon : Hid (off < 0 ∨ (n : Int) - off < k)) : Hid (∀ w', Below w.heap.size w w' → Calls Try.prog 58 #[.pointer (some ⟨mb, 0, none⟩), .agg #[.int .i64 5, nv, .int .i64 i, .int .i64 off], .int .i64 k] w' fun e w'' => e = .returned (.tuple #[.nilIface, .int .i64 0, .int .i64 3]) ∧ Below w'.heap.size w' w'') := by
  obtain ⟨ab, hT⟩ := mem_tab M hij hx.out
  have hkk := hk.out
  have hL := lim_reg hR
  refine Lib.hid fun w' hb => f58_out w' (Lib.hid ((hT.out.below hx.out).out w' hb)) hij hx (Lib.hid ((cell_below hR.out.dead).out w' hb)) 5 (Lib.hid rfl) nv off k 0 n (Lib.hid (hL.below.out w' hb)) (by omega) (lim_ok hL (by omega)) hon
end Go.Proofs.Ytmjeloinibembaa
