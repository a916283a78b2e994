/-
  RINGS: what a law knows of a ring's calls; the known ring.
-/
import Derived.Test.YtmjeloinibembaaRingH
namespace Go.Proofs.Ytmjeloinibembaa
open Go.RowKit
set_option linter.unusedVariables false
set_option linter.unusedSimpArgs false
def Same (R R' : RingS) : Prop := R'.rg = R.rg ∧ R'.size = R.size ∧ R'.mb = R.mb
theorem Same.refl (R : RingS) : Same R R := ⟨rfl, rfl, rfl⟩
theorem Same.trans {R R' R'' : RingS} (h : Same R R') (k : Same R' R'') : Same R R'' := ⟨k.1.trans h.1, k.2.1.trans h.2.1, k.2.2.trans h.2.2⟩
theorem Calls.at {P : Program} {f : Nat} {a a' : Array Value} {w : World} {Q : Ending → World → Prop} (h : Calls P f a w Q) (e : a' = a) : Calls P f a' w Q := e ▸ h
theorem reserve_ok {B : Nat} {Pr : Nat → Prop} (w : World) {R : RingS} (H : Hid (RingAt B Pr w R)) {rg n : Nat} (hrg : Hid (R.rg = rg)) (hn : Hid (1 ≤ n ∧ n ≤ 4096)) (hl : Hid (usedN R.rows + takesN n ≤ R.size)) (hl30 : Hid (R.rs.length + 1 < 2 ^ 30)) :
    Calls Try.prog 19 #[.pointer (some ⟨rg, 0, none⟩), .int .i64 n] w fun e w' => ∃ d : Nat, e = .returned (.tuple #[.int .i64 (d : Int), .int .i64 0]) ∧ d = R.rs.length + 1 ∧ Only (fun k => ¬ Pr k) w w' ∧
      ∃ (R' : RingS) (xb rb bb : Nat), RingAt B Pr w' R' ∧ Same R R' ∧ R'.rows = R.rows ++ [⟨xb, d, n, 0, 0, fun _ => 0⟩] ∧ R'.rs = R.rs ++ [⟨rb, bb, n, false, fun _ => 0⟩] := by
  obtain rfl := hrg.out
  have h := f19_new w H hn.out hl.out hl30.out
  refine h.mono ?_
  rintro e w' ⟨he, hO, rb, bb, xb, v', rv', hR⟩
  exact ⟨_, he, rfl, hO.mono fun k _ hk => H.out.spine_np hk, _, xb, rb, bb, hR, ⟨rfl, rfl, rfl⟩, rfl, rfl⟩
theorem reserve_full {B : Nat} {Pr : Nat → Prop} (w : World) {R : RingS} (H : Hid (RingAt B Pr w R)) {rg n : Nat} (hrg : Hid (R.rg = rg)) (hn : Hid (1 ≤ n ∧ n ≤ 4096)) (hl : Hid (R.size < usedN R.rows + takesN n)) :
    Calls Try.prog 19 #[.pointer (some ⟨rg, 0, none⟩), .int .i64 n] w fun e w' => e = .returned (.tuple #[.int .i64 0, .int .i64 102]) ∧ Only (fun k => ¬ Pr k) w w' ∧ RingAt B Pr w' R := by
  obtain rfl := hrg.out
  have h := f19_full w H hn.out hl.out
  refine h.mono ?_
  rintro e w' ⟨he, hb⟩
  exact ⟨he, Only.of_below hb, H.out.below hb⟩
theorem end_of {B : Nat} {Pr : Nat → Prop} {w w' : World} {R : RingS} (H : RingAt B Pr w R) {r : Rec} (hr : r ∈ R.rows) {s : Nat} (h : ∃ (x : Rgn) (j c g : Nat), R.rs[r.id - 1]? = some x ∧ x.d = false ∧ x.n = r.n ∧ w.heap.size ≤ g ∧
      RingAt B Pr w' { R with rows := R.rows.map (Rec.fin r.id s g x.f), rs := R.rs.set (r.id - 1) { x with d := true }, es := R.es.eraseIdx j } ∧ Only (fun k => k = r.xb ∨ k = R.mp ∨ k = x.rb) w w') :
    Only (fun k => ¬ Pr k) w w' ∧ ∃ (R' : RingS) (x : Rgn) (bs : Nat), RingAt B Pr w' R' ∧ Same R R' ∧ R.rs[r.id - 1]? = some x ∧ x.d = false ∧ x.n = r.n ∧ R'.rows = R.rows.map (Rec.fin r.id s bs x.f) ∧ R'.rs = R.rs.set (r.id - 1) { x with d := true } := by
  obtain ⟨x, j, c, g, hx, hd, hn, hg, hR, hO⟩ := h
  refine ⟨hO.mono fun k _ hk => ?_, _, x, g, hR, ⟨rfl, rfl, rfl⟩, hx, hd, hn, rfl, rfl⟩
  rcases hk with hk | hk | hk
  · exact hk ▸ (H.recs r hr).np
  · exact hk ▸ H.npm
  · exact hk ▸ (H.regs x (List.mem_of_getElem? hx)).2.1
theorem submit_ok {B : Nat} {Pr : Nat → Prop} (w : World) {R : RingS} (H : Hid (RingAt B Pr w R)) {rg : Nat} (hrg : Hid (R.rg = rg)) {r : Rec} (hr : Hid (r ∈ R.rows)) (hst : Hid (r.st = 0)) {id : Int} (hid : Hid ((r.id : Int) = id)) :
    Calls Try.prog 21 #[.pointer (some ⟨rg, 0, none⟩), .int .i64 id] w fun e w' => e = .returned (.int .i64 0) ∧ Only (fun k => ¬ Pr k) w w' ∧ ∃ (R' : RingS) (x : Rgn) (bs : Nat), RingAt B Pr w' R' ∧ Same R R' ∧ R.rs[r.id - 1]? = some x ∧ x.d = false ∧ x.n = r.n ∧ R'.rows = R.rows.map (Rec.fin r.id 1 bs x.f) ∧ R'.rs = R.rs.set (r.id - 1) { x with d := true } := by
  obtain rfl := hrg.out
  obtain rfl := hid.out
  have h := f21_hit w H hr hst
  exact h.mono fun e w' h => ⟨h.1, end_of H.out hr.out h.2⟩
theorem discard_ok {B : Nat} {Pr : Nat → Prop} (w : World) {R : RingS} (H : Hid (RingAt B Pr w R)) {rg : Nat} (hrg : Hid (R.rg = rg)) {r : Rec} (hr : Hid (r ∈ R.rows)) (hst : Hid (r.st = 0)) {id : Int} (hid : Hid ((r.id : Int) = id)) :
    Calls Try.prog 22 #[.pointer (some ⟨rg, 0, none⟩), .int .i64 id] w fun e w' => e = .returned (.int .i64 0) ∧ Only (fun k => ¬ Pr k) w w' ∧ ∃ (R' : RingS) (x : Rgn) (bs : Nat), RingAt B Pr w' R' ∧ Same R R' ∧ R.rs[r.id - 1]? = some x ∧ x.d = false ∧ x.n = r.n ∧ R'.rows = R.rows.map (Rec.fin r.id 2 bs x.f) ∧ R'.rs = R.rs.set (r.id - 1) { x with d := true } := by
  obtain rfl := hrg.out
  obtain rfl := hid.out
  have h := f22_hit w H hr hst
  exact h.mono fun e w' h => ⟨h.1, end_of H.out hr.out h.2⟩
theorem read_ok {B : Nat} {Pr : Nat → Prop} (w : World) {R : RingS} (H : Hid (RingAt B Pr w R)) {rg : Nat} (hrg : Hid (R.rg = rg)) :
    Calls Try.prog 17 #[.pointer (some ⟨rg, 0, none⟩)] w fun e w' => ∃ (a : Option Addr) (n c : Nat), e = .returned (.slice a n c) ∧ Only (fun k => ¬ Pr k) w w' ∧ ∃ (R' : RingS) (tk rest : List Rec), n = (outsOf tk).length ∧ R.rows = tk ++ rest ∧ (∀ r ∈ tk, r.st ≠ 0) ∧ (∀ r, rest.head? = some r → r.st = 0) ∧
      RowAt w.heap.size 30 w' (.slice a n c) (outsOf tk) ∧ RingAt B (Given Pr tk (.slice a n c)) w' R' ∧ Same R R' ∧ R'.rows = rest ∧ R'.rs = R.rs ∧ ∀ r ∈ tk, r.st ≠ 0 → Bts w' r.bs 0 r.n r.g ∧ KindAt w' r.bs 5 ∧ Thaw w' r.bs ∧ ¬ Pr r.bs ∧ (1 ≤ r.n ∧ r.n ≤ 4096) ∧ ∀ i, i < r.n → r.g i < 256 := by
  obtain rfl := hrg.out
  have h := f17_ok w H
  refine h.mono ?_
  rintro e w' ⟨V, he, rv', tk, rest, h1, h2, h3, h4, h5, h6⟩
  obtain ⟨a, c, hV⟩ := h4.len
  rw [hV] at he h4 h5
  refine ⟨a, _, c, he, h6.mono fun k _ hk => hk ▸ H.out.np, _, tk, rest, rfl, h1, h2, h3, h4, h5, ⟨rfl, rfl, rfl⟩, rfl, rfl, fun r hr hs => ?_⟩
  have hrm : r ∈ R.rows := by rw [h1]; exact List.mem_append_left _ hr
  obtain ⟨g1, g2, g3, g4, g5, g6⟩ := (H.out.recs r hrm).done hs
  have hne : ¬ r.bs = R.rg := fun he => absurd (g3.inj (he ▸ H.out.kind)) (by decide)
  exact ⟨fun i hi => (h6.cell (p := ⟨r.bs, 0 + i, none⟩) g3.lt hne).trans (g2 i hi), h6.kind _ _ (by decide) g3, g4.only h6 g3.lt hne, g5, (H.out.recs r hrm).pos, g6⟩
theorem used_ok {B : Nat} {Pr : Nat → Prop} (w : World) {R : RingS} (H : Hid (RingAt B Pr w R)) {rg : Nat} (hrg : Hid (R.rg = rg)) :
    Calls Try.prog 16 #[.pointer (some ⟨rg, 0, none⟩)] w fun e w' => e = .returned (.int .i64 (usedN R.rows : Int)) ∧ w = w' := by
  obtain rfl := hrg.out
  have h := f16_ok w (H.out.c1)
  exact h
theorem output_ok {B : Nat} {Pr : Nat → Prop} (w : World) {R : RingS} (H : Hid (RingAt B Pr w R)) {rg : Nat} (hrg : Hid (R.rg = rg)) {sb so n c : Nat} {g : Nat → Nat} (hb : Hid (Bts w sb so n g)) (hg : Hid (∀ i, i < n → g i < 256)) (hk : Hid (KindAt w sb 5)) (hn : Hid (1 ≤ n ∧ n ≤ 4096))
    (hl : Hid (usedN R.rows + takesN n ≤ R.size)) (hl30 : Hid (R.rs.length + 1 < 2 ^ 30)) :
    Calls Try.prog 15 #[.pointer (some ⟨rg, 0, none⟩), .slice (some ⟨sb, so, none⟩) n c] w fun e w' => e = .returned (.int .i64 0) ∧ Only (fun k => ¬ Pr k) w w' ∧ ∃ (R' : RingS) (xb bs rb bb : Nat) (f : Nat → Nat), RingAt B Pr w' R' ∧ Same R R' ∧
      R'.rows = R.rows ++ [⟨xb, R.rs.length + 1, n, 1, bs, f⟩] ∧ R'.rs = R.rs ++ [⟨rb, bb, n, true, f⟩] ∧ ∀ i, i < n → f i = g i := by
  obtain rfl := hrg.out
  have h := f15_ok w H hb hg (Lib.hid ⟨hk.out.lt, H.out.off (by simp) hk.out⟩) hn hl hl30 (c := c)
  refine h.mono ?_
  rintro e w' ⟨h1, h2, R', xb, bs, rb, bb, f, h3, h4, h5, h6, h7⟩
  exact ⟨h1, h2, R', xb, bs, rb, bb, f, h3, ⟨h4, h5, h6⟩, h7⟩
theorem output_ok2 {B : Nat} {Pr : Nat → Prop} (w : World) {R : RingS} (H : Hid (RingAt B Pr w R)) {rg : Nat} (hrg : Hid (R.rg = rg)) {sb so n c : Nat} {g : Nat → Nat} (hb : Hid (Bts w sb so n g)) (hg : Hid (∀ i, i < n → g i < 256)) (hk : Hid (Pr sb)) (hn : Hid (1 ≤ n ∧ n ≤ 4096))
    (hl : Hid (usedN R.rows + takesN n ≤ R.size)) (hl30 : Hid (R.rs.length + 1 < 2 ^ 30)) :
    Calls Try.prog 15 #[.pointer (some ⟨rg, 0, none⟩), .slice (some ⟨sb, so, none⟩) n c] w fun e w' => e = .returned (.int .i64 0) ∧ Only (fun k => ¬ Pr k) w w' ∧ ∃ (R' : RingS) (xb bs rb bb : Nat) (f : Nat → Nat), RingAt B Pr w' R' ∧ Same R R' ∧
      R'.rows = R.rows ++ [⟨xb, R.rs.length + 1, n, 1, bs, f⟩] ∧ R'.rs = R.rs ++ [⟨rb, bb, n, true, f⟩] ∧ ∀ i, i < n → f i = g i := by
  obtain rfl := hrg.out
  have h := f15_ok w H hb hg (Lib.hid ⟨H.out.prlt _ hk.out, fun hs => H.out.spine_np hs hk.out⟩) hn hl hl30 (c := c)
  refine h.mono ?_
  rintro e w' ⟨h1, h2, R', xb, bs, rb, bb, f, h3, h4, h5, h6, h7⟩
  exact ⟨h1, h2, R', xb, bs, rb, bb, f, h3, ⟨h4, h5, h6⟩, h7⟩
theorem output_full {B : Nat} {Pr : Nat → Prop} (w : World) {R : RingS} (H : Hid (RingAt B Pr w R)) {rg n c : Nat} {a : Option Addr} (hrg : Hid (R.rg = rg)) (hn : Hid (1 ≤ n ∧ n ≤ 4096)) (hl : Hid (R.size < usedN R.rows + takesN n)) :
    Calls Try.prog 15 #[.pointer (some ⟨rg, 0, none⟩), .slice a n c] w fun e w' => e = .returned (.int .i64 102) ∧ Only (fun k => ¬ Pr k) w w' ∧ RingAt B Pr w' R := by
  obtain rfl := hrg.out
  have h := f15_full w H hn hl (a := a) (c := c)
  refine h.mono ?_
  rintro e w' ⟨he, hb⟩
  exact ⟨he, Only.of_below hb, H.out.below hb⟩
/-- a ring is made. -/
theorem new_ok (w : World) {size : Nat} (h1 : 8 ≤ size) (h2 : size ≤ 4096) (h8 : size % 8 = 0) {w0 : World} (hw : w = w0.alloc (.cells #[.slice none 0 0] 83)) {mb : Nat} (hmb : mb = w0.heap.size) :
    Calls Try.prog 13 #[.int .i64 size, .pointer (some ⟨mb, 0, none⟩)] w fun e w' => ∃ (R : RingS) (rg : Nat), e = .returned (.tuple #[.pointer (some ⟨rg, 0, none⟩), .int .i64 0]) ∧ R.rg = rg ∧ R.size = size ∧ R.mb = mb ∧ R.rows = [] ∧ R.rs = [] ∧ RingAt w0.heap.size (· < w0.heap.size) w' R ∧ Below w0.heap.size w0 w' := by
  subst hmb
  refine (f13_ok w h1 h2 h8).mono ?_
  rintro e w' ⟨he, hw'⟩
  have h := ring_new (w0 := w0) h2 w w' (Lib.hid hw) (Lib.hid hw')
  exact ⟨_, _, he, rfl, rfl, rfl, rfl, rfl, h.1, h.2⟩
end Go.Proofs.Ytmjeloinibembaa
