/-
  THE WALKS of package region: tags.
-/
import Derived.Test.YtmjeloinibembaaKn8
namespace Go.Proofs.Ytmjeloinibembaa
open Go.RowKit
set_option linter.unusedVariables false
set_option linter.unusedSimpArgs false
theorem tmod_neg8 {a : Int} (h : a ≤ 0) (h8 : a % 8 = 0) : a.tmod 8 = 0 := by
  have h1 : a = -(-a) := by omega
  rw [h1, Int.neg_tmod, Int.tmod_eq_emod_of_nonneg (by omega)]
  omega
/-- a slot is another's. -/
def slotSet (F : FS) (i : Nat) (tg : Int) (bg : Bool) : FS := { F with pk := upd F.pk i 0, pn := upd F.pn i 0, pi := upd F.pi i 0, po := upd F.po i 0, has := upd F.has i false, tag := upd F.tag i tg, beg := upd F.beg i bg }
theorem FrameAt.set_slot {w : World} {fb : Nat} {F : FS} (h : FrameAt w fb F) {i : Nat} (hi : i < 64) (tg : Int) (bg : Bool) :
    FrameAt (((((((w.setCell ⟨fb, 1025 + i * 7, none⟩ (.int .i64 0)).setCell ⟨fb, 1025 + i * 7 + 1, none⟩ (.int .u64 0)).setCell ⟨fb, 1025 + i * 7 + 2, none⟩ (.int .i64 0)).setCell ⟨fb, 1025 + i * 7 + 3, none⟩ (.int .i64 0)).setCell ⟨fb, 1025 + i * 7 + 4, none⟩ (.bool false)).setCell ⟨fb, 1025 + i * 7 + 5, none⟩ (.int .i64 tg)).setCell ⟨fb, 1025 + i * 7 + 6, none⟩ (.bool bg)) fb (slotSet F i tg bg) :=
  ((((((h.set_pk hi 0).set_pn hi 0).set_pi hi 0).set_po hi 0).set_has hi false).set_tag hi tg).set_beg hi bg
theorem only_slot {S : Nat → Prop} {a w : World} {fb : Nat} (h : Only S a w) (hs : S fb) (i : Nat) (tg : Int) (bg : Bool) :
    Only S a (((((((w.setCell ⟨fb, 1025 + i * 7, none⟩ (.int .i64 0)).setCell ⟨fb, 1025 + i * 7 + 1, none⟩ (.int .u64 0)).setCell ⟨fb, 1025 + i * 7 + 2, none⟩ (.int .i64 0)).setCell ⟨fb, 1025 + i * 7 + 3, none⟩ (.int .i64 0)).setCell ⟨fb, 1025 + i * 7 + 4, none⟩ (.bool false)).setCell ⟨fb, 1025 + i * 7 + 5, none⟩ (.int .i64 tg)).setCell ⟨fb, 1025 + i * 7 + 6, none⟩ (.bool bg)) :=
  ((((((h.setCell (p := ⟨fb, 1025 + i * 7, none⟩) (fun _ => hs) _).setCell (p := ⟨fb, 1025 + i * 7 + 1, none⟩) (fun _ => hs) _).setCell (p := ⟨fb, 1025 + i * 7 + 2, none⟩) (fun _ => hs) _).setCell (p := ⟨fb, 1025 + i * 7 + 3, none⟩) (fun _ => hs) _).setCell (p := ⟨fb, 1025 + i * 7 + 4, none⟩) (fun _ => hs) _).setCell (p := ⟨fb, 1025 + i * 7 + 5, none⟩) (fun _ => hs) _).setCell (p := ⟨fb, 1025 + i * 7 + 6, none⟩) (fun _ => hs) _
set_option maxRecDepth 100000 in
set_option maxHeartbeats 2000000 in
theorem f61_ok {B : Nat} {w : World} {mb : Nat} {v : Value} {l : List (Bool × Nat)} (M : Hid (MemRow B w mb v l)) {i : Int} {j : Nat} (hij : Hid (i = j + 1)) {fb : Nat} {F : FS} (hF : Hid (FrameAt w fb F)) (hx : Hid (l[j]? = some (true, fb))) {off : Int} {s : Nat} (ho : Hid (off = (8 * s : Nat) - 512)) (hs : Hid (s + 2 ≤ 64)) (nv : Int) :
    Calls Try.prog 61 #[.pointer (some ⟨mb, 0, none⟩), .agg #[.int .i64 2, .int .u64 nv, .int .i64 i, .int .i64 off]] w fun e w' => e = .returned (.tuple #[.pointer (some ⟨fb, 0, none⟩), .int .i64 s, .int .i64 0]) ∧ Below w.heap.size w w' := by
  obtain ⟨ab, hT⟩ := mem_tab M hij hx.out
  have hoo := ho.out
  have hss := hs.out
  have hta := ta_f fb
  have hb0 : Below w.heap.size w (w.alloc (.cells #[.int .i64 2, .int .u64 nv, .int .i64 i, .int .i64 off] 63)) := Below.one _
  obtain ⟨q, hq⟩ : ∃ q : Nat, Hid (8 * s = q) := ⟨_, Lib.hid rfl⟩
  have e1 : ((q : Int) / 8) = (s : Int) := by have := hq.out; omega
  have e2 : wrap64 (s : Int) = s := by unfold wrap64; omega
  have hlim : Hid (-512 ≤ off ∧ off + 16 ≤ 0) := Lib.hid (by omega)
  have hoff : Hid (off - -512 = (q : Int)) := Lib.hid (by have := hq.out; omega)
  clear hoo hss
  go_enter Try.func61, Try.ntmps61
  go_wp2_with fail
  refine (f58_in _ (Lib.hid ((hT.out.below hx.out).out _ hb0)) hij hx (Lib.hid ((cell_below hF.out.dead).out _ hb0)) 2 (Lib.hid rfl) (.int .u64 nv) off 16 (-512) 0 (Lib.hid ⟨rfl, rfl⟩) (by decide) (Lib.hid (by decide)) hlim).mono ?_; rintro e w1 ⟨rfl, h1⟩
  rw [hoff.out]
  simp only [area_f]
  go_wp2_with fail
  go_returns
  refine ⟨?_, below_then hb0 h1⟩
  show Ending.returned (.tuple #[.pointer (some ⟨fb, 0, none⟩), .int .i64 (wrap64 (s : Int)), .int .i64 0]) = _
  rw [e2]
theorem slots2 (w : World) (fb s : Nat) (hs : s + 2 ≤ 64) : (Instr.sliceAt 119 (.pointer (some ⟨fb, 1025, none⟩)) (some (.int .i64 (s : Int))) (some (.int .i64 ((s : Int) + 2))) none).run Try.prog w = .ok (.slice (some ⟨fb, 1025 + 7 * s, none⟩) 2 (64 - s)) w := by
  have h := slice_slots w fb s (s + 2) (l := s) (h := (s : Int) + 2) rfl (by omega) (by omega) hs
  rw [h, show s + 2 - s = 2 by omega]
def tagN (F : FS) (s m : Nat) : Bool := decide (∃ k, k < m ∧ F.tag (s + k) ≠ 0)
def tag2 (F : FS) (s : Nat) : Bool := tagN F s 2
theorem tag2_no {F : FS} {s : Nat} (h0 : F.tag s = 0) (h1 : F.tag (s + 1) = 0) : tag2 F s = false := decide_eq_false fun ⟨k, hk, hh⟩ => by
  rcases (show k = 0 ∨ k = 1 by omega) with rfl | rfl
  · exact hh h0
  · exact hh h1
theorem tag2_yes {F : FS} {s : Nat} (h0 : F.tag s ≠ 0) : tag2 F s = true := decide_eq_true ⟨0, by decide, h0⟩
set_option maxRecDepth 100000 in
set_option maxHeartbeats 2000000 in
theorem f60_ok {B : Nat} {w : World} {mb : Nat} {v : Value} {l : List (Bool × Nat)} (M : Hid (MemRow B w mb v l)) {i : Int} {j : Nat} (hij : Hid (i = j + 1)) {fb : Nat} {F : FS} (hF : Hid (FrameAt w fb F)) (hx : Hid (l[j]? = some (true, fb))) {off : Int} {s : Nat} (ho : Hid (off = (8 * s : Nat) - 512)) (hs : Hid (s + 2 ≤ 64)) (nv : Int) {t : Bool} (ht : Hid (tag2 F s = t)) :
    Calls Try.prog 60 #[.pointer (some ⟨mb, 0, none⟩), .agg #[.int .i64 2, .int .u64 nv, .int .i64 i, .int .i64 off]] w fun e w' => e = .returned (.int .i64 (if t then 14 else 0)) ∧ Below w.heap.size w w' := by
  have hoo := ho.out
  have hss := hs.out
  have hsl := fun w => slots2 w fb s hss
  have hb0 : Below w.heap.size w (w.alloc (.cells #[.int .i64 2, .int .u64 nv, .int .i64 i, .int .i64 off] 63)) := Below.one _
  have e1 : off.tmod 8 = 0 := tmod_neg8 (by omega) (by omega)
  clear hoo
  cases t
  all_goals
    go_enter Try.func60, Try.ntmps60
    go_wp2_with fail
    refine (f61_ok (Lib.hid (M.out.below hb0)) hij (Lib.hid (hF.out.below.out _ hb0)) hx ho hs nv).mono ?_; rintro e w1 ⟨rfl, h1⟩
    have hb1 := below_then hb0 h1
    go_wp2_with fail
    refine (f67_ok w1 (Lib.hid (hF.out.below.out _ hb1)) hss).mono ?_; rintro e w2 ⟨rfl, h2⟩
    have hh := ht.out
    unfold tag2 tagN at hh
    rw [hh]
    go_wp2_with fail
    go_ret
    exact ⟨rfl, below_then hb1 h2⟩
set_option maxRecDepth 100000 in
set_option maxHeartbeats 2000000 in
theorem f47_ok {B : Nat} {w : World} {mb : Nat} {v : Value} {l : List (Bool × Nat)} (M : Hid (MemRow B w mb v l)) {i : Int} {j : Nat} (hij : Hid (i = j + 1)) {fb : Nat} {F : FS} (hF : Hid (FrameAt w fb F)) (hx : Hid (l[j]? = some (true, fb))) {off : Int} {s : Nat} (ho : Hid (off = (8 * s : Nat) - 512)) (hs : Hid (s + 2 ≤ 64)) (nv : Int) {t : Bool} (ht : Hid (F.beg s = t)) :
    Calls Try.prog 47 #[.pointer (some ⟨mb, 0, none⟩), .agg #[.int .i64 2, .int .u64 nv, .int .i64 i, .int .i64 off]] w fun e w' => e = .returned (.tuple (if t then #[.int .i64 (F.tag s), .int .i64 0] else #[.int .i64 0, .int .i64 14])) ∧ Below w.heap.size w w' := by
  have hoo := ho.out
  have hss := hs.out
  have hb0 : Below w.heap.size w (w.alloc (.cells #[.int .i64 2, .int .u64 nv, .int .i64 i, .int .i64 off] 63)) := Below.one _
  have e1 : off.tmod 8 = 0 := tmod_neg8 (by omega) (by omega)
  have hs64 : (s : Int) < 64 := by omega
  clear hoo
  cases t
  all_goals
    go_enter Try.func47, Try.ntmps47
    go_wp2_with fail
    refine (f61_ok (Lib.hid (M.out.below hb0)) hij (Lib.hid (hF.out.below.out _ hb0)) hx ho hs nv).mono ?_; rintro e w1 ⟨rfl, h1⟩
    have hb1 := below_then hb0 h1
    have hF1 := hF.out.below.out _ hb1
    have c6 := hF1.beg s (by omega)
    have c5 := hF1.tag s (by omega)
    rw [ht.out] at c6
    have hbx := boxed_below (w := w) (v0 := .int .i64 2) (v1 := .int .u64 nv) (v2 := .int .i64 i) (v3 := .int .i64 off)
    obtain ⟨p0, p1, p2, p3⟩ := hbx.out w1 (below_succ h1)
    clear hF1 hbx
    go_wp2_with fail
    go_returns
    exact ⟨rfl, hb1⟩
/-- a tag over two slots. -/
def marked (F : FS) (s : Nat) (tg : Int) : FS := slotSet (unw (slotSet (unw F s) s tg true) (s + 1)) (s + 1) tg false
def cleared (F : FS) (s : Nat) : FS := slotSet (slotSet F s 0 false) (s + 1) 0 false
set_option maxRecDepth 100000 in
set_option maxHeartbeats 2000000 in
theorem f46_trap {B : Nat} {w : World} {mb : Nat} {v : Value} {l : List (Bool × Nat)} (M : Hid (MemRow B w mb v l)) {i : Int} {j : Nat} (hij : Hid (i = j + 1)) {fb : Nat} {F : FS} (hF : Hid (FrameAt w fb F)) (hx : Hid (l[j]? = some (true, fb))) {off : Int} {s : Nat} (ho : Hid (off = (8 * s : Nat) - 512)) (hs : Hid (s + 2 ≤ 64)) (nv : Int) (tg : Int) (htg : (tg == 0) = false) (ht : Hid (tag2 F s = true)) :
    Calls Try.prog 46 #[.pointer (some ⟨mb, 0, none⟩), .agg #[.int .i64 2, .int .u64 nv, .int .i64 i, .int .i64 off], .int .i64 tg] w fun e w' => e = .returned (.int .i64 14) ∧ Below w.heap.size w w' := by
  have hb0 : Below w.heap.size w (w.alloc (.cells #[.int .i64 2, .int .u64 nv, .int .i64 i, .int .i64 off] 63)) := Below.one _
  go_enter Try.func46, Try.ntmps46
  go_wp2_with fail
  refine (f60_ok (Lib.hid (M.out.below hb0)) hij (Lib.hid (hF.out.below.out _ hb0)) hx ho hs nv ht).mono ?_; rintro e w1 ⟨rfl, h1⟩
  simp only [if_true]
  go_wp2_with fail
  go_ret
  exact ⟨rfl, below_then hb0 h1⟩
/-- a slot's cells may be written. -/
theorem FrameAt.slot7 {w : World} {fb : Nat} {F : FS} (h : FrameAt w fb F) {i : Nat} (hi : i < 64) :
    w.cell? ⟨fb, 1025 + i * 7, none⟩ = some (.int .i64 (F.pk i)) ∧ w.cell? ⟨fb, 1025 + i * 7 + 1, none⟩ = some (.int .u64 (F.pn i)) ∧ w.cell? ⟨fb, 1025 + i * 7 + 2, none⟩ = some (.int .i64 (F.pi i)) ∧
    w.cell? ⟨fb, 1025 + i * 7 + 3, none⟩ = some (.int .i64 (F.po i)) ∧ w.cell? ⟨fb, 1025 + i * 7 + 4, none⟩ = some (.bool (F.has i)) ∧ w.cell? ⟨fb, 1025 + i * 7 + 5, none⟩ = some (.int .i64 (F.tag i)) ∧
    w.cell? ⟨fb, 1025 + i * 7 + 6, none⟩ = some (.bool (F.beg i)) := ⟨h.pk _ hi, h.pn _ hi, h.pi _ hi, h.po _ hi, h.has _ hi, h.tag _ hi, h.beg _ hi⟩
set_option maxRecDepth 100000 in
set_option maxHeartbeats 2000000 in
theorem f46_ok {B : Nat} {w : World} {mb : Nat} {v : Value} {l : List (Bool × Nat)} (M : Hid (MemRow B w mb v l)) {i : Int} {j : Nat} (hij : Hid (i = j + 1)) {fb : Nat} {F : FS} (hF : Hid (FrameAt w fb F)) (hx : Hid (l[j]? = some (true, fb))) {off : Int} {s : Nat} (ho : Hid (off = (8 * s : Nat) - 512)) (hs : Hid (s + 2 ≤ 64)) (nv : Int) (tg : Int) (htg : (tg == 0) = false) (ht : Hid (tag2 F s = false)) :
    Calls Try.prog 46 #[.pointer (some ⟨mb, 0, none⟩), .agg #[.int .i64 2, .int .u64 nv, .int .i64 i, .int .i64 off], .int .i64 tg] w fun e w' => e = .returned (.int .i64 0) ∧ Only (· = fb) w w' ∧ FrameAt w' fb (marked F s tg) ∧ MemRow B w' mb v l := by
  have hss := hs.out
  have hb0 : Below w.heap.size w (w.alloc (.cells #[.int .i64 2, .int .u64 nv, .int .i64 i, .int .i64 off] 63)) := Below.one _
  have hbx := boxed_below (w := w) (v0 := .int .i64 2) (v1 := .int .u64 nv) (v2 := .int .i64 i) (v3 := .int .i64 off)
  go_enter Try.func46, Try.ntmps46
  go_wp2_with fail
  refine (f60_ok (Lib.hid (M.out.below hb0)) hij (Lib.hid (hF.out.below.out _ hb0)) hx ho hs nv ht).mono ?_; rintro e w1 ⟨rfl, h1⟩
  simp only [Bool.false_eq_true, if_false]
  have hb1 := below_then hb0 h1
  obtain ⟨p0, p1, p2, p3⟩ := hbx.out w1 (below_succ h1)
  go_wp2_with fail
  refine (f61_ok (Lib.hid (M.out.below hb1)) hij (Lib.hid (hF.out.below.out _ hb1)) hx ho hs nv).mono ?_; rintro e w2 ⟨rfl, h2⟩
  clear p0 p1 p2 p3
  have hb2 := below_then hb1 h2
  go_wp2_with fail
  go_loopw [27] (fun v w3 => ∃ k : Nat, k ≤ 2 ∧ v = .int .i64 k ∧ Only (· = fb) w w3 ∧ Hid (FrameAt w3 fb (if k = 0 then F else if k = 1 then slotSet (unw F s) s tg true else marked F s tg))) (fun v _ => 2 - (intOf v).toNat)
  case atStart => exact ⟨0, by decide, rfl, Only.of_below hb2, Lib.hid (hF.out.below.out _ hb2)⟩
  case round =>
    obtain ⟨k, hk, rfl, hO, hFk⟩ := hrel
    rcases (show k = 0 ∨ k = 1 ∨ k = 2 by omega) with rfl | rfl | rfl
    · have hF0 := Lib.hid (by simpa using hFk.out : FrameAt wr fb F)
      have hs64 : (s : Int) < 64 := by omega
      clear hFk
      go_wp2_with fail
      refine (f62_ok wr hF0 (show s < 64 by omega)).mono ?_; rintro e w4 ⟨rfl, hO4, hF4⟩
      obtain ⟨c0, c1, c2, c3, c4, c5, c6⟩ := (hF4 : FrameAt w4 fb (unw F s)).slot7 (show s < 64 by omega)
      have z0 := hF4.thaw (1025 + s * 7)
      have z1 := hF4.thaw (1025 + s * 7 + 1)
      have z2 := hF4.thaw (1025 + s * 7 + 2)
      have z3 := hF4.thaw (1025 + s * 7 + 3)
      have z4 := hF4.thaw (1025 + s * 7 + 4)
      have z5 := hF4.thaw (1025 + s * 7 + 5)
      have z6 := hF4.thaw (1025 + s * 7 + 6)
      have hF5 : Hid (FrameAt _ fb (slotSet (unw F s) s tg true)) := Lib.hid ((hF4 : FrameAt w4 fb (unw F s)).set_slot (show s < 64 by omega) tg true)
      have hO5 := only_slot (hO.then hO4 (fun _ _ h => h)) rfl s tg true
      clear hF4
      go_wp2_with fail
      go_roundw
      case rel => exact ⟨1, by decide, by go_num, hO5, Lib.hid (by rw [if_neg (by decide), if_pos rfl]; exact hF5.out)⟩
      case measure => simp [intOf]
    · have hF0 := Lib.hid (by simpa using hFk.out : FrameAt wr fb (slotSet (unw F s) s tg true))
      have hs64 : (s : Int) + 1 < 64 := by omega
      clear hFk
      go_wp2_with fail
      rw [show (s : Int) + 1 = ((s + 1 : Nat) : Int) by omega]
      refine (f62_ok wr hF0 (show s + 1 < 64 by omega)).mono ?_; rintro e w4 ⟨rfl, hO4, hF4⟩
      obtain ⟨c0, c1, c2, c3, c4, c5, c6⟩ := (hF4 : FrameAt w4 fb (unw (slotSet (unw F s) s tg true) (s + 1))).slot7 (show s + 1 < 64 by omega)
      have z0 := hF4.thaw (1025 + (s + 1) * 7)
      have z1 := hF4.thaw (1025 + (s + 1) * 7 + 1)
      have z2 := hF4.thaw (1025 + (s + 1) * 7 + 2)
      have z3 := hF4.thaw (1025 + (s + 1) * 7 + 3)
      have z4 := hF4.thaw (1025 + (s + 1) * 7 + 4)
      have z5 := hF4.thaw (1025 + (s + 1) * 7 + 5)
      have z6 := hF4.thaw (1025 + (s + 1) * 7 + 6)
      have hF5 : Hid (FrameAt _ fb (marked F s tg)) := Lib.hid ((hF4 : FrameAt w4 fb (unw (slotSet (unw F s) s tg true) (s + 1))).set_slot (show s + 1 < 64 by omega) tg false)
      have hO5 := only_slot (hO.then hO4 (fun _ _ h => h)) rfl (s + 1) tg false
      clear hF4
      have e1 : ((s + 1 : Nat) : Int) < 64 := by omega
      go_wp2_with fail
      go_roundw
      case rel => exact ⟨2, by decide, by go_num, hO5, Lib.hid (by rw [if_neg (by decide), if_neg (by decide)]; exact hF5.out)⟩
      case measure => simp [intOf]
    · have hF0 := Lib.hid (by simpa using hFk.out : FrameAt wr fb (marked F s tg))
      clear hFk
      go_wp2_with fail
      go_ret
      exact ⟨rfl, hO, hF0.out, M.out.keep hO (fun k hk => ⟨121, by simp, hk ▸ hF.out.kind⟩)⟩
set_option maxRecDepth 100000 in
set_option maxHeartbeats 2000000 in
theorem f48_trap {B : Nat} {w : World} {mb : Nat} {v : Value} {l : List (Bool × Nat)} (M : Hid (MemRow B w mb v l)) {i : Int} {j : Nat} (hij : Hid (i = j + 1)) {fb : Nat} {F : FS} (hF : Hid (FrameAt w fb F)) (hx : Hid (l[j]? = some (true, fb))) {off : Int} {s : Nat} (ho : Hid (off = (8 * s : Nat) - 512)) (hs : Hid (s + 2 ≤ 64)) (nv : Int) (ht : Hid (F.beg s = false)) :
    Calls Try.prog 48 #[.pointer (some ⟨mb, 0, none⟩), .agg #[.int .i64 2, .int .u64 nv, .int .i64 i, .int .i64 off]] w fun e w' => e = .returned (.int .i64 14) ∧ Below w.heap.size w w' := by
  have hb0 : Below w.heap.size w (w.alloc (.cells #[.int .i64 2, .int .u64 nv, .int .i64 i, .int .i64 off] 63)) := Below.one _
  go_enter Try.func48, Try.ntmps48
  go_wp2_with fail
  refine (f47_ok (Lib.hid (M.out.below hb0)) hij (Lib.hid (hF.out.below.out _ hb0)) hx ho hs nv ht).mono ?_; rintro e w1 ⟨rfl, h1⟩
  simp only [Bool.false_eq_true, if_false]
  go_wp2_with fail
  go_ret
  exact ⟨rfl, below_then hb0 h1⟩
set_option maxRecDepth 100000 in
set_option maxHeartbeats 2000000 in
theorem f48_ok {B : Nat} {w : World} {mb : Nat} {v : Value} {l : List (Bool × Nat)} (M : Hid (MemRow B w mb v l)) {i : Int} {j : Nat} (hij : Hid (i = j + 1)) {fb : Nat} {F : FS} (hF : Hid (FrameAt w fb F)) (hx : Hid (l[j]? = some (true, fb))) {off : Int} {s : Nat} (ho : Hid (off = (8 * s : Nat) - 512)) (hs : Hid (s + 2 ≤ 64)) (nv : Int) (ht : Hid (F.beg s = true)) :
    Calls Try.prog 48 #[.pointer (some ⟨mb, 0, none⟩), .agg #[.int .i64 2, .int .u64 nv, .int .i64 i, .int .i64 off]] w fun e w' => e = .returned (.int .i64 0) ∧ Only (· = fb) w w' ∧ FrameAt w' fb (cleared F s) ∧ MemRow B w' mb v l := by
  have hss := hs.out
  have hs64 : (s : Int) < 64 := by omega
  have hs65 : ((s : Int) + 1) < 64 := by omega
  have e2 : IntKind.i64.wrap ((s : Int) + 1) = (s : Int) + 1 := by rw [IntKind.wrap_i64]; omega
  have hb0 : Below w.heap.size w (w.alloc (.cells #[.int .i64 2, .int .u64 nv, .int .i64 i, .int .i64 off] 63)) := Below.one _
  have hbx := boxed_below (w := w) (v0 := .int .i64 2) (v1 := .int .u64 nv) (v2 := .int .i64 i) (v3 := .int .i64 off)
  go_enter Try.func48, Try.ntmps48
  go_wp2_with fail
  refine (f47_ok (Lib.hid (M.out.below hb0)) hij (Lib.hid (hF.out.below.out _ hb0)) hx ho hs nv ht).mono ?_; rintro e w1 ⟨rfl, h1⟩
  simp only [if_true]
  have hb1 := below_then hb0 h1
  obtain ⟨p0, p1, p2, p3⟩ := hbx.out w1 (below_succ h1)
  go_wp2_with fail
  refine (f61_ok (Lib.hid (M.out.below hb1)) hij (Lib.hid (hF.out.below.out _ hb1)) hx ho hs nv).mono ?_; rintro e w2 ⟨rfl, h2⟩
  clear p0 p1 p2 p3
  have hb2 := below_then hb1 h2
  have hF2 := Lib.hid (hF.out.below.out _ hb2)
  go_wp2_with fail
  refine Reg.start (S := (fun _ => True)) (B := (fun _ => false)) (by kernel_rfl) ?_
  have HD : FrameAt w2.drew fb F := hF2.out.only ((Only.refl (fun _ => False) _).drew) (fun h => h)
  have O0 : Only (· = fb) w w2.drew := (Only.of_below hb2).drew
  revert HD O0
  generalize w2.drew = W0
  intro HD O0
  obtain ⟨c0, c1, c2, c3, c4, c5, c6⟩ := HD.slot7 (show s < 64 by omega)
  have z0 := HD.thaw (1025 + s * 7)
  have z1 := HD.thaw (1025 + s * 7 + 1)
  have z2 := HD.thaw (1025 + s * 7 + 2)
  have z3 := HD.thaw (1025 + s * 7 + 3)
  have z4 := HD.thaw (1025 + s * 7 + 4)
  have z5 := HD.thaw (1025 + s * 7 + 5)
  have z6 := HD.thaw (1025 + s * 7 + 6)
  refine Reg.take0 (i := 0) (v := ?_) rfl (by kernel_rfl) (by kernel_rfl) (by kernel_rfl) (by kernel_rfl) (fun _ _ _ h => h) (Or.inl ⟨by rfl, ?_⟩) ?_
  rotate_left
  · (intro w _; go_simp; try with_reducible rfl)
  try simp only [Act.put, List.setIfInBounds_toArray, List.set_cons_zero, List.set_cons_succ]
  refine Reg.take0 (i := 1) (v := ?_) rfl (by kernel_rfl) (by kernel_rfl) (by kernel_rfl) (by kernel_rfl) (fun _ _ _ h => h) (Or.inl ⟨by rfl, ?_⟩) ?_
  rotate_left
  · (intro w _; go_simp; try with_reducible rfl)
  try simp only [Act.put, List.setIfInBounds_toArray, List.set_cons_zero, List.set_cons_succ]
  refine Reg.take0 (i := 2) (v := ?_) rfl (by kernel_rfl) (by kernel_rfl) (by kernel_rfl) (by kernel_rfl) (fun _ _ _ h => h) (Or.inl ⟨by rfl, ?_⟩) ?_
  rotate_left
  · (intro w _; go_simp; try with_reducible rfl)
  try simp only [Act.put, List.setIfInBounds_toArray, List.set_cons_zero, List.set_cons_succ]
  refine Reg.take0 (i := 3) (v := ?_) rfl (by kernel_rfl) (by kernel_rfl) (by kernel_rfl) (by kernel_rfl) (fun _ _ _ h => h) (Or.inl ⟨by rfl, ?_⟩) ?_
  rotate_left
  · (intro w _; go_simp; try with_reducible rfl)
  try simp only [Act.put, List.setIfInBounds_toArray, List.set_cons_zero, List.set_cons_succ]
  refine Reg.take0 (i := 4) (v := .int .i64 ((s + 1 : Nat) : Int)) rfl (by kernel_rfl) (by kernel_rfl) (by kernel_rfl) (by kernel_rfl) (fun _ _ _ h => h) (Or.inl ⟨by rfl, ?_⟩) ?_
  · (intro w _; go_simp; try omega; try with_reducible rfl)
  try simp only [Act.put, List.setIfInBounds_toArray, List.set_cons_zero, List.set_cons_succ]
  refine Reg.take0 (i := 5) (v := .agg #[.int .i64 0, .int .u64 0, .int .i64 0, .int .i64 0, .bool false, .int .i64 0, .bool false]) rfl (by kernel_rfl) (by kernel_rfl) (by kernel_rfl) (by kernel_rfl) (fun _ _ _ h => h) (Or.inl ⟨by rfl, ?_⟩) ?_
  · (intro w _; go_simp; try with_reducible rfl)
  try simp only [Act.put, List.setIfInBounds_toArray, List.set_cons_zero, List.set_cons_succ]
  refine Reg.take0 (i := 6) (v := .agg #[.int .i64 0, .int .u64 0, .int .i64 0, .int .i64 0, .bool false, .int .i64 0, .bool false]) rfl (by kernel_rfl) (by kernel_rfl) (by kernel_rfl) (by kernel_rfl) (fun _ _ _ h => h) (Or.inl ⟨by rfl, ?_⟩) ?_
  · (intro w _; go_simp; try with_reducible rfl)
  try simp only [Act.put, List.setIfInBounds_toArray, List.set_cons_zero, List.set_cons_succ]
  refine Reg.take0 (i := 7) (v := ?_) rfl (by kernel_rfl) (by kernel_rfl) (by kernel_rfl) (by kernel_rfl) (fun _ _ _ h => h) (Or.inl ⟨by rfl, ?_⟩) ?_
  rotate_left
  · (intro w _; go_simp; try with_reducible rfl)
  try simp only [Act.put, List.setIfInBounds_toArray, List.set_cons_zero, List.set_cons_succ]
  refine Reg.take0 (i := 8) (v := ?_) rfl (by kernel_rfl) (by kernel_rfl) (by kernel_rfl) (by kernel_rfl) (fun _ _ _ h => h) (Or.inl ⟨by rfl, ?_⟩) ?_
  rotate_left
  · (intro w _; go_simp; try with_reducible rfl)
  try simp only [Act.put, List.setIfInBounds_toArray, List.set_cons_zero, List.set_cons_succ]
  refine Reg.take0 (i := 9) (v := .pointer (some ⟨fb, 1025 + s * 7, none⟩)) rfl (by kernel_rfl) (by kernel_rfl) (by kernel_rfl) (by kernel_rfl) (fun _ _ _ h => h) (Or.inl ⟨by rfl, ?_⟩) ?_
  · (intro w _; go_simp; try with_reducible rfl)
  try simp only [Act.put, List.setIfInBounds_toArray, List.set_cons_zero, List.set_cons_succ]
  refine Reg.take0 (i := 11) (v := ?_) rfl (by kernel_rfl) (by kernel_rfl) (by kernel_rfl) (by kernel_rfl) (fun _ _ _ h => h) (Or.inl ⟨by rfl, ?_⟩) ?_
  rotate_left
  · (intro w _; go_simp; try with_reducible rfl)
  try simp only [Act.put, List.setIfInBounds_toArray, List.set_cons_zero, List.set_cons_succ]
  refine Reg.take0 (i := 12) (v := ?_) rfl (by kernel_rfl) (by kernel_rfl) (by kernel_rfl) (by kernel_rfl) (fun _ _ _ h => h) (Or.inl ⟨by rfl, ?_⟩) ?_
  rotate_left
  · (intro w _; go_simp; try with_reducible rfl)
  try simp only [Act.put, List.setIfInBounds_toArray, List.set_cons_zero, List.set_cons_succ]
  have HF1 := Lib.hid (HD.set_slot (show s < 64 by omega) 0 false)
  have O1 := only_slot O0 rfl s 0 false
  clear HD
  refine Reg.only (i := 10) (by kernel_rfl) rfl (fun K hK => ?_)
  go_simp
  refine hK _ _ (fun _ _ => trivial) ?_
  clear hK K
  try simp only [Act.put, List.setIfInBounds_toArray, List.set_cons_zero, List.set_cons_succ]
  revert HF1 O1
  generalize (((((((W0.setCell ⟨fb, 1025 + s * 7, none⟩ (.int .i64 0)).setCell ⟨fb, 1025 + s * 7 + 1, none⟩ (.int .u64 0)).setCell ⟨fb, 1025 + s * 7 + 2, none⟩ (.int .i64 0)).setCell ⟨fb, 1025 + s * 7 + 3, none⟩ (.int .i64 0)).setCell ⟨fb, 1025 + s * 7 + 4, none⟩ (.bool false)).setCell ⟨fb, 1025 + s * 7 + 5, none⟩ (.int .i64 0)).setCell ⟨fb, 1025 + s * 7 + 6, none⟩ (.bool false)) = W1
  intro HF1 O1
  clear c0 c1 c2 c3 c4 c5 c6 z0 z1 z2 z3 z4 z5 z6
  obtain ⟨c0, c1, c2, c3, c4, c5, c6⟩ := HF1.out.slot7 (show s + 1 < 64 by omega)
  have z0 := HF1.out.thaw (1025 + (s + 1) * 7)
  have z1 := HF1.out.thaw (1025 + (s + 1) * 7 + 1)
  have z2 := HF1.out.thaw (1025 + (s + 1) * 7 + 2)
  have z3 := HF1.out.thaw (1025 + (s + 1) * 7 + 3)
  have z4 := HF1.out.thaw (1025 + (s + 1) * 7 + 4)
  have z5 := HF1.out.thaw (1025 + (s + 1) * 7 + 5)
  have z6 := HF1.out.thaw (1025 + (s + 1) * 7 + 6)
  have e3 : ((s + 1 : Nat) : Int) < 64 := by omega
  refine Reg.take0 (i := 13) (v := .pointer (some ⟨fb, 1025 + (s + 1) * 7, none⟩)) rfl (by kernel_rfl) (by kernel_rfl) (by kernel_rfl) (by kernel_rfl) (fun _ _ _ h => h) (Or.inl ⟨by rfl, ?_⟩) ?_
  · (intro w _; go_simp; try (intro hneg; exfalso; omega); try with_reducible rfl)
  try simp only [Act.put, List.setIfInBounds_toArray, List.set_cons_zero, List.set_cons_succ]
  have HF2 : Hid (FrameAt _ fb (cleared F s)) := Lib.hid (HF1.out.set_slot (show s + 1 < 64 by omega) 0 false)
  have O2 := only_slot O1 rfl (s + 1) 0 false
  refine Reg.only (i := 14) (by kernel_rfl) rfl (fun K hK => ?_)
  go_simp
  refine hK _ _ (fun _ _ => trivial) ?_
  clear hK K
  try simp only [Act.put, List.setIfInBounds_toArray, List.set_cons_zero, List.set_cons_succ]
  refine Reg.done (by kernel_rfl) ?_ _
  go_wp2_with fail
  go_ret
  exact ⟨rfl, O2, HF2.out, M.out.keep O2 (fun k hk => ⟨121, by simp, hk ▸ hF.out.kind⟩)⟩
end Go.Proofs.Ytmjeloinibembaa
