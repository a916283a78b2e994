/-
  THE WALKS of package region: a frame is written, loaded, stored into.
-/
import Derived.Test.YtmjeloinibembaaFrC
import Derived.Laws.IdiomCopy
namespace Go.Proofs.Ytmjeloinibembaa
open Go.RowKit
set_option linter.unusedVariables false
set_option linter.unusedSimpArgs false
theorem KindAt.setCells {b b' : Nat} {e : TypeId} : ∀ (vs : List Value) (o : Nat) (w : World), KindAt w b' e → KindAt (w.setCells b o vs) b' e
  | [], _, _, h => h
  | v :: r, o, w, h => KindAt.setCells r (o + 1) _ (h.setCell _ _)
theorem Only.setCells {S : Nat → Prop} {a : World} {b : Nat} (hb : b < a.heap.size → S b) : ∀ (vs : List Value) (o : Nat) (w : World), Only S a w → Only S a (w.setCells b o vs)
  | [], _, _, h => h
  | v :: r, o, w, h => Only.setCells hb r (o + 1) _ (h.setCell (p := ⟨b, o, none⟩) hb v)
theorem cells_out {w : World} {b o b' j : Nat} (vs : List Value) (h : b' ≠ b ∨ j < o ∨ o + vs.length ≤ j) : (w.setCells b o vs).cell? ⟨b', j, none⟩ = w.cell? ⟨b', j, none⟩ :=
  World.cell?_setCells_out b vs o w ⟨b', j, none⟩ (fun he _ => h.resolve_left (fun hn => hn he))
theorem FrameAt.set_bytes {w : World} {fb : Nat} {F : FS} (h : FrameAt w fb F) {o n : Nat} (ho : o + n ≤ 512) (g : Nat → Nat) (hg : ∀ i, i < n → g i < 256) :
    FrameAt (w.setCells fb (1 + o) (byteL g n)) fb { F with b := fun j => if o ≤ j ∧ j < o + n then g (j - o) else F.b j } := by
  have hl := byteL_length g n
  refine ⟨(by rw [cells_out _ (.inr (by omega))]; exact h.dead), (fun i hi => ?_), (fun i hi => by rw [cells_out _ (.inr (by omega))]; exact h.wr i hi), (fun i hi => by rw [cells_out _ (.inr (by omega))]; exact h.pk i hi), (fun i hi => by rw [cells_out _ (.inr (by omega))]; exact h.pn i hi), (fun i hi => by rw [cells_out _ (.inr (by omega))]; exact h.pi i hi), (fun i hi => by rw [cells_out _ (.inr (by omega))]; exact h.po i hi), (fun i hi => by rw [cells_out _ (.inr (by omega))]; exact h.has i hi), (fun i hi => by rw [cells_out _ (.inr (by omega))]; exact h.tag i hi), (fun i hi => by rw [cells_out _ (.inr (by omega))]; exact h.beg i hi), (fun j => by rw [World.frozen?_setCells]; exact h.thaw j), h.kind.setCells _ _ _, (fun i hi => ?_)⟩
  · by_cases hi2 : o ≤ i ∧ i < o + n
    · have h1 := World.cell?_setCells_in fb (byteL g n) (1 + o) w (fun j hj => by rw [Nat.add_assoc, h.b (o + j) (by omega)]; rfl) (i - o) (by omega)
      rw [show 1 + o + (i - o) = 1 + i by omega] at h1
      rw [h1]
      have h2 := byteL_at (f := g) (n := n) (j := i - o) (by omega)
      rw [List.getElem?_eq_getElem (by omega)] at h2
      rw [h2]
      simp only [if_pos hi2]
    · rw [cells_out _ (.inr (by omega)), h.b i hi]
      simp only [if_neg hi2]
  · by_cases hi2 : o ≤ i ∧ i < o + n
    · simp only [if_pos hi2]; exact hg _ (by omega)
    · simp only [if_neg hi2]; exact h.byte i hi
/-- no byte of a slot is written, and no pointer stands there. -/
def unw (F : FS) (i : Nat) : FS := { F with has := upd F.has i false, pk := upd F.pk i 0, pn := upd F.pn i 0, pi := upd F.pi i 0, po := upd F.po i 0, wr := fun j => if 8 * i ≤ j ∧ j < 8 * i + 8 then false else F.wr j }
/-- of k slots from a on those that held pointers hold none. -/
def wipe (F : FS) (a : Nat) : Nat → FS
  | 0 => F
  | k + 1 => if (wipe F a k).has (a + k) then unw (wipe F a k) (a + k) else wipe F a k
theorem wipe_has (F : FS) (a : Nat) : ∀ (k s : Nat), (wipe F a k).has s = if a ≤ s ∧ s < a + k then false else F.has s
  | 0, s => by rw [if_neg (by omega)]; rfl
  | k + 1, s => by
    have ih := wipe_has F a k
    by_cases hs : s = a + k
    · subst hs
      rw [if_pos (by omega)]
      simp only [wipe]
      split
      · simp [unw, upd]
      · rename_i h; simpa using h
    · have : (wipe F a (k + 1)).has s = (wipe F a k).has s := by
        simp only [wipe]
        split
        · simp [unw, upd, hs]
        · rfl
      rw [this, ih s]
      by_cases h2 : a ≤ s ∧ s < a + k
      · rw [if_pos h2, if_pos (by omega)]
      · rw [if_neg h2, if_neg (by omega)]
theorem wipe_wr (F : FS) (a : Nat) : ∀ (k j : Nat), (wipe F a k).wr j = if a ≤ j / 8 ∧ j / 8 < a + k ∧ F.has (j / 8) = true then false else F.wr j
  | 0, j => by rw [if_neg (by omega)]; rfl
  | k + 1, j => by
    have ih := wipe_wr F a k j
    have hh := wipe_has F a k (a + k)
    rw [if_neg (by omega)] at hh
    simp only [wipe, hh]
    by_cases hj : j / 8 = a + k
    · by_cases hF : F.has (a + k) = true
      · rw [if_pos hF, if_pos ⟨by omega, by omega, by rw [hj]; exact hF⟩]
        simp only [unw]
        rw [if_pos (by omega)]
      · rw [if_neg hF, ih, if_neg (by omega), if_neg (by rw [hj]; exact fun h => hF h.2.2)]
    · have h1 : (if F.has (a + k) = true then unw (wipe F a k) (a + k) else wipe F a k).wr j = (wipe F a k).wr j := by
        split
        · simp only [unw]; rw [if_neg (by omega)]
        · rfl
      rw [h1, ih]
      by_cases h2 : a ≤ j / 8 ∧ j / 8 < a + k ∧ F.has (j / 8) = true
      · rw [if_pos h2, if_pos ⟨h2.1, by omega, h2.2.2⟩]
      · rw [if_neg h2, if_neg (fun h => h2 ⟨h.1, by omega, h.2.2⟩)]
theorem wipe_b (F : FS) (a : Nat) : ∀ k, (wipe F a k).b = F.b
  | 0 => rfl
  | k + 1 => by simp only [wipe]; split <;> exact (wipe_b F a k)
theorem wipe_tag (F : FS) (a : Nat) : ∀ k, (wipe F a k).tag = F.tag
  | 0 => rfl
  | k + 1 => by simp only [wipe]; split <;> exact (wipe_tag F a k)
theorem wipe_beg (F : FS) (a : Nat) : ∀ k, (wipe F a k).beg = F.beg
  | 0 => rfl
  | k + 1 => by simp only [wipe]; split <;> exact (wipe_beg F a k)
theorem wipe_pk (F : FS) (a : Nat) : ∀ (k s : Nat), ¬ (a ≤ s ∧ s < a + k) → (wipe F a k).pk s = F.pk s
  | 0, s, _ => rfl
  | k + 1, s, h => by
    have ih := wipe_pk F a k s (by omega)
    simp only [wipe]
    split
    · simp only [unw]; rw [upd_ne _ _ (by omega)]; exact ih
    · exact ih
theorem wipe_pn (F : FS) (a : Nat) : ∀ (k s : Nat), ¬ (a ≤ s ∧ s < a + k) → (wipe F a k).pn s = F.pn s
  | 0, s, _ => rfl
  | k + 1, s, h => by
    have ih := wipe_pn F a k s (by omega)
    simp only [wipe]
    split
    · simp only [unw]; rw [upd_ne _ _ (by omega)]; exact ih
    · exact ih
theorem wipe_pi (F : FS) (a : Nat) : ∀ (k s : Nat), ¬ (a ≤ s ∧ s < a + k) → (wipe F a k).pi s = F.pi s
  | 0, s, _ => rfl
  | k + 1, s, h => by
    have ih := wipe_pi F a k s (by omega)
    simp only [wipe]
    split
    · simp only [unw]; rw [upd_ne _ _ (by omega)]; exact ih
    · exact ih
theorem wipe_po (F : FS) (a : Nat) : ∀ (k s : Nat), ¬ (a ≤ s ∧ s < a + k) → (wipe F a k).po s = F.po s
  | 0, s, _ => rfl
  | k + 1, s, h => by
    have ih := wipe_po F a k s (by omega)
    simp only [wipe]
    split
    · simp only [unw]; rw [upd_ne _ _ (by omega)]; exact ih
    · exact ih
/-- what a write makes of a frame. -/
def wrote (F : FS) (o n : Nat) (g : Nat → Nat) : FS :=
  { wipe F (o / 8) ((o + n - 1) / 8 + 1 - o / 8) with b := fun j => if o ≤ j ∧ j < o + n then g (j - o) else F.b j, wr := fun j => if o ≤ j ∧ j < o + n then true else (wipe F (o / 8) ((o + n - 1) / 8 + 1 - o / 8)).wr j }
set_option maxRecDepth 100000 in
set_option maxHeartbeats 4000000 in
theorem f103_ok (w : World) {fb : Nat} {F : FS} (hF : Hid (FrameAt w fb F)) {o n bb c : Nat} (hn : Hid (0 < n)) (ho : Hid (o + n ≤ 512)) {g : Nat → Nat} (hg : Hid (∀ i, i < n → g i < 256)) (hb : Hid (Bts w bb 0 n g)) (hbb : Hid (bb ≠ fb)) :
    Calls Try.prog 103 #[.pointer (some ⟨fb, 0, none⟩), .int .i64 o, .slice (some ⟨bb, 0, none⟩) n c] w fun e w' => e = .returned (.tuple #[]) ∧ Only (· = fb) w w' ∧ FrameAt w' fb (wrote F o n g) := by
  have hnn := hn.out
  have hoo := ho.out
  have hn0 : ((n : Int) == 0) = false := by simp; omega
  obtain ⟨a, ha⟩ : ∃ a, Hid (o / 8 = a) := ⟨_, Lib.hid rfl⟩
  obtain ⟨q, hq⟩ : ∃ q, Hid ((o + n - 1) / 8 = q) := ⟨_, Lib.hid rfl⟩
  obtain ⟨m, hm⟩ : ∃ m, Hid ((o + n - 1) / 8 + 1 - o / 8 = m) := ⟨_, Lib.hid rfl⟩
  have hAM : Hid (a + m = q + 1 ∧ a ≤ q ∧ q < 64) := Lib.hid (by have := ha.out; have := hm.out; have := hq.out; omega)
  have e1 : ((o : Int) / 8) = (a : Int) := by rw [← ha.out]; omega
  have e2 : ((o : Int) + n - 1) / 8 = (q : Int) := by rw [← hq.out]; omega
  have hgoal : Hid (wrote F o n g = { wipe F a m with b := fun j => if o ≤ j ∧ j < o + n then g (j - o) else F.b j, wr := fun j => if o ≤ j ∧ j < o + n then true else (wipe F a m).wr j }) := Lib.hid (by unfold wrote; rw [hm.out, ha.out])
  have hno : o + n ≤ 512 := ho.out
  go_enter Try.func103, Try.ntmps103
  go_wp2_with fail
  go_loopw [6] (fun v wr => ∃ s : Nat, a ≤ s ∧ s ≤ q + 1 ∧ v = .int .i64 s ∧ Only (· = fb) w wr ∧ Hid (FrameAt wr fb (wipe F a (s - a)))) (fun v _ => q + 1 - (intOf v).toNat)
  case atStart => exact ⟨a, Nat.le_refl _, by have := hAM.out; omega, rfl, Only.refl _ _, Lib.hid (by rw [Nat.sub_self]; exact hF.out)⟩
  case round =>
    obtain ⟨s, hs1, hs2, rfl, hO, hFk⟩ := hrel
    by_cases hlt : s ≤ q
    · have hsq : s < 64 := by have := hAM.out; omega
      have hsq2 : (s : Int) < 64 := by omega
      have hle : (s : Int) ≤ q := by omega
      have c4 := hFk.out.has s hsq
      have estep : Hid (wipe F a (s + 1 - a) = if (wipe F a (s - a)).has s then unw (wipe F a (s - a)) s else wipe F a (s - a)) := Lib.hid (by
        rw [show s + 1 - a = (s - a) + 1 by omega]
        simp only [wipe]
        rw [show a + (s - a) = s by omega])
      by_cases hh : (wipe F a (s - a)).has s = true
      · rw [hh] at c4
        have hh' := Lib.hid hh
        clear hh
        go_wp2_with fail
        refine (f62_ok wr hFk hsq).mono ?_; rintro e w2 ⟨rfl, hO2, hF2⟩
        have hF2' := Lib.hid hF2
        clear hF2
        go_wp2_with fail
        go_roundw
        case rel => exact ⟨s + 1, by omega, by omega, by go_num, hO.then hO2 (fun _ _ h => h), Lib.hid (by rw [estep.out, hh'.out]; exact hF2'.out)⟩
        case measure => simp [intOf]; omega
      · have hh2 : (wipe F a (s - a)).has s = false := by simpa using hh
        rw [hh2] at c4
        have hh' := Lib.hid hh2
        clear hh hh2
        go_wp2_with fail
        go_roundw
        case rel => exact ⟨s + 1, by omega, by omega, by go_num, hO, Lib.hid (by rw [estep.out, hh'.out]; exact hFk.out)⟩
        case measure => simp [intOf]; omega
    · have hlast : s = q + 1 := by omega
      subst hlast
      have hFm : FrameAt wr fb (wipe F a m) := by
        have h1 := hFk.out
        rw [show q + 1 - a = m by have := hAM.out; omega] at h1
        exact h1
      have hle : ¬ ((q : Int) + 1 ≤ q) := by omega
      have hbw : Bts wr bb 0 n g := fun i hi => by
        have h1 := hb.out i hi
        rw [hO.cell (p := ⟨bb, 0 + i, none⟩) (World.block_lt_of_cell? _ _ h1) hbb.out]; exact h1
      have hsl : ∀ w, (Instr.sliceAt 115 (.pointer (some ⟨fb, 1, none⟩)) (some (.int .i64 (o : Int))) none none).run Try.prog w = .ok (.slice (some ⟨fb, 1 + o, none⟩) (512 - o) (512 - o)) w := fun w => slice_bytes_from w fb o rfl (by have := hn.out; omega)
      have hcp : ∀ ty, (Builtin.copy_ #[30, 30] ty #[.slice (some ⟨fb, 1 + o, none⟩) (512 - o) (512 - o), .slice (some ⟨bb, 0, none⟩) n c]).run Try.prog wr = .ok (goInt n) (wr.setCells fb (1 + o) (byteL g n)) := fun ty => by
        have h1 := run_copy_cells (P := Try.prog) wr 30 30 ty 5 fb (1 + o) (512 - o) (512 - o) ⟨bb, 0, none⟩ n c (byteL g n) Try.underlying30 (by rw [info5]; rfl) (by rw [byteL_length]; exact (Nat.min_eq_left (by omega)).symm)
          (fun j v hv => by obtain ⟨hj, rfl⟩ := byteL_some hv; rw [addr_add]; exact hbw j hj) (fun j hj => by rw [byteL_length] at hj; rw [Nat.add_assoc, hFm.b (o + j) (by omega)]; rfl) (fun j hj => hFm.thaw _) byteL_one
        rw [byteL_length] at h1
        exact h1
      have hFb := Lib.hid (hFm.set_bytes hno g hg.out)
      have hOb := Only.setCells (S := (· = fb)) (b := fb) (fun _ => rfl) (byteL g n) (1 + o) wr hO
      clear hFm hbw hFk
      go_wp2_with fail
      go_loopw [42] (fun v w4 => ∃ k : Nat, k ≤ n ∧ v = .int .i64 k ∧ Only (· = fb) w w4 ∧ Hid (FrameAt w4 fb { wipe F a m with b := fun j => if o ≤ j ∧ j < o + n then g (j - o) else F.b j, wr := fun j => if o ≤ j ∧ j < o + k then true else (wipe F a m).wr j })) (fun v _ => n - (intOf v).toNat)
      case atStart =>
        refine ⟨0, Nat.zero_le _, rfl, hOb, Lib.hid ?_⟩
        have e : (fun j => if o ≤ j ∧ j < o + 0 then true else (wipe F a m).wr j) = (wipe F a m).wr := funext fun j => if_neg (by omega)
        rw [e]
        have h1 := hFb.out
        rw [wipe_b] at h1
        exact h1
      case round =>
        obtain ⟨k, hk, rfl, hO4, hF4⟩ := hrel
        by_cases hlt4 : k < n
        · have c0 := hF4.out.wr (o + k) (by omega)
          have z0 := hF4.out.thaw (513 + (o + k))
          have hF5 := Lib.hid (hF4.out.set_wr (k := o + k) (by omega) true)
          go_wp2_with fail
          go_roundw
          case rel =>
            refine ⟨k + 1, by omega, by go_num, hO4.setCell (fun _ => rfl) _, Lib.hid ?_⟩
            have e : (fun j => if o ≤ j ∧ j < o + (k + 1) then true else (wipe F a m).wr j) = upd (fun j => if o ≤ j ∧ j < o + k then true else (wipe F a m).wr j) (o + k) true := funext fun j => by
              by_cases hj : j = o + k
              · subst hj; rw [upd_same, if_pos (by omega)]
              · rw [upd_ne _ _ hj]
                by_cases hj2 : o ≤ j ∧ j < o + k
                · rw [if_pos hj2, if_pos (by omega)]
                · rw [if_neg hj2, if_neg (by omega)]
            rw [e]; exact hF5.out
          case measure => simp [intOf]; omega
        · have : k = n := by omega
          subst this
          go_wp2_with fail
          go_returns
          exact ⟨rfl, hO4, by rw [hgoal.out]; exact hF4.out⟩
theorem res_below {w : World} : Hid (∀ w', Below (w.heap.size + 1) (w.alloc (.cells #[.int .i64 0, .int .u64 0, .int .i64 0, .int .i64 0] 63)) w' →
    w'.cell? ⟨w.heap.size, 0, none⟩ = some (.int .i64 0) ∧ w'.cell? ⟨w.heap.size, 1, none⟩ = some (.int .u64 0) ∧ w'.cell? ⟨w.heap.size, 2, none⟩ = some (.int .i64 0) ∧ w'.cell? ⟨w.heap.size, 3, none⟩ = some (.int .i64 0) ∧ Thaw w' w.heap.size) :=
  Lib.hid fun w' hb => by
    refine ⟨?_, ?_, ?_, ?_, fun j => ?_⟩
    · rw [hb.cell (by simp), World.cell?_alloc_at _ _ _ _ rfl]; rfl
    · rw [hb.cell (by simp), World.cell?_alloc_at _ _ _ _ rfl]; rfl
    · rw [hb.cell (by simp), World.cell?_alloc_at _ _ _ _ rfl]; rfl
    · rw [hb.cell (by simp), World.cell?_alloc_at _ _ _ _ rfl]; rfl
    · rw [hb.frozen (by simp)]; simp
set_option maxRecDepth 100000 in
set_option maxHeartbeats 2000000 in
theorem f98_ptr (w : World) {fb : Nat} {F : FS} (hF : Hid (FrameAt w fb F)) {o : Nat} (ho : Hid (o + 8 ≤ 512)) (h8 : Hid (o % 8 = 0)) (ht : Hid (F.tag (o / 8) = 0)) (hh : Hid (F.has (o / 8) = true)) :
    Calls Try.prog 98 #[.pointer (some ⟨fb, 0, none⟩), .int .i64 o, .int .i64 8] w fun e w' => e = .returned (.tuple #[.agg #[.int .i64 (F.pk (o / 8)), .int .u64 (F.pn (o / 8)), .int .i64 (F.pi (o / 8)), .int .i64 (F.po (o / 8))], .int .i64 0]) ∧ Below w.heap.size w w' := by
  obtain ⟨a, ha⟩ : ∃ a, Hid (o / 8 = a) := ⟨_, Lib.hid rfl⟩
  have ht' := ht.out
  have hh' := hh.out
  rw [ha.out] at ht' hh' ⊢
  have ha64 : a < 64 := by have := ha.out; have := ho.out; omega
  have ha64' : (a : Int) < 64 := by omega
  have e1 : ((o : Int) / 8) = (a : Int) := by rw [← ha.out]; omega
  have e2 : ((o : Int) % 8) = 0 := by have := h8.out; omega
  have hA : ∀ ob, FrameAt (w.alloc ob) fb F := fun ob => hF.out.below.out _ (Below.one ob)
  have hA0 := Lib.hid (hA (.cells #[.int .i64 0, .int .u64 0, .int .i64 0, .int .i64 0] 63))
  clear hA
  have c0 := hA0.out.pk a ha64
  have c1 := hA0.out.pn a ha64
  have c2 := hA0.out.pi a ha64
  have c3 := hA0.out.po a ha64
  have c4 := hA0.out.has a ha64
  have c5 := hA0.out.tag a ha64
  have c6 := hA0.out.beg a ha64
  rw [hh'] at c4
  rw [ht'] at c5
  clear ht' hh'
  go_enter Try.func98, Try.ntmps98
  go_wp2_with fail
  go_returns
  exact ⟨rfl, ((Below.refl _ _).alloc (Nat.le_refl _) _).alloc (by simp) _⟩
theorem res2_below {w : World} {o : Obj} : Hid (∀ w', Below (w.heap.size + 2) ((w.alloc (.cells #[.int .i64 0, .int .u64 0, .int .i64 0, .int .i64 0] 63)).alloc o) w' →
    w'.cell? ⟨w.heap.size, 0, none⟩ = some (.int .i64 0) ∧ w'.cell? ⟨w.heap.size, 1, none⟩ = some (.int .u64 0) ∧ w'.cell? ⟨w.heap.size, 2, none⟩ = some (.int .i64 0) ∧ w'.cell? ⟨w.heap.size, 3, none⟩ = some (.int .i64 0) ∧ Thaw w' w.heap.size) :=
  Lib.hid fun w' hb => by
    refine ⟨?_, ?_, ?_, ?_, fun j => ?_⟩
    · rw [hb.cell (by simp), World.cell?_alloc_old _ _ _ (by simp), World.cell?_alloc_at _ _ _ _ rfl]; rfl
    · rw [hb.cell (by simp), World.cell?_alloc_old _ _ _ (by simp), World.cell?_alloc_at _ _ _ _ rfl]; rfl
    · rw [hb.cell (by simp), World.cell?_alloc_old _ _ _ (by simp), World.cell?_alloc_at _ _ _ _ rfl]; rfl
    · rw [hb.cell (by simp), World.cell?_alloc_old _ _ _ (by simp), World.cell?_alloc_at _ _ _ _ rfl]; rfl
    · rw [hb.frozen (by simp), World.frozen?_alloc_old _ _ _ (by simp)]; simp
set_option maxRecDepth 100000 in
set_option maxHeartbeats 4000000 in
theorem f98_trap1 (w : World) {fb : Nat} {F : FS} (hF : Hid (FrameAt w fb F)) {o n : Nat} (hn : Hid (0 < n ∧ n ≤ 8)) (ho : Hid (o + n ≤ 512)) (hc : Hid (n ≠ 8)) {tr : Int} (hr : Hid (readT F o n = tr)) (htr : (tr == 0) = false) :
    Calls Try.prog 98 #[.pointer (some ⟨fb, 0, none⟩), .int .i64 o, .int .i64 n] w fun e w' => e = .returned (.tuple #[.agg #[.int .i64 0, .int .u64 0, .int .i64 0, .int .i64 0], .int .i64 tr]) ∧ Below w.heap.size w w' := by
  obtain ⟨a, ha⟩ : ∃ a, Hid (o / 8 = a) := ⟨_, Lib.hid rfl⟩
  have hn8 : ((n : Int) == 8) = false := by have := hc.out; simp; omega
  have ha64 : a < 64 := by have := ha.out; have := ho.out; have := hn.out; omega
  have ha64' : (a : Int) < 64 := by omega
  have e1 : ((o : Int) / 8) = (a : Int) := by rw [← ha.out]; omega
  have hA0 := Lib.hid (hF.out.below.out _ (Below.one (.cells #[.int .i64 0, .int .u64 0, .int .i64 0, .int .i64 0] 63)))
  have c0 := hA0.out.pk a ha64
  have c1 := hA0.out.pn a ha64
  have c2 := hA0.out.pi a ha64
  have c3 := hA0.out.po a ha64
  have c4 := hA0.out.has a ha64
  have c5 := hA0.out.tag a ha64
  have c6 := hA0.out.beg a ha64
  go_enter Try.func98, Try.ntmps98
  go_wp2_with fail
  have hb0 : Below w.heap.size w ((w.alloc (.cells #[.int .i64 0, .int .u64 0, .int .i64 0, .int .i64 0] 63)).alloc (.cells #[.int .i64 (F.pk a), .int .u64 (F.pn a), .int .i64 (F.pi a), .int .i64 (F.po a), .bool (F.has a), .int .i64 (F.tag a), .bool (F.beg a)] 118)) := ((Below.refl _ _).alloc (Nat.le_refl _) _).alloc (by simp) _
  refine (f99_ok _ (Lib.hid (hF.out.below.out _ hb0)) (Lib.hid hn.out.1) ho).mono ?_; rintro e w1 ⟨rfl, h1⟩
  have hb1 := below_then hb0 h1
  have hbR : Below (w.heap.size + 2) _ w1 := h1.mono (by simp)
  clear c0 c1 c2 c3 c4 c5 c6
  rw [hr.out]
  obtain ⟨c0, c1, c2, c3, hz⟩ := res2_below.out w1 hbR
  have hz0 := hz 0
  have hz1 := hz 1
  have hz2 := hz 2
  have hz3 := hz 3
  clear hz
  obtain ⟨g0, g1, g2, g3⟩ := four_back c0 c1 c2 c3 (.int .i64 0) (.int .u64 0) (.int .i64 0) (.int .i64 0)
  go_wp2_with fail
  refine bodyPost_ret (v := .tuple #[.agg #[.int .i64 0, .int .u64 0, .int .i64 0, .int .i64 0], .int .i64 tr]) (by simp [results, Try.results98, go_sem, g0, g1, g2, g3]) rfl ?_
  exact ⟨rfl, four_below hb1 (Nat.le_refl _) _ _ _ _⟩
set_option maxRecDepth 100000 in
set_option maxHeartbeats 4000000 in
theorem f98_num1 (w : World) {fb : Nat} {F : FS} (hF : Hid (FrameAt w fb F)) {o n : Nat} (hn : Hid (0 < n ∧ n ≤ 8)) (ho : Hid (o + n ≤ 512)) (hc : Hid (n ≠ 8)) (hr : Hid (readT F o n = 0)) :
    Calls Try.prog 98 #[.pointer (some ⟨fb, 0, none⟩), .int .i64 o, .int .i64 n] w fun e w' => e = .returned (.tuple #[.agg #[.int .i64 1, .int .u64 (numB (fun i => F.b (o + i)) n : Nat), .int .i64 0, .int .i64 0], .int .i64 0]) ∧ Below w.heap.size w w' := by
  obtain ⟨a, ha⟩ : ∃ a, Hid (o / 8 = a) := ⟨_, Lib.hid rfl⟩
  have hn8 : ((n : Int) == 8) = false := by have := hc.out; simp; omega
  have ha64 : a < 64 := by have := ha.out; have := ho.out; have := hn.out; omega
  have ha64' : (a : Int) < 64 := by omega
  have e1 : ((o : Int) / 8) = (a : Int) := by rw [← ha.out]; omega
  have hA0 := Lib.hid (hF.out.below.out _ (Below.one (.cells #[.int .i64 0, .int .u64 0, .int .i64 0, .int .i64 0] 63)))
  have c0 := hA0.out.pk a ha64
  have c1 := hA0.out.pn a ha64
  have c2 := hA0.out.pi a ha64
  have c3 := hA0.out.po a ha64
  have c4 := hA0.out.has a ha64
  have c5 := hA0.out.tag a ha64
  have c6 := hA0.out.beg a ha64
  go_enter Try.func98, Try.ntmps98
  go_wp2_with fail
  have hb0 : Below w.heap.size w ((w.alloc (.cells #[.int .i64 0, .int .u64 0, .int .i64 0, .int .i64 0] 63)).alloc (.cells #[.int .i64 (F.pk a), .int .u64 (F.pn a), .int .i64 (F.pi a), .int .i64 (F.po a), .bool (F.has a), .int .i64 (F.tag a), .bool (F.beg a)] 118)) := ((Below.refl _ _).alloc (Nat.le_refl _) _).alloc (by simp) _
  refine (f99_ok _ (Lib.hid (hF.out.below.out _ hb0)) (Lib.hid hn.out.1) ho).mono ?_; rintro e w1 ⟨rfl, h1⟩
  have hb1 := below_then hb0 h1
  have hbR : Below (w.heap.size + 2) _ w1 := h1.mono (by simp)
  clear c0 c1 c2 c3 c4 c5 c6
  rw [hr.out]
  have hno := ho.out
  have hsl : ∀ w, (Instr.sliceAt 115 (.pointer (some ⟨fb, 1, none⟩)) (some (.int .i64 (o : Int))) (some (.int .i64 ((o : Int) + n))) none).run Try.prog w = .ok (.slice (some ⟨fb, 1 + o, none⟩) n (512 - o)) w := fun w => by
    have h1 := slice_bytes w fb o (o + n) (l := o) (h := (o : Int) + n) rfl (by omega) (by have := hn.out; omega) ho.out
    rw [h1, show o + n - o = n by omega]
  have hF1 := Lib.hid (hF.out.below.out w1 hb1)
  go_wp2_with fail
  refine (f91_ok w1 fb (1 + o) n _ (fun i => F.b (o + i)) hn.out.2 (fun i hi => hF1.out.byte _ (by omega)) (fun i hi => by rw [Nat.add_assoc]; exact hF1.out.b (o + i) (by omega))).mono ?_; rintro e w' ⟨rfl, rfl⟩
  obtain ⟨c0, c1, c2, c3, hz⟩ := res2_below.out w1 hbR
  have hz0 := hz 0
  have hz1 := hz 1
  have hz2 := hz 2
  have hz3 := hz 3
  clear hz
  obtain ⟨g0, g1, g2, g3⟩ := four_back c0 c1 c2 c3 (.int .i64 1) (.int .u64 (numB (fun i => F.b (o + i)) n : Nat)) (.int .i64 0) (.int .i64 0)
  go_wp2_with fail
  refine bodyPost_ret (v := .tuple #[.agg #[.int .i64 1, .int .u64 (numB (fun i => F.b (o + i)) n : Nat), .int .i64 0, .int .i64 0], .int .i64 0]) (by simp [results, Try.results98, go_sem, g0, g1, g2, g3]) rfl ?_
  exact ⟨rfl, four_below hb1 (Nat.le_refl _) _ _ _ _⟩
set_option maxRecDepth 100000 in
set_option maxHeartbeats 4000000 in
theorem f98_trap2 (w : World) {fb : Nat} {F : FS} (hF : Hid (FrameAt w fb F)) {o n : Nat} (hn : Hid (0 < n ∧ n ≤ 8)) (ho : Hid (o + n ≤ 512)) (hc : Hid (n = 8 ∧ o % 8 ≠ 0)) {tr : Int} (hr : Hid (readT F o n = tr)) (htr : (tr == 0) = false) :
    Calls Try.prog 98 #[.pointer (some ⟨fb, 0, none⟩), .int .i64 o, .int .i64 n] w fun e w' => e = .returned (.tuple #[.agg #[.int .i64 0, .int .u64 0, .int .i64 0, .int .i64 0], .int .i64 tr]) ∧ Below w.heap.size w w' := by
  obtain ⟨a, ha⟩ : ∃ a, Hid (o / 8 = a) := ⟨_, Lib.hid rfl⟩
  have hn8 : (8 : Nat) = n := hc.out.1.symm
  subst hn8
  have ho8 : ((o : Int) % 8 == 0) = false := by have := hc.out.2; simp; omega
  have ha64 : a < 64 := by have := ha.out; have := ho.out; have := hn.out; omega
  have ha64' : (a : Int) < 64 := by omega
  have e1 : ((o : Int) / 8) = (a : Int) := by rw [← ha.out]; omega
  have hA0 := Lib.hid (hF.out.below.out _ (Below.one (.cells #[.int .i64 0, .int .u64 0, .int .i64 0, .int .i64 0] 63)))
  have c0 := hA0.out.pk a ha64
  have c1 := hA0.out.pn a ha64
  have c2 := hA0.out.pi a ha64
  have c3 := hA0.out.po a ha64
  have c4 := hA0.out.has a ha64
  have c5 := hA0.out.tag a ha64
  have c6 := hA0.out.beg a ha64
  go_enter Try.func98, Try.ntmps98
  go_wp2_with fail
  have hb0 : Below w.heap.size w ((w.alloc (.cells #[.int .i64 0, .int .u64 0, .int .i64 0, .int .i64 0] 63)).alloc (.cells #[.int .i64 (F.pk a), .int .u64 (F.pn a), .int .i64 (F.pi a), .int .i64 (F.po a), .bool (F.has a), .int .i64 (F.tag a), .bool (F.beg a)] 118)) := ((Below.refl _ _).alloc (Nat.le_refl _) _).alloc (by simp) _
  refine (f99_ok _ (Lib.hid (hF.out.below.out _ hb0)) (Lib.hid hn.out.1) ho).mono ?_; rintro e w1 ⟨rfl, h1⟩
  have hb1 := below_then hb0 h1
  have hbR : Below (w.heap.size + 2) _ w1 := h1.mono (by simp)
  clear c0 c1 c2 c3 c4 c5 c6
  rw [hr.out]
  obtain ⟨c0, c1, c2, c3, hz⟩ := res2_below.out w1 hbR
  have hz0 := hz 0
  have hz1 := hz 1
  have hz2 := hz 2
  have hz3 := hz 3
  clear hz
  obtain ⟨g0, g1, g2, g3⟩ := four_back c0 c1 c2 c3 (.int .i64 0) (.int .u64 0) (.int .i64 0) (.int .i64 0)
  go_wp2_with fail
  refine bodyPost_ret (v := .tuple #[.agg #[.int .i64 0, .int .u64 0, .int .i64 0, .int .i64 0], .int .i64 tr]) (by simp [results, Try.results98, go_sem, g0, g1, g2, g3]) rfl ?_
  exact ⟨rfl, four_below hb1 (Nat.le_refl _) _ _ _ _⟩
set_option maxRecDepth 100000 in
set_option maxHeartbeats 4000000 in
theorem f98_num2 (w : World) {fb : Nat} {F : FS} (hF : Hid (FrameAt w fb F)) {o n : Nat} (hn : Hid (0 < n ∧ n ≤ 8)) (ho : Hid (o + n ≤ 512)) (hc : Hid (n = 8 ∧ o % 8 ≠ 0)) (hr : Hid (readT F o n = 0)) :
    Calls Try.prog 98 #[.pointer (some ⟨fb, 0, none⟩), .int .i64 o, .int .i64 n] w fun e w' => e = .returned (.tuple #[.agg #[.int .i64 1, .int .u64 (numB (fun i => F.b (o + i)) n : Nat), .int .i64 0, .int .i64 0], .int .i64 0]) ∧ Below w.heap.size w w' := by
  obtain ⟨a, ha⟩ : ∃ a, Hid (o / 8 = a) := ⟨_, Lib.hid rfl⟩
  have hn8 : (8 : Nat) = n := hc.out.1.symm
  subst hn8
  have ho8 : ((o : Int) % 8 == 0) = false := by have := hc.out.2; simp; omega
  have ha64 : a < 64 := by have := ha.out; have := ho.out; have := hn.out; omega
  have ha64' : (a : Int) < 64 := by omega
  have e1 : ((o : Int) / 8) = (a : Int) := by rw [← ha.out]; omega
  have hA0 := Lib.hid (hF.out.below.out _ (Below.one (.cells #[.int .i64 0, .int .u64 0, .int .i64 0, .int .i64 0] 63)))
  have c0 := hA0.out.pk a ha64
  have c1 := hA0.out.pn a ha64
  have c2 := hA0.out.pi a ha64
  have c3 := hA0.out.po a ha64
  have c4 := hA0.out.has a ha64
  have c5 := hA0.out.tag a ha64
  have c6 := hA0.out.beg a ha64
  go_enter Try.func98, Try.ntmps98
  go_wp2_with fail
  have hb0 : Below w.heap.size w ((w.alloc (.cells #[.int .i64 0, .int .u64 0, .int .i64 0, .int .i64 0] 63)).alloc (.cells #[.int .i64 (F.pk a), .int .u64 (F.pn a), .int .i64 (F.pi a), .int .i64 (F.po a), .bool (F.has a), .int .i64 (F.tag a), .bool (F.beg a)] 118)) := ((Below.refl _ _).alloc (Nat.le_refl _) _).alloc (by simp) _
  refine (f99_ok _ (Lib.hid (hF.out.below.out _ hb0)) (Lib.hid hn.out.1) ho).mono ?_; rintro e w1 ⟨rfl, h1⟩
  have hb1 := below_then hb0 h1
  have hbR : Below (w.heap.size + 2) _ w1 := h1.mono (by simp)
  clear c0 c1 c2 c3 c4 c5 c6
  rw [hr.out]
  have hno := ho.out
  have hsl : ∀ w, (Instr.sliceAt 115 (.pointer (some ⟨fb, 1, none⟩)) (some (.int .i64 (o : Int))) (some (.int .i64 ((o : Int) + 8))) none).run Try.prog w = .ok (.slice (some ⟨fb, 1 + o, none⟩) 8 (512 - o)) w := fun w => by
    have h1 := slice_bytes w fb o (o + 8) (l := o) (h := (o : Int) + 8) rfl (by omega) (by have := hn.out; omega) ho.out
    rw [h1, show o + 8 - o = 8 by omega]
  have hF1 := Lib.hid (hF.out.below.out w1 hb1)
  go_wp2_with fail
  refine (f91_ok w1 fb (1 + o) 8 _ (fun i => F.b (o + i)) hn.out.2 (fun i hi => hF1.out.byte _ (by omega)) (fun i hi => by rw [Nat.add_assoc]; exact hF1.out.b (o + i) (by omega))).mono ?_; rintro e w' ⟨rfl, rfl⟩
  obtain ⟨c0, c1, c2, c3, hz⟩ := res2_below.out w1 hbR
  have hz0 := hz 0
  have hz1 := hz 1
  have hz2 := hz 2
  have hz3 := hz 3
  clear hz
  obtain ⟨g0, g1, g2, g3⟩ := four_back c0 c1 c2 c3 (.int .i64 1) (.int .u64 (numB (fun i => F.b (o + i)) 8 : Nat)) (.int .i64 0) (.int .i64 0)
  go_wp2_with fail
  refine bodyPost_ret (v := .tuple #[.agg #[.int .i64 1, .int .u64 (numB (fun i => F.b (o + i)) 8 : Nat), .int .i64 0, .int .i64 0], .int .i64 0]) (by simp [results, Try.results98, go_sem, g0, g1, g2, g3]) rfl ?_
  exact ⟨rfl, four_below hb1 (Nat.le_refl _) _ _ _ _⟩
set_option maxRecDepth 100000 in
set_option maxHeartbeats 4000000 in
theorem f98_trap3 (w : World) {fb : Nat} {F : FS} (hF : Hid (FrameAt w fb F)) {o n : Nat} (hn : Hid (0 < n ∧ n ≤ 8)) (ho : Hid (o + n ≤ 512)) (hc : Hid (n = 8 ∧ o % 8 = 0 ∧ F.tag (o / 8) ≠ 0)) {tr : Int} (hr : Hid (readT F o n = tr)) (htr : (tr == 0) = false) :
    Calls Try.prog 98 #[.pointer (some ⟨fb, 0, none⟩), .int .i64 o, .int .i64 n] w fun e w' => e = .returned (.tuple #[.agg #[.int .i64 0, .int .u64 0, .int .i64 0, .int .i64 0], .int .i64 tr]) ∧ Below w.heap.size w w' := by
  obtain ⟨a, ha⟩ : ∃ a, Hid (o / 8 = a) := ⟨_, Lib.hid rfl⟩
  have hn8 : (8 : Nat) = n := hc.out.1.symm
  subst hn8
  have ho8 : (o : Int) % 8 = 0 := by have := hc.out.2.1; omega
  have htg : (F.tag a == 0) = false := by have := hc.out.2.2; rw [ha.out] at this; simpa using this
  have ha64 : a < 64 := by have := ha.out; have := ho.out; have := hn.out; omega
  have ha64' : (a : Int) < 64 := by omega
  have e1 : ((o : Int) / 8) = (a : Int) := by rw [← ha.out]; omega
  have hA0 := Lib.hid (hF.out.below.out _ (Below.one (.cells #[.int .i64 0, .int .u64 0, .int .i64 0, .int .i64 0] 63)))
  have c0 := hA0.out.pk a ha64
  have c1 := hA0.out.pn a ha64
  have c2 := hA0.out.pi a ha64
  have c3 := hA0.out.po a ha64
  have c4 := hA0.out.has a ha64
  have c5 := hA0.out.tag a ha64
  have c6 := hA0.out.beg a ha64
  go_enter Try.func98, Try.ntmps98
  go_wp2_with fail
  have hb0 : Below w.heap.size w ((w.alloc (.cells #[.int .i64 0, .int .u64 0, .int .i64 0, .int .i64 0] 63)).alloc (.cells #[.int .i64 (F.pk a), .int .u64 (F.pn a), .int .i64 (F.pi a), .int .i64 (F.po a), .bool (F.has a), .int .i64 (F.tag a), .bool (F.beg a)] 118)) := ((Below.refl _ _).alloc (Nat.le_refl _) _).alloc (by simp) _
  refine (f99_ok _ (Lib.hid (hF.out.below.out _ hb0)) (Lib.hid hn.out.1) ho).mono ?_; rintro e w1 ⟨rfl, h1⟩
  have hb1 := below_then hb0 h1
  have hbR : Below (w.heap.size + 2) _ w1 := h1.mono (by simp)
  clear c0 c1 c2 c3 c4 c5 c6
  rw [hr.out]
  obtain ⟨c0, c1, c2, c3, hz⟩ := res2_below.out w1 hbR
  have hz0 := hz 0
  have hz1 := hz 1
  have hz2 := hz 2
  have hz3 := hz 3
  clear hz
  obtain ⟨g0, g1, g2, g3⟩ := four_back c0 c1 c2 c3 (.int .i64 0) (.int .u64 0) (.int .i64 0) (.int .i64 0)
  go_wp2_with fail
  refine bodyPost_ret (v := .tuple #[.agg #[.int .i64 0, .int .u64 0, .int .i64 0, .int .i64 0], .int .i64 tr]) (by simp [results, Try.results98, go_sem, g0, g1, g2, g3]) rfl ?_
  exact ⟨rfl, four_below hb1 (Nat.le_refl _) _ _ _ _⟩
set_option maxRecDepth 100000 in
set_option maxHeartbeats 4000000 in
theorem f98_num3 (w : World) {fb : Nat} {F : FS} (hF : Hid (FrameAt w fb F)) {o n : Nat} (hn : Hid (0 < n ∧ n ≤ 8)) (ho : Hid (o + n ≤ 512)) (hc : Hid (n = 8 ∧ o % 8 = 0 ∧ F.tag (o / 8) ≠ 0)) (hr : Hid (readT F o n = 0)) :
    Calls Try.prog 98 #[.pointer (some ⟨fb, 0, none⟩), .int .i64 o, .int .i64 n] w fun e w' => e = .returned (.tuple #[.agg #[.int .i64 1, .int .u64 (numB (fun i => F.b (o + i)) n : Nat), .int .i64 0, .int .i64 0], .int .i64 0]) ∧ Below w.heap.size w w' := by
  obtain ⟨a, ha⟩ : ∃ a, Hid (o / 8 = a) := ⟨_, Lib.hid rfl⟩
  have hn8 : (8 : Nat) = n := hc.out.1.symm
  subst hn8
  have ho8 : (o : Int) % 8 = 0 := by have := hc.out.2.1; omega
  have htg : (F.tag a == 0) = false := by have := hc.out.2.2; rw [ha.out] at this; simpa using this
  have ha64 : a < 64 := by have := ha.out; have := ho.out; have := hn.out; omega
  have ha64' : (a : Int) < 64 := by omega
  have e1 : ((o : Int) / 8) = (a : Int) := by rw [← ha.out]; omega
  have hA0 := Lib.hid (hF.out.below.out _ (Below.one (.cells #[.int .i64 0, .int .u64 0, .int .i64 0, .int .i64 0] 63)))
  have c0 := hA0.out.pk a ha64
  have c1 := hA0.out.pn a ha64
  have c2 := hA0.out.pi a ha64
  have c3 := hA0.out.po a ha64
  have c4 := hA0.out.has a ha64
  have c5 := hA0.out.tag a ha64
  have c6 := hA0.out.beg a ha64
  go_enter Try.func98, Try.ntmps98
  go_wp2_with fail
  have hb0 : Below w.heap.size w ((w.alloc (.cells #[.int .i64 0, .int .u64 0, .int .i64 0, .int .i64 0] 63)).alloc (.cells #[.int .i64 (F.pk a), .int .u64 (F.pn a), .int .i64 (F.pi a), .int .i64 (F.po a), .bool (F.has a), .int .i64 (F.tag a), .bool (F.beg a)] 118)) := ((Below.refl _ _).alloc (Nat.le_refl _) _).alloc (by simp) _
  refine (f99_ok _ (Lib.hid (hF.out.below.out _ hb0)) (Lib.hid hn.out.1) ho).mono ?_; rintro e w1 ⟨rfl, h1⟩
  have hb1 := below_then hb0 h1
  have hbR : Below (w.heap.size + 2) _ w1 := h1.mono (by simp)
  clear c0 c1 c2 c3 c4 c5 c6
  rw [hr.out]
  have hno := ho.out
  have hsl : ∀ w, (Instr.sliceAt 115 (.pointer (some ⟨fb, 1, none⟩)) (some (.int .i64 (o : Int))) (some (.int .i64 ((o : Int) + 8))) none).run Try.prog w = .ok (.slice (some ⟨fb, 1 + o, none⟩) 8 (512 - o)) w := fun w => by
    have h1 := slice_bytes w fb o (o + 8) (l := o) (h := (o : Int) + 8) rfl (by omega) (by have := hn.out; omega) ho.out
    rw [h1, show o + 8 - o = 8 by omega]
  have hF1 := Lib.hid (hF.out.below.out w1 hb1)
  go_wp2_with fail
  refine (f91_ok w1 fb (1 + o) 8 _ (fun i => F.b (o + i)) hn.out.2 (fun i hi => hF1.out.byte _ (by omega)) (fun i hi => by rw [Nat.add_assoc]; exact hF1.out.b (o + i) (by omega))).mono ?_; rintro e w' ⟨rfl, rfl⟩
  obtain ⟨c0, c1, c2, c3, hz⟩ := res2_below.out w1 hbR
  have hz0 := hz 0
  have hz1 := hz 1
  have hz2 := hz 2
  have hz3 := hz 3
  clear hz
  obtain ⟨g0, g1, g2, g3⟩ := four_back c0 c1 c2 c3 (.int .i64 1) (.int .u64 (numB (fun i => F.b (o + i)) 8 : Nat)) (.int .i64 0) (.int .i64 0)
  go_wp2_with fail
  refine bodyPost_ret (v := .tuple #[.agg #[.int .i64 1, .int .u64 (numB (fun i => F.b (o + i)) 8 : Nat), .int .i64 0, .int .i64 0], .int .i64 0]) (by simp [results, Try.results98, go_sem, g0, g1, g2, g3]) rfl ?_
  exact ⟨rfl, four_below hb1 (Nat.le_refl _) _ _ _ _⟩
set_option maxRecDepth 100000 in
set_option maxHeartbeats 4000000 in
theorem f98_trap4 (w : World) {fb : Nat} {F : FS} (hF : Hid (FrameAt w fb F)) {o n : Nat} (hn : Hid (0 < n ∧ n ≤ 8)) (ho : Hid (o + n ≤ 512)) (hc : Hid (n = 8 ∧ o % 8 = 0 ∧ F.tag (o / 8) = 0 ∧ F.has (o / 8) = false)) {tr : Int} (hr : Hid (readT F o n = tr)) (htr : (tr == 0) = false) :
    Calls Try.prog 98 #[.pointer (some ⟨fb, 0, none⟩), .int .i64 o, .int .i64 n] w fun e w' => e = .returned (.tuple #[.agg #[.int .i64 0, .int .u64 0, .int .i64 0, .int .i64 0], .int .i64 tr]) ∧ Below w.heap.size w w' := by
  obtain ⟨a, ha⟩ : ∃ a, Hid (o / 8 = a) := ⟨_, Lib.hid rfl⟩
  have hn8 : (8 : Nat) = n := hc.out.1.symm
  subst hn8
  have ho8 : (o : Int) % 8 = 0 := by have := hc.out.2.1; omega
  have htg : F.tag a = 0 := by have := hc.out.2.2.1; rw [ha.out] at this; exact this
  have hhs : F.has a = false := by have := hc.out.2.2.2; rw [ha.out] at this; exact this
  have ha64 : a < 64 := by have := ha.out; have := ho.out; have := hn.out; omega
  have ha64' : (a : Int) < 64 := by omega
  have e1 : ((o : Int) / 8) = (a : Int) := by rw [← ha.out]; omega
  have hA0 := Lib.hid (hF.out.below.out _ (Below.one (.cells #[.int .i64 0, .int .u64 0, .int .i64 0, .int .i64 0] 63)))
  have c0 := hA0.out.pk a ha64
  have c1 := hA0.out.pn a ha64
  have c2 := hA0.out.pi a ha64
  have c3 := hA0.out.po a ha64
  have c4 := hA0.out.has a ha64
  have c5 := hA0.out.tag a ha64
  have c6 := hA0.out.beg a ha64
  rw [hhs] at c4
  rw [htg] at c5
  go_enter Try.func98, Try.ntmps98
  go_wp2_with fail
  have hb0 : Below w.heap.size w ((w.alloc (.cells #[.int .i64 0, .int .u64 0, .int .i64 0, .int .i64 0] 63)).alloc (.cells #[.int .i64 (F.pk a), .int .u64 (F.pn a), .int .i64 (F.pi a), .int .i64 (F.po a), .bool false, .int .i64 0, .bool (F.beg a)] 118)) := ((Below.refl _ _).alloc (Nat.le_refl _) _).alloc (by simp) _
  refine (f99_ok _ (Lib.hid (hF.out.below.out _ hb0)) (Lib.hid hn.out.1) ho).mono ?_; rintro e w1 ⟨rfl, h1⟩
  have hb1 := below_then hb0 h1
  have hbR : Below (w.heap.size + 2) _ w1 := h1.mono (by simp)
  clear c0 c1 c2 c3 c4 c5 c6
  rw [hr.out]
  obtain ⟨c0, c1, c2, c3, hz⟩ := res2_below.out w1 hbR
  have hz0 := hz 0
  have hz1 := hz 1
  have hz2 := hz 2
  have hz3 := hz 3
  clear hz
  obtain ⟨g0, g1, g2, g3⟩ := four_back c0 c1 c2 c3 (.int .i64 0) (.int .u64 0) (.int .i64 0) (.int .i64 0)
  go_wp2_with fail
  refine bodyPost_ret (v := .tuple #[.agg #[.int .i64 0, .int .u64 0, .int .i64 0, .int .i64 0], .int .i64 tr]) (by simp [results, Try.results98, go_sem, g0, g1, g2, g3]) rfl ?_
  exact ⟨rfl, four_below hb1 (Nat.le_refl _) _ _ _ _⟩
set_option maxRecDepth 100000 in
set_option maxHeartbeats 4000000 in
theorem f98_num4 (w : World) {fb : Nat} {F : FS} (hF : Hid (FrameAt w fb F)) {o n : Nat} (hn : Hid (0 < n ∧ n ≤ 8)) (ho : Hid (o + n ≤ 512)) (hc : Hid (n = 8 ∧ o % 8 = 0 ∧ F.tag (o / 8) = 0 ∧ F.has (o / 8) = false)) (hr : Hid (readT F o n = 0)) :
    Calls Try.prog 98 #[.pointer (some ⟨fb, 0, none⟩), .int .i64 o, .int .i64 n] w fun e w' => e = .returned (.tuple #[.agg #[.int .i64 1, .int .u64 (numB (fun i => F.b (o + i)) n : Nat), .int .i64 0, .int .i64 0], .int .i64 0]) ∧ Below w.heap.size w w' := by
  obtain ⟨a, ha⟩ : ∃ a, Hid (o / 8 = a) := ⟨_, Lib.hid rfl⟩
  have hn8 : (8 : Nat) = n := hc.out.1.symm
  subst hn8
  have ho8 : (o : Int) % 8 = 0 := by have := hc.out.2.1; omega
  have htg : F.tag a = 0 := by have := hc.out.2.2.1; rw [ha.out] at this; exact this
  have hhs : F.has a = false := by have := hc.out.2.2.2; rw [ha.out] at this; exact this
  have ha64 : a < 64 := by have := ha.out; have := ho.out; have := hn.out; omega
  have ha64' : (a : Int) < 64 := by omega
  have e1 : ((o : Int) / 8) = (a : Int) := by rw [← ha.out]; omega
  have hA0 := Lib.hid (hF.out.below.out _ (Below.one (.cells #[.int .i64 0, .int .u64 0, .int .i64 0, .int .i64 0] 63)))
  have c0 := hA0.out.pk a ha64
  have c1 := hA0.out.pn a ha64
  have c2 := hA0.out.pi a ha64
  have c3 := hA0.out.po a ha64
  have c4 := hA0.out.has a ha64
  have c5 := hA0.out.tag a ha64
  have c6 := hA0.out.beg a ha64
  rw [hhs] at c4
  rw [htg] at c5
  go_enter Try.func98, Try.ntmps98
  go_wp2_with fail
  have hb0 : Below w.heap.size w ((w.alloc (.cells #[.int .i64 0, .int .u64 0, .int .i64 0, .int .i64 0] 63)).alloc (.cells #[.int .i64 (F.pk a), .int .u64 (F.pn a), .int .i64 (F.pi a), .int .i64 (F.po a), .bool false, .int .i64 0, .bool (F.beg a)] 118)) := ((Below.refl _ _).alloc (Nat.le_refl _) _).alloc (by simp) _
  refine (f99_ok _ (Lib.hid (hF.out.below.out _ hb0)) (Lib.hid hn.out.1) ho).mono ?_; rintro e w1 ⟨rfl, h1⟩
  have hb1 := below_then hb0 h1
  have hbR : Below (w.heap.size + 2) _ w1 := h1.mono (by simp)
  clear c0 c1 c2 c3 c4 c5 c6
  rw [hr.out]
  have hno := ho.out
  have hsl : ∀ w, (Instr.sliceAt 115 (.pointer (some ⟨fb, 1, none⟩)) (some (.int .i64 (o : Int))) (some (.int .i64 ((o : Int) + 8))) none).run Try.prog w = .ok (.slice (some ⟨fb, 1 + o, none⟩) 8 (512 - o)) w := fun w => by
    have h1 := slice_bytes w fb o (o + 8) (l := o) (h := (o : Int) + 8) rfl (by omega) (by have := hn.out; omega) ho.out
    rw [h1, show o + 8 - o = 8 by omega]
  have hF1 := Lib.hid (hF.out.below.out w1 hb1)
  go_wp2_with fail
  refine (f91_ok w1 fb (1 + o) 8 _ (fun i => F.b (o + i)) hn.out.2 (fun i hi => hF1.out.byte _ (by omega)) (fun i hi => by rw [Nat.add_assoc]; exact hF1.out.b (o + i) (by omega))).mono ?_; rintro e w' ⟨rfl, rfl⟩
  obtain ⟨c0, c1, c2, c3, hz⟩ := res2_below.out w1 hbR
  have hz0 := hz 0
  have hz1 := hz 1
  have hz2 := hz 2
  have hz3 := hz 3
  clear hz
  obtain ⟨g0, g1, g2, g3⟩ := four_back c0 c1 c2 c3 (.int .i64 1) (.int .u64 (numB (fun i => F.b (o + i)) 8 : Nat)) (.int .i64 0) (.int .i64 0)
  go_wp2_with fail
  refine bodyPost_ret (v := .tuple #[.agg #[.int .i64 1, .int .u64 (numB (fun i => F.b (o + i)) 8 : Nat), .int .i64 0, .int .i64 0], .int .i64 0]) (by simp [results, Try.results98, go_sem, g0, g1, g2, g3]) rfl ?_
  exact ⟨rfl, four_below hb1 (Nat.le_refl _) _ _ _ _⟩
end Go.Proofs.Ytmjeloinibembaa
