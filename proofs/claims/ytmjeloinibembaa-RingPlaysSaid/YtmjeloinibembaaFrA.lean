/-
  THE WALKS of package region: a frame: its cells.
-/
import Derived.Test.YtmjeloinibembaaRegE
namespace Go.Proofs.Ytmjeloinibembaa
open Go.RowKit
set_option linter.unusedVariables false
set_option linter.unusedSimpArgs false
def slotZ : List Value := [.int .i64 0, .int .u64 0, .int .i64 0, .int .i64 0, .bool false, .int .i64 0, .bool false]
def ZG (p q r : Nat) : List Value := Value.bool false :: (List.replicate p (Value.int .u8 0) ++ (List.replicate q (Value.bool false) ++ (List.replicate r slotZ).flatten))
def ZC : Array Value := (ZG 512 512 64).toArray
set_option maxRecDepth 100000 in
theorem build_frame (w : World) : (Instr.build 121 #[]).run Try.prog w = .ok (.agg ZC) w := by kernel_rfl
set_option maxRecDepth 100000 in
theorem box_frame (w : World) : (Instr.box 121 (.agg ZC)).run Try.prog w = .ok (.pointer (some ⟨w.heap.size, 0, none⟩)) (w.alloc (.cells ZC 121)) := by kernel_rfl
theorem flat_at {α : Type} (l : List α) : ∀ (n s j : Nat), s < n → j < l.length → (List.replicate n l).flatten[l.length * s + j]? = l[j]?
  | 0, s, j, h, _ => by omega
  | n + 1, 0, j, h, hj => by simp [List.replicate_succ, List.getElem?_append_left hj]
  | n + 1, s + 1, j, h, hj => by
    rw [List.replicate_succ, List.flatten_cons, List.getElem?_append_right (by rw [Nat.mul_succ]; omega), show l.length * (s + 1) + j - l.length = l.length * s + j by rw [Nat.mul_succ]; omega]
    exact flat_at l n s j (by omega) hj
theorem zg_b (p q r i : Nat) (h : i < p) : (ZG p q r)[1 + i]? = some (.int .u8 0) := by
  unfold ZG
  rw [Nat.add_comm, List.getElem?_cons_succ, List.getElem?_append_left (by rw [List.length_replicate]; exact h), List.getElem?_replicate, if_pos h]
theorem zg_wr (p q r i : Nat) (h : i < q) : (ZG p q r)[p + i + 1]? = some (.bool false) := by
  unfold ZG
  rw [List.getElem?_cons_succ, List.getElem?_append_right (by rw [List.length_replicate]; omega), List.length_replicate, show p + i - p = i by omega, List.getElem?_append_left (by rw [List.length_replicate]; exact h), List.getElem?_replicate, if_pos h]
theorem zg_slot (p q r s j : Nat) (h : s < r) (hj : j < 7) : (ZG p q r)[p + (q + (7 * s + j)) + 1]? = slotZ[j]? := by
  unfold ZG
  rw [List.getElem?_cons_succ, List.getElem?_append_right (by rw [List.length_replicate]; omega), List.length_replicate, show p + (q + (7 * s + j)) - p = q + (7 * s + j) by omega, List.getElem?_append_right (by rw [List.length_replicate]; omega), List.length_replicate,
    show q + (7 * s + j) - q = 7 * s + j by omega]
  exact flat_at slotZ r s j h hj
theorem zc_0 : ZC[0]? = some (.bool false) := by
  unfold ZC ZG; rw [List.getElem?_toArray, List.getElem?_cons_zero]
theorem zc_b (i : Nat) (h : i < 512) : ZC[1 + i]? = some (.int .u8 0) := by
  unfold ZC; rw [List.getElem?_toArray]; exact zg_b 512 512 64 i h
theorem zc_wr (i : Nat) (h : i < 512) : ZC[513 + i]? = some (.bool false) := by
  unfold ZC; rw [List.getElem?_toArray, show 513 + i = 512 + i + 1 by omega]; exact zg_wr 512 512 64 i h
theorem zc_slot (s j : Nat) (h : s < 64) (hj : j < 7) : ZC[1025 + s * 7 + j]? = slotZ[j]? := by
  unfold ZC; rw [List.getElem?_toArray, show 1025 + s * 7 + j = 512 + (512 + (7 * s + j)) + 1 by omega]; exact zg_slot 512 512 64 s j h hj

set_option maxRecDepth 100000 in
theorem zc_eq : Try.zeroCells121 = ZC := by kernel_rfl
/-- what a frame holds. -/
structure FS where
  b : Nat → Nat
  wr : Nat → Bool
  has : Nat → Bool
  pk : Nat → Int
  pn : Nat → Int
  pi : Nat → Int
  po : Nat → Int
  tag : Nat → Int
  beg : Nat → Bool
def FS.zero : FS := ⟨fun _ => 0, fun _ => false, fun _ => false, fun _ => 0, fun _ => 0, fun _ => 0, fun _ => 0, fun _ => 0, fun _ => false⟩
/-- its cells. -/
structure FrameAt (w : World) (fb : Nat) (F : FS) : Prop where
  dead : w.cell? ⟨fb, 0, none⟩ = some (.bool false)
  b : ∀ i, i < 512 → w.cell? ⟨fb, 1 + i, none⟩ = some (.int .u8 ((F.b i : Nat) : Int))
  wr : ∀ i, i < 512 → w.cell? ⟨fb, 513 + i, none⟩ = some (.bool (F.wr i))
  pk : ∀ s, s < 64 → w.cell? ⟨fb, 1025 + s * 7, none⟩ = some (.int .i64 (F.pk s))
  pn : ∀ s, s < 64 → w.cell? ⟨fb, 1025 + s * 7 + 1, none⟩ = some (.int .u64 (F.pn s))
  pi : ∀ s, s < 64 → w.cell? ⟨fb, 1025 + s * 7 + 2, none⟩ = some (.int .i64 (F.pi s))
  po : ∀ s, s < 64 → w.cell? ⟨fb, 1025 + s * 7 + 3, none⟩ = some (.int .i64 (F.po s))
  has : ∀ s, s < 64 → w.cell? ⟨fb, 1025 + s * 7 + 4, none⟩ = some (.bool (F.has s))
  tag : ∀ s, s < 64 → w.cell? ⟨fb, 1025 + s * 7 + 5, none⟩ = some (.int .i64 (F.tag s))
  beg : ∀ s, s < 64 → w.cell? ⟨fb, 1025 + s * 7 + 6, none⟩ = some (.bool (F.beg s))
  thaw : Thaw w fb
  kind : KindAt w fb 121
  byte : ∀ i, i < 512 → F.b i < 256
theorem FrameAt.new (w : World) : FrameAt (w.alloc (.cells Try.zeroCells121 121)) w.heap.size FS.zero := by
  rw [zc_eq]
  have hc : ∀ j, (w.alloc (.cells ZC 121)).cell? ⟨w.heap.size, j, none⟩ = ZC[j]? := fun j => World.cell?_alloc_at _ _ _ _ rfl
  refine ⟨(hc 0).trans zc_0, fun i hi => (hc _).trans (zc_b i hi), fun i hi => (hc _).trans (zc_wr i hi), fun s hs => (hc _).trans (zc_slot s 0 hs (by decide)), fun s hs => (hc _).trans (zc_slot s 1 hs (by decide)), fun s hs => (hc _).trans (zc_slot s 2 hs (by decide)),
    fun s hs => (hc _).trans (zc_slot s 3 hs (by decide)), fun s hs => (hc _).trans (zc_slot s 4 hs (by decide)), fun s hs => (hc _).trans (zc_slot s 5 hs (by decide)), fun s hs => (hc _).trans (zc_slot s 6 hs (by decide)), Thaw.new _ _ _, KindAt.new _ _ _, fun i hi => by simp [FS.zero]⟩
theorem FrameAt.only {S : Nat → Prop} {w w' : World} {fb : Nat} {F : FS} (h : FrameAt w fb F) (ho : Only S w w') (hn : ¬ S fb) : FrameAt w' fb F := by
  have hl := h.kind.lt
  have hc : ∀ j, w'.cell? ⟨fb, j, none⟩ = w.cell? ⟨fb, j, none⟩ := fun j => ho.cell (p := ⟨fb, j, none⟩) hl hn
  exact ⟨(hc _).trans h.dead, fun i hi => (hc _).trans (h.b i hi), fun i hi => (hc _).trans (h.wr i hi), fun i hi => (hc _).trans (h.pk i hi), fun i hi => (hc _).trans (h.pn i hi), fun i hi => (hc _).trans (h.pi i hi), fun i hi => (hc _).trans (h.po i hi),
    fun i hi => (hc _).trans (h.has i hi), fun i hi => (hc _).trans (h.tag i hi), fun i hi => (hc _).trans (h.beg i hi), h.thaw.only ho hl hn, ho.kind _ _ (by decide) h.kind, h.byte⟩
theorem FrameAt.below {w : World} {fb : Nat} {F : FS} (h : FrameAt w fb F) : Hid (∀ w', Below w.heap.size w w' → FrameAt w' fb F) :=
  Lib.hid fun w' hb => h.only (Only.of_below (S := fun _ => False) hb) (fun h => h)
/-- a function turned at one place. -/
def upd {α : Type} (f : Nat → α) (i : Nat) (x : α) : Nat → α := fun j => if j = i then x else f j
theorem upd_same {α : Type} (f : Nat → α) (i : Nat) (x : α) : upd f i x i = x := by simp [upd]
theorem upd_ne {α : Type} (f : Nat → α) {i j : Nat} (x : α) (h : j ≠ i) : upd f i x j = f j := by simp [upd, h]
theorem FrameAt.set_b {w : World} {fb : Nat} {F : FS} (h : FrameAt w fb F) {k : Nat} (hk : k < 512) (x : Nat) (hx : x < 256) : FrameAt (w.setCell ⟨fb, 1 + k, none⟩ (.int .u8 ((x : Nat) : Int))) fb { F with b := upd F.b k x } := by
  refine ⟨(by rw [cell_ne _ (.inr (by omega))]; exact h.dead), (fun i hi => if hik : i = k then (by subst hik; rw [cell_same _ (h.b i hi)]; simp only [upd_same]) else (by rw [cell_ne _ (.inr (by omega)), h.b i hi]; simp only [upd_ne _ _ hik])), (fun i hi => by rw [cell_ne _ (.inr (by omega))]; exact h.wr i hi), (fun i hi => by rw [cell_ne _ (.inr (by omega))]; exact h.pk i hi), (fun i hi => by rw [cell_ne _ (.inr (by omega))]; exact h.pn i hi), (fun i hi => by rw [cell_ne _ (.inr (by omega))]; exact h.pi i hi), (fun i hi => by rw [cell_ne _ (.inr (by omega))]; exact h.po i hi), (fun i hi => by rw [cell_ne _ (.inr (by omega))]; exact h.has i hi), (fun i hi => by rw [cell_ne _ (.inr (by omega))]; exact h.tag i hi), (fun i hi => by rw [cell_ne _ (.inr (by omega))]; exact h.beg i hi), (h.thaw.setCell _ _), (h.kind.setCell _ _), (fun i hi => if hik : i = k then (by subst hik; simp only [upd_same]; exact hx) else (by simp only [upd_ne _ _ hik]; exact h.byte i hi))⟩
theorem FrameAt.set_wr {w : World} {fb : Nat} {F : FS} (h : FrameAt w fb F) {k : Nat} (hk : k < 512) (x : Bool) : FrameAt (w.setCell ⟨fb, 513 + k, none⟩ (.bool x)) fb { F with wr := upd F.wr k x } := by
  refine ⟨(by rw [cell_ne _ (.inr (by omega))]; exact h.dead), (fun i hi => by rw [cell_ne _ (.inr (by omega))]; exact h.b i hi), (fun i hi => if hik : i = k then (by subst hik; rw [cell_same _ (h.wr i hi)]; simp only [upd_same]) else (by rw [cell_ne _ (.inr (by omega)), h.wr i hi]; simp only [upd_ne _ _ hik])), (fun i hi => by rw [cell_ne _ (.inr (by omega))]; exact h.pk i hi), (fun i hi => by rw [cell_ne _ (.inr (by omega))]; exact h.pn i hi), (fun i hi => by rw [cell_ne _ (.inr (by omega))]; exact h.pi i hi), (fun i hi => by rw [cell_ne _ (.inr (by omega))]; exact h.po i hi), (fun i hi => by rw [cell_ne _ (.inr (by omega))]; exact h.has i hi), (fun i hi => by rw [cell_ne _ (.inr (by omega))]; exact h.tag i hi), (fun i hi => by rw [cell_ne _ (.inr (by omega))]; exact h.beg i hi), (h.thaw.setCell _ _), (h.kind.setCell _ _), h.byte⟩
theorem FrameAt.set_pk {w : World} {fb : Nat} {F : FS} (h : FrameAt w fb F) {k : Nat} (hk : k < 64) (x : Int) : FrameAt (w.setCell ⟨fb, 1025 + k * 7, none⟩ (.int .i64 x)) fb { F with pk := upd F.pk k x } := by
  refine ⟨(by rw [cell_ne _ (.inr (by omega))]; exact h.dead), (fun i hi => by rw [cell_ne _ (.inr (by omega))]; exact h.b i hi), (fun i hi => by rw [cell_ne _ (.inr (by omega))]; exact h.wr i hi), (fun i hi => if hik : i = k then (by subst hik; rw [cell_same _ (h.pk i hi)]; simp only [upd_same]) else (by rw [cell_ne _ (.inr (by omega)), h.pk i hi]; simp only [upd_ne _ _ hik])), (fun i hi => by rw [cell_ne _ (.inr (by omega))]; exact h.pn i hi), (fun i hi => by rw [cell_ne _ (.inr (by omega))]; exact h.pi i hi), (fun i hi => by rw [cell_ne _ (.inr (by omega))]; exact h.po i hi), (fun i hi => by rw [cell_ne _ (.inr (by omega))]; exact h.has i hi), (fun i hi => by rw [cell_ne _ (.inr (by omega))]; exact h.tag i hi), (fun i hi => by rw [cell_ne _ (.inr (by omega))]; exact h.beg i hi), (h.thaw.setCell _ _), (h.kind.setCell _ _), h.byte⟩
theorem FrameAt.set_pn {w : World} {fb : Nat} {F : FS} (h : FrameAt w fb F) {k : Nat} (hk : k < 64) (x : Int) : FrameAt (w.setCell ⟨fb, 1025 + k * 7 + 1, none⟩ (.int .u64 x)) fb { F with pn := upd F.pn k x } := by
  refine ⟨(by rw [cell_ne _ (.inr (by omega))]; exact h.dead), (fun i hi => by rw [cell_ne _ (.inr (by omega))]; exact h.b i hi), (fun i hi => by rw [cell_ne _ (.inr (by omega))]; exact h.wr i hi), (fun i hi => by rw [cell_ne _ (.inr (by omega))]; exact h.pk i hi), (fun i hi => if hik : i = k then (by subst hik; rw [cell_same _ (h.pn i hi)]; simp only [upd_same]) else (by rw [cell_ne _ (.inr (by omega)), h.pn i hi]; simp only [upd_ne _ _ hik])), (fun i hi => by rw [cell_ne _ (.inr (by omega))]; exact h.pi i hi), (fun i hi => by rw [cell_ne _ (.inr (by omega))]; exact h.po i hi), (fun i hi => by rw [cell_ne _ (.inr (by omega))]; exact h.has i hi), (fun i hi => by rw [cell_ne _ (.inr (by omega))]; exact h.tag i hi), (fun i hi => by rw [cell_ne _ (.inr (by omega))]; exact h.beg i hi), (h.thaw.setCell _ _), (h.kind.setCell _ _), h.byte⟩
theorem FrameAt.set_pi {w : World} {fb : Nat} {F : FS} (h : FrameAt w fb F) {k : Nat} (hk : k < 64) (x : Int) : FrameAt (w.setCell ⟨fb, 1025 + k * 7 + 2, none⟩ (.int .i64 x)) fb { F with pi := upd F.pi k x } := by
  refine ⟨(by rw [cell_ne _ (.inr (by omega))]; exact h.dead), (fun i hi => by rw [cell_ne _ (.inr (by omega))]; exact h.b i hi), (fun i hi => by rw [cell_ne _ (.inr (by omega))]; exact h.wr i hi), (fun i hi => by rw [cell_ne _ (.inr (by omega))]; exact h.pk i hi), (fun i hi => by rw [cell_ne _ (.inr (by omega))]; exact h.pn i hi), (fun i hi => if hik : i = k then (by subst hik; rw [cell_same _ (h.pi i hi)]; simp only [upd_same]) else (by rw [cell_ne _ (.inr (by omega)), h.pi i hi]; simp only [upd_ne _ _ hik])), (fun i hi => by rw [cell_ne _ (.inr (by omega))]; exact h.po i hi), (fun i hi => by rw [cell_ne _ (.inr (by omega))]; exact h.has i hi), (fun i hi => by rw [cell_ne _ (.inr (by omega))]; exact h.tag i hi), (fun i hi => by rw [cell_ne _ (.inr (by omega))]; exact h.beg i hi), (h.thaw.setCell _ _), (h.kind.setCell _ _), h.byte⟩
theorem FrameAt.set_po {w : World} {fb : Nat} {F : FS} (h : FrameAt w fb F) {k : Nat} (hk : k < 64) (x : Int) : FrameAt (w.setCell ⟨fb, 1025 + k * 7 + 3, none⟩ (.int .i64 x)) fb { F with po := upd F.po k x } := by
  refine ⟨(by rw [cell_ne _ (.inr (by omega))]; exact h.dead), (fun i hi => by rw [cell_ne _ (.inr (by omega))]; exact h.b i hi), (fun i hi => by rw [cell_ne _ (.inr (by omega))]; exact h.wr i hi), (fun i hi => by rw [cell_ne _ (.inr (by omega))]; exact h.pk i hi), (fun i hi => by rw [cell_ne _ (.inr (by omega))]; exact h.pn i hi), (fun i hi => by rw [cell_ne _ (.inr (by omega))]; exact h.pi i hi), (fun i hi => if hik : i = k then (by subst hik; rw [cell_same _ (h.po i hi)]; simp only [upd_same]) else (by rw [cell_ne _ (.inr (by omega)), h.po i hi]; simp only [upd_ne _ _ hik])), (fun i hi => by rw [cell_ne _ (.inr (by omega))]; exact h.has i hi), (fun i hi => by rw [cell_ne _ (.inr (by omega))]; exact h.tag i hi), (fun i hi => by rw [cell_ne _ (.inr (by omega))]; exact h.beg i hi), (h.thaw.setCell _ _), (h.kind.setCell _ _), h.byte⟩
theorem FrameAt.set_has {w : World} {fb : Nat} {F : FS} (h : FrameAt w fb F) {k : Nat} (hk : k < 64) (x : Bool) : FrameAt (w.setCell ⟨fb, 1025 + k * 7 + 4, none⟩ (.bool x)) fb { F with has := upd F.has k x } := by
  refine ⟨(by rw [cell_ne _ (.inr (by omega))]; exact h.dead), (fun i hi => by rw [cell_ne _ (.inr (by omega))]; exact h.b i hi), (fun i hi => by rw [cell_ne _ (.inr (by omega))]; exact h.wr i hi), (fun i hi => by rw [cell_ne _ (.inr (by omega))]; exact h.pk i hi), (fun i hi => by rw [cell_ne _ (.inr (by omega))]; exact h.pn i hi), (fun i hi => by rw [cell_ne _ (.inr (by omega))]; exact h.pi i hi), (fun i hi => by rw [cell_ne _ (.inr (by omega))]; exact h.po i hi), (fun i hi => if hik : i = k then (by subst hik; rw [cell_same _ (h.has i hi)]; simp only [upd_same]) else (by rw [cell_ne _ (.inr (by omega)), h.has i hi]; simp only [upd_ne _ _ hik])), (fun i hi => by rw [cell_ne _ (.inr (by omega))]; exact h.tag i hi), (fun i hi => by rw [cell_ne _ (.inr (by omega))]; exact h.beg i hi), (h.thaw.setCell _ _), (h.kind.setCell _ _), h.byte⟩
theorem FrameAt.set_tag {w : World} {fb : Nat} {F : FS} (h : FrameAt w fb F) {k : Nat} (hk : k < 64) (x : Int) : FrameAt (w.setCell ⟨fb, 1025 + k * 7 + 5, none⟩ (.int .i64 x)) fb { F with tag := upd F.tag k x } := by
  refine ⟨(by rw [cell_ne _ (.inr (by omega))]; exact h.dead), (fun i hi => by rw [cell_ne _ (.inr (by omega))]; exact h.b i hi), (fun i hi => by rw [cell_ne _ (.inr (by omega))]; exact h.wr i hi), (fun i hi => by rw [cell_ne _ (.inr (by omega))]; exact h.pk i hi), (fun i hi => by rw [cell_ne _ (.inr (by omega))]; exact h.pn i hi), (fun i hi => by rw [cell_ne _ (.inr (by omega))]; exact h.pi i hi), (fun i hi => by rw [cell_ne _ (.inr (by omega))]; exact h.po i hi), (fun i hi => by rw [cell_ne _ (.inr (by omega))]; exact h.has i hi), (fun i hi => if hik : i = k then (by subst hik; rw [cell_same _ (h.tag i hi)]; simp only [upd_same]) else (by rw [cell_ne _ (.inr (by omega)), h.tag i hi]; simp only [upd_ne _ _ hik])), (fun i hi => by rw [cell_ne _ (.inr (by omega))]; exact h.beg i hi), (h.thaw.setCell _ _), (h.kind.setCell _ _), h.byte⟩
theorem FrameAt.set_beg {w : World} {fb : Nat} {F : FS} (h : FrameAt w fb F) {k : Nat} (hk : k < 64) (x : Bool) : FrameAt (w.setCell ⟨fb, 1025 + k * 7 + 6, none⟩ (.bool x)) fb { F with beg := upd F.beg k x } := by
  refine ⟨(by rw [cell_ne _ (.inr (by omega))]; exact h.dead), (fun i hi => by rw [cell_ne _ (.inr (by omega))]; exact h.b i hi), (fun i hi => by rw [cell_ne _ (.inr (by omega))]; exact h.wr i hi), (fun i hi => by rw [cell_ne _ (.inr (by omega))]; exact h.pk i hi), (fun i hi => by rw [cell_ne _ (.inr (by omega))]; exact h.pn i hi), (fun i hi => by rw [cell_ne _ (.inr (by omega))]; exact h.pi i hi), (fun i hi => by rw [cell_ne _ (.inr (by omega))]; exact h.po i hi), (fun i hi => by rw [cell_ne _ (.inr (by omega))]; exact h.has i hi), (fun i hi => by rw [cell_ne _ (.inr (by omega))]; exact h.tag i hi), (fun i hi => if hik : i = k then (by subst hik; rw [cell_same _ (h.beg i hi)]; simp only [upd_same]) else (by rw [cell_ne _ (.inr (by omega)), h.beg i hi]; simp only [upd_ne _ _ hik])), (h.thaw.setCell _ _), (h.kind.setCell _ _), h.byte⟩
end Go.Proofs.Ytmjeloinibembaa
