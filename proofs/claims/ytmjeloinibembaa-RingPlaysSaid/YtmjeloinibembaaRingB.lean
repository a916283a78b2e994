/-
  RINGS: what a ring holds; New, Used, takes.
-/
import Derived.Test.YtmjeloinibembaaRingA
import Derived.Test.YtmjeloinibembaaAddB
namespace Go.Proofs.Ytmjeloinibembaa
open Go.RowKit
set_option linter.unusedVariables false
set_option linter.unusedSimpArgs false
theorem info86 : Try.prog.info? 86 = some Try.t86 := by kernel_rfl
theorem zero86' : Try.t86.zero = some (.pointer none) := by kernel_rfl
theorem size86 : Try.t86.size = 1 := by kernel_rfl
theorem bytes86 : Try.t86.bytes = 8 := by kernel_rfl
theorem info30 : Try.prog.info? 30 = some Try.t30 := by kernel_rfl
theorem zero30 : Try.t30.zero = some (.slice none 0 0) := by kernel_rfl
theorem size30 : Try.t30.size = 1 := by kernel_rfl
theorem bytes30 : Try.t30.bytes = 24 := by kernel_rfl
theorem info3 : Try.prog.info? 3 = some Try.t3 := by kernel_rfl
theorem zero3 : Try.t3.zero = some (.int .i64 0) := by kernel_rfl
theorem size3 : Try.t3.size = 1 := by kernel_rfl
theorem bytes3 : Try.t3.bytes = 8 := by kernel_rfl
/-- what a record of n bytes takes. -/
def takesN (n : Nat) : Nat := 8 + (n + 7) / 8 * 8
/-- a region: its own block, that of its bytes, how many, dead or not, the bytes. -/
structure Rgn where
  rb : Nat
  bb : Nat
  n : Nat
  d : Bool
  f : Nat → Nat
/-- a record: its block, its region's number, its length, its state, the block of its bytes when it is ended, these bytes. -/
structure Rec where
  xb : Nat
  id : Nat
  n : Nat
  st : Nat
  bs : Nat
  g : Nat → Nat
def Rec.ptr (r : Rec) : Value := .pointer (some ⟨r.xb, 0, none⟩)
/-- a ring. -/
structure RingS where
  rg : Nat
  mb : Nat
  mp : Nat
  size : Nat
  rows : List Rec
  rs : List Rgn
  v : Value
  rv : Value
  es : List (Nat × Nat × Nat)
  clock : Nat
structure RecAt (Pr : Nat → Prop) (w : World) (r : Rec) : Prop where
  kind : KindAt w r.xb 85
  np : ¬ Pr r.xb
  thaw : Thaw w r.xb
  c0 : w.cell? ⟨r.xb, 0, none⟩ = some (.int .i64 (r.id : Int))
  c1 : w.cell? ⟨r.xb, 1, none⟩ = some (.int .i64 (r.n : Int))
  c2 : w.cell? ⟨r.xb, 2, none⟩ = some (.int .i64 (r.st : Int))
  c3 : ∃ a n c, w.cell? ⟨r.xb, 3, none⟩ = some (.slice a n c)
  done : r.st ≠ 0 → (∃ c, r.n ≤ c ∧ w.cell? ⟨r.xb, 3, none⟩ = some (.slice (some ⟨r.bs, 0, none⟩) r.n c)) ∧ Bts w r.bs 0 r.n r.g ∧ KindAt w r.bs 5 ∧ Thaw w r.bs ∧ ¬ Pr r.bs ∧ ∀ i, i < r.n → r.g i < 256
  pos : 1 ≤ r.n ∧ r.n ≤ 4096
  two : r.st ≤ 2
theorem RecAt.only {Pr S : Nat → Prop} {w w' : World} {r : Rec} (h : RecAt Pr w r) (ho : Only S w w') (hx : ¬ S r.xb) (hb : r.st ≠ 0 → ¬ S r.bs) : RecAt Pr w' r := by
  have c : ∀ j, w'.cell? ⟨r.xb, j, none⟩ = w.cell? ⟨r.xb, j, none⟩ := fun j => ho.cell (p := ⟨r.xb, j, none⟩) h.kind.lt hx
  refine ⟨ho.kind _ _ (by decide) h.kind, h.np, h.thaw.only ho h.kind.lt hx, by rw [c]; exact h.c0, by rw [c]; exact h.c1, by rw [c]; exact h.c2, by rw [c]; exact h.c3, fun hs => ?_, h.pos, h.two⟩
  obtain ⟨⟨cc, h1, h2⟩, h3, h4, h5, h6, h7⟩ := h.done hs
  exact ⟨⟨cc, h1, by rw [c]; exact h2⟩, fun i hi => by rw [ho.cell (p := ⟨r.bs, 0 + i, none⟩) h4.lt (hb hs)]; exact h3 i hi, ho.kind _ _ (by decide) h4, h5.only ho h4.lt (hb hs), h6, h7⟩
def usedN (rows : List Rec) : Nat := (rows.map fun r => takesN r.n).sum
theorem usedN_snoc (l : List Rec) (r : Rec) : usedN (l ++ [r]) = usedN l + takesN r.n := by simp [usedN]
theorem usedN_cons (l : List Rec) (r : Rec) : usedN (r :: l) = takesN r.n + usedN l := by simp [usedN]
def RingS.l (R : RingS) : List (Bool × Nat) := R.rs.map fun x => (false, x.rb)
theorem RingS.l_len (R : RingS) : R.l.length = R.rs.length := by simp [RingS.l]
structure RingAt (B : Nat) (Pr : Nat → Prop) (w : World) (R : RingS) : Prop where
  low : ∀ k, k < B → Pr k
  prlt : ∀ k, Pr k → k < w.heap.size
  kind : KindAt w R.rg 80
  np : ¬ Pr R.rg
  thaw : Thaw w R.rg
  c0 : w.cell? ⟨R.rg, 0, none⟩ = some (.int .i64 (R.size : Int))
  c1 : w.cell? ⟨R.rg, 1, none⟩ = some (.int .i64 (usedN R.rows : Int))
  c2 : w.cell? ⟨R.rg, 2, none⟩ = some (.pointer (some ⟨R.mb, 0, none⟩))
  c3 : w.cell? ⟨R.rg, 3, none⟩ = some R.rv
  c4 : w.cell? ⟨R.rg, 4, none⟩ = some (.map (some R.mp))
  fits : usedN R.rows ≤ R.size ∧ R.size ≤ 4096
  row : RowAt B 86 w R.rv (R.rows.map Rec.ptr)
  prow : ∀ k, R.rv.ownBlock = some k → ¬ Pr k
  recs : ∀ r ∈ R.rows, RecAt Pr w r
  map : w.heap[R.mp]? = some (.map (R.es.map ent).toArray R.clock)
  npm : ¬ Pr R.mp
  mem : MemRow B w R.mb R.v R.l
  pmem : ¬ Pr R.mb ∧ ∀ k, R.v.ownBlock = some k → ¬ Pr k
  regs : ∀ x ∈ R.rs, RegAt w x.rb x.bb x.d true x.n x.f ∧ ¬ Pr x.rb ∧ ¬ Pr x.bb
  apr : R.rs.Pairwise fun x y => x.rb ≠ y.rb ∧ x.bb ≠ y.bb
  apx : R.rows.Pairwise fun a b => a.xb ≠ b.xb ∧ a.id ≠ b.id ∧ (a.st ≠ 0 → b.st ≠ 0 → a.bs ≠ b.bs)
  apb : ∀ r ∈ R.rows, r.st ≠ 0 → ∀ x ∈ R.rs, r.bs ≠ x.bb
  link : ∀ r ∈ R.rows, 1 ≤ r.id ∧ r.id ≤ R.rs.length ∧ (r.st = 0 → ∃ x, R.rs[r.id - 1]? = some x ∧ x.d = false ∧ x.n = r.n)
  live : ∀ j x, R.rs[j]? = some x → x.d = false → ∃ r ∈ R.rows, r.st = 0 ∧ r.id = j + 1
  opens : R.es.map (fun x => (x.1, x.2.1)) = (R.rows.filter fun r => r.st == 0).map fun r => (r.id, r.xb)
  stamps : ∀ x ∈ R.es, x.2.2 < R.clock
theorem RingAt.ge {B : Nat} {Pr : Nat → Prop} {w : World} {R : RingS} (h : RingAt B Pr w R) {k : Nat} (hk : ¬ Pr k) : B ≤ k := by
  rcases Nat.lt_or_ge k B with h1 | h1
  · exact absurd (h.low k h1) hk
  · exact h1
/-- a law's own steps leave a ring; new blocks may be barred from it. -/
theorem RingAt.law {B : Nat} {Pr Pr' S : Nat → Prop} {w w' : World} {R : RingS} (h : RingAt B Pr w R) (ho : Only S w w') (hs : ∀ k, S k → Pr k) (hl : ∀ k, k < B → Pr' k) (hp : ∀ k, Pr' k → k < w'.heap.size ∧ (Pr k ∨ w.heap.size ≤ k)) : RingAt B Pr' w' R := by
  have n : ∀ k, ¬ Pr k → k < w.heap.size → ¬ Pr' k := fun k hk hlt hx => by
    rcases (hp k hx).2 with h1 | h1
    · exact hk h1
    · omega
  have ns : ∀ k, ¬ Pr k → ¬ S k := fun k hk hx => hk (hs k hx)
  have c : ∀ j, w'.cell? ⟨R.rg, j, none⟩ = w.cell? ⟨R.rg, j, none⟩ := fun j => ho.cell (p := ⟨R.rg, j, none⟩) h.kind.lt (ns _ h.np)
  have hmp : R.mp < w.heap.size := (Array.getElem?_eq_some_iff.1 h.map).1
  refine ⟨hl, fun k hk => (hp k hk).1, ho.kind _ _ (by decide) h.kind, n _ h.np h.kind.lt, h.thaw.only ho h.kind.lt (ns _ h.np), by rw [c]; exact h.c0, by rw [c]; exact h.c1, by rw [c]; exact h.c2, by rw [c]; exact h.c3, by rw [c]; exact h.c4, h.fits,
    h.row.only ho fun k hk => ns _ (h.prow k hk), fun k hk => n _ (h.prow k hk) (h.row.own hk).1.lt, fun r hr => ?_, by rw [ho.block _ hmp (ns _ h.npm)]; exact h.map, n _ h.npm hmp,
    h.mem.only ho (ns _ h.pmem.1) fun k hk => ns _ (h.pmem.2 k hk), ⟨n _ h.pmem.1 h.mem.kind.lt, fun k hk => n _ (h.pmem.2 k hk) (own_kind h.mem.own hk).1.lt⟩, fun x hx => ?_, h.apr, h.apx, h.apb, h.link, h.live, h.opens, h.stamps⟩
  · have h1 := h.recs r hr
    have h2 := h1.only ho (ns _ h1.np) (fun hst => ns _ (h1.done hst).2.2.2.2.1)
    refine ⟨h2.kind, n _ h1.np h1.kind.lt, h2.thaw, h2.c0, h2.c1, h2.c2, h2.c3, fun hst => ?_, h2.pos, h2.two⟩
    obtain ⟨h3, h4, h5, h6, h7, h8⟩ := h2.done hst
    exact ⟨h3, h4, h5, h6, n _ h7 (h1.done hst).2.2.1.lt, h8⟩
  · obtain ⟨h1, h2, h3⟩ := h.regs x hx
    exact ⟨h1.only ho (ns _ h2) (ns _ h3), n _ h2 h1.ltR, n _ h3 h1.lt⟩
theorem RingAt.below {B : Nat} {Pr : Nat → Prop} {w w' : World} {R : RingS} (h : RingAt B Pr w R) (hb : Below w.heap.size w w') : RingAt B Pr w' R :=
  h.law (Only.of_below (S := fun _ => False) hb) (fun _ hk => hk.elim) h.low fun k hk => ⟨Nat.lt_of_lt_of_le (h.prlt k hk) hb.size, .inl hk⟩

set_option maxRecDepth 100000 in
set_option maxHeartbeats 1000000 in
theorem f49_ok (w : World) {n : Nat} (hn : n ≤ 100000) : Calls Try.prog 49 #[.int .i64 n] w fun e w' => e = .returned (.int .i64 (takesN n : Int)) ∧ w = w' := by
  have e1 : (8 + ((n : Int) + 8 - 1) / 8 * 8) = (takesN n : Int) := by unfold takesN; omega
  go_enter Try.func49, Try.ntmps49
  go_wp2_with fail
  go_ret
  exact ⟨rfl, rfl⟩
set_option maxRecDepth 100000 in
set_option maxHeartbeats 1000000 in
theorem f16_ok (w : World) {rg u : Nat} (h : w.cell? ⟨rg, 1, none⟩ = some (.int .i64 (u : Int))) : Calls Try.prog 16 #[.pointer (some ⟨rg, 0, none⟩)] w fun e w' => e = .returned (.int .i64 (u : Int)) ∧ w = w' := by
  go_enter Try.func16, Try.ntmps16
  go_wp2_with fail
  go_ret
  exact ⟨rfl, rfl⟩
set_option maxRecDepth 100000 in
set_option maxHeartbeats 1000000 in
theorem f13_ok (w : World) {mb size : Nat} (h1 : 8 ≤ size) (h2 : size ≤ 4096) (h8 : size % 8 = 0) : Calls Try.prog 13 #[.int .i64 size, .pointer (some ⟨mb, 0, none⟩)] w fun e w' =>
    e = .returned (.tuple #[.pointer (some ⟨w.heap.size + 1, 0, none⟩), .int .i64 0]) ∧ w' = (w.alloc (.map #[] 0)).alloc (.cells #[.int .i64 size, .int .i64 0, .pointer (some ⟨mb, 0, none⟩), .slice none 0 0, .map (some w.heap.size)] 80) := by
  have e1 : ((size : Int) % 8) = 0 := by omega
  have e2 : ¬ ((size : Int) < 8) := by omega
  have e3 : ¬ (4096 < (size : Int)) := by omega
  have hmm : ∀ w : World, (Instr.makeMap 77 none).run Try.prog w = .ok (.map (some w.heap.size)) (w.alloc (.map #[] 0)) := fun _ => rfl
  go_enter Try.func13, Try.ntmps13
  go_wp2_with fail
  go_ret2
  exact ⟨rfl, rfl⟩
/-- a memory and a ring are made: what they hold. -/
theorem ring_new {w0 : World} {size : Nat} (hs : size ≤ 4096) : ∀ w w' : World, Hid (w = w0.alloc (.cells #[.slice none 0 0] 83)) → Hid (w' = (w.alloc (.map #[] 0)).alloc (.cells #[.int .i64 size, .int .i64 0, .pointer (some ⟨w0.heap.size, 0, none⟩), .slice none 0 0, .map (some w.heap.size)] 80)) →
    RingAt w0.heap.size (· < w0.heap.size) w' ⟨w.heap.size + 1, w0.heap.size, w.heap.size, size, [], [], .slice none 0 0, .slice none 0 0, [], 0⟩ ∧ Below w0.heap.size w0 w' := by
  intro w w' hw hw'
  have hw := hw.out
  have hw' := hw'.out
  have h1 : w.heap.size = w0.heap.size + 1 := by rw [hw]; simp
  have hM : MemRow w0.heap.size w w0.heap.size (.slice none 0 0) [] := hw ▸ MemRow.new w0
  have hbw : Below w.heap.size w w' := by rw [hw']; exact ((Below.refl _ _).alloc (Nat.le_refl _) _).alloc (by simp) _
  have hb0 : Below w0.heap.size w0 w := hw ▸ Below.one _
  have hsz : (w.alloc (.map #[] 0)).heap.size = w.heap.size + 1 := by simp
  have hc : ∀ j, w'.cell? ⟨w.heap.size + 1, j, none⟩ = (#[.int .i64 size, .int .i64 0, .pointer (some ⟨w0.heap.size, 0, none⟩), .slice none 0 0, .map (some w.heap.size)] : Array Value)[j]? := fun j => by
    rw [hw', ← hsz, World.cell?_alloc_at _ _ _ _ rfl]
  have hk : KindAt w' (w.heap.size + 1) 80 := by rw [hw', ← hsz]; exact KindAt.new _ _ _
  have hth : Thaw w' (w.heap.size + 1) := by rw [hw', ← hsz]; exact Thaw.new _ _ _
  have hs' : w'.heap.size = w0.heap.size + 3 := by rw [hw']; simp [h1]
  refine ⟨⟨fun k hk => hk, fun k hk => by omega, hk, (by show ¬ (w.heap.size + 1 < w0.heap.size); omega), hth, by rw [hc]; rfl, by rw [hc]; rfl, by rw [hc]; rfl, by rw [hc]; rfl, by rw [hc]; rfl, by simpa [usedN] using hs, RowAt.nil _ _ _, fun k hk => by simp [Value.ownBlock] at hk, by simp, ?_, (by show ¬ (w.heap.size < w0.heap.size); omega),
    hM.below hbw, ⟨by simp, fun k hk => by simp [Value.ownBlock] at hk⟩, by simp, .nil, .nil, by simp, by simp, by simp, by simp, by simp⟩, below_then hb0 hbw⟩
  rw [hw', Below.heap_alloc _ _ _ (by simp)]
  exact heap_alloc_new w _
theorem putMap_block {w : World} {r c : Nat} {es : Array MapEntry} {b : Nat} (h : b ≠ r) : (World.putMap w r es c).heap[b]? = w.heap[b]? := Array.getElem?_setIfInBounds_ne (fun e => h e.symm)
theorem putMap_same {w : World} {r c : Nat} {es : Array MapEntry} (h : r < w.heap.size) : (World.putMap w r es c).heap[r]? = some (.map es c) := by simp [World.putMap, h]
theorem kind_map {w : World} {k e c : Nat} {es : Array MapEntry} (h : KindAt w k e) (hm : w.heap[k]? = some (.map es c)) : False := by
  obtain ⟨cs, fz, h⟩ := h
  rw [h] at hm; simp at hm
theorem Only.putMap {S : Nat → Prop} {a w : World} (h : Only S a w) {r c c' : Nat} {es es' : Array MapEntry} (hm : w.heap[r]? = some (.map es' c')) (hr : r < a.heap.size → S r) : Only S a (World.putMap w r es c) :=
  ⟨h.os, h.tape, h.output, by have := h.size; simp [World.putMap]; exact this, fun k hk hn => (putMap_block (fun e => hn (by subst e; exact hr hk))).trans (h.block k hk hn), fun k e he hk => by
    have h1 := h.kind k e he hk
    have h2 : k ≠ r := fun e => by subst e; exact kind_map h1 hm
    obtain ⟨cs, fz, h3⟩ := h1
    exact ⟨cs, fz, by rw [putMap_block h2]; exact h3⟩⟩
/-- the blocks by which a ring is held together. -/
def RingS.spine (R : RingS) (k : Nat) : Prop := k = R.rg ∨ k = R.mp ∨ k = R.mb ∨ R.v.ownBlock = some k ∨ R.rv.ownBlock = some k
theorem RingAt.off {B : Nat} {Pr : Nat → Prop} {w : World} {R : RingS} (h : RingAt B Pr w R) {k e : Nat} (he : e = 5 ∨ e = 85 ∨ e = 95) (hk : KindAt w k e) : ¬ R.spine k := fun hs => by
  rcases hs with rfl | rfl | rfl | hs | hs
  · have := hk.inj h.kind; rcases he with rfl | rfl | rfl <;> exact absurd this (by decide)
  · exact kind_map hk h.map
  · have := hk.inj h.mem.kind; rcases he with rfl | rfl | rfl <;> exact absurd this (by decide)
  · have := hk.inj (own_kind h.mem.own hs).1; rcases he with rfl | rfl | rfl <;> exact absurd this (by decide)
  · have := hk.inj (h.row.own hs).1; rcases he with rfl | rfl | rfl <;> exact absurd this (by decide)
theorem RingAt.spine_np {B : Nat} {Pr : Nat → Prop} {w : World} {R : RingS} (h : RingAt B Pr w R) {k : Nat} (hk : R.spine k) : ¬ Pr k := by
  rcases hk with rfl | rfl | rfl | hs | hs
  · exact h.np
  · exact h.npm
  · exact h.pmem.1
  · exact h.pmem.2 k hs
  · exact h.prow k hs
theorem new_np {B : Nat} {Pr : Nat → Prop} {w : World} {R : RingS} (h : RingAt B Pr w R) {k : Nat} (hk : w.heap.size ≤ k) : ¬ Pr k := fun hp => by have := h.prlt k hp; omega
/-- a region and a record are added. -/
theorem ring_reserve {B : Nat} {Pr : Nat → Prop} {w w' : World} {R : RingS} (H : RingAt B Pr w R) {x : Rgn} {xb : Nat} {v' rv' : Value} {n : Nat} (ho : Only R.spine w w') (hn : 1 ≤ n ∧ n ≤ 4096) (hu : usedN R.rows + takesN n ≤ R.size)
    (hM : MemRow B w' R.mb v' (R.l ++ [(false, x.rb)])) (hv : v'.ownBlock = R.v.ownBlock ∨ ∃ k, v'.ownBlock = some k ∧ w.heap.size ≤ k) (hX : RegAt w' x.rb x.bb false true n x.f) (hx : x.n = n ∧ x.d = false) (hrb : w.heap.size ≤ x.rb) (hbb : w.heap.size ≤ x.bb)
    (hxb : w.heap.size ≤ xb) (kx : KindAt w' xb 85) (tx : Thaw w' xb) (x0 : w'.cell? ⟨xb, 0, none⟩ = some (.int .i64 ((R.rs.length + 1 : Nat) : Int))) (x1 : w'.cell? ⟨xb, 1, none⟩ = some (.int .i64 (n : Int))) (x2 : w'.cell? ⟨xb, 2, none⟩ = some (.int .i64 0)) (x3 : w'.cell? ⟨xb, 3, none⟩ = some (.slice none 0 0))
    (tg : Thaw w' R.rg) (c0 : w'.cell? ⟨R.rg, 0, none⟩ = some (.int .i64 (R.size : Int))) (c1 : w'.cell? ⟨R.rg, 1, none⟩ = some (.int .i64 ((usedN R.rows + takesN n : Nat) : Int))) (c2 : w'.cell? ⟨R.rg, 2, none⟩ = some (.pointer (some ⟨R.mb, 0, none⟩)))
    (c3 : w'.cell? ⟨R.rg, 3, none⟩ = some rv') (c4 : w'.cell? ⟨R.rg, 4, none⟩ = some (.map (some R.mp))) (hr : RowAt B 86 w' rv' (R.rows.map Rec.ptr ++ [.pointer (some ⟨xb, 0, none⟩)])) (hrv : rv'.ownBlock = R.rv.ownBlock ∨ ∃ k, rv'.ownBlock = some k ∧ w.heap.size ≤ k)
    (hmap : w'.heap[R.mp]? = some (.map ((R.es ++ [(R.rs.length + 1, xb, R.clock)]).map ent).toArray (R.clock + 1))) :
    RingAt B Pr w' { R with rows := R.rows ++ [⟨xb, R.rs.length + 1, n, 0, 0, fun _ => 0⟩], rs := R.rs ++ [x], v := v', rv := rv', es := R.es ++ [(R.rs.length + 1, xb, R.clock)], clock := R.clock + 1 } := by
  have hl : ∀ r ∈ R.rows, r.xb < w.heap.size := fun r hr => (H.recs r hr).kind.lt
  refine ⟨H.low, fun k hk => Nat.lt_of_lt_of_le (H.prlt k hk) ho.size, ho.kind _ _ (by decide) H.kind, H.np, tg, c0, by rw [usedN_snoc]; exact c1, c2, c3, c4, by rw [usedN_snoc]; exact ⟨hu, H.fits.2⟩, by rw [List.map_append]; exact hr, fun k hk => ?_, fun r hr => ?_, hmap, H.npm,
    by rw [show RingS.l _ = R.l ++ [(false, x.rb)] by simp [RingS.l]]; exact hM, ⟨H.pmem.1, fun k hk => ?_⟩, fun y hy => ?_, ?_, ?_, fun r hr hst y hy => ?_, fun r hr => ?_, fun j y hj hd => ?_, ?_, fun y hy => ?_⟩
  · rcases hrv with h1 | ⟨k', h1, h2⟩
    · exact H.prow k (h1 ▸ hk)
    · rw [h1] at hk; obtain rfl := Option.some.inj hk; exact new_np H h2
  · rcases List.mem_append.1 hr with hr | hr
    · have h1 := H.recs r hr
      exact h1.only ho (H.off (by simp) h1.kind) (fun hs => H.off (by simp) (h1.done hs).2.2.1)
    · obtain rfl := List.mem_singleton.1 hr
      exact ⟨kx, new_np H hxb, tx, x0, x1, x2, ⟨_, _, _, x3⟩, fun hs => absurd rfl hs, hn, by simp⟩
  · rcases hv with h1 | ⟨k', h1, h2⟩
    · exact H.pmem.2 k (h1 ▸ hk)
    · rw [h1] at hk; obtain rfl := Option.some.inj hk; exact new_np H h2
  · rcases List.mem_append.1 hy with hy | hy
    · obtain ⟨h1, h2, h3⟩ := H.regs y hy
      exact ⟨h1.only ho (H.off (by simp) h1.kR) (H.off (by simp) h1.kB), h2, h3⟩
    · obtain rfl := List.mem_singleton.1 hy
      rw [hx.1, hx.2]
      exact ⟨hX, new_np H hrb, new_np H hbb⟩
  · refine List.pairwise_append.2 ⟨H.apr, by simp, fun y hy z hz => ?_⟩
    obtain rfl := List.mem_singleton.1 hz
    have h1 := (H.regs y hy).1
    have h2 := h1.ltR
    have h3 := h1.lt
    exact ⟨by omega, by omega⟩
  · refine List.pairwise_append.2 ⟨H.apx, by simp, fun y hy z hz => ?_⟩
    obtain rfl := List.mem_singleton.1 hz
    have h1 := hl y hy
    have h2 := (H.link y hy).2.1
    exact ⟨by show y.xb ≠ xb; omega, by show y.id ≠ R.rs.length + 1; omega, fun _ h => absurd rfl h⟩
  · rcases List.mem_append.1 hr with hr1 | hr
    · rcases List.mem_append.1 hy with hy | hy
      · exact H.apb r hr1 hst y hy
      · obtain rfl := List.mem_singleton.1 hy
        have := ((H.recs r hr1).done hst).2.2.1.lt
        omega
    · obtain rfl := List.mem_singleton.1 hr
      exact absurd rfl hst
  · rcases List.mem_append.1 hr with hr | hr
    · obtain ⟨h1, h2, h3⟩ := H.link r hr
      refine ⟨h1, by simp; omega, fun hst => ?_⟩
      obtain ⟨y, h4, h5⟩ := h3 hst
      exact ⟨y, by rw [List.getElem?_append_left (by omega)]; exact h4, h5⟩
    · obtain rfl := List.mem_singleton.1 hr
      exact ⟨by simp, by simp, fun _ => ⟨x, by simp, hx.2, hx.1⟩⟩
  · by_cases hj2 : j < R.rs.length
    · rw [List.getElem?_append_left hj2] at hj
      obtain ⟨r, h1, h2⟩ := H.live j y hj hd
      exact ⟨r, List.mem_append_left _ h1, h2⟩
    · have h1 := (List.getElem?_eq_some_iff.1 hj).1
      simp at h1
      exact ⟨_, List.mem_append_right _ (List.mem_singleton.2 rfl), rfl, by show R.rs.length + 1 = j + 1; omega⟩
  · have := H.opens
    simp only [List.map_append, List.filter_append, this]
    simp
  · rcases List.mem_append.1 hy with hy | hy
    · have := H.stamps y hy
      show y.2.2 < R.clock + 1; omega
    · obtain rfl := List.mem_singleton.1 hy
      exact Nat.lt_succ_self _
theorem used_len (rows : List Rec) : 8 * rows.length ≤ usedN rows := by
  induction rows with
  | nil => simp
  | cons r l ih => rw [usedN_cons, List.length_cons]; have : 8 ≤ takesN r.n := by unfold takesN; omega
                   omega
theorem usedN_len {B : Nat} {Pr : Nat → Prop} {w : World} {R : RingS} (h : RingAt B Pr w R) : R.rows.length < 2 ^ 40 := by
  have := used_len R.rows; have := h.fits; omega
end Go.Proofs.Ytmjeloinibembaa
