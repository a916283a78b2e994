/-
  THE DOCUMENT'S RING: what it holds.
-/
import Derived.Test.YtmjeloinibembaaRefA
namespace Go.Proofs.Ytmjeloinibembaa
open Go.RowKit
set_option linter.unusedVariables false
set_option linter.unusedSimpArgs false
structure QR where
  id : Nat
  n : Nat
  st : Nat
  b : Value
  bb : Nat
  g : Nat → Nat
def QR.cells (r : QR) : List Value := [.int .i64 (r.id : Int), .int .i64 (r.n : Int), .int .i64 (r.st : Int), r.b]
def flat (l : List QR) : List Value := l.flatMap QR.cells
theorem flat_len (l : List QR) : (flat l).length = l.length * 4 := by
  induction l with
  | nil => rfl
  | cons r l ih => simp only [flat, List.flatMap_cons, List.length_append] at ih ⊢; rw [ih]; simp [QR.cells]; omega
theorem flatQ_at : ∀ {l : List QR} {k : Nat} {r : QR}, l[k]? = some r → ∀ j, j < 4 → (flat l)[k * 4 + j]? = r.cells[j]?
  | [], k, r, h, j, _ => by simp at h
  | a :: l, 0, r, h, j, hj => by
    simp only [List.getElem?_cons_zero, Option.some.injEq] at h
    subst h
    show (a.cells ++ flat l)[0 * 4 + j]? = _
    rw [Nat.zero_mul, Nat.zero_add, List.getElem?_append_left (by simp [QR.cells]; exact hj)]
  | a :: l, k + 1, r, h, j, hj => by
    rw [List.getElem?_cons_succ] at h
    show (a.cells ++ flat l)[(k + 1) * 4 + j]? = _
    have h4 : a.cells.length = 4 := rfl
    rw [List.getElem?_append_right (by omega), show (k + 1) * 4 + j - a.cells.length = k * 4 + j by omega]
    exact flatQ_at h j hj
theorem flat_append (l m : List QR) : flat (l ++ m) = flat l ++ flat m := by simp [flat]
theorem flat_drop : ∀ (l : List QR) (k : Nat), (flat l).drop (k * 4) = flat (l.drop k)
  | l, 0 => by simp
  | [], k + 1 => by simp [flat]
  | a :: l, k + 1 => by
    show (a.cells ++ flat l).drop ((k + 1) * 4) = flat (l.drop k)
    have h4 : a.cells.length = 4 := rfl
    rw [show (k + 1) * 4 = a.cells.length + k * 4 by omega, List.drop_append]
    have : (a.cells).drop (a.cells.length + k * 4) = [] := List.drop_eq_nil_of_le (by omega)
    rw [this, List.nil_append, show a.cells.length + k * 4 - a.cells.length = k * 4 by omega]
    exact flat_drop l k
theorem flat_set : ∀ {l : List QR} {k : Nat} {r r' : QR} (j : Nat) (v : Value), l[k]? = some r → j < 4 → r'.cells = r.cells.set j v → (flat l).set (k * 4 + j) v = flat (l.set k r')
  | [], k, r, r', j, v, h, _, _ => by simp at h
  | a :: l, 0, r, r', j, v, h, hj, hr => by
    simp only [List.getElem?_cons_zero, Option.some.injEq] at h
    subst h
    show (a.cells ++ flat l).set (0 * 4 + j) v = r'.cells ++ flat l
    rw [Nat.zero_mul, Nat.zero_add, List.set_append_left _ _ (by simp [QR.cells]; exact hj), hr]
  | a :: l, k + 1, r, r', j, v, h, hj, hr => by
    rw [List.getElem?_cons_succ] at h
    show (a.cells ++ flat l).set ((k + 1) * 4 + j) v = a.cells ++ flat (l.set k r')
    have h4 : a.cells.length = 4 := rfl
    rw [List.set_append_right _ _ (by omega), show (k + 1) * 4 + j - a.cells.length = k * 4 + j by omega, flat_set j v h hj hr]
theorem KindAt.keep {S : Nat → Prop} {w w' : World} {k e : Nat} (h : KindAt w k e) (ho : Only S w w') (hn : ¬ S k) : KindAt w' k e := by
  obtain ⟨cs, fz, hc⟩ := h
  exact ⟨cs, fz, (ho.block k (Array.getElem?_eq_some_iff.1 hc).1 hn).trans hc⟩
structure Prt where
  pb : Nat
  bb : Nat
  n : Nat
  live : Bool
  f : Nat → Nat
def Prt.ptr (p : Prt) : Value := .pointer (some ⟨p.pb, 0, none⟩)
structure PartAt (w : World) (p : Prt) : Prop where
  kind : KindAt w p.pb 113
  thaw : Thaw w p.pb
  c0 : w.cell? ⟨p.pb, 0, none⟩ = some (.bool p.live)
  c1 : w.cell? ⟨p.pb, 1, none⟩ = some (.bool false)
  c4 : ∃ c, p.n ≤ c ∧ w.cell? ⟨p.pb, 4, none⟩ = some (.slice (some ⟨p.bb, 0, none⟩) p.n c)
  bts : Bts w p.bb 0 p.n p.f
  kB : KindAt w p.bb 5
  tB : Thaw w p.bb
  byte : ∀ i, i < p.n → p.f i < 256
  pos : 1 ≤ p.n ∧ p.n ≤ 4096
theorem PartAt.only {S : Nat → Prop} {w w' : World} {p : Prt} (h : PartAt w p) (ho : Only S w w') (h1 : ¬ S p.pb) (h2 : ¬ S p.bb) : PartAt w' p := by
  have c : ∀ j, w'.cell? ⟨p.pb, j, none⟩ = w.cell? ⟨p.pb, j, none⟩ := fun j => ho.cell (p := ⟨p.pb, j, none⟩) h.kind.lt h1
  exact ⟨h.kind.keep ho h1, h.thaw.only ho h.kind.lt h1, by rw [c]; exact h.c0, by rw [c]; exact h.c1, h.c4.imp fun _ hc => ⟨hc.1, by rw [c]; exact hc.2⟩, fun i hi => by rw [ho.cell (p := ⟨p.bb, 0 + i, none⟩) h.kB.lt h2]; exact h.bts i hi,
    ho.kind _ _ (by decide) h.kB, h.tB.only ho h.kB.lt h2, h.byte, h.pos⟩
structure QRAt (w : World) (r : QR) : Prop where
  two : r.st ≤ 2
  pos : 1 ≤ r.n ∧ r.n ≤ 4096
  pend : r.st = 0 → r.b = .slice none 0 0
  done : r.st ≠ 0 → (∃ c, r.b = .slice (some ⟨r.bb, 0, none⟩) r.n c) ∧ Bts w r.bb 0 r.n r.g ∧ KindAt w r.bb 5 ∧ ∀ i, i < r.n → r.g i < 256
theorem QRAt.only {S : Nat → Prop} {w w' : World} {r : QR} (h : QRAt w r) (ho : Only S w w') (h1 : r.st ≠ 0 → ¬ S r.bb) : QRAt w' r :=
  ⟨h.two, h.pos, h.pend, fun hs => by
    obtain ⟨a, b, c, d⟩ := h.done hs
    exact ⟨a, fun i hi => by rw [ho.cell (p := ⟨r.bb, 0 + i, none⟩) c.lt (h1 hs)]; exact b i hi, ho.kind _ _ (by decide) c, d⟩⟩
structure RefS where
  qb : Nat
  nb : Nat
  size : Nat
  recs : List QR
  parts : List Prt
  rv : Value
  pv : Value
def RefS.own (Q : RefS) (k : Nat) : Prop := k = Q.qb ∨ k = Q.nb ∨ Q.rv.ownBlock = some k ∨ Q.pv.ownBlock = some k ∨ (∃ p ∈ Q.parts, k = p.pb ∨ k = p.bb) ∨ (∃ r ∈ Q.recs, r.st ≠ 0 ∧ k = r.bb)
structure RefAt (B : Nat) (w : World) (Q : RefS) : Prop where
  kq : KindAt w Q.qb 102
  tq : Thaw w Q.qb
  q0 : w.cell? ⟨Q.qb, 0, none⟩ = some (.int .i64 (Q.size : Int))
  q1 : w.cell? ⟨Q.qb, 1, none⟩ = some (.pointer (some ⟨Q.nb, 0, none⟩))
  q2 : w.cell? ⟨Q.qb, 2, none⟩ = some Q.rv
  kn : KindAt w Q.nb 99
  tn : Thaw w Q.nb
  n0 : w.cell? ⟨Q.nb, 0, none⟩ = some Q.pv
  row : RowQ B w Q.rv Q.recs.length (flat Q.recs)
  prow : RowAt B 106 w Q.pv (Q.parts.map Prt.ptr)
  parts : ∀ p ∈ Q.parts, PartAt w p
  recs : ∀ r ∈ Q.recs, QRAt w r
  app : Q.parts.Pairwise fun x y => x.pb ≠ y.pb ∧ x.bb ≠ y.bb
  apr : ∀ r ∈ Q.recs, r.st ≠ 0 → ∀ p ∈ Q.parts, r.bb ≠ p.bb
  ge : ∀ k, Q.own k → B ≤ k
theorem RefAt.lt {B : Nat} {w : World} {Q : RefS} (h : RefAt B w Q) {k : Nat} (hk : Q.own k) : k < w.heap.size := by
  rcases hk with rfl | rfl | hk | hk | ⟨p, hp, rfl | rfl⟩ | ⟨r, hr, hs, rfl⟩
  · exact h.kq.lt
  · exact h.kn.lt
  · exact (h.row.own hk).1.lt
  · exact (h.prow.own hk).1.lt
  · exact (h.parts p hp).kind.lt
  · exact (h.parts p hp).kB.lt
  · exact ((h.recs r hr).done hs).2.2.1.lt
theorem RefAt.only {S : Nat → Prop} {B : Nat} {w w' : World} {Q : RefS} (h : RefAt B w Q) (ho : Only S w w') (hs : ∀ k, Q.own k → ¬ S k) : RefAt B w' Q := by
  have n1 := hs Q.qb (.inl rfl)
  have n2 := hs Q.nb (.inr (.inl rfl))
  have c : ∀ j, w'.cell? ⟨Q.qb, j, none⟩ = w.cell? ⟨Q.qb, j, none⟩ := fun j => ho.cell (p := ⟨Q.qb, j, none⟩) h.kq.lt n1
  exact ⟨h.kq.keep ho n1, h.tq.only ho h.kq.lt n1, by rw [c]; exact h.q0, by rw [c]; exact h.q1, by rw [c]; exact h.q2, h.kn.keep ho n2, h.tn.only ho h.kn.lt n2, by rw [ho.cell (p := ⟨Q.nb, 0, none⟩) h.kn.lt n2]; exact h.n0,
    h.row.only ho fun k hk => hs k (.inr (.inr (.inl hk))), h.prow.only ho fun k hk => hs k (.inr (.inr (.inr (.inl hk)))), fun p hp => (h.parts p hp).only ho (hs _ (.inr (.inr (.inr (.inr (.inl ⟨p, hp, .inl rfl⟩)))))) (hs _ (.inr (.inr (.inr (.inr (.inl ⟨p, hp, .inr rfl⟩)))))),
    fun r hr => (h.recs r hr).only ho fun hst => hs _ (.inr (.inr (.inr (.inr (.inr ⟨r, hr, hst, rfl⟩))))), h.app, h.apr, h.ge⟩
theorem RefAt.below {B : Nat} {w w' : World} {Q : RefS} (h : RefAt B w Q) (hb : Below w.heap.size w w') : RefAt B w' Q := h.only (S := fun _ => False) (Only.of_below hb) fun _ _ h => h
def usedQ (l : List QR) : Nat := (l.map fun r => takesN r.n).sum
theorem used_take {l : List QR} {k : Nat} {r : QR} (h : l[k]? = some r) : usedQ (l.take (k + 1)) = usedQ (l.take k) + takesN r.n := by
  rw [List.take_add_one, h]; simp [usedQ]
theorem usedQ_app (l m : List QR) : usedQ (l ++ m) = usedQ l + usedQ m := by simp [usedQ]
theorem used_take_le (l : List QR) (k : Nat) : usedQ (l.take k) ≤ usedQ l := by
  have h := usedQ_app (l.take k) (l.drop k)
  rw [List.take_append_drop] at h
  omega
/-! ### the memory's methods -/
set_option maxRecDepth 100000 in
set_option maxHeartbeats 1000000 in
theorem f55_ok {B : Nat} (w : World) {Q : RefS} (H : Hid (RefAt B w Q)) (hl : Hid (Q.parts.length < 2 ^ 30)) {i : Int} {j : Nat} {p : Prt} (hij : Hid (i = j + 1)) (hp : Hid (Q.parts[j]? = some p)) :
    Calls Try.prog 55 #[.pointer (some ⟨Q.nb, 0, none⟩), .int .i64 i] w fun e w' => e = .returned (.pointer (some ⟨p.pb, 0, none⟩)) ∧ w = w' := by
  have hj : j < Q.parts.length := (List.getElem?_eq_some_iff.1 hp.out).1
  obtain ⟨a, c, hv⟩ := H.out.prow.len
  rw [List.length_map] at hv
  have hrow := H.out.prow
  rw [hv] at hrow
  obtain ⟨g, o, rfl, -, hx⟩ := hrow.at' (j := j) (x := p.ptr) (by rw [List.getElem?_map, hp.out]; rfl)
  have h0 := H.out.n0
  rw [hv] at h0
  unfold Prt.ptr at hx
  obtain ⟨n, hn⟩ : ∃ n, Q.parts.length = n := ⟨_, rfl⟩
  rw [hn] at h0 hj hl
  have hi := hij.out
  subst hi
  have hw : wrap64 (j : Int) = (j : Int) := by have := hl.out; unfold wrap64; omega
  have h1 : ¬ ((j : Int) + 1 < 1) := by omega
  have h2 : ¬ ((n : Int) < (j : Int) + 1) := by omega
  clear hn hv hrow
  go_enter Try.func55, Try.ntmps55
  go_wp2_with fail
  go_ret
  exact ⟨rfl, rfl⟩
set_option maxRecDepth 100000 in
set_option maxHeartbeats 1000000 in
theorem f55_none {B : Nat} (w : World) {Q : RefS} (H : Hid (RefAt B w Q)) {i : Int} (hi : Hid (i < 1 ∨ (Q.parts.length : Int) < i)) :
    Calls Try.prog 55 #[.pointer (some ⟨Q.nb, 0, none⟩), .int .i64 i] w fun e w' => e = .returned (.pointer none) ∧ w = w' := by
  obtain ⟨a, c, hv⟩ := H.out.prow.len
  rw [List.length_map] at hv
  have h0 := H.out.n0
  rw [hv] at h0
  clear hv
  by_cases h1 : i < 1
  · go_enter Try.func55, Try.ntmps55
    go_wp2_with fail
    go_ret
    exact ⟨rfl, rfl⟩
  · have h2 : (Q.parts.length : Int) < i := by have := hi.out; omega
    go_enter Try.func55, Try.ntmps55
    go_wp2_with fail
    go_ret
    exact ⟨rfl, rfl⟩
set_option maxRecDepth 100000 in
set_option maxHeartbeats 1000000 in
theorem f64_ok {B : Nat} (w : World) {Q : RefS} (H : Hid (RefAt B w Q)) (hl : Hid (Q.parts.length < 2 ^ 30)) {i : Int} {j : Nat} {p : Prt} (hij : Hid (i = j + 1)) (hp : Hid (Q.parts[j]? = some p)) :
    Calls Try.prog 64 #[.pointer (some ⟨Q.nb, 0, none⟩), .int .i64 i] w fun e w' => ∃ c, e = .returned (.tuple #[.slice (some ⟨p.bb, 0, none⟩) p.n c, .bool true]) ∧ w = w' := by
  have hP := H.out.parts p (List.mem_of_getElem? hp.out)
  have c1 := hP.c1
  obtain ⟨c, _, c4⟩ := hP.c4
  go_enter Try.func64, Try.ntmps64
  go_wp2_with fail
  refine (f55_ok w H hl hij hp).mono ?_; rintro e w' ⟨rfl, rfl⟩
  go_wp2_with fail
  go_ret2
  exact ⟨_, rfl, rfl⟩
set_option maxRecDepth 100000 in
set_option maxHeartbeats 1000000 in
theorem f38_ok {B : Nat} (w : World) {Q : RefS} (H : Hid (RefAt B w Q)) (hl : Hid (Q.parts.length < 2 ^ 30)) {i : Int} {j : Nat} {p : Prt} (hij : Hid (i = j + 1)) (hp : Hid (Q.parts[j]? = some p)) :
    Calls Try.prog 38 #[.pointer (some ⟨Q.nb, 0, none⟩), .int .i64 i] w fun e w' => e = .returned (.bool p.live) ∧ w = w' := by
  have hP := H.out.parts p (List.mem_of_getElem? hp.out)
  have c0 := hP.c0
  go_enter Try.func38, Try.ntmps38
  go_wp2_with fail
  refine (f55_ok w H hl hij hp).mono ?_; rintro e w' ⟨rfl, rfl⟩
  go_wp2_with fail
  go_ret
  exact ⟨rfl, rfl⟩
set_option maxRecDepth 100000 in
set_option maxHeartbeats 1000000 in
theorem f38_none {B : Nat} (w : World) {Q : RefS} (H : Hid (RefAt B w Q)) {i : Int} (hi : Hid (i < 1 ∨ (Q.parts.length : Int) < i)) :
    Calls Try.prog 38 #[.pointer (some ⟨Q.nb, 0, none⟩), .int .i64 i] w fun e w' => e = .returned (.bool false) ∧ w = w' := by
  go_enter Try.func38, Try.ntmps38
  go_wp2_with fail
  refine (f55_none w H hi).mono ?_; rintro e w' ⟨rfl, rfl⟩
  go_wp2_with fail
  go_ret
  exact ⟨rfl, rfl⟩
set_option maxRecDepth 100000 in
set_option maxHeartbeats 1000000 in
theorem f65_ok {B : Nat} (w : World) {Q : RefS} (H : Hid (RefAt B w Q)) (hl : Hid (Q.parts.length < 2 ^ 30)) {i : Int} {j : Nat} {p : Prt} (hij : Hid (i = j + 1)) (hp : Hid (Q.parts[j]? = some p)) (hlv : Hid (p.live = true)) :
    Calls Try.prog 65 #[.pointer (some ⟨Q.nb, 0, none⟩), .int .i64 i] w fun e w' => e = .returned (.bool true) ∧ w' = w.setCell ⟨p.pb, 0, none⟩ (.bool false) := by
  have hP := H.out.parts p (List.mem_of_getElem? hp.out)
  have c0 := hP.c0
  have z0 := hP.thaw 0
  rw [hlv.out] at c0
  go_enter Try.func65, Try.ntmps65
  go_wp2_with fail
  refine (f38_ok w H hl hij hp).mono ?_; rintro e w' ⟨rfl, rfl⟩
  rw [hlv.out]
  go_wp2_with fail
  refine (f55_ok w H hl hij hp).mono ?_; rintro e w' ⟨rfl, rfl⟩
  go_wp2_with fail
  go_ret
  exact ⟨rfl, rfl⟩
set_option maxRecDepth 100000 in
set_option maxHeartbeats 1000000 in
theorem f52_ok (w : World) {n : Nat} (hn : n ≤ 100000) : Calls Try.prog 52 #[.int .i64 n] w fun e w' => e = .returned (.int .i64 (takesN n : Int)) ∧ w = w' := by
  have e1 : (8 + ((n : Int) + 7) / 8 * 8) = (takesN n : Int) := by unfold takesN; omega
  go_enter Try.func52, Try.ntmps52
  go_wp2_with fail
  go_ret
  exact ⟨rfl, rfl⟩
end Go.Proofs.Ytmjeloinibembaa
