/-
  THE DOCUMENT'S RING: Submit, Discard, Set, Output; Set where it does nothing.
-/
import Derived.Test.YtmjeloinibembaaRefF
namespace Go.Proofs.Ytmjeloinibembaa
open Go.RowKit
set_option linter.unusedVariables false
set_option linter.unusedSimpArgs false
set_option maxRecDepth 100000 in
set_option maxHeartbeats 1000000 in
theorem f28_none {B : Nat} (w : World) {Q : RefS} (H : Hid (RefAt B w Q)) (hl : Hid (Q.recs.length < 2 ^ 20)) {id : Int} (hno : Hid (∀ r ∈ Q.recs, ¬ ((r.id : Int) = id ∧ r.st = 0))) :
    Calls Try.prog 28 #[.pointer (some ⟨Q.qb, 0, none⟩), .int .i64 id] w fun e w' => e = .returned (.int .i64 101) ∧ w = w' := by
  go_enter Try.func28, Try.ntmps28
  go_wp2_with fail
  refine (f54_none w H hl hno (s := 1)).mono ?_; rintro e w' ⟨rfl, rfl⟩
  go_wp2_with fail
  go_ret
  exact ⟨rfl, rfl⟩
set_option maxRecDepth 100000 in
set_option maxHeartbeats 1000000 in
theorem f28_hit {B : Nat} (w : World) {Q : RefS} (H : Hid (RefAt B w Q)) (hl : Hid (Q.recs.length < 2 ^ 20)) (hlp : Hid (Q.parts.length < 2 ^ 30)) {k : Nat} {r : QR} (hr : Hid (Q.recs[k]? = some r)) (hst : Hid (r.st = 0)) {id : Int} (hid : Hid ((r.id : Int) = id ∧ 1 ≤ r.id)) (hno : Hid (∀ j a, j < k → Q.recs[j]? = some a → ¬ ((a.id : Int) = id ∧ a.st = 0)))
    {p : Prt} (hp : Hid (Q.parts[r.id - 1]? = some p)) (hlv : Hid (p.live = true)) (hpn : Hid (p.n = r.n)) :
    Calls Try.prog 28 #[.pointer (some ⟨Q.qb, 0, none⟩), .int .i64 id] w fun e w' => e = .returned (.int .i64 0) ∧ Only Q.own w w' ∧ ∃ (g c : Nat), w.heap.size ≤ g ∧
      RefAt B w' { Q with recs := Q.recs.set k { r with st := 1, b := .slice (some ⟨g, 0, none⟩) p.n c, bb := g, g := p.f }, parts := Q.parts.set (r.id - 1) { p with live := false } } := by
  go_enter Try.func28, Try.ntmps28
  go_wp2_with fail
  refine (f54_hit w H hl hlp hr hst hid hno hp hlv hpn (s := 1) (Lib.hid (by decide))).mono ?_; rintro e w' ⟨rfl, h⟩
  have h := Lib.hid h
  go_wp2_with fail
  go_ret
  exact ⟨rfl, h.out⟩
set_option maxRecDepth 100000 in
set_option maxHeartbeats 1000000 in
theorem f29_none {B : Nat} (w : World) {Q : RefS} (H : Hid (RefAt B w Q)) (hl : Hid (Q.recs.length < 2 ^ 20)) {id : Int} (hno : Hid (∀ r ∈ Q.recs, ¬ ((r.id : Int) = id ∧ r.st = 0))) :
    Calls Try.prog 29 #[.pointer (some ⟨Q.qb, 0, none⟩), .int .i64 id] w fun e w' => e = .returned (.int .i64 101) ∧ w = w' := by
  go_enter Try.func29, Try.ntmps29
  go_wp2_with fail
  refine (f54_none w H hl hno (s := 2)).mono ?_; rintro e w' ⟨rfl, rfl⟩
  go_wp2_with fail
  go_ret
  exact ⟨rfl, rfl⟩
set_option maxRecDepth 100000 in
set_option maxHeartbeats 1000000 in
theorem f29_hit {B : Nat} (w : World) {Q : RefS} (H : Hid (RefAt B w Q)) (hl : Hid (Q.recs.length < 2 ^ 20)) (hlp : Hid (Q.parts.length < 2 ^ 30)) {k : Nat} {r : QR} (hr : Hid (Q.recs[k]? = some r)) (hst : Hid (r.st = 0)) {id : Int} (hid : Hid ((r.id : Int) = id ∧ 1 ≤ r.id)) (hno : Hid (∀ j a, j < k → Q.recs[j]? = some a → ¬ ((a.id : Int) = id ∧ a.st = 0)))
    {p : Prt} (hp : Hid (Q.parts[r.id - 1]? = some p)) (hlv : Hid (p.live = true)) (hpn : Hid (p.n = r.n)) :
    Calls Try.prog 29 #[.pointer (some ⟨Q.qb, 0, none⟩), .int .i64 id] w fun e w' => e = .returned (.int .i64 0) ∧ Only Q.own w w' ∧ ∃ (g c : Nat), w.heap.size ≤ g ∧
      RefAt B w' { Q with recs := Q.recs.set k { r with st := 2, b := .slice (some ⟨g, 0, none⟩) p.n c, bb := g, g := p.f }, parts := Q.parts.set (r.id - 1) { p with live := false } } := by
  go_enter Try.func29, Try.ntmps29
  go_wp2_with fail
  refine (f54_hit w H hl hlp hr hst hid hno hp hlv hpn (s := 2) (Lib.hid (by decide))).mono ?_; rintro e w' ⟨rfl, h⟩
  have h := Lib.hid h
  go_wp2_with fail
  go_ret
  exact ⟨rfl, h.out⟩
theorem PartAt.over {w : World} {p : Prt} (h : PartAt w p) {m : Nat} {g : Nat → Nat} (hm : m ≤ p.n) (hg : ∀ i, i < m → g i < 256) : PartAt (w.setCells p.bb 0 (byteL g m)) { p with f := fun k => if k < m then g k else p.f k } := by
  have ho : Only (· = p.bb) w (w.setCells p.bb 0 (byteL g m)) := Only.setCells (S := (· = p.bb)) (fun _ => rfl) (byteL g m) 0 w (Only.refl _ _)
  have hne : ¬ p.pb = p.bb := fun he => absurd (h.kind.inj (he ▸ h.kB)) (by decide)
  have c : ∀ j, (w.setCells p.bb 0 (byteL g m)).cell? ⟨p.pb, j, none⟩ = w.cell? ⟨p.pb, j, none⟩ := fun j => ho.cell (p := ⟨p.pb, j, none⟩) h.kind.lt hne
  refine ⟨h.kind.keep ho hne, h.thaw.only ho h.kind.lt hne, by rw [c]; exact h.c0, by rw [c]; exact h.c1, h.c4.imp fun _ hc => ⟨hc.1, by rw [c]; exact hc.2⟩, fun i hi => ?_, ho.kind _ _ (by decide) h.kB, fun j => by rw [World.frozen?_setCells]; exact h.tB j, fun i hi => ?_, h.pos⟩
  · show (w.setCells p.bb 0 (byteL g m)).cell? ⟨p.bb, 0 + i, none⟩ = some (.int .u8 (((if i < m then g i else p.f i : Nat)) : Int))
    by_cases him : i < m
    · have h1 := World.cell?_setCells_in p.bb (byteL g m) 0 w (fun j hj => by rw [byteL_length] at hj; rw [h.bts j (by show j < p.n; omega)]; rfl) i (by rw [byteL_length]; exact him)
      rw [h1, if_pos him]
      simp [byteL]
    · rw [World.cell?_setCells_out p.bb (byteL g m) 0 w _ (fun _ _ => .inr (by rw [byteL_length]; show 0 + m ≤ 0 + i; omega)), if_neg him]
      exact h.bts i hi
  · show (if i < m then g i else p.f i) < 256
    split
    · exact hg i (by omega)
    · exact h.byte i hi
set_option maxRecDepth 100000 in
set_option maxHeartbeats 1000000 in
theorem f33_in {B : Nat} (w : World) {Q : RefS} (H : Hid (RefAt B w Q)) (hl : Hid (Q.parts.length < 2 ^ 30)) {i : Int} {j : Nat} {p : Prt} (hij : Hid (i = j + 1)) (hp : Hid (Q.parts[j]? = some p)) {sb so m c : Nat} {g : Nat → Nat}
    (hb : Hid (Bts w sb so m g)) (hg : Hid (∀ i, i < m → g i < 256)) (hm : Hid (m ≤ p.n)) :
    Calls Try.prog 33 #[.pointer (some ⟨Q.nb, 0, none⟩), .int .i64 i, .int .i64 0, .slice (some ⟨sb, so, none⟩) m c] w fun e w' => e = .returned (.bool true) ∧ Only Q.own w w' ∧ RefAt B w' { Q with parts := Q.parts.set j { p with f := fun k => if k < m then g k else p.f k } } := by
  have hpm := List.mem_of_getElem? hp.out
  have hP := Lib.hid (H.out.parts p hpm)
  have c1 := hP.out.c1
  obtain ⟨cr, hnc, c4⟩ := hP.out.c4
  obtain ⟨n, hn⟩ : ∃ n, Hid (p.n = n) := ⟨_, Lib.hid rfl⟩
  rw [hn.out] at c4 hnc hm
  have hn1 : 1 ≤ n ∧ n ≤ 4096 := hn.out ▸ hP.out.pos
  have e1 : ¬ ((n : Int) < 0) := by omega
  have e2 : ¬ ((n : Int) < (m : Int)) := by have := hm.out; omega
  have e3 : IntKind.i64.wrap (n : Int) = (n : Int) := by rw [IntKind.wrap_i64]; omega
  have e4 : ¬ (cr = 0) := by omega
  have hcp : ∀ ty, (Builtin.copy_ #[30, 30] ty #[.slice (some ⟨p.bb, 0, none⟩) n cr, .slice (some ⟨sb, so, none⟩) m c]).run Try.prog w = .ok (goInt m) (w.setCells p.bb 0 (byteL g m)) := fun ty => by
    have h1 := run_copy_cells (P := Try.prog) w 30 30 ty 5 p.bb 0 n cr ⟨sb, so, none⟩ m c (byteL g m) Try.underlying30 (by rw [info5]; rfl) (by rw [byteL_length]; exact (Nat.min_eq_left hm.out).symm)
      (fun j v hv => by obtain ⟨hj, rfl⟩ := byteL_some hv; rw [addr_add]; exact hb.out j hj) (fun j hj => by rw [byteL_length] at hj; rw [hP.out.bts j (by have := hm.out; have := hn.out; omega)]; rfl) (fun j hj => hP.out.tB _) byteL_one
    rw [byteL_length] at h1
    exact h1
  have hO := Only.setCells (S := fun k => k = p.pb ∨ k = p.bb) (b := p.bb) (fun _ => .inr rfl) (byteL g m) 0 w (Only.refl _ _)
  have hF := Lib.hid (ref_part H.out hp.out hO (hP.out.over (by rw [hn.out]; exact hm.out) hg.out) rfl rfl)
  have hO2 : Hid (Only Q.own w (w.setCells p.bb 0 (byteL g m))) := Lib.hid (hO.mono fun k _ h => .inr (.inr (.inr (.inr (.inl ⟨p, hpm, h⟩)))))
  clear hO
  go_enter Try.func33, Try.ntmps33
  go_wp2_with fail
  refine (f55_ok w H hl hij hp).mono ?_; rintro e w' ⟨rfl, rfl⟩
  go_wp2_with fail
  go_ret
  exact ⟨rfl, hO2.out, hF.out⟩
set_option maxRecDepth 100000 in
set_option maxHeartbeats 1000000 in
theorem f33_none {B : Nat} (w : World) {Q : RefS} (H : Hid (RefAt B w Q)) {i : Int} (hi : Hid (i < 1 ∨ (Q.parts.length : Int) < i)) {a : Option Addr} {m c : Nat} :
    Calls Try.prog 33 #[.pointer (some ⟨Q.nb, 0, none⟩), .int .i64 i, .int .i64 0, .slice a m c] w fun e w' => e = .returned (.bool false) ∧ w = w' := by
  go_enter Try.func33, Try.ntmps33
  go_wp2_with fail
  refine (f55_none w H hi).mono ?_; rintro e w' ⟨rfl, rfl⟩
  go_wp2_with fail
  go_ret
  exact ⟨rfl, rfl⟩
set_option maxRecDepth 100000 in
set_option maxHeartbeats 1000000 in
theorem f33_long {B : Nat} (w : World) {Q : RefS} (H : Hid (RefAt B w Q)) (hl : Hid (Q.parts.length < 2 ^ 30)) {i : Int} {j : Nat} {p : Prt} (hij : Hid (i = j + 1)) (hp : Hid (Q.parts[j]? = some p)) {a : Option Addr} {m c : Nat} (hm : Hid (p.n < m)) :
    Calls Try.prog 33 #[.pointer (some ⟨Q.nb, 0, none⟩), .int .i64 i, .int .i64 0, .slice a m c] w fun e w' => e = .returned (.bool false) ∧ w = w' := by
  have hP := Lib.hid (H.out.parts p (List.mem_of_getElem? hp.out))
  have c1 := hP.out.c1
  obtain ⟨cr, hnc, c4⟩ := hP.out.c4
  obtain ⟨n, hn⟩ : ∃ n, Hid (p.n = n) := ⟨_, Lib.hid rfl⟩
  rw [hn.out] at c4 hnc hm
  have hn1 : 1 ≤ n ∧ n ≤ 4096 := hn.out ▸ hP.out.pos
  have e1 : ¬ ((n : Int) < 0) := by omega
  have e2 : (n : Int) < (m : Int) := by have := hm.out; omega
  have e3 : IntKind.i64.wrap (n : Int) = (n : Int) := by rw [IntKind.wrap_i64]; omega
  go_enter Try.func33, Try.ntmps33
  go_wp2_with fail
  refine (f55_ok w H hl hij hp).mono ?_; rintro e w' ⟨rfl, rfl⟩
  go_wp2_with fail
  go_ret
  exact ⟨rfl, rfl⟩
/-! the memory's Set where it does nothing -/
set_option maxRecDepth 100000 in
set_option maxHeartbeats 1000000 in
theorem f50_none {B : Nat} {w : World} {mb : Nat} {v : Value} {l : List (Bool × Nat)} (M : Hid (MemRow B w mb v l)) {i : Int} (hi : Hid (i < 1 ∨ (l.length : Int) < i)) :
    Calls Try.prog 50 #[.pointer (some ⟨mb, 0, none⟩), .int .i64 i] w fun e w' => e = .returned .nilIface ∧ w = w' := by
  obtain ⟨a, c, hv⟩ : ∃ a c, v = .slice a l.length c := by
    have := (row_of_own (xs := l.map areaV) (by rw [List.length_map]; exact M.out.own)).len
    rwa [List.length_map] at this
  have h0 := M.out.all
  rw [hv] at h0
  clear hv
  by_cases h1 : i < 1
  · go_enter Try.func50, Try.ntmps50
    go_wp2_with fail
    go_ret
    exact ⟨rfl, rfl⟩
  · have h2 : (l.length : Int) < i := by have := hi.out; omega
    go_enter Try.func50, Try.ntmps50
    go_wp2_with fail
    go_ret
    exact ⟨rfl, rfl⟩
theorem ta_nil (w : World) : (Instr.typeAssert .nilIface 90 87 true).run Try.prog w = .ok (.tuple #[.pointer none, .bool false]) w := by kernel_rfl
set_option maxRecDepth 100000 in
set_option maxHeartbeats 1000000 in
theorem f20_none {B : Nat} {w : World} {mb : Nat} {v : Value} {l : List (Bool × Nat)} (M : Hid (MemRow B w mb v l)) {i : Int} (hi : Hid (i < 1 ∨ (l.length : Int) < i)) {a : Option Addr} {m c : Nat} :
    Calls Try.prog 20 #[.pointer (some ⟨mb, 0, none⟩), .int .i64 i, .int .i64 0, .slice a m c] w fun e w' => e = .returned (.bool false) ∧ w = w' := by
  have hta := ta_nil w
  go_enter Try.func20, Try.ntmps20
  go_wp2_with fail
  refine (f50_none M hi).mono ?_; rintro e w' ⟨rfl, rfl⟩
  go_wp2_with fail
  go_ret
  exact ⟨rfl, rfl⟩
set_option maxRecDepth 100000 in
set_option maxHeartbeats 1000000 in
theorem f37_none {B : Nat} {w : World} {mb : Nat} {v : Value} {l : List (Bool × Nat)} (M : Hid (MemRow B w mb v l)) {i : Int} (hi : Hid (i < 1 ∨ (l.length : Int) < i)) :
    Calls Try.prog 37 #[.pointer (some ⟨mb, 0, none⟩), .int .i64 i] w fun e w' => e = .returned (.bool false) ∧ w = w' := by
  go_enter Try.func37, Try.ntmps37
  go_wp2_with fail
  refine (f50_none M hi).mono ?_; rintro e w' ⟨rfl, rfl⟩
  go_wp2_with fail
  go_ret
  exact ⟨rfl, rfl⟩
set_option maxRecDepth 100000 in
set_option maxHeartbeats 1000000 in
theorem f20_long (w : World) {mb ab : Nat} {l : List (Bool × Nat)} (ht : Hid (Tab w mb ab l)) {i : Int} {j : Nat} (hij : Hid (i = j + 1)) {rb bb n : Nat} {d wr : Bool} {f : Nat → Nat} (hx : Hid (l[j]? = some (false, rb))) (hR : Hid (RegAt w rb bb d wr n f)) {a : Option Addr} {m c : Nat} (hm : Hid (n < m)) :
    Calls Try.prog 20 #[.pointer (some ⟨mb, 0, none⟩), .int .i64 i, .int .i64 0, .slice a m c] w fun e w' => e = .returned (.bool false) ∧ w = w' := by
  have hta := ta_rr rb w
  obtain ⟨cr, hnc, hsl⟩ := hR.out.sl
  have e1 : ¬ ((n : Int) < 0) := by omega
  have e2 : (n : Int) < (m : Int) := by have := hm.out; omega
  have e3 : IntKind.i64.wrap (n : Int) = (n : Int) := by rw [IntKind.wrap_i64]; have := hR.out.small; omega
  go_enter Try.func20, Try.ntmps20
  go_wp2_with fail
  refine (at_ok w ht.out hij.out hx.out).mono ?_; rintro e w' ⟨rfl, rfl⟩
  simp only [area_r]
  go_wp2_with fail
  go_ret
  exact ⟨rfl, rfl⟩
set_option maxRecDepth 100000 in
set_option maxHeartbeats 1000000 in
theorem f20_zero (w : World) {mb ab : Nat} {l : List (Bool × Nat)} (ht : Hid (Tab w mb ab l)) {i : Int} {j : Nat} (hij : Hid (i = j + 1)) {rb bb n : Nat} {d wr : Bool} {f : Nat → Nat} (hx : Hid (l[j]? = some (false, rb))) (hR : Hid (RegAt w rb bb d wr n f)) (hn : Hid (1 ≤ n)) {a : Option Addr} {c : Nat} :
    Calls Try.prog 20 #[.pointer (some ⟨mb, 0, none⟩), .int .i64 i, .int .i64 0, .slice a 0 c] w fun e w' => e = .returned (.bool true) ∧ w = w' := by
  have hta := ta_rr rb w
  obtain ⟨cr, hnc, hsl⟩ := hR.out.sl
  have e1 : ¬ ((n : Int) < 0) := by omega
  have e3 : IntKind.i64.wrap (n : Int) = (n : Int) := by rw [IntKind.wrap_i64]; have := hR.out.small; omega
  have e4 : ¬ (cr = 0) := by have := hn.out; omega
  have hcp : ∀ ty, (Builtin.copy_ #[30, 30] ty #[.slice (some ⟨bb, 0, none⟩) n cr, .slice a 0 c]).run Try.prog w = .ok (goInt 0) w := fun ty => run_copy_none (P := Try.prog) w 30 30 ty 5 _ _ n cr 0 c Try.underlying30 (by rw [info5]; rfl) (Nat.zero_min _)
  go_enter Try.func20, Try.ntmps20
  go_wp2_with fail
  refine (at_ok w ht.out hij.out hx.out).mono ?_; rintro e w' ⟨rfl, rfl⟩
  simp only [area_r]
  go_wp2_with fail
  go_ret
  exact ⟨rfl, rfl⟩
set_option maxRecDepth 100000 in
set_option maxHeartbeats 1000000 in
theorem f33_zero {B : Nat} (w : World) {Q : RefS} (H : Hid (RefAt B w Q)) (hl : Hid (Q.parts.length < 2 ^ 30)) {i : Int} {j : Nat} {p : Prt} (hij : Hid (i = j + 1)) (hp : Hid (Q.parts[j]? = some p)) {a : Option Addr} {c : Nat} :
    Calls Try.prog 33 #[.pointer (some ⟨Q.nb, 0, none⟩), .int .i64 i, .int .i64 0, .slice a 0 c] w fun e w' => e = .returned (.bool true) ∧ w = w' := by
  have hP := Lib.hid (H.out.parts p (List.mem_of_getElem? hp.out))
  have c1 := hP.out.c1
  obtain ⟨cr, hnc, c4⟩ := hP.out.c4
  obtain ⟨n, hn⟩ : ∃ n, Hid (p.n = n) := ⟨_, Lib.hid rfl⟩
  rw [hn.out] at c4 hnc
  have hn1 : 1 ≤ n ∧ n ≤ 4096 := hn.out ▸ hP.out.pos
  have e1 : ¬ ((n : Int) < 0) := by omega
  have e3 : IntKind.i64.wrap (n : Int) = (n : Int) := by rw [IntKind.wrap_i64]; omega
  have e4 : ¬ (cr = 0) := by omega
  have hcp : ∀ ty, (Builtin.copy_ #[30, 30] ty #[.slice (some ⟨p.bb, 0, none⟩) n cr, .slice a 0 c]).run Try.prog w = .ok (goInt 0) w := fun ty => run_copy_none (P := Try.prog) w 30 30 ty 5 _ _ n cr 0 c Try.underlying30 (by rw [info5]; rfl) (Nat.zero_min _)
  go_enter Try.func33, Try.ntmps33
  go_wp2_with fail
  refine (f55_ok w H hl hij hp).mono ?_; rintro e w' ⟨rfl, rfl⟩
  go_wp2_with fail
  go_ret
  exact ⟨rfl, rfl⟩
end Go.Proofs.Ytmjeloinibembaa
