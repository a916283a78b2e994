/-
  RINGS: Bytes, ends, Submit, Discard.
-/
import Derived.Test.YtmjeloinibembaaRingD
namespace Go.Proofs.Ytmjeloinibembaa
open Go.RowKit
set_option linter.unusedVariables false
set_option linter.unusedSimpArgs false
theorem own_ge {w : World} {base e size n g c : Nat} {xs : List Value} (h : w.ownsRow base e size (.slice (some ⟨g, 0, none⟩) n c) n xs) : base ≤ g := (own_kind h rfl).2
theorem own_thaw {w : World} {B e size n : Nat} {v : Value} {xs : List Value} (h : w.ownsRow B e size v n xs) {k : Nat} (hk : v.ownBlock = some k) : Thaw w k := by
  rcases h.2 with ⟨rfl, _⟩ | ⟨g, cap, cur, rfl, _⟩
  · simp [Value.ownBlock] at hk
  · simp only [Value.ownBlock, Option.some.injEq] at hk
    subst hk
    intro j
    exact h.frozenAt j
/-- a delete whose run is known. -/
theorem wp_delete_run {P : Program} {o : Oper} {a : Act} {K : Act → World → Prop} {Q : Exit → Act → World → Prop} {w w' : World} (s x : Operand) (t t2 : TypeId) (ho : o.op = .call { callee := .builtin .delete, args := #[s, x], argTypes := #[t, t2] })
    (v1 v2 v' : Value) (hs : a.eval s = v1) (hx : a.eval x = v2) (hr : (Builtin.delete_ #[t, t2] o.type #[v1, v2]).run P w = .ok v' w') (h : K (a.put o.dst v') w') : o.wp P a w K Q := by
  unfold Oper.wp execOp
  simp only [ho, resolve, invoke, builtin, Sem.run_bind, Sem.run_pure, Result.andThen_ok, List.map_toArray, List.map_cons, List.map_nil, hs, hx, hr]
  exact h
set_option maxRecDepth 100000 in
set_option maxHeartbeats 1000000 in
theorem f63_ok (w : World) {mb ab : Nat} {l : List (Bool × Nat)} (ht : Hid (Tab w mb ab l)) {i : Int} {j : Nat} (hij : Hid (i = j + 1)) {rb bb n : Nat} {d wr : Bool} {f : Nat → Nat} (hx : Hid (l[j]? = some (false, rb))) (hR : Hid (RegAt w rb bb d wr n f)) :
    Calls Try.prog 63 #[.pointer (some ⟨mb, 0, none⟩), .int .i64 i] w fun e w' => ∃ g c', e = .returned (.tuple #[.slice (some ⟨g, 0, none⟩) n c', .bool true]) ∧ w'.ownsRow w.heap.size 5 1 (.slice (some ⟨g, 0, none⟩) n c') n (byteL f n) ∧ Below w.heap.size w w' := by
  have hta := ta_rr rb w
  obtain ⟨c, hnc, hsl⟩ := hR.out.sl
  go_enter Try.func63, Try.ntmps63
  go_wp2_with fail
  refine (at_ok w ht.out hij.out hx.out).mono ?_; rintro e w' ⟨rfl, rfl⟩
  simp only [area_r]
  go_wp2_with fail
  refine (f59_ok w hR.out.bts hR.out.small).mono ?_; rintro e w' ⟨g, c', rfl, ho, hb⟩
  go_wp2_with fail
  go_ret2
  exact ⟨g, c', rfl, ho, hb⟩
set_option maxRecDepth 100000 in
set_option maxHeartbeats 1000000 in
theorem f51_none {B : Nat} {Pr : Nat → Prop} (w : World) {R : RingS} (H : Hid (RingAt B Pr w R)) {id : Int} (hn : Hid (∀ r ∈ R.rows, r.st = 0 → (r.id : Int) ≠ id)) (s : Int) :
    Calls Try.prog 51 #[.pointer (some ⟨R.rg, 0, none⟩), .int .i64 id, .int .i64 s] w fun e w' => e = .returned (.int .i64 101) ∧ w = w' := by
  have c4 := H.out.c4
  have hlk := lookup_miss H.out.map (H.out.open_none hn.out)
  go_enter Try.func51, Try.ntmps51
  go_wp2_with fail
  go_ret
  exact ⟨rfl, rfl⟩
set_option maxRecDepth 100000 in
set_option maxHeartbeats 2000000 in
theorem f51_hit {B : Nat} {Pr : Nat → Prop} (w : World) {R : RingS} (H : Hid (RingAt B Pr w R)) {r : Rec} (hr : Hid (r ∈ R.rows)) (hst : Hid (r.st = 0)) {s : Nat} (hs : Hid (s = 1 ∨ s = 2)) :
    Calls Try.prog 51 #[.pointer (some ⟨R.rg, 0, none⟩), .int .i64 (r.id : Int), .int .i64 (s : Int)] w fun e w' => e = .returned (.int .i64 0) ∧ ∃ (x : Rgn) (j c g : Nat), R.rs[r.id - 1]? = some x ∧ x.d = false ∧ x.n = r.n ∧ w.heap.size ≤ g ∧
      RingAt B Pr w' { R with rows := R.rows.map (Rec.fin r.id s g x.f), rs := R.rs.set (r.id - 1) { x with d := true }, es := R.es.eraseIdx j } ∧ Only (fun k => k = r.xb ∨ k = R.mp ∨ k = x.rb) w w' := by
  obtain ⟨c, hes⟩ := H.out.open_of hr.out hst.out
  have c4 := H.out.c4
  have c2 := H.out.c2
  have hlk := lookup_hit H.out.map H.out.es_nodup hes
  have hrec := Lib.hid (H.out.recs r hr.out)
  obtain ⟨hl1, hl2, hl3⟩ := H.out.link r hr.out
  obtain ⟨x, hx_, hd_, hxn_⟩ := hl3 hst.out
  have hx := Lib.hid hx_
  have hd := Lib.hid hd_
  have hxn := Lib.hid hxn_
  clear hx_ hd_ hxn_
  have hl1' := hl1
  clear hl1
  have hl1 := Lib.hid hl1'
  clear hl1'
  have hR0 := (H.out.regs x (List.mem_of_getElem? hx.out)).1
  have k2 := hrec.out.c2
  obtain ⟨a3, n3, cc3, k3⟩ := hrec.out.c3
  have z2 := hrec.out.thaw 2
  have z3 := hrec.out.thaw 3
  have hgx : R.rg ≠ r.xb := fun he => absurd (H.out.kind.inj (he ▸ hrec.out.kind)) (by decide)
  have hgx2 : r.xb ≠ R.rg := fun he => hgx he.symm
  have hlj : R.l[r.id - 1]? = some (false, x.rb) := by unfold RingS.l; rw [List.getElem?_map, hx.out]; rfl
  have hlj := Lib.hid hlj
  have hne : R.l ≠ [] := fun he => by have := hlj.out; rw [he] at this; simp at this
  clear hl2 hl3
  go_enter Try.func51, Try.ntmps51
  go_wp2_with fail
  have O1 : Only (· = r.xb) w (w.setCell ⟨r.xb, 2, none⟩ (.int .i64 (s : Int))) := Only.setCell (S := (· = r.xb)) (Only.refl _ _) (fun _ => rfl) _
  have nk : ∀ k e, KindAt w k e → e ≠ 85 → ¬ k = r.xb := fun k e hk h1 h => h1 (hk.inj (h ▸ hrec.out.kind))
  have M1 : Hid (MemRow B (w.setCell ⟨r.xb, 2, none⟩ (.int .i64 (s : Int))) R.mb R.v R.l) := Lib.hid (H.out.mem.only O1 (nk _ _ H.out.mem.kind (by decide)) fun k hk => nk _ _ (own_kind H.out.mem.own hk).1 (by decide))
  obtain ⟨ab, htab⟩ := M1.out.tab hne
  have R1 := Lib.hid (hR0.only O1 (nk _ _ hR0.kR (by decide)) (nk _ _ hR0.kB (by decide)))
  have O1 := Lib.hid O1
  refine (f63_ok _ (Lib.hid htab) (j := r.id - 1) (Lib.hid (by have := hl1.out; omega)) hlj R1).mono ?_; rintro e w2 ⟨g, c', rfl, hown, hb2⟩
  have hsz : (w.setCell ⟨r.xb, 2, none⟩ (.int .i64 (s : Int))).heap.size = w.heap.size := by simp
  have k3' : w2.cell? ⟨r.xb, 3, none⟩ = some (.slice a3 n3 cc3) := (hb2.cell (by rw [hsz]; exact hrec.out.kind.lt)).trans ((cell_ne _ (.inr (by decide))).trans k3)
  have k2' : w2.cell? ⟨r.xb, 2, none⟩ = some (.int .i64 (s : Int)) := (hb2.cell (by rw [hsz]; exact hrec.out.kind.lt)).trans (cell_same _ k2)
  have O2 : Only (· = r.xb) w w2 := O1.out.trans (Only.of_below hb2)
  have T2 : Thaw w2 r.xb := (hrec.out.thaw.setCell _ _).only (S := fun _ => False) (Only.of_below hb2) (by rw [hsz]; exact hrec.out.kind.lt) (fun h => h)
  have hz3 := T2 3
  have H2 := Lib.hid O2
  have T2 := Lib.hid T2
  have own2 := Lib.hid hown
  have hgn := own_ge hown
  have c4' : w2.cell? ⟨R.rg, 4, none⟩ = some (.map (some R.mp)) := (O2.cell (p := ⟨R.rg, 4, none⟩) H.out.kind.lt hgx).trans c4
  have c2' : w2.cell? ⟨R.rg, 2, none⟩ = some (.pointer (some ⟨R.mb, 0, none⟩)) := (O2.cell (p := ⟨R.rg, 2, none⟩) H.out.kind.lt hgx).trans c2
  have O3 : Only (· = r.xb) w (w2.setCell ⟨r.xb, 3, none⟩ (.slice (some ⟨g, 0, none⟩) x.n c')) := Only.setCell (S := (· = r.xb)) O2 (fun _ => rfl) _
  have mp3 : (w2.setCell ⟨r.xb, 3, none⟩ (.slice (some ⟨g, 0, none⟩) x.n c')).heap[R.mp]? = some (.map (R.es.map ent).toArray R.clock) := by
    rw [O3.block R.mp (Array.getElem?_eq_some_iff.1 H.out.map).1 (fun he => kind_map hrec.out.kind (he ▸ H.out.map))]; exact H.out.map
  obtain ⟨j, hj, hdel⟩ := delete_hit mp3 H.out.es_nodup hes
  have hdel := hdel 0
  simp only at hdel
  have hj := Lib.hid hj
  have O3 := Lib.hid O3
  have mp3 := Lib.hid mp3
  clear O2 hown hlk k2 k3 z2 z3 c4 c2 hR0
  have O4 : Only (fun k => k = r.xb ∨ k = R.mp) w (World.putMap (w2.setCell ⟨r.xb, 3, none⟩ (.slice (some ⟨g, 0, none⟩) x.n c')) R.mp ((R.es.eraseIdx j).map ent).toArray R.clock) := Only.putMap (O3.out.mono fun k _ h => .inl h) mp3.out fun _ => .inr rfl
  have P4 : Only (· = R.mp) (w2.setCell ⟨r.xb, 3, none⟩ (.slice (some ⟨g, 0, none⟩) x.n c')) (World.putMap (w2.setCell ⟨r.xb, 3, none⟩ (.slice (some ⟨g, 0, none⟩) x.n c')) R.mp ((R.es.eraseIdx j).map ent).toArray R.clock) := Only.putMap (S := (· = R.mp)) (Only.refl _ _) mp3.out fun _ => rfl
  have mp4 : (World.putMap (w2.setCell ⟨r.xb, 3, none⟩ (.slice (some ⟨g, 0, none⟩) x.n c')) R.mp ((R.es.eraseIdx j).map ent).toArray R.clock).heap[R.mp]? = some (.map ((R.es.eraseIdx j).map ent).toArray R.clock) := putMap_same (Array.getElem?_eq_some_iff.1 mp3.out).1
  have h3 : (w2.setCell ⟨r.xb, 3, none⟩ (.slice (some ⟨g, 0, none⟩) x.n c')).cell? ⟨r.xb, 3, none⟩ = some (.slice (some ⟨g, 0, none⟩) x.n c') := cell_same _ k3'
  have h2 : (w2.setCell ⟨r.xb, 3, none⟩ (.slice (some ⟨g, 0, none⟩) x.n c')).cell? ⟨r.xb, 2, none⟩ = some (.int .i64 (s : Int)) := (cell_ne _ (.inr (by decide))).trans k2'
  have K3 : KindAt (w2.setCell ⟨r.xb, 3, none⟩ (.slice (some ⟨g, 0, none⟩) x.n c')) r.xb 85 := O3.out.kind _ _ (by decide) hrec.out.kind
  have T3 : Thaw (w2.setCell ⟨r.xb, 3, none⟩ (.slice (some ⟨g, 0, none⟩) x.n c')) r.xb := T2.out.setCell _ _
  have X3 : ∀ i, i ≠ 2 → i ≠ 3 → (w2.setCell ⟨r.xb, 3, none⟩ (.slice (some ⟨g, 0, none⟩) x.n c')).cell? ⟨r.xb, i, none⟩ = w.cell? ⟨r.xb, i, none⟩ := fun i hi2 hi3 =>
    (cell_ne _ (.inr (fun h => hi3 h.symm))).trans ((hb2.cell (by rw [hsz]; exact hrec.out.kind.lt)).trans (cell_ne _ (.inr (fun h => hi2 h.symm))))
  have gne : g ≠ r.xb := by have := hrec.out.kind.lt; rw [hsz] at hgn; omega
  have own3 : (w2.setCell ⟨r.xb, 3, none⟩ (.slice (some ⟨g, 0, none⟩) x.n c')).ownsRow (w.setCell ⟨r.xb, 2, none⟩ (.int .i64 (s : Int))).heap.size 5 1 (.slice (some ⟨g, 0, none⟩) x.n c') x.n (byteL x.f x.n) :=
    ownsRow_only own2.out (Only.setCell (S := (· = r.xb)) (Only.refl _ _) (fun _ => rfl) _) fun k hk he => by obtain rfl := Option.some.inj hk; exact gne he
  rw [hsz] at own3 hgn
  have nk4 : ∀ k e, KindAt w k e → e ≠ 85 → ¬ (k = r.xb ∨ k = R.mp) := fun k e hk h1 h => h.elim (nk k e hk h1) fun h => kind_map hk (h ▸ H.out.map)
  have e2 : (World.putMap (w2.setCell ⟨r.xb, 3, none⟩ (.slice (some ⟨g, 0, none⟩) x.n c')) R.mp ((R.es.eraseIdx j).map ent).toArray R.clock).cell? ⟨R.rg, 2, none⟩ = some (.pointer (some ⟨R.mb, 0, none⟩)) := (O4.cell (p := ⟨R.rg, 2, none⟩) H.out.kind.lt (nk4 _ _ H.out.kind (by decide))).trans H.out.c2
  have R0 := (H.out.regs x (List.mem_of_getElem? hx.out)).1
  have M4 : MemRow B (World.putMap (w2.setCell ⟨r.xb, 3, none⟩ (.slice (some ⟨g, 0, none⟩) x.n c')) R.mp ((R.es.eraseIdx j).map ent).toArray R.clock) R.mb R.v R.l := H.out.mem.only O4 (nk4 _ _ H.out.mem.kind (by decide)) fun k hk => nk4 _ _ (own_kind H.out.mem.own hk).1 (by decide)
  obtain ⟨ab4, htab4⟩ := M4.tab hne
  have R4 : RegAt (World.putMap (w2.setCell ⟨r.xb, 3, none⟩ (.slice (some ⟨g, 0, none⟩) x.n c')) R.mp ((R.es.eraseIdx j).map ent).toArray R.clock) x.rb x.bb x.d true x.n x.f := R0.only O4 (nk4 _ _ R0.kR (by decide)) (nk4 _ _ R0.kB (by decide))
  have xm : r.xb ≠ R.mp := fun h => kind_map hrec.out.kind (h ▸ H.out.map)
  have gm : g ≠ R.mp := fun h => by have := (Array.getElem?_eq_some_iff.1 H.out.map).1; omega
  have xr : r.xb ≠ x.rb := fun h => absurd (hrec.out.kind.inj (h ▸ R0.kR)) (by decide)
  have mr : R.mp ≠ x.rb := fun h => kind_map R0.kR (h ▸ H.out.map)
  have gr : g ≠ x.rb := fun h => by have := R0.ltR; omega
  have O5 : Only (· = x.rb) (World.putMap (w2.setCell ⟨r.xb, 3, none⟩ (.slice (some ⟨g, 0, none⟩) x.n c')) R.mp ((R.es.eraseIdx j).map ent).toArray R.clock) ((World.putMap (w2.setCell ⟨r.xb, 3, none⟩ (.slice (some ⟨g, 0, none⟩) x.n c')) R.mp ((R.es.eraseIdx j).map ent).toArray R.clock).setCell ⟨x.rb, 0, none⟩ (.bool true)) := Only.setCell (S := (· = x.rb)) (Only.refl _ _) (fun _ => rfl) _
  have K4 := P4.kind _ _ (by decide) K3
  have T4 := T3.only P4 K3.lt xm
  have kg3 := (own_kind own3 rfl).1
  have kg4 := P4.kind _ _ (by decide) kg3
  have X5 : ∀ i, ((World.putMap (w2.setCell ⟨r.xb, 3, none⟩ (.slice (some ⟨g, 0, none⟩) x.n c')) R.mp ((R.es.eraseIdx j).map ent).toArray R.clock).setCell ⟨x.rb, 0, none⟩ (.bool true)).cell? ⟨r.xb, i, none⟩ = (w2.setCell ⟨r.xb, 3, none⟩ (.slice (some ⟨g, 0, none⟩) x.n c')).cell? ⟨r.xb, i, none⟩ := fun i => (cell_ne _ (.inl (fun h => xr h.symm))).trans (P4.cell (p := ⟨r.xb, i, none⟩) K3.lt xm)
  have own5 : ((World.putMap (w2.setCell ⟨r.xb, 3, none⟩ (.slice (some ⟨g, 0, none⟩) x.n c')) R.mp ((R.es.eraseIdx j).map ent).toArray R.clock).setCell ⟨x.rb, 0, none⟩ (.bool true)).ownsRow w.heap.size 5 1 (.slice (some ⟨g, 0, none⟩) x.n c') x.n (byteL x.f x.n) :=
    ownsRow_only (ownsRow_only own3 P4 fun k hk he => by obtain rfl := Option.some.inj hk; exact gm he) O5 fun k hk he => by obtain rfl := Option.some.inj hk; exact gr he
  have R5 : RegAt ((World.putMap (w2.setCell ⟨r.xb, 3, none⟩ (.slice (some ⟨g, 0, none⟩) x.n c')) R.mp ((R.es.eraseIdx j).map ent).toArray R.clock).setCell ⟨x.rb, 0, none⟩ (.bool true)) x.rb x.bb true true x.n x.f := by
    have hbr : x.bb ≠ x.rb := fun h => R4.ne h.symm
    refine ⟨cell_same _ R4.dead, R4.sl.imp fun c hc => ⟨hc.1, (cell_ne _ (.inr (by decide))).trans hc.2⟩, (cell_ne _ (.inr (by decide))).trans R4.write, (cell_ne _ (.inr (by decide))).trans R4.hidden, fun i hi => (cell_ne _ (.inl (fun h => hbr h.symm))).trans (R4.bts i hi), R4.thawR.setCell _ _, R4.thaw.setCell _ _, R4.byte, by simp; exact R4.lt, R4.ne, R4.kR.setCell _ _, R4.kB.setCell _ _, R4.small⟩
  have hF := ring_end H.out hr.out hst.out hx.out hs.out hj.out (g := g) (w' := (World.putMap (w2.setCell ⟨r.xb, 3, none⟩ (.slice (some ⟨g, 0, none⟩) x.n c')) R.mp ((R.es.eraseIdx j).map ent).toArray R.clock).setCell ⟨x.rb, 0, none⟩ (.bool true)) ((O4.mono fun k _ h => h.elim .inl fun h => .inr (.inl h)).then O5 fun k _ h => .inr (.inr h)) hgn
    (by rw [X5, X3 0 (by decide) (by decide)]; exact hrec.out.c0) (by rw [X5, X3 1 (by decide) (by decide)]; exact hrec.out.c1) (by rw [X5]; exact h2) ⟨c', by have := own_cap own3; have := hxn.out; omega, by rw [X5, ← hxn.out]; exact h3⟩ (T4.setCell _ _)
    (by rw [← hxn.out]; exact bts_of_own own5) (kg4.setCell _ _) ((own_thaw own3 rfl).only P4 kg3.lt gm |>.setCell _ _) R5 (by rw [Below.heap_setCell _ _ _ _ mr]; exact mp4)
  have hOF : Only (fun k => k = r.xb ∨ k = R.mp ∨ k = x.rb) w ((World.putMap (w2.setCell ⟨r.xb, 3, none⟩ (.slice (some ⟨g, 0, none⟩) x.n c')) R.mp ((R.es.eraseIdx j).map ent).toArray R.clock).setCell ⟨x.rb, 0, none⟩ (.bool true)) := (O4.mono fun k _ h => h.elim .inl fun h => .inr (.inl h)).then O5 fun k _ h => .inr (.inr h)
  have hF := Lib.hid hF
  have hOF := Lib.hid hOF
  have hdd := Lib.hid R4.dead
  have hzz := Lib.hid (R4.thawR 0)
  clear O4 P4 mp4 h3 h2 K3 T3 X3 own3 R5 own5 X5 kg4 kg3 T4 K4 O5 M4 R4 k2' T2 H2 own2 mp3 O3
  go_wp2_with fail
  refine (f45_ok (World.putMap (w2.setCell ⟨r.xb, 3, none⟩ (.slice (some ⟨g, 0, none⟩) x.n c')) R.mp ((R.es.eraseIdx j).map ent).toArray R.clock) (Lib.hid htab4) (j := r.id - 1) (by have := hl1.out; omega) hlj.out x.d hdd.out hzz.out).mono ?_; rintro e w5 ⟨rfl, rfl⟩
  go_wp2_with fail
  go_ret
  exact ⟨rfl, x, j, c, g, hx.out, hd.out, hxn.out, hgn, hF.out, hOF.out⟩
set_option maxRecDepth 100000 in
set_option maxHeartbeats 1000000 in
theorem f21_none {B : Nat} {Pr : Nat → Prop} (w : World) {R : RingS} (H : Hid (RingAt B Pr w R)) {id : Int} (hn : Hid (∀ r ∈ R.rows, r.st = 0 → (r.id : Int) ≠ id)) :
    Calls Try.prog 21 #[.pointer (some ⟨R.rg, 0, none⟩), .int .i64 id] w fun e w' => e = .returned (.int .i64 101) ∧ w = w' := by
  go_enter Try.func21, Try.ntmps21
  go_wp2_with fail
  refine (f51_none w H hn 1).mono ?_; rintro e w' ⟨rfl, rfl⟩
  go_wp2_with fail
  go_ret
  exact ⟨rfl, rfl⟩
set_option maxRecDepth 100000 in
set_option maxHeartbeats 1000000 in
theorem f21_hit {B : Nat} {Pr : Nat → Prop} (w : World) {R : RingS} (H : Hid (RingAt B Pr w R)) {r : Rec} (hr : Hid (r ∈ R.rows)) (hst : Hid (r.st = 0)) :
    Calls Try.prog 21 #[.pointer (some ⟨R.rg, 0, none⟩), .int .i64 (r.id : Int)] w fun e w' => e = .returned (.int .i64 0) ∧ ∃ (x : Rgn) (j c g : Nat), R.rs[r.id - 1]? = some x ∧ x.d = false ∧ x.n = r.n ∧ w.heap.size ≤ g ∧
      RingAt B Pr w' { R with rows := R.rows.map (Rec.fin r.id 1 g x.f), rs := R.rs.set (r.id - 1) { x with d := true }, es := R.es.eraseIdx j } ∧ Only (fun k => k = r.xb ∨ k = R.mp ∨ k = x.rb) w w' := by
  go_enter Try.func21, Try.ntmps21
  go_wp2_with fail
  refine (f51_hit w H hr hst (s := 1) (Lib.hid (by decide))).mono ?_; rintro e w' ⟨rfl, h⟩
  have h := Lib.hid h
  go_wp2_with fail
  go_ret
  exact ⟨rfl, h.out⟩
set_option maxRecDepth 100000 in
set_option maxHeartbeats 1000000 in
theorem f22_none {B : Nat} {Pr : Nat → Prop} (w : World) {R : RingS} (H : Hid (RingAt B Pr w R)) {id : Int} (hn : Hid (∀ r ∈ R.rows, r.st = 0 → (r.id : Int) ≠ id)) :
    Calls Try.prog 22 #[.pointer (some ⟨R.rg, 0, none⟩), .int .i64 id] w fun e w' => e = .returned (.int .i64 101) ∧ w = w' := by
  go_enter Try.func22, Try.ntmps22
  go_wp2_with fail
  refine (f51_none w H hn 2).mono ?_; rintro e w' ⟨rfl, rfl⟩
  go_wp2_with fail
  go_ret
  exact ⟨rfl, rfl⟩
set_option maxRecDepth 100000 in
set_option maxHeartbeats 1000000 in
theorem f22_hit {B : Nat} {Pr : Nat → Prop} (w : World) {R : RingS} (H : Hid (RingAt B Pr w R)) {r : Rec} (hr : Hid (r ∈ R.rows)) (hst : Hid (r.st = 0)) :
    Calls Try.prog 22 #[.pointer (some ⟨R.rg, 0, none⟩), .int .i64 (r.id : Int)] w fun e w' => e = .returned (.int .i64 0) ∧ ∃ (x : Rgn) (j c g : Nat), R.rs[r.id - 1]? = some x ∧ x.d = false ∧ x.n = r.n ∧ w.heap.size ≤ g ∧
      RingAt B Pr w' { R with rows := R.rows.map (Rec.fin r.id 2 g x.f), rs := R.rs.set (r.id - 1) { x with d := true }, es := R.es.eraseIdx j } ∧ Only (fun k => k = r.xb ∨ k = R.mp ∨ k = x.rb) w w' := by
  go_enter Try.func22, Try.ntmps22
  go_wp2_with fail
  refine (f51_hit w H hr hst (s := 2) (Lib.hid (by decide))).mono ?_; rintro e w' ⟨rfl, h⟩
  have h := Lib.hid h
  go_wp2_with fail
  go_ret
  exact ⟨rfl, h.out⟩
end Go.Proofs.Ytmjeloinibembaa
