/-
  RINGS: Set, Output.
-/
import Derived.Test.YtmjeloinibembaaRingE
import Derived.Laws.IdiomCopy
namespace Go.Proofs.Ytmjeloinibembaa
open Go.RowKit
set_option linter.unusedVariables false
set_option linter.unusedSimpArgs false
theorem RegAt.over {w : World} {rb bb : Nat} {d wr : Bool} {n : Nat} {f : Nat → Nat} (h : RegAt w rb bb d wr n f) {m : Nat} {g : Nat → Nat} (hm : m ≤ n) (hg : ∀ i, i < m → g i < 256) : RegAt (w.setCells bb 0 (byteL g m)) rb bb d wr n (fun k => if k < m then g k else f k) := by
  have ho : Only (· = bb) w (w.setCells bb 0 (byteL g m)) := Only.setCells (S := (· = bb)) (fun _ => rfl) (byteL g m) 0 w (Only.refl _ _)
  have hn1 : ¬ rb = bb := h.ne
  have hr := h.ltR
  refine ⟨by rw [ho.cell (p := ⟨rb, 0, none⟩) hr hn1]; exact h.dead, h.sl.imp fun c hc => ⟨hc.1, by rw [ho.cell (p := ⟨rb, 1, none⟩) hr hn1]; exact hc.2⟩, by rw [ho.cell (p := ⟨rb, 2, none⟩) hr hn1]; exact h.write,
    by rw [ho.cell (p := ⟨rb, 3, none⟩) hr hn1]; exact h.hidden, fun i hi => ?_, h.thawR.only ho hr hn1, fun j => by rw [World.frozen?_setCells]; exact h.thaw j, fun i hi => ?_, Nat.lt_of_lt_of_le h.lt ho.size, h.ne, ho.kind _ _ (by decide) h.kR, ho.kind _ _ (by decide) h.kB, h.small⟩
  · by_cases him : i < m
    · have h1 := World.cell?_setCells_in bb (byteL g m) 0 w (fun j hj => by rw [byteL_length] at hj; rw [h.bts j (by omega)]; rfl) i (by rw [byteL_length]; exact him)
      rw [h1, if_pos him]
      simp [byteL]
    · rw [World.cell?_setCells_out bb (byteL g m) 0 w _ (fun _ _ => .inr (by rw [byteL_length]; show 0 + m ≤ 0 + i; omega)), if_neg him]
      exact h.bts i hi
  · split
    · exact hg i (by omega)
    · exact h.byte i hi
set_option maxRecDepth 100000 in
set_option maxHeartbeats 1000000 in
theorem f20_in (w : World) {mb ab : Nat} {l : List (Bool × Nat)} (ht : Hid (Tab w mb ab l)) {i : Int} {j : Nat} (hij : Hid (i = j + 1)) {rb bb n : Nat} {d : Bool} {f : Nat → Nat} (hx : Hid (l[j]? = some (false, rb))) (hR : Hid (RegAt w rb bb d true n f)) {sb so m c : Nat} {g : Nat → Nat}
    (hb : Hid (Bts w sb so m g)) (hg : Hid (∀ i, i < m → g i < 256)) (hm : Hid (m ≤ n)) (hn : Hid (1 ≤ n)) :
    Calls Try.prog 20 #[.pointer (some ⟨mb, 0, none⟩), .int .i64 i, .int .i64 0, .slice (some ⟨sb, so, none⟩) m c] w fun e w' => e = .returned (.bool true) ∧ Only (· = bb) w w' ∧ RegAt w' rb bb d true n (fun k => if k < m then g k else f k) := by
  have hta := ta_rr rb w
  obtain ⟨cr, hnc, hsl⟩ := hR.out.sl
  have e1 : ¬ ((n : Int) < 0) := by omega
  have e2 : ¬ ((n : Int) < (m : Int)) := by have := hm.out; omega
  have e3 : IntKind.i64.wrap (n : Int) = (n : Int) := by rw [IntKind.wrap_i64]; have := hR.out.small; omega
  have e4 : ¬ (cr = 0) := by have := hn.out; omega
  have hcp : ∀ ty, (Builtin.copy_ #[30, 30] ty #[.slice (some ⟨bb, 0, none⟩) n cr, .slice (some ⟨sb, so, none⟩) m c]).run Try.prog w = .ok (goInt m) (w.setCells bb 0 (byteL g m)) := fun ty => by
    have h1 := run_copy_cells (P := Try.prog) w 30 30 ty 5 bb 0 n cr ⟨sb, so, none⟩ m c (byteL g m) Try.underlying30 (by rw [info5]; rfl) (by rw [byteL_length]; exact (Nat.min_eq_left hm.out).symm)
      (fun j v hv => by obtain ⟨hj, rfl⟩ := byteL_some hv; rw [addr_add]; exact hb.out j hj) (fun j hj => by rw [byteL_length] at hj; rw [hR.out.bts j (by have := hm.out; omega)]; rfl) (fun j hj => hR.out.thaw _) byteL_one
    rw [byteL_length] at h1
    exact h1
  have hF := Lib.hid (hR.out.over hm.out hg.out)
  have hO := Lib.hid (Only.setCells (S := (· = bb)) (b := bb) (fun _ => rfl) (byteL g m) 0 w (Only.refl _ _))
  go_enter Try.func20, Try.ntmps20
  go_wp2_with fail
  refine (at_ok w ht.out hij.out hx.out).mono ?_; rintro e w' ⟨rfl, rfl⟩
  simp only [area_r]
  go_wp2_with fail
  go_ret
  exact ⟨rfl, hO.out, hF.out⟩
theorem fin_append {l : List Rec} {r : Rec} {s b : Nat} {g : Nat → Nat} (h : ∀ a ∈ l, a.id ≠ r.id) : (l ++ [r]).map (Rec.fin r.id s b g) = l ++ [{ r with st := s, bs := b, g := g }] := by
  rw [List.map_append]
  congr 1
  · exact (List.map_congr_left fun a ha => show a.fin r.id s b g = a from if_neg (h a ha)).trans (List.map_id _)
  · simp [Rec.fin]
theorem Rgn.eta (x : Rgn) : (⟨x.rb, x.bb, x.n, x.d, x.f⟩ : Rgn) = x := rfl
set_option maxRecDepth 100000 in
set_option maxHeartbeats 1000000 in
theorem f15_bad (w : World) {rg n c : Nat} {a : Option Addr} (hn : Hid (n < 1 ∨ 4096 < n)) : Calls Try.prog 15 #[.pointer (some ⟨rg, 0, none⟩), .slice a n c] w fun e w' => e = .returned (.int .i64 100) ∧ w = w' := by
  go_enter Try.func15, Try.ntmps15
  go_wp2_with fail
  refine (f19_bad w (n := (n : Int)) (Lib.hid (by have := hn.out; omega))).mono ?_; rintro e w' ⟨rfl, rfl⟩
  go_wp2_with fail
  go_ret
  exact ⟨rfl, rfl⟩
set_option maxRecDepth 100000 in
set_option maxHeartbeats 1000000 in
theorem f15_full {B : Nat} {Pr : Nat → Prop} (w : World) {R : RingS} (H : Hid (RingAt B Pr w R)) {n c : Nat} {a : Option Addr} (hn : Hid (1 ≤ n ∧ n ≤ 4096)) (hl : Hid (R.size < usedN R.rows + takesN n)) :
    Calls Try.prog 15 #[.pointer (some ⟨R.rg, 0, none⟩), .slice a n c] w fun e w' => e = .returned (.int .i64 102) ∧ Below w.heap.size w w' := by
  go_enter Try.func15, Try.ntmps15
  go_wp2_with fail
  refine (f19_full w H hn.out hl.out).mono ?_; rintro e w' ⟨rfl, hb⟩
  have hb := Lib.hid hb
  go_wp2_with fail
  go_ret
  exact ⟨rfl, hb.out⟩
set_option maxRecDepth 100000 in
set_option maxHeartbeats 2000000 in
theorem f15_ok {B : Nat} {Pr : Nat → Prop} (w : World) {R : RingS} (H : Hid (RingAt B Pr w R)) {sb so n c : Nat} {g : Nat → Nat} (hb : Hid (Bts w sb so n g)) (hg : Hid (∀ i, i < n → g i < 256)) (hk : Hid (sb < w.heap.size ∧ ¬ R.spine sb)) (hn : Hid (1 ≤ n ∧ n ≤ 4096))
    (hl : Hid (usedN R.rows + takesN n ≤ R.size)) (hl30 : Hid (R.rs.length + 1 < 2 ^ 30)) :
    Calls Try.prog 15 #[.pointer (some ⟨R.rg, 0, none⟩), .slice (some ⟨sb, so, none⟩) n c] w fun e w' => e = .returned (.int .i64 0) ∧ Only (fun k => ¬ Pr k) w w' ∧ ∃ (R' : RingS) (xb bs rb bb : Nat) (f : Nat → Nat), RingAt B Pr w' R' ∧ R'.rg = R.rg ∧ R'.size = R.size ∧ R'.mb = R.mb ∧
      R'.rows = R.rows ++ [⟨xb, R.rs.length + 1, n, 1, bs, f⟩] ∧ R'.rs = R.rs ++ [⟨rb, bb, n, true, f⟩] ∧ ∀ i, i < n → f i = g i := by
  obtain ⟨d, hd⟩ : ∃ d, Hid (R.rs.length + 1 = d) := ⟨_, Lib.hid rfl⟩
  go_enter Try.func15, Try.ntmps15
  go_wp2_with fail
  refine (f19_new w H hn.out hl.out hl30.out).mono ?_; rintro e w1 ⟨he, hO1, rb, bb, xb, v', rv', hR1⟩
  rw [hd.out] at he hR1
  subst he
  have c2 := hR1.c2
  simp only at c2
  have hR1 := Lib.hid hR1
  have hO1 := Lib.hid hO1
  have hlen : (R.rs ++ [(⟨rb, bb, n, false, fun _ => 0⟩ : Rgn)])[R.rs.length]? = some ⟨rb, bb, n, false, fun _ => 0⟩ := by simp
  have hlen := Lib.hid hlen
  obtain ⟨ab, htab⟩ := hR1.out.mem.tab (by simp [RingS.l])
  have hx1 : Hid ((RingS.l { R with rows := R.rows ++ [⟨xb, d, n, 0, 0, fun _ => 0⟩], rs := R.rs ++ [⟨rb, bb, n, false, fun _ => 0⟩], v := v', rv := rv', es := R.es ++ [(d, xb, R.clock)], clock := R.clock + 1 })[R.rs.length]? = some (false, rb)) := Lib.hid (by simp [RingS.l])
  have hX1 := Lib.hid (hR1.out.regs ⟨rb, bb, n, false, fun _ => 0⟩ (by simp)).1
  have hb1 : Hid (Bts w1 sb so n g) := Lib.hid fun i hi => by rw [hO1.out.cell (p := ⟨sb, so + i, none⟩) hk.out.1 hk.out.2]; exact hb.out i hi
  go_wp2_with fail
  refine (f20_in w1 (Lib.hid htab) (i := (d : Int)) (j := R.rs.length) (Lib.hid (by have := hd.out; omega)) hx1 hX1 hb1 hg (Lib.hid (Nat.le_refl _)) (Lib.hid hn.out.1)).mono ?_; rintro e w2 ⟨rfl, hO2, hX2⟩
  have hR2 := Lib.hid (ring_set hR1.out hlen.out hO2 hX2)
  have hO2 := Lib.hid hO2
  clear hX2
  go_wp2_with fail
  refine (f21_hit w2 hR2 (r := ⟨xb, d, n, 0, 0, fun _ => 0⟩) (Lib.hid (by simp)) (Lib.hid rfl)).mono ?_; rintro e w3 ⟨rfl, x, j, cc, bs, hx, hxd, hxn, hbs, hR3, hO3⟩
  have hdl : d - 1 = R.rs.length := by have := hd.out; omega
  simp only [hdl] at hx hR3
  simp only [List.length_append, List.length_singleton, List.getElem?_set_self (show R.rs.length < (R.rs ++ [(⟨rb, bb, n, false, fun _ => 0⟩ : Rgn)]).length by simp), Option.some.injEq] at hx
  subst hx
  have hids : ∀ a ∈ R.rows, a.id ≠ d := fun a ha => by have := (H.out.link a ha).2.1; have := hd.out; omega
  have hrow := fin_append (l := R.rows) (r := ⟨xb, d, n, 0, 0, fun _ => 0⟩) (s := 1) (b := bs) (g := fun k => if k < n then g k else 0) hids
  have hrs : ((R.rs ++ [(⟨rb, bb, n, false, fun _ => 0⟩ : Rgn)]).set R.rs.length ⟨rb, bb, n, false, fun k => if k < n then g k else 0⟩).set R.rs.length ⟨rb, bb, n, true, fun k => if k < n then g k else 0⟩ = R.rs ++ [⟨rb, bb, n, true, fun k => if k < n then g k else 0⟩] := by
    rw [List.set_set, List.set_append_right _ _ (Nat.le_refl _)]; simp
  have hX := hR1.out.regs ⟨rb, bb, n, false, fun _ => 0⟩ (by simp)
  have hxb := (hR1.out.recs ⟨xb, d, n, 0, 0, fun _ => 0⟩ (by simp)).np
  have hOF : Hid (Only (fun k => ¬ Pr k) w w3) := Lib.hid (((hO1.out.mono fun k _ hk => H.out.spine_np hk).then hO2.out fun k _ (hk : k = bb) => hk ▸ hX.2.2).then hO3 fun k _ hk => by
    rcases hk with hk | hk | hk
    · exact hk ▸ hxb
    · exact hk ▸ H.out.npm
    · exact hk ▸ hX.2.1)
  have hR3 := Lib.hid hR3
  have hrow := Lib.hid hrow
  have hrs := Lib.hid hrs
  clear hO3 hX hxb
  go_wp2_with fail
  go_ret
  refine ⟨rfl, hOF.out, _, xb, bs, rb, bb, _, hR3.out, rfl, rfl, rfl, ?_, hrs.out, fun i hi => if_pos hi⟩
  rw [hd.out]; exact hrow.out
end Go.Proofs.Ytmjeloinibembaa
