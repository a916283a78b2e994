/-
  THE DOCUMENT'S RING: Output, Read; few, Spoil, Ints.
-/
import Derived.Test.YtmjeloinibembaaRefG
namespace Go.Proofs.Ytmjeloinibembaa
open Go.RowKit
set_option linter.unusedVariables false
set_option linter.unusedSimpArgs false
set_option maxRecDepth 100000 in
set_option maxHeartbeats 1000000 in
theorem f30_bad (w : World) {qb n c : Nat} {a : Option Addr} (hn : Hid (n < 1 ∨ 4096 < n)) : Calls Try.prog 30 #[.pointer (some ⟨qb, 0, none⟩), .slice a n c] w fun e w' => e = .returned (.int .i64 100) ∧ w = w' := by
  go_enter Try.func30, Try.ntmps30
  go_wp2_with fail
  refine (f27_bad w (n := (n : Int)) (Lib.hid (by have := hn.out; omega))).mono ?_; rintro e w' ⟨rfl, rfl⟩
  go_wp2_with fail
  go_ret
  exact ⟨rfl, rfl⟩
set_option maxRecDepth 100000 in
set_option maxHeartbeats 1000000 in
theorem f30_full {B : Nat} (w : World) {Q : RefS} (H : Hid (RefAt B w Q)) (hlr : Hid (Q.recs.length < 2 ^ 20)) (hus : Hid (usedQ Q.recs ≤ 4096)) {n c : Nat} {a : Option Addr} (hn : Hid (1 ≤ n ∧ n ≤ 4096)) (hl : Hid (Q.size < usedQ Q.recs + takesN n)) :
    Calls Try.prog 30 #[.pointer (some ⟨Q.qb, 0, none⟩), .slice a n c] w fun e w' => e = .returned (.int .i64 102) ∧ Below w.heap.size w w' := by
  go_enter Try.func30, Try.ntmps30
  go_wp2_with fail
  refine (f27_full w H hlr hus hn hl).mono ?_; rintro e w' ⟨rfl, hb⟩
  have hb := Lib.hid hb
  go_wp2_with fail
  go_ret
  exact ⟨rfl, hb.out⟩
set_option maxRecDepth 100000 in
set_option maxHeartbeats 2000000 in
theorem f30_ok {B : Nat} (w : World) {Q : RefS} (H : Hid (RefAt B w Q)) (hlr : Hid (Q.recs.length + 1 < 2 ^ 20)) (hus : Hid (usedQ Q.recs ≤ 4096)) {n c sb so : Nat} {g : Nat → Nat} (hn : Hid (1 ≤ n ∧ n ≤ 4096)) (hl : Hid (usedQ Q.recs + takesN n ≤ Q.size)) (hlp : Hid (Q.parts.length + 1 < 2 ^ 30)) (hids : Hid (∀ a ∈ Q.recs, a.id ≤ Q.parts.length))
    (hb : Hid (Bts w sb so n g)) (hg : Hid (∀ i, i < n → g i < 256)) (hsb : Hid (¬ Q.own sb)) :
    Calls Try.prog 30 #[.pointer (some ⟨Q.qb, 0, none⟩), .slice (some ⟨sb, so, none⟩) n c] w fun e w' => e = .returned (.int .i64 0) ∧ Only Q.own w w' ∧ ∃ Q' : RefS, RefAt B w' Q' ∧ (∀ k, Q'.own k → Q.own k ∨ w.heap.size ≤ k) ∧ Q'.qb = Q.qb ∧ Q'.nb = Q.nb ∧ Q'.size = Q.size ∧
      ∃ (b : Value) (bb : Nat) (f : Nat → Nat) (p : Prt), Q'.recs = Q.recs ++ [⟨Q.parts.length + 1, n, 1, b, bb, f⟩] ∧ Q'.parts = Q.parts ++ [p] ∧ p.n = n ∧ p.live = false ∧ p.f = f ∧ ∀ i, i < n → f i = g i := by
  go_enter Try.func30, Try.ntmps30
  go_wp2_with fail
  refine (f27_ok w H (Lib.hid (by have := hlr.out; omega)) hus hn hl hlp).mono ?_; rintro e w1 ⟨d, rfl, hd, hO1, Q1, hR1, hown1, hqb, hnb, hsz, hrecs, p, hparts, hpn, hpl, hpf⟩
  have hd_ := hd
  clear hd
  have hd := Lib.hid hd_
  clear hd_
  have hO1_ := hO1
  clear hO1
  have hO1 := Lib.hid hO1_
  clear hO1_
  have hR1_ := hR1
  clear hR1
  have hR1 := Lib.hid hR1_
  clear hR1_
  have hown1_ := hown1
  clear hown1
  have hown1 := Lib.hid hown1_
  clear hown1_
  have hqb_ := hqb
  clear hqb
  have hqb := Lib.hid hqb_
  clear hqb_
  have hnb_ := hnb
  clear hnb
  have hnb := Lib.hid hnb_
  clear hnb_
  have hsz_ := hsz
  clear hsz
  have hsz := Lib.hid hsz_
  clear hsz_
  have hrecs_ := hrecs
  clear hrecs
  have hrecs := Lib.hid hrecs_
  clear hrecs_
  have hparts_ := hparts
  clear hparts
  have hparts := Lib.hid hparts_
  clear hparts_
  have hpn_ := hpn
  clear hpn
  have hpn := Lib.hid hpn_
  clear hpn_
  have hpl_ := hpl
  clear hpl
  have hpl := Lib.hid hpl_
  clear hpl_
  have hpf_ := hpf
  clear hpf
  have hpf := Lib.hid hpf_
  clear hpf_
  have q1 : w1.cell? ⟨Q.qb, 1, none⟩ = some (.pointer (some ⟨Q.nb, 0, none⟩)) := by have := hR1.out.q1; rwa [hqb.out, hnb.out] at this
  have hb1 : Hid (Bts w1 sb so n g) := Lib.hid fun i hi => by rw [hO1.out.cell (p := ⟨sb, so + i, none⟩) (World.block_lt_of_cell? _ _ (hb.out i hi)) hsb.out]; exact hb.out i hi
  have hp1 : Hid (Q1.parts[Q.parts.length]? = some p) := Lib.hid (by rw [hparts.out]; simp)
  go_wp2_with fail
  have hset := Calls.at (f33_in w1 hR1 (Lib.hid (by rw [hparts.out]; have := hlp.out; simp; omega)) (i := (d : Int)) (j := Q.parts.length) (Lib.hid (by have := hd.out; omega)) hp1 hb1 hg (Lib.hid (by rw [hpn.out]; exact Nat.le_refl _)) (c := c)) (a' := #[.pointer (some ⟨Q.nb, 0, none⟩), .int .i64 (d : Int), .int .i64 0, .slice (some ⟨sb, so, none⟩) n c]) (by rw [hnb.out])
  refine hset.mono ?_; rintro e w2 ⟨rfl, hO2, hR2⟩
  have hR2 := Lib.hid hR2
  have hO2 := Lib.hid hO2
  clear hset q1
  go_wp2_with fail
  have hsub := Calls.at (f28_hit w2 hR2 (Lib.hid (by show Q1.recs.length < 2 ^ 20; rw [hrecs.out]; have := hlr.out; simp; omega)) (Lib.hid (by show (Q1.parts.set Q.parts.length _).length < 2 ^ 30; rw [List.length_set, hparts.out]; have := hlp.out; simp; omega)) (k := Q.recs.length) (r := ⟨d, n, 0, .slice none 0 0, 0, fun _ => 0⟩) (Lib.hid (by show Q1.recs[Q.recs.length]? = _; rw [hrecs.out]; simp)) (Lib.hid rfl) (id := (d : Int)) (Lib.hid ⟨rfl, by show 1 ≤ d; have := hd.out; omega⟩) (Lib.hid fun j a hj ha => by
    have ha : Q1.recs[j]? = some a := ha
    rw [hrecs.out, List.getElem?_append_left hj] at ha
    have := hids.out a (List.mem_of_getElem? ha)
    have := hd.out
    intro h; omega) (p := { p with f := fun k => if k < n then g k else p.f k }) (Lib.hid (by show (Q1.parts.set Q.parts.length _)[d - 1]? = _; rw [show d - 1 = Q.parts.length by have := hd.out; omega, List.getElem?_set_self (by rw [hparts.out]; simp)])) (Lib.hid hpl.out) (Lib.hid hpn.out)) (a' := #[.pointer (some ⟨Q.qb, 0, none⟩), .int .i64 (d : Int)]) (by show _ = (#[.pointer (some ⟨Q1.qb, 0, none⟩), .int .i64 (d : Int)] : Array Value); rw [hqb.out])
  refine hsub.mono ?_; rintro e w3 ⟨rfl, hO3, gb, cb, hgb, hR3⟩
  clear hsub
  have hdl : d - 1 = Q.parts.length := by have := hd.out; omega
  have hOF : Hid (Only Q.own w w3) := Lib.hid ((hO1.out.then hO2.out fun k hk h => (hown1.out k h).elim id fun h2 => by omega).then hO3 fun k hk h => by
    have h' : Q1.own k := by
      rcases h with h | h | h | h | ⟨x, hx, h⟩ | ⟨r, hr, hs, h⟩
      · exact .inl h
      · exact .inr (.inl h)
      · exact .inr (.inr (.inl h))
      · exact .inr (.inr (.inr (.inl h)))
      · rcases List.mem_or_eq_of_mem_set hx with hx | rfl
        · exact .inr (.inr (.inr (.inr (.inl ⟨x, hx, h⟩))))
        · exact .inr (.inr (.inr (.inr (.inl ⟨p, List.mem_of_getElem? hp1.out, h⟩))))
      · exact .inr (.inr (.inr (.inr (.inr ⟨r, hr, hs, h⟩))))
    exact (hown1.out k h').elim id fun h2 => by omega)
  have hR3 := Lib.hid hR3
  have hsz3 : Hid (w.heap.size ≤ gb) := Lib.hid (Nat.le_trans (Nat.le_trans hO1.out.size hO2.out.size) hgb)
  clear hO3 hgb
  go_wp2_with fail
  go_ret
  refine ⟨rfl, hOF.out, _, hR3.out, fun k hk => ?_, hqb.out, hnb.out, hsz.out, .slice (some ⟨gb, 0, none⟩) p.n cb, gb, fun k => if k < n then g k else p.f k, { p with f := fun k => if k < n then g k else p.f k, live := false }, ?_, ?_, hpn.out, rfl, rfl, fun i hi => if_pos hi⟩
  · rcases hk with h | h | h | h | ⟨x, hx, h⟩ | ⟨r, hr, hs, h⟩
    · exact hown1.out k (.inl h)
    · exact hown1.out k (.inr (.inl h))
    · exact hown1.out k (.inr (.inr (.inl h)))
    · exact hown1.out k (.inr (.inr (.inr (.inl h))))
    · rcases List.mem_or_eq_of_mem_set hx with hx | rfl
      · rcases List.mem_or_eq_of_mem_set hx with hx | rfl
        · exact hown1.out k (.inr (.inr (.inr (.inr (.inl ⟨x, hx, h⟩)))))
        · exact hown1.out k (.inr (.inr (.inr (.inr (.inl ⟨p, List.mem_of_getElem? hp1.out, h⟩)))))
      · exact hown1.out k (.inr (.inr (.inr (.inr (.inl ⟨p, List.mem_of_getElem? hp1.out, h⟩)))))
    · rcases List.mem_or_eq_of_mem_set hr with hr | rfl
      · exact hown1.out k (.inr (.inr (.inr (.inr (.inr ⟨r, hr, hs, h⟩)))))
      · exact .inr (h ▸ hsz3.out)
  · show Q1.recs.set Q.recs.length _ = _
    rw [hrecs.out, List.set_append_right _ _ (Nat.le_refl _), Nat.sub_self, List.set_cons_zero]
    simp only [List.append_cancel_left_eq, List.cons.injEq, and_true, QR.mk.injEq, true_and]
    exact hd.out
  · show (Q1.parts.set Q.parts.length _).set (d - 1) _ = _
    rw [hdl, List.set_set, hparts.out, List.set_append_right _ _ (Nat.le_refl _), Nat.sub_self, List.set_cons_zero]
theorem flatQ_drop (l : List QR) (k : Nat) : (flat l).drop (k * 4) = flat (l.drop k) := flat_drop l k
def outsQ (tk : List QR) : List Value := (tk.filter fun r => r.st == 1).map fun r => r.b
theorem outsQ_snoc1 {l : List QR} {r : QR} (h : r.st = 1) : outsQ (l ++ [r]) = outsQ l ++ [r.b] := by simp [outsQ, h]
theorem outsQ_snoc0 {l : List QR} {r : QR} (h : r.st ≠ 1) : outsQ (l ++ [r]) = outsQ l := by simp [outsQ, h]
theorem outsQ_len (l : List QR) : (outsQ l).length ≤ l.length := by unfold outsQ; rw [List.length_map]; exact List.length_filter_le _ _
set_option maxRecDepth 100000 in
set_option maxHeartbeats 4000000 in
theorem f32_ok {B : Nat} (w : World) {Q : RefS} (H : Hid (RefAt B w Q)) (hlr : Hid (Q.recs.length < 2 ^ 20)) :
    Calls Try.prog 32 #[.pointer (some ⟨Q.qb, 0, none⟩)] w fun e w' => ∃ V : Value, e = .returned V ∧ ∃ (tk rest : List QR), Q.recs = tk ++ rest ∧ (∀ r ∈ tk, r.st ≠ 0) ∧ (∀ r, rest.head? = some r → r.st = 0) ∧
      RowAt w.heap.size 30 w' V (outsQ tk) ∧ ∃ rv' : Value, RefAt B w' { Q with recs := rest, rv := rv' } ∧ Only (· = Q.qb) w w' ∧ ∀ k, rv'.ownBlock = some k → Q.rv.ownBlock = some k := by
  obtain ⟨a, c, hv⟩ := H.out.row.len
  have q2 := H.out.q2
  have hrow := H.out.row
  have hvv := Lib.hid hv
  rw [hv] at q2 hrow
  obtain ⟨n, hn⟩ : ∃ n, Hid (Q.recs.length = n) := ⟨_, Lib.hid rfl⟩
  rw [hn.out] at q2 hrow
  have hrow := Lib.hid hrow
  have q2 := Lib.hid q2
  clear hv
  have hl20 : n < 2 ^ 20 := hn.out ▸ hlr.out
  have hc0 : Hid (n ≤ c) := Lib.hid (by obtain ⟨a', c', h1, h2, _⟩ := hrow.out.behind (k := 0) (Nat.zero_le _); simp only [Value.slice.injEq] at h1; omega)
  go_enter Try.func32, Try.ntmps32
  go_wp2_with fail
  go_loopg [3, 4] n (fun g V i wr => ∃ k : Nat, Hid (g = n - k) ∧ Hid (k ≤ n) ∧ i = .int .i64 k ∧ Hid (RowAt w.heap.size 30 wr V (outsQ (Q.recs.take k))) ∧ Hid (∀ j r, j < k → Q.recs[j]? = some r → r.st ≠ 0) ∧ Hid (Below w.heap.size w wr))
  case atStart => exact ⟨0, Lib.hid rfl, Lib.hid (Nat.zero_le _), rfl, Lib.hid (RowAt.nil _ _ _), Lib.hid fun j r h => absurd h (Nat.not_lt_zero _), Lib.hid (Below.refl _ _)⟩
  case round =>
    obtain ⟨k, hg, hk, rfl, hV, hdone, hB⟩ := hrel
    have q2' := (hB.out.cell (World.block_lt_of_cell? _ _ q2.out)).trans q2.out
    obtain ⟨ad, had⟩ : ∃ ad, Hid ((match a with | none => none | some x => if c = k then some x else some (x.add (k * 4)) : Option Addr) = ad) := ⟨_, Lib.hid rfl⟩
    have hbeh : Hid ((∀ j, (Value.slice ad (n - k) (c - k)).ownBlock = some j → Q.rv.ownBlock = some j) ∧ n ≤ c ∧ RowQ B w (.slice ad (n - k) (c - k)) (n - k) ((flat Q.recs).drop (k * 4))) := Lib.hid (by
      obtain ⟨a', c', h1, h2, h3⟩ := hrow.out.behind hk.out
      simp only [Value.slice.injEq, true_and] at h1
      obtain ⟨rfl, rfl⟩ := h1
      refine ⟨fun j hj => ?_, h2, h3 ad had.out⟩
      rw [hvv.out]
      rw [← had.out] at hj
      cases a with
      | none => simp [Value.ownBlock] at hj
      | some x =>
        obtain ⟨b, o, sp⟩ := x
        by_cases hck : c = k
        · simp only [if_pos hck] at hj; exact hj
        · simp only [if_neg hck] at hj
          have e : ((⟨b, o, sp⟩ : Addr).add (k * 4)).block = b := by unfold Addr.add; split <;> rfl
          simp only [Value.ownBlock] at hj ⊢
          rw [e] at hj; exact hj)
    have hkc : k ≤ c := by have := hk.out; have := hc0.out; omega
    have hkci : (k : Int) ≤ (c : Int) := by omega
    have hkn0 : k ≤ n := hk.out
    have hkni : (k : Int) ≤ (n : Int) := by omega
    by_cases hlt : k < n
    · have hlt' : (k : Int) < (n : Int) := by omega
      obtain ⟨r, hr⟩ : ∃ r, Q.recs[k]? = some r := ⟨_, List.getElem?_eq_getElem (by rw [hn.out]; exact hlt)⟩
      have hr := Lib.hid hr
      obtain ⟨gq, oq, rfl, -, -, -, -, -, -, -, x2_, x3_⟩ := recs_at hrow.out hr.out
      have x2 := (hB.out.cell (World.block_lt_of_cell? _ _ x2_)).trans x2_
      have x3 := (hB.out.cell (World.block_lt_of_cell? _ _ x3_)).trans x3_
      clear x2_ x3_
      have htk := Lib.hid (List.take_add_one (l := Q.recs) (i := k))
      have hdone1 : r.st ≠ 0 → Hid (∀ j a, j < k + 1 → Q.recs[j]? = some a → a.st ≠ 0) := fun h => Lib.hid fun j a hj ha => by
        by_cases hjk : j = k
        · subst hjk; rw [hr.out] at ha; obtain rfl := Option.some.inj ha; exact h
        · exact hdone.out j a (by omega) ha
      have hdone1 := Lib.hid hdone1
      by_cases h0 : r.st = 0
      · rw [h0] at x2
        have hhead : Hid (∀ r, (Q.recs.drop k).head? = some r → r.st = 0) := Lib.hid fun r' hr' => by
          rw [List.head?_drop, hr.out] at hr'; obtain rfl := Option.some.inj hr'; exact h0
        clear h0
        obtain ⟨w9, hw9⟩ : ∃ w9, Hid (wr.setCell ⟨Q.qb, 2, none⟩ (.slice ad (n - k) (c - k)) = w9) := ⟨_, Lib.hid rfl⟩
        have hO9 : Hid (Only (· = Q.qb) wr w9) := Lib.hid (by rw [← hw9.out]; exact Only.setCell (S := (· = Q.qb)) (Only.refl _ _) (fun _ => rfl) _)
        have hHB := H.out.below hB.out
        have hR9 : Hid (RefAt B w9 { Q with recs := Q.recs.drop k, rv := .slice ad (n - k) (c - k) }) := Lib.hid (by
          rw [← hw9.out]
          refine ref_rec hHB (Only.setCell (S := fun j => j = Q.qb ∨ Q.rv.ownBlock = some j) (Only.refl _ _) (fun _ => .inl rfl) _) (hHB.tq.setCell _ _) (hHB.kq.setCell _ _) ((cell_ne _ (.inr (by decide))).trans hHB.q0) ((cell_ne _ (.inr (by decide))).trans hHB.q1) (cell_same _ hHB.q2) ?_ fun r hr => .inl (List.mem_of_mem_drop hr)
          have h5 := hbeh.out.2.2
          rw [flatQ_drop] at h5
          have h5' : RowQ B w (.slice ad (n - k) (c - k)) (Q.recs.drop k).length (flat (Q.recs.drop k)) := by rw [List.length_drop, hn.out]; exact h5
          have h6 := (h5'.only (S := fun _ => False) (Only.of_below hB.out) fun _ _ h => h).only (S := (· = Q.qb)) (w' := wr.setCell ⟨Q.qb, 2, none⟩ (.slice ad (n - k) (c - k))) (Only.setCell (S := (· = Q.qb)) (Only.refl _ _) (fun _ => rfl) _) fun j hj he => by
            subst he
            exact absurd (((h5.own hj).1.below hB.out).inj hHB.kq) (by decide)
          exact h6)
        have hV9 : Hid (RowAt w.heap.size 30 w9 u3 (outsQ (Q.recs.take k))) := Lib.hid (hV.out.only hO9.out fun j hj he => absurd ((hV.out.own hj).1.inj (he ▸ hHB.kq)) (by decide))
        have hO90 : Hid (Only (· = Q.qb) w w9) := Lib.hid ((Only.of_below hB.out).then hO9.out fun _ _ h => h)
        have hz2 := hHB.tq 2
        have hst9 : Hid (∀ r ∈ Q.recs.take k, r.st ≠ 0) := Lib.hid fun r hr => by
          obtain ⟨j, hj⟩ := List.getElem?_of_mem hr
          have hjk : j < k := by have := (List.getElem?_eq_some_iff.1 hj).1; simp at this; omega
          rw [List.getElem?_take_of_lt hjk] at hj
          exact hdone.out j r hjk hj
        clear hHB
        go_wp2_with fail
        · have hck : c = k := by assumption
          have hsv : Value.slice (some ⟨gq, oq, none⟩) (n - k) 0 = .slice ad (n - k) (c - k) := by rw [← had.out]; simp [hck]
          rw [hsv, hw9.out]
          go_ret
          exact ⟨_, rfl, Q.recs.take k, Q.recs.drop k, (List.take_append_drop k _).symm, hst9.out, fun r hr => hhead.out r hr, hV9.out, _, hR9.out, hO90.out, fun j hj => hbeh.out.1 j hj⟩
        · have hck : ¬ c = k := by assumption
          have hsv : Value.slice (some ⟨gq, oq + k * 4, none⟩) (n - k) (c - k) = .slice ad (n - k) (c - k) := by rw [← had.out]; simp [hck, addr_add]
          rw [hsv, hw9.out]
          go_ret
          exact ⟨_, rfl, Q.recs.take k, Q.recs.drop k, (List.take_append_drop k _).symm, hst9.out, fun r hr => hhead.out r hr, hV9.out, _, hR9.out, hO90.out, fun j hj => hbeh.out.1 j hj⟩
      · have hst := hdone1.out h0
        have e0 : ((r.st : Int) == 0) = false := by simp; exact h0
        by_cases h1 : r.st = 1
        · rw [h1] at x2
          have h1' := Lib.hid h1
          clear h1 h0 e0
          obtain ⟨bv, hbv⟩ : ∃ v, Hid (r.b = v) := ⟨_, Lib.hid rfl⟩
          rw [hbv.out] at x3
          obtain ⟨b1, b2, b3, rfl⟩ : ∃ a n c, bv = .slice a n c := by
            obtain ⟨⟨c, h⟩, _⟩ := (H.out.recs r (List.mem_of_getElem? hr.out)).done (by rw [h1'.out]; decide)
            exact ⟨_, _, _, hbv.out.symm.trans h⟩
          have hal := Below.one (w := wr) (.cells #[.slice b1 b2 b3] 30)
          have hbs := hB.out.size
          obtain ⟨V', w2, hap, hV2, hg2, hvv2⟩ := (hV.out.below hal).append (t := 32) (by simp; omega) Try.t30 (.slice none 0 0) 24 Try.underlying32 info30 zero30 size30 bytes30 rfl (by decide)
            (Nat.lt_of_le_of_lt (outsQ_len _) (by rw [List.length_take]; omega)) (.slice b1 b2 b3) rfl (nb := wr.heap.size) (by rw [World.cell?_alloc_at _ _ _ _ rfl]; rfl) (fun he => by have := (hV.out.own he).1.lt; omega)
          have hap := hap 32
          have hV2 : Hid (RowAt w.heap.size 30 w2 V' (outsQ (Q.recs.take (k + 1)))) := Lib.hid (by rw [htk.out, hr.out]; show RowAt _ _ _ _ (outsQ (Q.recs.take k ++ [r])); rw [outsQ_snoc1 h1'.out, hbv.out]; exact hV2)
          have hB2 : Hid (Below w.heap.size w w2) := Lib.hid ((hB.out.trans (hal.mono hbs)).grown hg2 (by simp; omega) fun k hk => (hV.out.own hk).2)
          clear hvv2 hg2 hal hbs
          have hap' := Lib.hid hap
          clear hap
          go_wp2_with (first | (at_builtin; refine wpList_plain rfl fun K hK => wp_append_run (.tmp 32) (.tmp 41) 32 rfl _ _ _ rfl rfl hap'.out (hK _ _ ?_)))
          go_roundg (n - (k + 1))
          case measure => rw [hg.out]; omega
          case rel => exact ⟨k + 1, Lib.hid rfl, Lib.hid hlt, by go_num, hV2, hst, hB2⟩
        · have e1 : ((r.st : Int) == 1) = false := by simp; omega
          have h1' := Lib.hid h1
          clear h1 h0
          have hV2 : Hid (RowAt w.heap.size 30 wr u3 (outsQ (Q.recs.take (k + 1)))) := Lib.hid (by rw [htk.out, hr.out]; show RowAt _ _ _ _ (outsQ (Q.recs.take k ++ [r])); rw [outsQ_snoc0 h1'.out]; exact hV.out)
          go_wp2_with fail
          go_roundg (n - (k + 1))
          case measure => rw [hg.out]; omega
          case rel => exact ⟨k + 1, Lib.hid rfl, Lib.hid hlt, by go_num, hV2, hst, hB⟩
    · have hkn : n = k := by omega
      subst hkn
      have hhead : Hid (∀ r, (Q.recs.drop n).head? = some r → r.st = 0) := Lib.hid fun r' hr' => by
        rw [List.drop_eq_nil_of_le (by rw [hn.out]; exact Nat.le_refl _)] at hr'; simp at hr'
      obtain ⟨w9, hw9⟩ : ∃ w9, Hid (wr.setCell ⟨Q.qb, 2, none⟩ (.slice ad (n - n) (c - n)) = w9) := ⟨_, Lib.hid rfl⟩
      have hO9 : Hid (Only (· = Q.qb) wr w9) := Lib.hid (by rw [← hw9.out]; exact Only.setCell (S := (· = Q.qb)) (Only.refl _ _) (fun _ => rfl) _)
      have hHB := H.out.below hB.out
      have hR9 : Hid (RefAt B w9 { Q with recs := Q.recs.drop n, rv := .slice ad (n - n) (c - n) }) := Lib.hid (by
        rw [← hw9.out]
        refine ref_rec hHB (Only.setCell (S := fun j => j = Q.qb ∨ Q.rv.ownBlock = some j) (Only.refl _ _) (fun _ => .inl rfl) _) (hHB.tq.setCell _ _) (hHB.kq.setCell _ _) ((cell_ne _ (.inr (by decide))).trans hHB.q0) ((cell_ne _ (.inr (by decide))).trans hHB.q1) (cell_same _ hHB.q2) ?_ fun r hr => .inl (List.mem_of_mem_drop hr)
        have h5 := hbeh.out.2.2
        rw [flatQ_drop] at h5
        have h5' : RowQ B w (.slice ad (n - n) (c - n)) (Q.recs.drop n).length (flat (Q.recs.drop n)) := by rw [List.length_drop, hn.out]; exact h5
        have h6 := (h5'.only (S := fun _ => False) (Only.of_below hB.out) fun _ _ h => h).only (S := (· = Q.qb)) (w' := wr.setCell ⟨Q.qb, 2, none⟩ (.slice ad (n - n) (c - n))) (Only.setCell (S := (· = Q.qb)) (Only.refl _ _) (fun _ => rfl) _) fun j hj he => by
          subst he
          exact absurd (((h5.own hj).1.below hB.out).inj hHB.kq) (by decide)
        exact h6)
      have hV9 : Hid (RowAt w.heap.size 30 w9 u3 (outsQ (Q.recs.take n))) := Lib.hid (hV.out.only hO9.out fun j hj he => absurd ((hV.out.own hj).1.inj (he ▸ hHB.kq)) (by decide))
      have hO90 : Hid (Only (· = Q.qb) w w9) := Lib.hid ((Only.of_below hB.out).then hO9.out fun _ _ h => h)
      have hz2 := hHB.tq 2
      have hst9 : Hid (∀ r ∈ Q.recs.take n, r.st ≠ 0) := Lib.hid fun r hr => by
        obtain ⟨j, hj⟩ := List.getElem?_of_mem hr
        have hjk : j < n := by have := (List.getElem?_eq_some_iff.1 hj).1; simp at this; omega
        rw [List.getElem?_take_of_lt hjk] at hj
        exact hdone.out j r hjk hj
      clear hHB
      go_wp2_with fail
      · have hck : c = n := by assumption
        have hsv : Value.slice a 0 0 = .slice ad (n - n) (c - n) := by rw [← had.out]; cases a <;> simp [hck]
        rw [hsv, hw9.out]
        go_ret
        exact ⟨_, rfl, Q.recs.take n, Q.recs.drop n, (List.take_append_drop n _).symm, hst9.out, fun r hr => hhead.out r hr, hV9.out, _, hR9.out, hO90.out, fun j hj => hbeh.out.1 j hj⟩
      · have hck : ¬ c = n := by assumption
        have hsv : Value.slice (Option.map (fun x => x.add (n * 4)) a) 0 (c - n) = .slice ad (n - n) (c - n) := by rw [← had.out]; cases a <;> simp [hck]
        rw [hsv, hw9.out]
        go_ret
        exact ⟨_, rfl, Q.recs.take n, Q.recs.drop n, (List.take_append_drop n _).symm, hst9.out, fun r hr => hhead.out r hr, hV9.out, _, hR9.out, hO90.out, fun j hj => hbeh.out.1 j hj⟩
end Go.Proofs.Ytmjeloinibembaa
