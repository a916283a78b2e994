/-
  THE DOCUMENT'S RING: New, Used, Pending.
-/
import Derived.Test.YtmjeloinibembaaRefC
import Derived.Deep.LoopGhost
namespace Go.Proofs.Ytmjeloinibembaa
open Go.RowKit
set_option linter.unusedVariables false
set_option linter.unusedSimpArgs false
theorem recs_at {B : Nat} {w : World} {a : Option Addr} {m n c k : Nat} {l : List QR} {r : QR} (h : RowQ B w (.slice a m c) n (flat l)) (hr : l[k]? = some r) : ∃ g o, a = some ⟨g, o, none⟩ ∧ m = n ∧ n ≤ c ∧ B ≤ g ∧ KindAt w g 104 ∧ Thaw w g ∧ w.cell? ⟨g, o + k * 4, none⟩ = some (.int .i64 (r.id : Int)) ∧ w.cell? ⟨g, o + k * 4 + 1, none⟩ = some (.int .i64 (r.n : Int)) ∧ w.cell? ⟨g, o + k * 4 + 2, none⟩ = some (.int .i64 (r.st : Int)) ∧ w.cell? ⟨g, o + k * 4 + 3, none⟩ = some r.b := by
  have hlt := (List.getElem?_eq_some_iff.1 hr).1
  have hl := h.1
  rw [flat_len] at hl
  obtain ⟨g, o, h1, h2, h3, h4, h5, h6, hcell⟩ := h.at' (by omega)
  refine ⟨g, o, h1, h2, h3, h4, h5, h6, ?_, ?_, ?_, ?_⟩
  · exact hcell (k * 4 + 0) _ ((flatQ_at hr 0 (by decide)).trans rfl)
  · exact hcell (k * 4 + 1) _ ((flatQ_at hr 1 (by decide)).trans rfl)
  · exact hcell (k * 4 + 2) _ ((flatQ_at hr 2 (by decide)).trans rfl)
  · exact hcell (k * 4 + 3) _ ((flatQ_at hr 3 (by decide)).trans rfl)
set_option maxRecDepth 100000 in
set_option maxHeartbeats 1000000 in
theorem f25_ok (w : World) : Calls Try.prog 25 #[] w fun e w' => e = .returned (.pointer (some ⟨w.heap.size, 0, none⟩)) ∧ w' = w.alloc (.cells #[.slice none 0 0] 99) := by
  go_enter Try.func25, Try.ntmps25
  go_wp2_with fail
  go_ret
  exact ⟨rfl, rfl⟩
set_option maxRecDepth 100000 in
set_option maxHeartbeats 1000000 in
theorem f26_ok (w : World) {nb size : Nat} (h1 : 8 ≤ size) (h2 : size ≤ 4096) (h8 : size % 8 = 0) : Calls Try.prog 26 #[.int .i64 size, .pointer (some ⟨nb, 0, none⟩)] w fun e w' =>
    e = .returned (.tuple #[.pointer (some ⟨w.heap.size, 0, none⟩), .int .i64 0]) ∧ w' = w.alloc (.cells #[.int .i64 size, .pointer (some ⟨nb, 0, none⟩), .slice none 0 0] 102) := by
  have e1 : ((size : Int) % 8) = 0 := by omega
  have e2 : ¬ ((size : Int) < 8) := by omega
  have e3 : ¬ (4096 < (size : Int)) := by omega
  go_enter Try.func26, Try.ntmps26
  go_wp2_with fail
  go_ret2
  exact ⟨rfl, rfl⟩
set_option maxRecDepth 100000 in
set_option maxHeartbeats 1000000 in
theorem f26_bad (w : World) {nb : Nat} {size : Int} (h : Hid (size < 8 ∨ 4096 < size ∨ Int.tmod size 8 ≠ 0)) : Calls Try.prog 26 #[.int .i64 size, .pointer (some ⟨nb, 0, none⟩)] w fun e w' =>
    e = .returned (.tuple #[.pointer none, .int .i64 100]) ∧ w = w' := by
  by_cases h1 : size < 8
  · go_enter Try.func26, Try.ntmps26
    go_wp2_with fail
    go_ret2
    exact ⟨rfl, rfl⟩
  · by_cases h2 : 4096 < size
    · go_enter Try.func26, Try.ntmps26
      go_wp2_with fail
      go_ret2
      exact ⟨rfl, rfl⟩
    · have h3 : ¬ (size % 8 = 0) := by have := h.out; rw [Int.tmod_eq_emod_of_nonneg (by omega)] at this; omega
      go_enter Try.func26, Try.ntmps26
      go_wp2_with fail
      go_ret2
      exact ⟨rfl, rfl⟩
set_option maxRecDepth 100000 in
set_option maxHeartbeats 1000000 in
theorem f13_bad (w : World) {nb : Nat} {size : Int} (h : Hid (size < 8 ∨ 4096 < size ∨ Int.tmod size 8 ≠ 0)) : Calls Try.prog 13 #[.int .i64 size, .pointer (some ⟨nb, 0, none⟩)] w fun e w' =>
    e = .returned (.tuple #[.pointer none, .int .i64 100]) ∧ w = w' := by
  by_cases h1 : size < 8
  · go_enter Try.func13, Try.ntmps13
    go_wp2_with fail
    go_ret2
    exact ⟨rfl, rfl⟩
  · by_cases h2 : 4096 < size
    · go_enter Try.func13, Try.ntmps13
      go_wp2_with fail
      go_ret2
      exact ⟨rfl, rfl⟩
    · have h3 : ¬ (size % 8 = 0) := by have := h.out; rw [Int.tmod_eq_emod_of_nonneg (by omega)] at this; omega
      go_enter Try.func13, Try.ntmps13
      go_wp2_with fail
      go_ret2
      exact ⟨rfl, rfl⟩
theorem ref_new {B : Nat} {w w' : World} {nb size : Nat} (hw : Hid (w' = w.alloc (.cells #[.int .i64 size, .pointer (some ⟨nb, 0, none⟩), .slice none 0 0] 102))) (kn : KindAt w nb 99) (tn : Thaw w nb) (n0 : w.cell? ⟨nb, 0, none⟩ = some (.slice none 0 0)) (hB : B ≤ nb) :
    RefAt B w' ⟨w.heap.size, nb, size, [], [], .slice none 0 0, .slice none 0 0⟩ := by
  have hw := hw.out
  subst hw
  have hc : ∀ j, (w.alloc (.cells #[.int .i64 size, .pointer (some ⟨nb, 0, none⟩), .slice none 0 0] 102)).cell? ⟨w.heap.size, j, none⟩ = (#[.int .i64 size, .pointer (some ⟨nb, 0, none⟩), .slice none 0 0] : Array Value)[j]? := fun j => World.cell?_alloc_at _ _ _ _ rfl
  refine ⟨KindAt.new _ _ _, Thaw.new _ _ _, hc 0, hc 1, hc 2, kn.alloc _, tn.alloc kn.lt _, kpa n0, RowQ.nil _ _, RowAt.nil _ _ _, by simp, by simp, .nil, by simp, fun k hk => ?_⟩
  have hlt := kn.lt
  rcases hk with rfl | rfl | hk | hk | ⟨p, hp, _⟩ | ⟨r, hr, _⟩
  · show B ≤ w.heap.size; omega
  · exact hB
  · simp [Value.ownBlock] at hk
  · simp [Value.ownBlock] at hk
  · simp at hp
  · simp at hr
set_option maxRecDepth 100000 in
set_option maxHeartbeats 1000000 in
theorem f34_ok {B : Nat} (w : World) {Q : RefS} (H : Hid (RefAt B w Q)) (hl : Hid (Q.recs.length < 2 ^ 20)) (hu : Hid (usedQ Q.recs ≤ 100000)) :
    Calls Try.prog 34 #[.pointer (some ⟨Q.qb, 0, none⟩)] w fun e w' => e = .returned (.int .i64 (usedQ Q.recs : Int)) ∧ w = w' := by
  obtain ⟨a, c, hv⟩ := H.out.row.len
  have q2 := H.out.q2
  have hrow := H.out.row
  rw [hv] at q2 hrow
  obtain ⟨n, hn⟩ : ∃ n, Hid (Q.recs.length = n) := ⟨_, Lib.hid rfl⟩
  rw [hn.out] at q2 hrow
  have hrow := Lib.hid hrow
  clear hv
  have hl20 : n < 2 ^ 20 := hn.out ▸ hl.out
  go_enter Try.func34, Try.ntmps34
  go_wp2_with fail
  go_loopg [3, 4] n (fun g s i wr => ∃ k : Nat, Hid (g = n - k) ∧ k ≤ n ∧ i = .int .i64 k ∧ Hid (wr = w) ∧ s = .int .i64 (usedQ (Q.recs.take k) : Int))
  case atStart => exact ⟨0, Lib.hid rfl, Nat.zero_le _, rfl, Lib.hid rfl, rfl⟩
  case round =>
    obtain ⟨k, hg, hk, rfl, hwr, rfl⟩ := hrel
    obtain rfl := hwr.out
    by_cases hlt : k < n
    · have hlt' : (k : Int) < (n : Int) := by omega
      obtain ⟨r, hr⟩ : ∃ r, Q.recs[k]? = some r := ⟨_, List.getElem?_eq_getElem (by rw [hn.out]; exact hlt)⟩
      obtain ⟨gq, oq, rfl, -, -, -, -, -, -, x1, -, -⟩ := recs_at hrow.out hr
      have hut := used_take hr
      have hul := used_take_le Q.recs (k + 1)
      have hpos := (H.out.recs r (List.mem_of_getElem? hr)).pos.2
      obtain ⟨u, hu0⟩ : ∃ u, usedQ (Q.recs.take k) = u := ⟨_, rfl⟩
      rw [hu0] at hut
      have e1 : IntKind.i64.wrap ((u : Int) + (takesN r.n : Int)) = ((usedQ (Q.recs.take (k + 1)) : Nat) : Int) := by
        rw [hut, IntKind.wrap_i64]; have := hu.out; rw [hut] at hul; omega
      have hpos := Lib.hid hpos
      clear hut hul hr
      rw [hu0]
      go_wp2_with fail
      refine (f52_ok wr (n := r.n) (by have := hpos.out; omega)).mono ?_; rintro e w' ⟨rfl, rfl⟩
      go_wp2_with fail
      go_roundg (n - (k + 1))
      case measure => rw [hg.out]; omega
      case rel => exact ⟨k + 1, Lib.hid rfl, hlt, by go_num, Lib.hid rfl, rfl⟩
    · have hkn : n = k := by omega
      subst hkn
      have hall : Q.recs.take n = Q.recs := by rw [← hn.out, List.take_length]
      rw [hall]
      go_wp2_with fail
      go_ret
      exact ⟨rfl, rfl⟩
def pendQ (l : List QR) : List Value := (l.filter fun r => r.st == 0).map fun r => .int .i64 (r.id : Int)
theorem pendQ_snoc1 {l : List QR} {r : QR} (h : r.st = 0) : pendQ (l ++ [r]) = pendQ l ++ [.int .i64 (r.id : Int)] := by simp [pendQ, h]
theorem pendQ_snoc0 {l : List QR} {r : QR} (h : r.st ≠ 0) : pendQ (l ++ [r]) = pendQ l := by simp [pendQ, h]
theorem pendQ_len (l : List QR) : (pendQ l).length ≤ l.length := by unfold pendQ; rw [List.length_map]; exact List.length_filter_le _ _
set_option maxRecDepth 100000 in
set_option maxHeartbeats 4000000 in
theorem f36_ok {B : Nat} (w : World) {Q : RefS} (H : Hid (RefAt B w Q)) (hl : Hid (Q.recs.length < 2 ^ 20)) :
    Calls Try.prog 36 #[.pointer (some ⟨Q.qb, 0, none⟩)] w fun e w' => ∃ V : Value, e = .returned V ∧ RowAt w.heap.size 3 w' V (pendQ Q.recs) ∧ Below w.heap.size w w' := by
  obtain ⟨a, c, hv⟩ := H.out.row.len
  have q2 := H.out.q2
  have hrow := H.out.row
  rw [hv] at q2 hrow
  obtain ⟨n, hn⟩ : ∃ n, Hid (Q.recs.length = n) := ⟨_, Lib.hid rfl⟩
  rw [hn.out] at q2 hrow
  have hrow := Lib.hid hrow
  have q2 := Lib.hid q2
  clear hv
  have hl20 : n < 2 ^ 20 := hn.out ▸ hl.out
  go_enter Try.func36, Try.ntmps36
  go_wp2_with fail
  go_loopg [3, 4] n (fun g V i wr => ∃ k : Nat, Hid (g = n - k) ∧ k ≤ n ∧ i = .int .i64 k ∧ Hid (RowAt w.heap.size 3 wr V (pendQ (Q.recs.take k))) ∧ Hid (Below w.heap.size w wr))
  case atStart => exact ⟨0, Lib.hid rfl, Nat.zero_le _, rfl, Lib.hid (RowAt.nil _ _ _), Lib.hid (Below.refl _ _)⟩
  case round =>
    obtain ⟨k, hg, hk, rfl, hV, hB⟩ := hrel
    have q2' := (hB.out.cell (World.block_lt_of_cell? _ _ q2.out)).trans q2.out
    by_cases hlt : k < n
    · have hlt' : (k : Int) < (n : Int) := by omega
      obtain ⟨r, hr⟩ : ∃ r, Q.recs[k]? = some r := ⟨_, List.getElem?_eq_getElem (by rw [hn.out]; exact hlt)⟩
      have hr := Lib.hid hr
      obtain ⟨gq, oq, rfl, -, -, -, -, -, x0_, -, x2_, -⟩ := recs_at hrow.out hr.out
      have x0 := (hB.out.cell (World.block_lt_of_cell? _ _ x0_)).trans x0_
      have x2 := (hB.out.cell (World.block_lt_of_cell? _ _ x2_)).trans x2_
      clear x0_ x2_
      have htk := Lib.hid (List.take_add_one (l := Q.recs) (i := k))
      by_cases h0 : r.st = 0
      · rw [h0] at x2
        have h0' := Lib.hid h0
        clear h0
        have hal := Below.one (w := wr) (.cells #[.int .i64 (r.id : Int)] 3)
        have hbs := hB.out.size
        obtain ⟨V', w2, hap, hV2, hg2, hvv⟩ := (hV.out.below hal).append (t := 37) (by simp; omega) Try.t3 (.int .i64 0) 8 und37 info3 zero3 size3 bytes3 rfl (by decide)
          (Nat.lt_of_le_of_lt (pendQ_len _) (by rw [List.length_take]; omega)) (.int .i64 (r.id : Int)) rfl (nb := wr.heap.size) (by rw [World.cell?_alloc_at _ _ _ _ rfl]; rfl) (fun he => by have := (hV.out.own he).1.lt; omega)
        have hap := hap 37
        have hV2 : Hid (RowAt w.heap.size 3 w2 V' (pendQ (Q.recs.take (k + 1)))) := Lib.hid (by rw [htk.out, hr.out]; show RowAt _ _ _ _ (pendQ (Q.recs.take k ++ [r])); rw [pendQ_snoc1 h0'.out]; exact hV2)
        have hB2 : Hid (Below w.heap.size w w2) := Lib.hid ((hB.out.trans (hal.mono hbs)).grown hg2 (by simp; omega) fun k hk => (hV.out.own hk).2)
        clear hvv hg2 hal hbs
        have hap' := Lib.hid hap
        clear hap
        go_wp2_with (first | (at_builtin; refine wpList_plain rfl fun K hK => wp_append_run (.tmp 23) (.tmp 32) 37 rfl _ _ _ rfl rfl hap'.out (hK _ _ ?_)))
        go_roundg (n - (k + 1))
        case measure => rw [hg.out]; omega
        case rel => exact ⟨k + 1, Lib.hid rfl, hlt, by go_num, hV2, hB2⟩
      · have e0 : ((r.st : Int) == 0) = false := by simp; exact h0
        have h0' := Lib.hid h0
        clear h0
        have hV2 : Hid (RowAt w.heap.size 3 wr u3 (pendQ (Q.recs.take (k + 1)))) := Lib.hid (by rw [htk.out, hr.out]; show RowAt _ _ _ _ (pendQ (Q.recs.take k ++ [r])); rw [pendQ_snoc0 h0'.out]; exact hV.out)
        go_wp2_with fail
        go_roundg (n - (k + 1))
        case measure => rw [hg.out]; omega
        case rel => exact ⟨k + 1, Lib.hid rfl, hlt, by go_num, hV2, hB⟩
    · have hkn : n = k := by omega
      subst hkn
      have hV2 : Hid (RowAt w.heap.size 3 wr u3 (pendQ Q.recs)) := Lib.hid (by have h := hV.out; rwa [← hn.out, List.take_length] at h)
      go_wp2_with fail
      go_ret
      exact ⟨_, rfl, hV2.out, hB.out⟩
end Go.Proofs.Ytmjeloinibembaa
