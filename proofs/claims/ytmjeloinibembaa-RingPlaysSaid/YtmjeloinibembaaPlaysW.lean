/-
  RingPlays: the walk of the law.
-/
import Derived.Test.YtmjeloinibembaaPlayB
import Derived.Test.YtmjeloinibembaaKnA
import Derived.Deep.CutBlock
import Derived.Deep.DeepCutAuto
namespace Go.Proofs.Ytmjeloinibembaa
open Go.RowKit
set_option linter.unusedVariables false
set_option linter.unusedSimpArgs false
theorem new_ok2 (w : World) {B mb size : Nat} (h1 : 8 ≤ size) (h2 : size ≤ 4096) (h8 : size % 8 = 0) (M : MemRow B w mb (.slice none 0 0) []) {Pr : Nat → Prop} (low : ∀ k, k < B → Pr k) (lt : ∀ k, Pr k → k < w.heap.size) (np : ¬ Pr mb) :
    Calls Try.prog 13 #[.int .i64 size, .pointer (some ⟨mb, 0, none⟩)] w fun e w' => ∃ (R : RingS) (rg : Nat), e = .returned (.tuple #[.pointer (some ⟨rg, 0, none⟩), .int .i64 0]) ∧ R.rg = rg ∧ R.size = size ∧ R.mb = mb ∧ R.rows = [] ∧ R.rs = [] ∧ RingAt B Pr w' R ∧ Below w.heap.size w w' := by
  refine (f13_ok w (mb := mb) h1 h2 h8).mono ?_
  rintro e w' ⟨he, hw'⟩
  have hbw : Below w.heap.size w w' := by rw [hw']; exact ((Below.refl _ _).alloc (Nat.le_refl _) _).alloc (by simp) _
  have hsz : (w.alloc (.map #[] 0)).heap.size = w.heap.size + 1 := by simp
  have hc : ∀ j, w'.cell? ⟨w.heap.size + 1, j, none⟩ = (#[.int .i64 size, .int .i64 0, .pointer (some ⟨mb, 0, none⟩), .slice none 0 0, .map (some w.heap.size)] : Array Value)[j]? := fun j => by
    rw [hw', ← hsz, World.cell?_alloc_at _ _ _ _ rfl]
  have hk : KindAt w' (w.heap.size + 1) 80 := by rw [hw', ← hsz]; exact KindAt.new _ _ _
  have hth : Thaw w' (w.heap.size + 1) := by rw [hw', ← hsz]; exact Thaw.new _ _ _
  have hs' : w'.heap.size = w.heap.size + 2 := by rw [hw']; simp
  refine ⟨⟨w.heap.size + 1, mb, w.heap.size, size, [], [], .slice none 0 0, .slice none 0 0, [], 0⟩, w.heap.size + 1, he, rfl, rfl, rfl, rfl, rfl, ⟨low, fun k hk => by have := lt k hk; omega, hk, (fun h => by have h' : w.heap.size + 1 < w.heap.size := lt _ h; omega), hth, by rw [hc]; rfl, by rw [hc]; rfl, by rw [hc]; rfl, by rw [hc]; rfl, by rw [hc]; rfl, by simpa [usedN] using h2, RowAt.nil _ _ _, fun k hk => by simp [Value.ownBlock] at hk, by simp, ?_, (fun h => by have h' : w.heap.size < w.heap.size := lt _ h; omega),
    M.below hbw, ⟨np, fun k hk => by simp [Value.ownBlock] at hk⟩, by simp, .nil, .nil, by simp, by simp, by simp, by simp, by simp⟩, hbw⟩
  rw [hw', Below.heap_alloc _ _ _ (by simp)]
  exact heap_alloc_new w _
/-- both are made. -/
theorem play_new {w1 w3 w4 w5 : World} {R : RingS} {rg mb nb size : Nat} (hnb : nb = w1.heap.size + 1) (hb4 : Below w3.heap.size w3 w4) (hR : RingAt w1.heap.size (fun k => k < w1.heap.size ∨ k = nb) w4 R) (hrg : R.rg = rg) (hmb : R.mb = mb) (hsz : R.size = size) (hrows : R.rows = []) (hrs : R.rs = [])
    (kn : KindAt w3 nb 99) (tn : Thaw w3 nb) (n0 : w3.cell? ⟨nb, 0, none⟩ = some (.slice none 0 0)) (hw5 : w5 = w4.alloc (.cells #[.int .i64 size, .pointer (some ⟨nb, 0, none⟩), .slice none 0 0] 102)) :
    ∃ (Pr : Nat → Prop) (Q : RefS), Play w1.heap.size Pr w5 R Q rg mb w4.heap.size nb size 0 := by
  have n04 : w4.cell? ⟨nb, 0, none⟩ = some (.slice none 0 0) := (hb4.cell kn.lt).trans n0
  have kn4 : KindAt w4 nb 99 := kn.keep (S := fun _ => False) (Only.of_below hb4) (fun h => h)
  have tn4 : Thaw w4 nb := tn.only (S := fun _ => False) (Only.of_below hb4) kn.lt (fun h => h)
  have hQ := ref_new (B := w1.heap.size) (Lib.hid hw5) kn4 tn4 n04 (by omega)
  have hb5 : Below w4.heap.size w4 w5 := hw5 ▸ Below.one _
  have hlt := kn4.lt
  refine ⟨fun k => (k < w1.heap.size ∨ k = nb) ∨ (⟨w4.heap.size, nb, size, [], [], .slice none 0 0, .slice none 0 0⟩ : RefS).own k, _, hR.law (S := fun _ => False) (Only.of_below hb5) (fun _ h => h.elim) (fun k hk => .inl (.inl hk)) (fun k hk => ?_), hQ, fun k hk => .inr hk, by rw [hrows]; rfl, by rw [hrs]; rfl, hrg, hmb, hsz, rfl, rfl, rfl, by rw [hrs]; exact Nat.le_refl _⟩
  rcases hk with hk | hk
  · exact ⟨Nat.lt_of_lt_of_le (hR.prlt k hk) hb5.size, .inl hk⟩
  · refine ⟨hQ.lt hk, ?_⟩
    rcases hk with rfl | rfl | hk | hk | ⟨p, hp, _⟩ | ⟨r, hr, _⟩
    · exact .inr (Nat.le_refl _)
    · exact .inl (.inr rfl)
    · simp [Value.ownBlock] at hk
    · simp [Value.ownBlock] at hk
    · simp at hp
    · simp at hr
theorem Play.grow {B : Nat} {Pr : Nat → Prop} {w w1 : World} {R : RingS} {Q : RefS} {rg mb qb nb size k : Nat} (h : Play B Pr w R Q rg mb qb nb size k) (hb : Below w.heap.size w w1) {b : Nat} (h1 : w.heap.size ≤ b) (h2 : b < w1.heap.size) : Play B (fun j => Pr j ∨ j = b) w1 R Q rg mb qb nb size k :=
  ⟨h.ring.law (S := fun _ => False) (Only.of_below hb) (fun _ h => h.elim) (fun j hj => .inl (h.ring.low j hj)) fun j hj => by
    rcases hj with hj | hj
    · exact ⟨Nat.lt_of_lt_of_le (h.ring.prlt j hj) hb.size, .inl hj⟩
    · exact hj ▸ ⟨h2, .inr h1⟩, h.ref.below hb, fun j hj => .inl (h.own j hj), h.rows, h.regs, h.rg_, h.mb_, h.sz, h.qb_, h.nb_, h.qsz, h.rs⟩
set_option maxRecDepth 100000 in
set_option maxHeartbeats 16000000 in
theorem plays (w : World) {a0 : Option Addr} {n c0 z : Nat} {ss : List Stp} (hs : Hid (StepsAt w a0 n ss)) (hz : Hid (8 ≤ z ∧ z ≤ 4096 ∧ z % 8 = 0)) (hn62 : Hid (n < 2 ^ 63)) (hwf : Hid (∀ (j : Nat) s, ss[j]? = some s → -(2 ^ 63) ≤ s.n ∧ s.n < 2 ^ 63)) :
    Calls Try.prog 6 #[.int .i64 z, .slice a0 n c0] w fun e w' => e = .returned (.bool true) ∧ Below w.heap.size w w' := by
  go_enter Try.func6, Try.ntmps6
  go_wp2_with fail
  refine (f12_ok w).mono ?_; rintro e w1 ⟨rfl, hb1⟩
  have hb1_ := hb1
  clear hb1
  have hb1 := Lib.hid hb1_
  clear hb1_
  have hs1 : Hid (StepsAt w1 a0 n ss) := Lib.hid ⟨hs.out.len, hs.out.at'.imp id fun ⟨g, o, h1, h2⟩ => ⟨g, o, h1, fun j s h => by
    obtain ⟨x0, x1, x2⟩ := h2 j s h
    exact ⟨(hb1.out.cell (World.block_lt_of_cell? _ _ x0)).trans x0, (hb1.out.cell (World.block_lt_of_cell? _ _ x1)).trans x1, (hb1.out.cell (World.block_lt_of_cell? _ _ x2)).trans x2⟩⟩, fun j s h => ⟨(hs.out.sl j s h).1, (hs.out.sl j s h).2.arg hb1.out hb1.out.size fun _ h => h⟩⟩
  go_wp2_with fail
  refine (f24_ok w1 hs1 hn62).mono ?_; rintro e w1' ⟨v, rfl, rfl, hfew⟩
  rcases hfew with rfl | ⟨rfl, h60, h45⟩
  · go_wp2_with fail
    go_ret
    exact ⟨rfl, hb1.out⟩
  have h60_ := h60
  clear h60
  have h60 := Lib.hid h60_
  clear h60_
  have h45_ := h45
  clear h45
  have h45 := Lib.hid h45_
  clear h45_
  go_wp2_with fail
  refine (f14_ok w1).mono ?_; rintro e w2 ⟨rfl, hw2⟩
  have hw2_ := hw2
  clear hw2
  have hw2 := Lib.hid hw2_
  clear hw2_
  go_wp2_with fail
  refine (f25_ok w2).mono ?_; rintro e w3 ⟨rfl, hw3⟩
  have hsz2 : w2.heap.size = w1.heap.size + 1 := by rw [hw2.out]; simp
  obtain ⟨mb, hmb⟩ : ∃ mb, w1.heap.size = mb := ⟨_, rfl⟩
  obtain ⟨nb, hnb⟩ : ∃ nb, w2.heap.size = nb := ⟨_, rfl⟩
  have hM3 : MemRow w1.heap.size w3 mb (.slice none 0 0) [] := by
    have h1 := MemRow.new w1
    rw [← hw2.out, hmb] at h1
    rw [← hmb] at h1 ⊢
    rw [hw3]; exact h1.below (Below.one _)
  have kn3 : KindAt w3 nb 99 := by rw [hw3, ← hnb]; exact KindAt.new _ _ _
  have tn3 : Thaw w3 nb := by rw [hw3, ← hnb]; exact Thaw.new _ _ _
  have n03 : w3.cell? ⟨nb, 0, none⟩ = some (.slice none 0 0) := by rw [hw3, ← hnb, World.cell?_alloc_at _ _ _ _ rfl]; rfl
  have hb3 : Below w1.heap.size w1 w3 := by
    have h1 : Below w1.heap.size w1 w2 := hw2.out ▸ Below.one _
    rw [hw3]; exact h1.alloc h1.size _
  have hsz3 : w3.heap.size = nb + 1 := by rw [hw3, ← hnb]; simp
  have hnb1 : nb = w1.heap.size + 1 := by rw [← hnb, hsz2]
  rw [hnb]
  rw [hmb]
  have hmb_ := hmb
  clear hmb
  have hmb := Lib.hid hmb_
  clear hmb_
  have hsz3_ := hsz3
  clear hsz3
  have hsz3 := Lib.hid hsz3_
  clear hsz3_
  have hnb1_ := hnb1
  clear hnb1
  have hnb1 := Lib.hid hnb1_
  clear hnb1_
  have hM3_ := hM3
  clear hM3
  have hM3 := Lib.hid hM3_
  clear hM3_
  have kn3_ := kn3
  clear kn3
  have kn3 := Lib.hid kn3_
  clear kn3_
  have tn3_ := tn3
  clear tn3
  have tn3 := Lib.hid tn3_
  clear tn3_
  have n03_ := n03
  clear n03
  have n03 := Lib.hid n03_
  clear n03_
  have hb3_ := hb3
  clear hb3
  have hb3 := Lib.hid hb3_
  clear hb3_
  clear hsz2 hw3 hnb
  go_wp2_with fail
  refine (new_ok2 w3 (size := z) hz.out.1 hz.out.2.1 hz.out.2.2 hM3.out (Pr := fun k => k < w1.heap.size ∨ k = nb) (fun k hk => .inl hk) (fun k hk => by have := hsz3.out; have := hnb1.out; omega) (fun h => by have := hmb.out; have := hnb1.out; omega)).mono ?_; rintro e w4 ⟨R, rg, rfl, hrg, hmb4, hsz4, hrows, hrs, hR, hb4⟩
  have hrg_ := hrg
  clear hrg
  have hrg := Lib.hid hrg_
  clear hrg_
  have hmb4_ := hmb4
  clear hmb4
  have hmb4 := Lib.hid hmb4_
  clear hmb4_
  have hsz4_ := hsz4
  clear hsz4
  have hsz4 := Lib.hid hsz4_
  clear hsz4_
  have hrows_ := hrows
  clear hrows
  have hrows := Lib.hid hrows_
  clear hrows_
  have hrs_ := hrs
  clear hrs
  have hrs := Lib.hid hrs_
  clear hrs_
  have hR_ := hR
  clear hR
  have hR := Lib.hid hR_
  clear hR_
  have hb4_ := hb4
  clear hb4
  have hb4 := Lib.hid hb4_
  clear hb4_
  go_wp2_with fail
  refine (f26_ok w4 (size := z) hz.out.1 hz.out.2.1 hz.out.2.2).mono ?_; rintro e w5 ⟨rfl, hw5⟩
  obtain ⟨qb, hqb⟩ : ∃ qb, w4.heap.size = qb := ⟨_, rfl⟩
  have hP := play_new hnb1.out hb4.out hR.out hrg.out hsz4.out hmb4.out hrows.out hrs.out kn3.out tn3.out n03.out hw5
  have hB5 : Below w.heap.size w w5 := by
    have b1 := hb1.out
    have b3 : Below w.heap.size w w3 := b1.trans (hb3.out.mono b1.size)
    have b4 : Below w.heap.size w w4 := b3.trans (hb4.out.mono b3.size)
    rw [hw5]; exact b4.alloc b4.size _
  rw [hqb] at hP ⊢
  have hP_ := hP
  clear hP
  have hP := Lib.hid hP_
  clear hP_
  have hB5_ := hB5
  clear hB5
  have hB5 := Lib.hid hB5_
  clear hB5_
  have hb1s : Hid (w.heap.size ≤ w1.heap.size) := Lib.hid hb1.out.size
  clear hw5 hqb hrg hmb4 hsz4 hrows hrs hR hb4 hM3 kn3 tn3 n03 hb3 hw2 hsz3 hnb1
  go_wp2_with fail
  go_loopg [11, 12, 13, 14, 15, 16, 17, 18, 19, 20, 21] n (fun g i x12 x13 x14 x15 x16 x17 x18 x19 x20 x21 wr => ∃ (k : Nat) (Pr : Nat → Prop) (R : RingS) (Q : RefS), Hid (g = n - k) ∧ k ≤ n ∧ i = .int .i64 k ∧ Hid (Play w1.heap.size Pr wr R Q rg mb qb nb z k) ∧ Hid (Below w.heap.size w wr))
  case atStart =>
    obtain ⟨Pr, Q, hP⟩ := hP.out
    exact ⟨0, Pr, R, Q, Lib.hid rfl, Nat.zero_le _, rfl, Lib.hid hP, hB5⟩
  case round =>
    obtain ⟨k, Pr, R2, Q2, hg, hk, rfl, hP2, hB2⟩ := hrel
    clear hP hB5
    by_cases hlt : k < n
    · have hlt' : (k : Int) < (n : Int) := by omega
      obtain ⟨st, hst⟩ : ∃ st, ss[k]? = some st := ⟨_, List.getElem?_eq_getElem (by rw [hs.out.len]; exact hlt)⟩
      obtain ⟨ga, oa, rfl, hcell⟩ : ∃ g o, a0 = some ⟨g, o, none⟩ ∧ ∀ (j : Nat) s, ss[j]? = some s → w.cell? ⟨g, o + j * 3, none⟩ = some (.int .i64 s.what) ∧ w.cell? ⟨g, o + j * 3 + 1, none⟩ = some (.int .i64 s.n) ∧ w.cell? ⟨g, o + j * 3 + 2, none⟩ = some (.slice s.a s.m s.q) := by
        rcases hs.out.at' with h | h
        · omega
        · exact h
      obtain ⟨x0_, x1_, x2_⟩ := hcell k st hst
      have x0 := (hB2.out.cell (World.block_lt_of_cell? _ _ x0_)).trans x0_
      have x1 := (hB2.out.cell (World.block_lt_of_cell? _ _ x1_)).trans x1_
      have x2 := (hB2.out.cell (World.block_lt_of_cell? _ _ x2_)).trans x2_
      have hsl := Lib.hid (hs.out.sl k st hst)
      have h45k := Lib.hid (h45.out k st hst)
      have hwfk := Lib.hid (hwf.out k st hst)
      clear x0_ x1_ x2_ hcell
      obtain ⟨what, hwhat⟩ : ∃ z, st.what = z := ⟨_, rfl⟩
      obtain ⟨N, hN⟩ : ∃ z, st.n = z := ⟨_, rfl⟩
      obtain ⟨sa, hsa⟩ : ∃ z, st.a = z := ⟨_, rfl⟩
      obtain ⟨m, hm⟩ : ∃ z, st.m = z := ⟨_, rfl⟩
      obtain ⟨q, hq⟩ : ∃ z, st.q = z := ⟨_, rfl⟩
      obtain ⟨l, hl⟩ : ∃ z, st.l = z := ⟨_, rfl⟩
      rw [hwhat] at x0
      rw [hN] at x1 hwfk
      rw [hsa, hm, hq] at x2
      rw [hsa, hm, hq, hl] at hsl
      rw [hm] at h45k
      clear hwhat hN hsa hm hq hl hst
      go_upto_block 2 with fail
      have hgl := World.block_lt_of_cell? _ _ x0
      have hPA := hP2.out.grow (Below.one (w := wr) (.cells #[.int .i64 what, .int .i64 N, .slice sa m q] 52)) (b := wr.heap.size) (Nat.le_refl _) (by simp)
      have hBA : Below w.heap.size w (wr.alloc (.cells #[.int .i64 what, .int .i64 N, .slice sa m q] 52)) := hB2.out.alloc hB2.out.size _
      have y1 : (wr.alloc (.cells #[.int .i64 what, .int .i64 N, .slice sa m q] 52)).cell? ⟨wr.heap.size, 1, none⟩ = some (.int .i64 N) := by rw [World.cell?_alloc_at _ _ _ _ rfl]; rfl
      have y2 : (wr.alloc (.cells #[.int .i64 what, .int .i64 N, .slice sa m q] 52)).cell? ⟨wr.heap.size, 2, none⟩ = some (.slice sa m q) := by rw [World.cell?_alloc_at _ _ _ _ rfl]; rfl
      have hslA := hsl.out.2.arg hBA hb1s.out hPA.ring.low
      obtain ⟨sb, hsb⟩ : ∃ sb, wr.heap.size = sb := ⟨_, rfl⟩
      have hsbo : ¬ Q2.own sb := fun h => by have := hP2.out.ref.lt h; omega
      rw [hsb] at hPA y1 y2 hslA ⊢
      clear x0 x1 x2 hgl hsb
      obtain ⟨wA, hwA⟩ : ∃ wA, wr.alloc (.cells #[.int .i64 what, .int .i64 N, .slice sa m q] 52) = wA := ⟨_, rfl⟩
      rw [hwA] at hPA hBA y1 y2 hslA ⊢
      clear hwA
      have hBA := Lib.hid hBA
      have hsbo := Lib.hid hsbo
      have hPA := Lib.hid hPA
      have hslA := Lib.hid hslA
      have hlm : Hid (l.length = m) := Lib.hid hsl.out.1
      go_cut [13, 14, 15, 16, 17, 18, 19, 20, 21] (fun ok x14 x15 x16 x17 x18 x19 x20 x21 wc => ok = .bool true ∧ ∃ (Pr : Nat → Prop) (R : RingS) (Q : RefS), Hid (Play w1.heap.size Pr wc R Q rg mb qb nb z (k + 1)) ∧ Hid (Below w.heap.size w wc))
      case first =>
        have hPl := Lib.hid hPA.out.recs_le
        have hk60 : Hid (k < 60) := Lib.hid (by have := h60.out; omega)
        have hlow : Hid (∀ j, j < w.heap.size → Pr j ∨ j = sb) := Lib.hid fun j hj => hPA.out.ring.low j (Nat.lt_of_lt_of_le hj hb1s.out)
        have hqlow : Hid (∀ j, j < w.heap.size → ¬ Q2.own j) := Lib.hid fun j hj h => by have := hPA.out.ref.ge j h; have := hb1s.out; omega
        have hRl : Hid (R2.rs.length ≤ k ∧ R2.rs.length = Q2.parts.length) := Lib.hid ⟨hPA.out.rs, hPA.out.len.2⟩
        have hsbq : Hid (¬ Q2.own sb) := Lib.hid fun h => hsbo.out h
        by_cases h0 : what = 0
        · subst h0
          as_aux_lemma =>
            by_cases hb : N < 1 ∨ 4096 < N
            · have hb := Lib.hid hb
              go_wp2_with fail
              refine (f19_bad wA hb).mono ?_; rintro e w6 ⟨rfl, rfl⟩
              go_wp2_with fail
              refine (f27_bad wA hb).mono ?_; rintro e w6 ⟨rfl, rfl⟩
              go_wp2_with fail
              go_meet
              exact ⟨rfl, _, R2, Q2, Lib.hid (hPA.out.up (Nat.le_succ _)), hBA⟩
            · obtain ⟨nn, rfl⟩ : ∃ nn : Nat, N = nn := ⟨N.toNat, by omega⟩
              have hnn : Hid (1 ≤ nn ∧ nn ≤ 4096) := Lib.hid (by omega)
              clear hb
              by_cases hfull : z < usedQ Q2.recs + takesN nn
              · have hfull := Lib.hid hfull
                go_wp2_with fail
                refine (reserve_full wA (Lib.hid hPA.out.ring) (Lib.hid hPA.out.rg_) hnn (Lib.hid (by rw [hPA.out.sz, hPl.out.2.2.1]; exact hfull.out))).mono ?_; rintro e w6 ⟨rfl, hO6, hR6⟩
                have y16 : w6.cell? ⟨sb, 1, none⟩ = some (.int .i64 (nn : Int)) := (hO6.cell (p := ⟨sb, 1, none⟩) (World.block_lt_of_cell? _ _ y1) (fun h => h (.inr rfl))).trans y1
                have hq6 := Lib.hid (hPA.out.refAt hO6)
                have hB6 : Hid (Below w.heap.size w w6) := Lib.hid (hBA.out.trans (hO6.belowN hBA.out.size fun j hj h => h (hlow.out j hj)))
                have hO6 := Lib.hid hO6
                have hR6 := Lib.hid hR6
                go_wp2_with fail
                refine (Calls.at (f27_full w6 hq6 (Lib.hid (by have := hPl.out; omega)) (Lib.hid (by have := hPl.out; omega)) hnn (Lib.hid (by rw [hPA.out.qsz]; exact hfull.out))) (a' := #[.pointer (some ⟨qb, 0, none⟩), .int .i64 (nn : Int)]) (by rw [hPA.out.qb_])).mono ?_; rintro e w7 ⟨rfl, hb7⟩
                have hP7 : Hid (Play w1.heap.size (fun j => Pr j ∨ j = sb) w7 R2 Q2 rg mb qb nb z (k + 1)) := Lib.hid ⟨hR6.out.below hb7, hq6.out.below hb7, hPA.out.own, hPA.out.rows, hPA.out.regs, hPA.out.rg_, hPA.out.mb_, hPA.out.sz, hPA.out.qb_, hPA.out.nb_, hPA.out.qsz, Nat.le_trans hPA.out.rs (Nat.le_succ _)⟩
                have hB7 : Hid (Below w.heap.size w w7) := Lib.hid (hB6.out.trans (hb7.mono hB6.out.size))
                clear hb7
                go_wp2_with fail
                go_meet
                exact ⟨rfl, _, R2, Q2, Lib.hid hP7.out, hB7⟩
              · have hfull : Hid (usedQ Q2.recs + takesN nn ≤ z) := Lib.hid (by omega)
                go_wp2_with fail
                refine (reserve_ok wA (Lib.hid hPA.out.ring) (Lib.hid hPA.out.rg_) hnn (Lib.hid (by rw [hPA.out.sz, hPl.out.2.2.1]; exact hfull.out)) (Lib.hid (by have := hRl.out; have := hk60.out; omega))).mono ?_; rintro e w6 ⟨d, rfl, hd, hO6, R6, xb, rb, bb, hR6, hS6, hrows6, hrs6⟩
                have y16 : w6.cell? ⟨sb, 1, none⟩ = some (.int .i64 (nn : Int)) := (hO6.cell (p := ⟨sb, 1, none⟩) (World.block_lt_of_cell? _ _ y1) (fun h => h (.inr rfl))).trans y1
                have hq6 := Lib.hid (hPA.out.refAt hO6)
                have hB6 : Hid (Below w.heap.size w w6) := Lib.hid (hBA.out.trans (hO6.belowN hBA.out.size fun j hj h => h (hlow.out j hj)))
                have hd_ := hd
                clear hd
                have hd := Lib.hid hd_
                clear hd_
                have hO6_ := hO6
                clear hO6
                have hO6 := Lib.hid hO6_
                clear hO6_
                have hR6_ := hR6
                clear hR6
                have hR6 := Lib.hid hR6_
                clear hR6_
                have hS6_ := hS6
                clear hS6
                have hS6 := Lib.hid hS6_
                clear hS6_
                have hrows6_ := hrows6
                clear hrows6
                have hrows6 := Lib.hid hrows6_
                clear hrows6_
                have hrs6_ := hrs6
                clear hrs6
                have hrs6 := Lib.hid hrs6_
                clear hrs6_
                go_wp2_with fail
                refine (Calls.at (f27_ok w6 hq6 (Lib.hid (by have := hPl.out; omega)) (Lib.hid (by have := hPl.out; omega)) hnn (Lib.hid (by rw [hPA.out.qsz]; exact hfull.out)) (Lib.hid (by have := hRl.out; have := hk60.out; omega))) (a' := #[.pointer (some ⟨qb, 0, none⟩), .int .i64 (nn : Int)]) (by rw [hPA.out.qb_])).mono ?_; rintro e w7 ⟨d2, rfl, hd2, hO7, Q7, hQ7, hown7, hq7, hn7, hz7, hrecs7, p7, hparts7, hpn7, hpl7, hpf7⟩
                obtain rfl : d2 = d := by have := hd.out; have := hRl.out; omega
                have hP7 := Lib.hid (play_more hPA.out hO7 hR6.out (fun _ h => h) hS6.out hQ7 hown7 hq7 hn7 hz7 hrows6.out hrecs7 hrs6.out hparts7 rfl (by unfold rk pk; rw [hpn7, hpl7, hpf7]; rfl))
                have hB7 : Hid (Below w.heap.size w w7) := Lib.hid (hB6.out.trans (hO7.belowN hB6.out.size hqlow.out))
                clear hO7 hQ7 hown7 hq7 hn7 hz7 hrecs7 hparts7 hpn7 hpl7 hpf7 hd2
                go_wp2_with fail
                go_meet
                exact ⟨rfl, _, R6, Q7, Lib.hid hP7.out, hB7⟩
        by_cases h1 : what = 1
        · subst h1
          as_aux_lemma =>
            by_cases hb : N < 1 ∨ 4096 < N
            · have hb := Lib.hid hb
              go_wp2_with fail
              refine (f19_bad wA hb).mono ?_; rintro e w6 ⟨rfl, rfl⟩
              go_wp2_with fail
              refine (f27_bad wA hb).mono ?_; rintro e w6 ⟨rfl, rfl⟩
              go_wp2_with fail
              go_meet
              exact ⟨rfl, _, R2, Q2, Lib.hid (hPA.out.up (Nat.le_succ _)), hBA⟩
            · obtain ⟨nn, rfl⟩ : ∃ nn : Nat, N = nn := ⟨N.toNat, by omega⟩
              have hnn : Hid (1 ≤ nn ∧ nn ≤ 4096) := Lib.hid (by omega)
              clear hb
              by_cases hfull : z < usedQ Q2.recs + takesN nn
              · have hfull := Lib.hid hfull
                go_wp2_with fail
                refine (reserve_full wA (Lib.hid hPA.out.ring) (Lib.hid hPA.out.rg_) hnn (Lib.hid (by rw [hPA.out.sz, hPl.out.2.2.1]; exact hfull.out))).mono ?_; rintro e w6 ⟨rfl, hO6, hR6⟩
                have y16 : w6.cell? ⟨sb, 1, none⟩ = some (.int .i64 (nn : Int)) := (hO6.cell (p := ⟨sb, 1, none⟩) (World.block_lt_of_cell? _ _ y1) (fun h => h (.inr rfl))).trans y1
                have hq6 := Lib.hid (hPA.out.refAt hO6)
                have hB6 : Hid (Below w.heap.size w w6) := Lib.hid (hBA.out.trans (hO6.belowN hBA.out.size fun j hj h => h (hlow.out j hj)))
                have hO6 := Lib.hid hO6
                have hR6 := Lib.hid hR6
                go_wp2_with fail
                refine (Calls.at (f27_full w6 hq6 (Lib.hid (by have := hPl.out; omega)) (Lib.hid (by have := hPl.out; omega)) hnn (Lib.hid (by rw [hPA.out.qsz]; exact hfull.out))) (a' := #[.pointer (some ⟨qb, 0, none⟩), .int .i64 (nn : Int)]) (by rw [hPA.out.qb_])).mono ?_; rintro e w7 ⟨rfl, hb7⟩
                have hP7 : Hid (Play w1.heap.size (fun j => Pr j ∨ j = sb) w7 R2 Q2 rg mb qb nb z (k + 1)) := Lib.hid ⟨hR6.out.below hb7, hq6.out.below hb7, hPA.out.own, hPA.out.rows, hPA.out.regs, hPA.out.rg_, hPA.out.mb_, hPA.out.sz, hPA.out.qb_, hPA.out.nb_, hPA.out.qsz, Nat.le_trans hPA.out.rs (Nat.le_succ _)⟩
                have hB7 : Hid (Below w.heap.size w w7) := Lib.hid (hB6.out.trans (hb7.mono hB6.out.size))
                clear hb7
                go_wp2_with fail
                go_meet
                exact ⟨rfl, _, R2, Q2, Lib.hid hP7.out, hB7⟩
              · have hfull : Hid (usedQ Q2.recs + takesN nn ≤ z) := Lib.hid (by omega)
                go_wp2_with fail
                refine (reserve_ok wA (Lib.hid hPA.out.ring) (Lib.hid hPA.out.rg_) hnn (Lib.hid (by rw [hPA.out.sz, hPl.out.2.2.1]; exact hfull.out)) (Lib.hid (by have := hRl.out; have := hk60.out; omega))).mono ?_; rintro e w6 ⟨d, rfl, hd, hO6, R6, xb, rb, bb, hR6, hS6, hrows6, hrs6⟩
                have y16 : w6.cell? ⟨sb, 1, none⟩ = some (.int .i64 (nn : Int)) := (hO6.cell (p := ⟨sb, 1, none⟩) (World.block_lt_of_cell? _ _ y1) (fun h => h (.inr rfl))).trans y1
                have hq6 := Lib.hid (hPA.out.refAt hO6)
                have hB6 : Hid (Below w.heap.size w w6) := Lib.hid (hBA.out.trans (hO6.belowN hBA.out.size fun j hj h => h (hlow.out j hj)))
                have hd_ := hd
                clear hd
                have hd := Lib.hid hd_
                clear hd_
                have hO6_ := hO6
                clear hO6
                have hO6 := Lib.hid hO6_
                clear hO6_
                have hR6_ := hR6
                clear hR6
                have hR6 := Lib.hid hR6_
                clear hR6_
                have hS6_ := hS6
                clear hS6
                have hS6 := Lib.hid hS6_
                clear hS6_
                have hrows6_ := hrows6
                clear hrows6
                have hrows6 := Lib.hid hrows6_
                clear hrows6_
                have hrs6_ := hrs6
                clear hrs6
                have hrs6 := Lib.hid hrs6_
                clear hrs6_
                go_wp2_with fail
                refine (Calls.at (f27_ok w6 hq6 (Lib.hid (by have := hPl.out; omega)) (Lib.hid (by have := hPl.out; omega)) hnn (Lib.hid (by rw [hPA.out.qsz]; exact hfull.out)) (Lib.hid (by have := hRl.out; have := hk60.out; omega))) (a' := #[.pointer (some ⟨qb, 0, none⟩), .int .i64 (nn : Int)]) (by rw [hPA.out.qb_])).mono ?_; rintro e w7 ⟨d2, rfl, hd2, hO7, Q7, hQ7, hown7, hq7, hn7, hz7, hrecs7, p7, hparts7, hpn7, hpl7, hpf7⟩
                obtain rfl : d2 = d := by have := hd.out; have := hRl.out; omega
                have hP7 := Lib.hid (play_more hPA.out hO7 hR6.out (fun _ h => h) hS6.out hQ7 hown7 hq7 hn7 hz7 hrows6.out hrecs7 hrs6.out hparts7 rfl (by unfold rk pk; rw [hpn7, hpl7, hpf7]; rfl))
                have hB7 : Hid (Below w.heap.size w w7) := Lib.hid (hB6.out.trans (hO7.belowN hB6.out.size hqlow.out))
                clear hO7 hQ7 hown7 hq7 hn7 hz7 hrecs7 hparts7 hpn7 hpl7 hpf7 hd2
                go_wp2_with fail
                go_meet
                exact ⟨rfl, _, R6, Q7, Lib.hid hP7.out, hB7⟩
        by_cases h2 : what = 2
        · subst h2
          as_aux_lemma =>
            rcases hPA.out.find N with ⟨j, r, q, hj, hq, hk, hi, hst0, hno⟩ | ⟨hn1, hn2⟩
            · have hm := List.mem_of_getElem? hj
              obtain ⟨hl1, hl2, hl3⟩ := hPA.out.ring.link r hm
              obtain ⟨x, hx, hxd, hxn⟩ := hl3 hst0
              obtain ⟨p, hp, hxp⟩ := parts_at hPA.out.regs hx
              have i1 : r.id = q.id := congrArg (fun t : Nat × Nat × Nat × List Nat => t.1) hk
              have i2 : r.n = q.n := congrArg (fun t : Nat × Nat × Nat × List Nat => t.2.1) hk
              have i3 : r.st = q.st := congrArg (fun t : Nat × Nat × Nat × List Nat => t.2.2.1) hk
              have x1 : x.n = p.n := congrArg (fun t : Nat × Bool × List Nat => t.1) hxp
              have x2 : x.d = !p.live := congrArg (fun t : Nat × Bool × List Nat => t.2.1) hxp
              have hlive : p.live = true := by
                rw [hxd] at x2
                cases hpp : p.live with
                | true => rfl
                | false => rw [hpp] at x2; exact absurd x2 (by decide)
              have hm_ := hm
              clear hm
              have hm := Lib.hid hm_
              clear hm_
              have hl1_ := hl1
              clear hl1
              have hl1 := Lib.hid hl1_
              clear hl1_
              have hx_ := hx
              clear hx
              have hx := Lib.hid hx_
              clear hx_
              have hxd_ := hxd
              clear hxd
              have hxd := Lib.hid hxd_
              clear hxd_
              have hxn_ := hxn
              clear hxn
              have hxn := Lib.hid hxn_
              clear hxn_
              have hp_ := hp
              clear hp
              have hp := Lib.hid hp_
              clear hp_
              have hxp_ := hxp
              clear hxp
              have hxp := Lib.hid hxp_
              clear hxp_
              have i1_ := i1
              clear i1
              have i1 := Lib.hid i1_
              clear i1_
              have i2_ := i2
              clear i2
              have i2 := Lib.hid i2_
              clear i2_
              have i3_ := i3
              clear i3
              have i3 := Lib.hid i3_
              clear i3_
              have x1_ := x1
              clear x1
              have x1 := Lib.hid x1_
              clear x1_
              have hlive_ := hlive
              clear hlive
              have hlive := Lib.hid hlive_
              clear hlive_
              have hj_ := hj
              clear hj
              have hj := Lib.hid hj_
              clear hj_
              have hq_ := hq
              clear hq
              have hq := Lib.hid hq_
              clear hq_
              have hk_ := hk
              clear hk
              have hk := Lib.hid hk_
              clear hk_
              have hi_ := hi
              clear hi
              have hi := Lib.hid hi_
              clear hi_
              have hst0_ := hst0
              clear hst0
              have hst0 := Lib.hid hst0_
              clear hst0_
              have hno_ := hno
              clear hno
              have hno := Lib.hid hno_
              clear hno_
              clear hl2 hl3 x2
              go_wp2_with fail
              refine Reg.start (S := (fun w' => w'.cell? ⟨sb, 1, none⟩ = some (.int .i64 N))) (B := (fun _ => false)) (by kernel_rfl) ?_
              have hbd : Below wA.heap.size wA wA.drew := (Below.refl _ _).drew
              have hPD := Lib.hid (hPA.out.call hbd)
              have hBD : Hid (Below w.heap.size w wA.drew) := Lib.hid hBA.out.drew
              have yD : wA.drew.cell? ⟨sb, 1, none⟩ = some (.int .i64 N) := y1
              clear hbd
              revert hPD hBD yD
              generalize wA.drew = wD
              intro hPD hBD yD
              refine Reg.take0 (i := 0) (v := ?_) rfl (by kernel_rfl) (by kernel_rfl) (by kernel_rfl) (by kernel_rfl) (fun _ _ _ h => h) (Or.inl ⟨by rfl, ?_⟩) ?_
              rotate_left
              · (intro w _; go_simp; try with_reducible rfl)
              try simp only [Act.put, List.getElem_toArray, List.getElem_cons_succ, List.getElem_cons_zero, List.setIfInBounds_toArray, List.set_cons_zero, List.set_cons_succ]
              refine Reg.take0 (i := 1) (v := ?_) rfl (by kernel_rfl) (by kernel_rfl) (by kernel_rfl) (by kernel_rfl) (fun _ _ _ h => h) (Or.inl ⟨by rfl, ?_⟩) ?_
              rotate_left
              · (intro w _; go_simp; try with_reducible rfl)
              try simp only [Act.put, List.getElem_toArray, List.getElem_cons_succ, List.getElem_cons_zero, List.setIfInBounds_toArray, List.set_cons_zero, List.set_cons_succ]
              refine Reg.take1 (i := 2) (v := ?_) rfl (by kernel_rfl) (by kernel_rfl) (by kernel_rfl) (by kernel_rfl) (by kernel_rfl) (fun _ _ _ h => h) (Or.inl ⟨by rfl, ?_⟩) yD ?_
              rotate_left
              · (intro w hS; have hs1 := hS; go_simp; try with_reducible rfl)
              try simp only [Act.put, List.getElem_toArray, List.getElem_cons_succ, List.getElem_cons_zero, List.setIfInBounds_toArray, List.set_cons_zero, List.set_cons_succ]
              refine Reg.take0 (i := 4) (v := ?_) rfl (by kernel_rfl) (by kernel_rfl) (by kernel_rfl) (by kernel_rfl) (fun _ _ _ h => h) (Or.inl ⟨by rfl, ?_⟩) ?_
              rotate_left
              · (intro w _; go_simp; try with_reducible rfl)
              try simp only [Act.put, List.getElem_toArray, List.getElem_cons_succ, List.getElem_cons_zero, List.setIfInBounds_toArray, List.set_cons_zero, List.set_cons_succ]
              refine Reg.take0 (i := 5) (v := ?_) rfl (by kernel_rfl) (by kernel_rfl) (by kernel_rfl) (by kernel_rfl) (fun _ _ _ h => h) (Or.inl ⟨by rfl, ?_⟩) ?_
              rotate_left
              · (intro w _; go_simp; try with_reducible rfl)
              try simp only [Act.put, List.getElem_toArray, List.getElem_cons_succ, List.getElem_cons_zero, List.setIfInBounds_toArray, List.set_cons_zero, List.set_cons_succ]
              refine Reg.take1 (i := 6) (v := ?_) rfl (by kernel_rfl) (by kernel_rfl) (by kernel_rfl) (by kernel_rfl) (by kernel_rfl) (fun _ _ _ h => h) (Or.inl ⟨by rfl, ?_⟩) yD ?_
              rotate_left
              · (intro w hS; have hs1 := hS; go_simp; try with_reducible rfl)
              try simp only [Act.put, List.getElem_toArray, List.getElem_cons_succ, List.getElem_cons_zero, List.setIfInBounds_toArray, List.set_cons_zero, List.set_cons_succ]
              refine Reg.only (i := 3) (by kernel_rfl) rfl (fun K hK => ?_)
              go_simp
              refine (submit_ok wD (Lib.hid hPD.out.ring) (Lib.hid hPD.out.rg_) hm hst0 hi).mono ?_; rintro e w6 ⟨rfl, hO6, R6, x6, bs6, hR6, hS6, hx6, hxd6, hxn6, hrows6, hrs6⟩
              simp only []
              refine hK _ _ (fun _ hS => (hO6.cell (p := ⟨sb, 1, none⟩) (World.block_lt_of_cell? _ _ hS) (fun h => h (.inr rfl))).trans hS) ?_
              clear hK K
              try simp only [Act.put, List.getElem_toArray, List.getElem_cons_succ, List.getElem_cons_zero, List.setIfInBounds_toArray, List.set_cons_zero, List.set_cons_succ]
              have hxx : x6 = x := by rw [hx.out] at hx6; exact (Option.some.inj hx6).symm
              subst hxx
              have hq6 := Lib.hid (hPD.out.refAt hO6)
              have hB6 : Hid (Below w.heap.size w w6) := Lib.hid (hBD.out.trans (hO6.belowN hBD.out.size fun j hj h => h (hlow.out j hj)))
              have hO6_ := hO6
              clear hO6
              have hO6 := Lib.hid hO6_
              clear hO6_
              have hR6_ := hR6
              clear hR6
              have hR6 := Lib.hid hR6_
              clear hR6_
              have hS6_ := hS6
              clear hS6
              have hS6 := Lib.hid hS6_
              clear hS6_
              have hrows6_ := hrows6
              clear hrows6
              have hrows6 := Lib.hid hrows6_
              clear hrows6_
              have hrs6_ := hrs6
              clear hrs6
              have hrs6 := Lib.hid hrs6_
              clear hrs6_
              clear hx6 hxd6 hxn6
              refine Reg.only (i := 7) (by kernel_rfl) rfl (fun K hK => ?_)
              go_simp
              refine (Calls.at (f28_hit w6 hq6 (Lib.hid (by have := hPl.out; omega)) (Lib.hid (by have := hRl.out; have := hk60.out; omega)) hq (Lib.hid (i3.out.symm.trans hst0.out)) (id := N) (Lib.hid ⟨by rw [← i1.out]; exact hi.out, by rw [← i1.out]; exact hl1.out⟩) hno (p := p) (Lib.hid (by rw [← i1.out]; exact hp.out)) hlive (Lib.hid (by rw [← x1.out, hxn.out, i2.out]))) (a' := #[.pointer (some ⟨qb, 0, none⟩), .int .i64 N]) (by rw [hPD.out.qb_])).mono ?_; rintro e w7 ⟨rfl, hO7, g7, c7, hg7, hQ7⟩
              simp only []
              refine hK _ _ (fun _ hS => (hO7.cell (p := ⟨sb, 1, none⟩) (World.block_lt_of_cell? _ _ hS) (fun h => hsbq.out h)).trans hS) ?_
              clear hK K
              try simp only [Act.put, List.getElem_toArray, List.getElem_cons_succ, List.getElem_cons_zero, List.setIfInBounds_toArray, List.set_cons_zero, List.set_cons_succ]
              obtain ⟨Pr7, Q7, hP7, hpr7⟩ := play_end hPD.out hO7 hR6.out hS6.out hj.out hq.out hk.out hst0.out (s := 1) (by decide) hx.out hp.out hxp.out hxn.out hrows6.out hrs6.out hg7 hQ7
              have hP7 := Lib.hid hP7
              have hB7 : Hid (Below w.heap.size w w7) := Lib.hid (hB6.out.trans (hO7.belowN hB6.out.size hqlow.out))
              clear hO7 hQ7 hg7 hpr7
              refine Reg.take0 (i := 8) (v := ?_) rfl (by kernel_rfl) (by kernel_rfl) (by kernel_rfl) (by kernel_rfl) (fun _ _ _ h => h) (Or.inl ⟨by rfl, ?_⟩) ?_
              rotate_left
              · (intro w _; go_simp; try with_reducible rfl)
              try simp only [Act.put, List.getElem_toArray, List.getElem_cons_succ, List.getElem_cons_zero, List.setIfInBounds_toArray, List.set_cons_zero, List.set_cons_succ]
              refine Reg.take0 (i := 9) (v := ?_) rfl (by kernel_rfl) (by kernel_rfl) (by kernel_rfl) (by kernel_rfl) (fun _ _ _ h => h) (Or.inl ⟨by rfl, ?_⟩) ?_
              rotate_left
              · (intro w _; go_simp; try with_reducible rfl)
              try simp only [Act.put, List.getElem_toArray, List.getElem_cons_succ, List.getElem_cons_zero, List.setIfInBounds_toArray, List.set_cons_zero, List.set_cons_succ]
              refine Reg.done (by kernel_rfl) ?_ _
              go_wp2_with fail
              go_meet
              exact ⟨rfl, _, R6, Q7, Lib.hid (hP7.out.up (Nat.le_succ _)), hB7⟩
            · have hn1 := Lib.hid hn1
              have hn2 := Lib.hid hn2
              go_wp2_with fail
              refine Reg.start (S := (fun w' => w'.cell? ⟨sb, 1, none⟩ = some (.int .i64 N))) (B := (fun _ => false)) (by kernel_rfl) ?_
              have hbd : Below wA.heap.size wA wA.drew := (Below.refl _ _).drew
              have hPD := Lib.hid (hPA.out.call hbd)
              have hBD : Hid (Below w.heap.size w wA.drew) := Lib.hid hBA.out.drew
              have yD : wA.drew.cell? ⟨sb, 1, none⟩ = some (.int .i64 N) := y1
              clear hbd
              revert hPD hBD yD
              generalize wA.drew = wD
              intro hPD hBD yD
              refine Reg.take0 (i := 0) (v := ?_) rfl (by kernel_rfl) (by kernel_rfl) (by kernel_rfl) (by kernel_rfl) (fun _ _ _ h => h) (Or.inl ⟨by rfl, ?_⟩) ?_
              rotate_left
              · (intro w _; go_simp; try with_reducible rfl)
              try simp only [Act.put, List.getElem_toArray, List.getElem_cons_succ, List.getElem_cons_zero, List.setIfInBounds_toArray, List.set_cons_zero, List.set_cons_succ]
              refine Reg.take0 (i := 1) (v := ?_) rfl (by kernel_rfl) (by kernel_rfl) (by kernel_rfl) (by kernel_rfl) (fun _ _ _ h => h) (Or.inl ⟨by rfl, ?_⟩) ?_
              rotate_left
              · (intro w _; go_simp; try with_reducible rfl)
              try simp only [Act.put, List.getElem_toArray, List.getElem_cons_succ, List.getElem_cons_zero, List.setIfInBounds_toArray, List.set_cons_zero, List.set_cons_succ]
              refine Reg.take1 (i := 2) (v := ?_) rfl (by kernel_rfl) (by kernel_rfl) (by kernel_rfl) (by kernel_rfl) (by kernel_rfl) (fun _ _ _ h => h) (Or.inl ⟨by rfl, ?_⟩) yD ?_
              rotate_left
              · (intro w hS; have hs1 := hS; go_simp; try with_reducible rfl)
              try simp only [Act.put, List.getElem_toArray, List.getElem_cons_succ, List.getElem_cons_zero, List.setIfInBounds_toArray, List.set_cons_zero, List.set_cons_succ]
              refine Reg.take0 (i := 4) (v := ?_) rfl (by kernel_rfl) (by kernel_rfl) (by kernel_rfl) (by kernel_rfl) (fun _ _ _ h => h) (Or.inl ⟨by rfl, ?_⟩) ?_
              rotate_left
              · (intro w _; go_simp; try with_reducible rfl)
              try simp only [Act.put, List.getElem_toArray, List.getElem_cons_succ, List.getElem_cons_zero, List.setIfInBounds_toArray, List.set_cons_zero, List.set_cons_succ]
              refine Reg.take0 (i := 5) (v := ?_) rfl (by kernel_rfl) (by kernel_rfl) (by kernel_rfl) (by kernel_rfl) (fun _ _ _ h => h) (Or.inl ⟨by rfl, ?_⟩) ?_
              rotate_left
              · (intro w _; go_simp; try with_reducible rfl)
              try simp only [Act.put, List.getElem_toArray, List.getElem_cons_succ, List.getElem_cons_zero, List.setIfInBounds_toArray, List.set_cons_zero, List.set_cons_succ]
              refine Reg.take1 (i := 6) (v := ?_) rfl (by kernel_rfl) (by kernel_rfl) (by kernel_rfl) (by kernel_rfl) (by kernel_rfl) (fun _ _ _ h => h) (Or.inl ⟨by rfl, ?_⟩) yD ?_
              rotate_left
              · (intro w hS; have hs1 := hS; go_simp; try with_reducible rfl)
              try simp only [Act.put, List.getElem_toArray, List.getElem_cons_succ, List.getElem_cons_zero, List.setIfInBounds_toArray, List.set_cons_zero, List.set_cons_succ]
              refine Reg.only (i := 3) (by kernel_rfl) rfl (fun K hK => ?_)
              go_simp
              refine (Calls.at (f21_none wD (Lib.hid hPD.out.ring) (id := N) hn1) (a' := #[.pointer (some ⟨rg, 0, none⟩), .int .i64 N]) (by rw [hPD.out.rg_])).mono ?_; rintro e w6 ⟨rfl, rfl⟩
              simp only []
              refine hK _ _ (fun _ hS => hS) ?_
              clear hK K
              try simp only [Act.put, List.getElem_toArray, List.getElem_cons_succ, List.getElem_cons_zero, List.setIfInBounds_toArray, List.set_cons_zero, List.set_cons_succ]
              refine Reg.only (i := 7) (by kernel_rfl) rfl (fun K hK => ?_)
              go_simp
              refine (Calls.at (f28_none wD (Lib.hid hPD.out.ref) (Lib.hid (by have := hPl.out; omega)) (id := N) hn2) (a' := #[.pointer (some ⟨qb, 0, none⟩), .int .i64 N]) (by rw [hPD.out.qb_])).mono ?_; rintro e w6 ⟨rfl, rfl⟩
              simp only []
              refine hK _ _ (fun _ hS => hS) ?_
              clear hK K
              try simp only [Act.put, List.getElem_toArray, List.getElem_cons_succ, List.getElem_cons_zero, List.setIfInBounds_toArray, List.set_cons_zero, List.set_cons_succ]
              refine Reg.take0 (i := 8) (v := ?_) rfl (by kernel_rfl) (by kernel_rfl) (by kernel_rfl) (by kernel_rfl) (fun _ _ _ h => h) (Or.inl ⟨by rfl, ?_⟩) ?_
              rotate_left
              · (intro w _; go_simp; try with_reducible rfl)
              try simp only [Act.put, List.getElem_toArray, List.getElem_cons_succ, List.getElem_cons_zero, List.setIfInBounds_toArray, List.set_cons_zero, List.set_cons_succ]
              refine Reg.take0 (i := 9) (v := ?_) rfl (by kernel_rfl) (by kernel_rfl) (by kernel_rfl) (by kernel_rfl) (fun _ _ _ h => h) (Or.inl ⟨by rfl, ?_⟩) ?_
              rotate_left
              · (intro w _; go_simp; try with_reducible rfl)
              try simp only [Act.put, List.getElem_toArray, List.getElem_cons_succ, List.getElem_cons_zero, List.setIfInBounds_toArray, List.set_cons_zero, List.set_cons_succ]
              refine Reg.done (by kernel_rfl) ?_ _
              go_wp2_with fail
              go_meet
              exact ⟨rfl, _, R2, Q2, Lib.hid (hPD.out.up (Nat.le_succ _)), hBD⟩
        by_cases h3 : what = 3
        · subst h3
          as_aux_lemma =>
            rcases hPA.out.find N with ⟨j, r, q, hj, hq, hk, hi, hst0, hno⟩ | ⟨hn1, hn2⟩
            · have hm := List.mem_of_getElem? hj
              obtain ⟨hl1, hl2, hl3⟩ := hPA.out.ring.link r hm
              obtain ⟨x, hx, hxd, hxn⟩ := hl3 hst0
              obtain ⟨p, hp, hxp⟩ := parts_at hPA.out.regs hx
              have i1 : r.id = q.id := congrArg (fun t : Nat × Nat × Nat × List Nat => t.1) hk
              have i2 : r.n = q.n := congrArg (fun t : Nat × Nat × Nat × List Nat => t.2.1) hk
              have i3 : r.st = q.st := congrArg (fun t : Nat × Nat × Nat × List Nat => t.2.2.1) hk
              have x1 : x.n = p.n := congrArg (fun t : Nat × Bool × List Nat => t.1) hxp
              have x2 : x.d = !p.live := congrArg (fun t : Nat × Bool × List Nat => t.2.1) hxp
              have hlive : p.live = true := by
                rw [hxd] at x2
                cases hpp : p.live with
                | true => rfl
                | false => rw [hpp] at x2; exact absurd x2 (by decide)
              have hm_ := hm
              clear hm
              have hm := Lib.hid hm_
              clear hm_
              have hl1_ := hl1
              clear hl1
              have hl1 := Lib.hid hl1_
              clear hl1_
              have hx_ := hx
              clear hx
              have hx := Lib.hid hx_
              clear hx_
              have hxd_ := hxd
              clear hxd
              have hxd := Lib.hid hxd_
              clear hxd_
              have hxn_ := hxn
              clear hxn
              have hxn := Lib.hid hxn_
              clear hxn_
              have hp_ := hp
              clear hp
              have hp := Lib.hid hp_
              clear hp_
              have hxp_ := hxp
              clear hxp
              have hxp := Lib.hid hxp_
              clear hxp_
              have i1_ := i1
              clear i1
              have i1 := Lib.hid i1_
              clear i1_
              have i2_ := i2
              clear i2
              have i2 := Lib.hid i2_
              clear i2_
              have i3_ := i3
              clear i3
              have i3 := Lib.hid i3_
              clear i3_
              have x1_ := x1
              clear x1
              have x1 := Lib.hid x1_
              clear x1_
              have hlive_ := hlive
              clear hlive
              have hlive := Lib.hid hlive_
              clear hlive_
              have hj_ := hj
              clear hj
              have hj := Lib.hid hj_
              clear hj_
              have hq_ := hq
              clear hq
              have hq := Lib.hid hq_
              clear hq_
              have hk_ := hk
              clear hk
              have hk := Lib.hid hk_
              clear hk_
              have hi_ := hi
              clear hi
              have hi := Lib.hid hi_
              clear hi_
              have hst0_ := hst0
              clear hst0
              have hst0 := Lib.hid hst0_
              clear hst0_
              have hno_ := hno
              clear hno
              have hno := Lib.hid hno_
              clear hno_
              clear hl2 hl3 x2
              go_wp2_with fail
              refine Reg.start (S := (fun w' => w'.cell? ⟨sb, 1, none⟩ = some (.int .i64 N))) (B := (fun _ => false)) (by kernel_rfl) ?_
              have hbd : Below wA.heap.size wA wA.drew := (Below.refl _ _).drew
              have hPD := Lib.hid (hPA.out.call hbd)
              have hBD : Hid (Below w.heap.size w wA.drew) := Lib.hid hBA.out.drew
              have yD : wA.drew.cell? ⟨sb, 1, none⟩ = some (.int .i64 N) := y1
              clear hbd
              revert hPD hBD yD
              generalize wA.drew = wD
              intro hPD hBD yD
              refine Reg.take0 (i := 0) (v := ?_) rfl (by kernel_rfl) (by kernel_rfl) (by kernel_rfl) (by kernel_rfl) (fun _ _ _ h => h) (Or.inl ⟨by rfl, ?_⟩) ?_
              rotate_left
              · (intro w _; go_simp; try with_reducible rfl)
              try simp only [Act.put, List.getElem_toArray, List.getElem_cons_succ, List.getElem_cons_zero, List.setIfInBounds_toArray, List.set_cons_zero, List.set_cons_succ]
              refine Reg.take0 (i := 1) (v := ?_) rfl (by kernel_rfl) (by kernel_rfl) (by kernel_rfl) (by kernel_rfl) (fun _ _ _ h => h) (Or.inl ⟨by rfl, ?_⟩) ?_
              rotate_left
              · (intro w _; go_simp; try with_reducible rfl)
              try simp only [Act.put, List.getElem_toArray, List.getElem_cons_succ, List.getElem_cons_zero, List.setIfInBounds_toArray, List.set_cons_zero, List.set_cons_succ]
              refine Reg.take1 (i := 2) (v := ?_) rfl (by kernel_rfl) (by kernel_rfl) (by kernel_rfl) (by kernel_rfl) (by kernel_rfl) (fun _ _ _ h => h) (Or.inl ⟨by rfl, ?_⟩) yD ?_
              rotate_left
              · (intro w hS; have hs1 := hS; go_simp; try with_reducible rfl)
              try simp only [Act.put, List.getElem_toArray, List.getElem_cons_succ, List.getElem_cons_zero, List.setIfInBounds_toArray, List.set_cons_zero, List.set_cons_succ]
              refine Reg.take0 (i := 4) (v := ?_) rfl (by kernel_rfl) (by kernel_rfl) (by kernel_rfl) (by kernel_rfl) (fun _ _ _ h => h) (Or.inl ⟨by rfl, ?_⟩) ?_
              rotate_left
              · (intro w _; go_simp; try with_reducible rfl)
              try simp only [Act.put, List.getElem_toArray, List.getElem_cons_succ, List.getElem_cons_zero, List.setIfInBounds_toArray, List.set_cons_zero, List.set_cons_succ]
              refine Reg.take0 (i := 5) (v := ?_) rfl (by kernel_rfl) (by kernel_rfl) (by kernel_rfl) (by kernel_rfl) (fun _ _ _ h => h) (Or.inl ⟨by rfl, ?_⟩) ?_
              rotate_left
              · (intro w _; go_simp; try with_reducible rfl)
              try simp only [Act.put, List.getElem_toArray, List.getElem_cons_succ, List.getElem_cons_zero, List.setIfInBounds_toArray, List.set_cons_zero, List.set_cons_succ]
              refine Reg.take1 (i := 6) (v := ?_) rfl (by kernel_rfl) (by kernel_rfl) (by kernel_rfl) (by kernel_rfl) (by kernel_rfl) (fun _ _ _ h => h) (Or.inl ⟨by rfl, ?_⟩) yD ?_
              rotate_left
              · (intro w hS; have hs1 := hS; go_simp; try with_reducible rfl)
              try simp only [Act.put, List.getElem_toArray, List.getElem_cons_succ, List.getElem_cons_zero, List.setIfInBounds_toArray, List.set_cons_zero, List.set_cons_succ]
              refine Reg.only (i := 3) (by kernel_rfl) rfl (fun K hK => ?_)
              go_simp
              refine (discard_ok wD (Lib.hid hPD.out.ring) (Lib.hid hPD.out.rg_) hm hst0 hi).mono ?_; rintro e w6 ⟨rfl, hO6, R6, x6, bs6, hR6, hS6, hx6, hxd6, hxn6, hrows6, hrs6⟩
              simp only []
              refine hK _ _ (fun _ hS => (hO6.cell (p := ⟨sb, 1, none⟩) (World.block_lt_of_cell? _ _ hS) (fun h => h (.inr rfl))).trans hS) ?_
              clear hK K
              try simp only [Act.put, List.getElem_toArray, List.getElem_cons_succ, List.getElem_cons_zero, List.setIfInBounds_toArray, List.set_cons_zero, List.set_cons_succ]
              have hxx : x6 = x := by rw [hx.out] at hx6; exact (Option.some.inj hx6).symm
              subst hxx
              have hq6 := Lib.hid (hPD.out.refAt hO6)
              have hB6 : Hid (Below w.heap.size w w6) := Lib.hid (hBD.out.trans (hO6.belowN hBD.out.size fun j hj h => h (hlow.out j hj)))
              have hO6_ := hO6
              clear hO6
              have hO6 := Lib.hid hO6_
              clear hO6_
              have hR6_ := hR6
              clear hR6
              have hR6 := Lib.hid hR6_
              clear hR6_
              have hS6_ := hS6
              clear hS6
              have hS6 := Lib.hid hS6_
              clear hS6_
              have hrows6_ := hrows6
              clear hrows6
              have hrows6 := Lib.hid hrows6_
              clear hrows6_
              have hrs6_ := hrs6
              clear hrs6
              have hrs6 := Lib.hid hrs6_
              clear hrs6_
              clear hx6 hxd6 hxn6
              refine Reg.only (i := 7) (by kernel_rfl) rfl (fun K hK => ?_)
              go_simp
              refine (Calls.at (f29_hit w6 hq6 (Lib.hid (by have := hPl.out; omega)) (Lib.hid (by have := hRl.out; have := hk60.out; omega)) hq (Lib.hid (i3.out.symm.trans hst0.out)) (id := N) (Lib.hid ⟨by rw [← i1.out]; exact hi.out, by rw [← i1.out]; exact hl1.out⟩) hno (p := p) (Lib.hid (by rw [← i1.out]; exact hp.out)) hlive (Lib.hid (by rw [← x1.out, hxn.out, i2.out]))) (a' := #[.pointer (some ⟨qb, 0, none⟩), .int .i64 N]) (by rw [hPD.out.qb_])).mono ?_; rintro e w7 ⟨rfl, hO7, g7, c7, hg7, hQ7⟩
              simp only []
              refine hK _ _ (fun _ hS => (hO7.cell (p := ⟨sb, 1, none⟩) (World.block_lt_of_cell? _ _ hS) (fun h => hsbq.out h)).trans hS) ?_
              clear hK K
              try simp only [Act.put, List.getElem_toArray, List.getElem_cons_succ, List.getElem_cons_zero, List.setIfInBounds_toArray, List.set_cons_zero, List.set_cons_succ]
              obtain ⟨Pr7, Q7, hP7, hpr7⟩ := play_end hPD.out hO7 hR6.out hS6.out hj.out hq.out hk.out hst0.out (s := 2) (by decide) hx.out hp.out hxp.out hxn.out hrows6.out hrs6.out hg7 hQ7
              have hP7 := Lib.hid hP7
              have hB7 : Hid (Below w.heap.size w w7) := Lib.hid (hB6.out.trans (hO7.belowN hB6.out.size hqlow.out))
              clear hO7 hQ7 hg7 hpr7
              refine Reg.take0 (i := 8) (v := ?_) rfl (by kernel_rfl) (by kernel_rfl) (by kernel_rfl) (by kernel_rfl) (fun _ _ _ h => h) (Or.inl ⟨by rfl, ?_⟩) ?_
              rotate_left
              · (intro w _; go_simp; try with_reducible rfl)
              try simp only [Act.put, List.getElem_toArray, List.getElem_cons_succ, List.getElem_cons_zero, List.setIfInBounds_toArray, List.set_cons_zero, List.set_cons_succ]
              refine Reg.take0 (i := 9) (v := ?_) rfl (by kernel_rfl) (by kernel_rfl) (by kernel_rfl) (by kernel_rfl) (fun _ _ _ h => h) (Or.inl ⟨by rfl, ?_⟩) ?_
              rotate_left
              · (intro w _; go_simp; try with_reducible rfl)
              try simp only [Act.put, List.getElem_toArray, List.getElem_cons_succ, List.getElem_cons_zero, List.setIfInBounds_toArray, List.set_cons_zero, List.set_cons_succ]
              refine Reg.done (by kernel_rfl) ?_ _
              go_wp2_with fail
              go_meet
              exact ⟨rfl, _, R6, Q7, Lib.hid (hP7.out.up (Nat.le_succ _)), hB7⟩
            · have hn1 := Lib.hid hn1
              have hn2 := Lib.hid hn2
              go_wp2_with fail
              refine Reg.start (S := (fun w' => w'.cell? ⟨sb, 1, none⟩ = some (.int .i64 N))) (B := (fun _ => false)) (by kernel_rfl) ?_
              have hbd : Below wA.heap.size wA wA.drew := (Below.refl _ _).drew
              have hPD := Lib.hid (hPA.out.call hbd)
              have hBD : Hid (Below w.heap.size w wA.drew) := Lib.hid hBA.out.drew
              have yD : wA.drew.cell? ⟨sb, 1, none⟩ = some (.int .i64 N) := y1
              clear hbd
              revert hPD hBD yD
              generalize wA.drew = wD
              intro hPD hBD yD
              refine Reg.take0 (i := 0) (v := ?_) rfl (by kernel_rfl) (by kernel_rfl) (by kernel_rfl) (by kernel_rfl) (fun _ _ _ h => h) (Or.inl ⟨by rfl, ?_⟩) ?_
              rotate_left
              · (intro w _; go_simp; try with_reducible rfl)
              try simp only [Act.put, List.getElem_toArray, List.getElem_cons_succ, List.getElem_cons_zero, List.setIfInBounds_toArray, List.set_cons_zero, List.set_cons_succ]
              refine Reg.take0 (i := 1) (v := ?_) rfl (by kernel_rfl) (by kernel_rfl) (by kernel_rfl) (by kernel_rfl) (fun _ _ _ h => h) (Or.inl ⟨by rfl, ?_⟩) ?_
              rotate_left
              · (intro w _; go_simp; try with_reducible rfl)
              try simp only [Act.put, List.getElem_toArray, List.getElem_cons_succ, List.getElem_cons_zero, List.setIfInBounds_toArray, List.set_cons_zero, List.set_cons_succ]
              refine Reg.take1 (i := 2) (v := ?_) rfl (by kernel_rfl) (by kernel_rfl) (by kernel_rfl) (by kernel_rfl) (by kernel_rfl) (fun _ _ _ h => h) (Or.inl ⟨by rfl, ?_⟩) yD ?_
              rotate_left
              · (intro w hS; have hs1 := hS; go_simp; try with_reducible rfl)
              try simp only [Act.put, List.getElem_toArray, List.getElem_cons_succ, List.getElem_cons_zero, List.setIfInBounds_toArray, List.set_cons_zero, List.set_cons_succ]
              refine Reg.take0 (i := 4) (v := ?_) rfl (by kernel_rfl) (by kernel_rfl) (by kernel_rfl) (by kernel_rfl) (fun _ _ _ h => h) (Or.inl ⟨by rfl, ?_⟩) ?_
              rotate_left
              · (intro w _; go_simp; try with_reducible rfl)
              try simp only [Act.put, List.getElem_toArray, List.getElem_cons_succ, List.getElem_cons_zero, List.setIfInBounds_toArray, List.set_cons_zero, List.set_cons_succ]
              refine Reg.take0 (i := 5) (v := ?_) rfl (by kernel_rfl) (by kernel_rfl) (by kernel_rfl) (by kernel_rfl) (fun _ _ _ h => h) (Or.inl ⟨by rfl, ?_⟩) ?_
              rotate_left
              · (intro w _; go_simp; try with_reducible rfl)
              try simp only [Act.put, List.getElem_toArray, List.getElem_cons_succ, List.getElem_cons_zero, List.setIfInBounds_toArray, List.set_cons_zero, List.set_cons_succ]
              refine Reg.take1 (i := 6) (v := ?_) rfl (by kernel_rfl) (by kernel_rfl) (by kernel_rfl) (by kernel_rfl) (by kernel_rfl) (fun _ _ _ h => h) (Or.inl ⟨by rfl, ?_⟩) yD ?_
              rotate_left
              · (intro w hS; have hs1 := hS; go_simp; try with_reducible rfl)
              try simp only [Act.put, List.getElem_toArray, List.getElem_cons_succ, List.getElem_cons_zero, List.setIfInBounds_toArray, List.set_cons_zero, List.set_cons_succ]
              refine Reg.only (i := 3) (by kernel_rfl) rfl (fun K hK => ?_)
              go_simp
              refine (Calls.at (f22_none wD (Lib.hid hPD.out.ring) (id := N) hn1) (a' := #[.pointer (some ⟨rg, 0, none⟩), .int .i64 N]) (by rw [hPD.out.rg_])).mono ?_; rintro e w6 ⟨rfl, rfl⟩
              simp only []
              refine hK _ _ (fun _ hS => hS) ?_
              clear hK K
              try simp only [Act.put, List.getElem_toArray, List.getElem_cons_succ, List.getElem_cons_zero, List.setIfInBounds_toArray, List.set_cons_zero, List.set_cons_succ]
              refine Reg.only (i := 7) (by kernel_rfl) rfl (fun K hK => ?_)
              go_simp
              refine (Calls.at (f29_none wD (Lib.hid hPD.out.ref) (Lib.hid (by have := hPl.out; omega)) (id := N) hn2) (a' := #[.pointer (some ⟨qb, 0, none⟩), .int .i64 N]) (by rw [hPD.out.qb_])).mono ?_; rintro e w6 ⟨rfl, rfl⟩
              simp only []
              refine hK _ _ (fun _ hS => hS) ?_
              clear hK K
              try simp only [Act.put, List.getElem_toArray, List.getElem_cons_succ, List.getElem_cons_zero, List.setIfInBounds_toArray, List.set_cons_zero, List.set_cons_succ]
              refine Reg.take0 (i := 8) (v := ?_) rfl (by kernel_rfl) (by kernel_rfl) (by kernel_rfl) (by kernel_rfl) (fun _ _ _ h => h) (Or.inl ⟨by rfl, ?_⟩) ?_
              rotate_left
              · (intro w _; go_simp; try with_reducible rfl)
              try simp only [Act.put, List.getElem_toArray, List.getElem_cons_succ, List.getElem_cons_zero, List.setIfInBounds_toArray, List.set_cons_zero, List.set_cons_succ]
              refine Reg.take0 (i := 9) (v := ?_) rfl (by kernel_rfl) (by kernel_rfl) (by kernel_rfl) (by kernel_rfl) (fun _ _ _ h => h) (Or.inl ⟨by rfl, ?_⟩) ?_
              rotate_left
              · (intro w _; go_simp; try with_reducible rfl)
              try simp only [Act.put, List.getElem_toArray, List.getElem_cons_succ, List.getElem_cons_zero, List.setIfInBounds_toArray, List.set_cons_zero, List.set_cons_succ]
              refine Reg.done (by kernel_rfl) ?_ _
              go_wp2_with fail
              go_meet
              exact ⟨rfl, _, R2, Q2, Lib.hid (hPD.out.up (Nat.le_succ _)), hBD⟩
        by_cases h4 : what = 4
        · subst h4
          as_aux_lemma =>
            rcases clone_any hslA.out (by have := h45k.out; omega) with ⟨rfl, hcl⟩ | ⟨cc, xb, xo, wC, hm1, rfl, hxb, hbx, hby, hcl, hbC, kC, tC, hBC⟩
            · have hcl_ := hcl 30
              clear hcl
              have hcl := Lib.hid hcl_
              clear hcl_
              go_wp2_with (first | (at_builtin; refine wpList_plain rfl fun K hK => wp_append_run (.const (.slice none 0 0)) (.tmp 130) 30 rfl _ _ _ rfl rfl hcl.out (hK _ _ ?_)))
              refine Reg.start (S := (fun w' => w'.cell? ⟨sb, 2, none⟩ = some (.slice sa 0 q))) (B := (fun _ => false)) (by kernel_rfl) ?_
              have hbd : Below wA.heap.size wA wA.drew := (Below.refl _ _).drew
              have hPE := Lib.hid (hPA.out.call hbd)
              have hBE : Hid (Below w.heap.size w wA.drew) := Lib.hid hBA.out.drew
              have yE : wA.drew.cell? ⟨sb, 2, none⟩ = some (.slice sa 0 q) := y2
              clear hbd
              revert hPE hBE yE
              generalize wA.drew = wE
              intro hPE hBE yE
              refine Reg.take0 (i := 0) (v := ?_) rfl (by kernel_rfl) (by kernel_rfl) (by kernel_rfl) (by kernel_rfl) (fun _ _ _ h => h) (Or.inl ⟨by rfl, ?_⟩) ?_
              rotate_left
              · (intro w _; go_simp; try with_reducible rfl)
              try simp only [Act.put, List.getElem_toArray, List.getElem_cons_succ, List.getElem_cons_zero, List.setIfInBounds_toArray, List.set_cons_zero, List.set_cons_succ]
              refine Reg.take0 (i := 1) (v := ?_) rfl (by kernel_rfl) (by kernel_rfl) (by kernel_rfl) (by kernel_rfl) (fun _ _ _ h => h) (Or.inl ⟨by rfl, ?_⟩) ?_
              rotate_left
              · (intro w _; go_simp; try with_reducible rfl)
              try simp only [Act.put, List.getElem_toArray, List.getElem_cons_succ, List.getElem_cons_zero, List.setIfInBounds_toArray, List.set_cons_zero, List.set_cons_succ]
              refine Reg.take0 (i := 3) (v := ?_) rfl (by kernel_rfl) (by kernel_rfl) (by kernel_rfl) (by kernel_rfl) (fun _ _ _ h => h) (Or.inl ⟨by rfl, ?_⟩) ?_
              rotate_left
              · (intro w _; go_simp; try with_reducible rfl)
              try simp only [Act.put, List.getElem_toArray, List.getElem_cons_succ, List.getElem_cons_zero, List.setIfInBounds_toArray, List.set_cons_zero, List.set_cons_succ]
              refine Reg.take0 (i := 4) (v := ?_) rfl (by kernel_rfl) (by kernel_rfl) (by kernel_rfl) (by kernel_rfl) (fun _ _ _ h => h) (Or.inl ⟨by rfl, ?_⟩) ?_
              rotate_left
              · (intro w _; go_simp; try with_reducible rfl)
              try simp only [Act.put, List.getElem_toArray, List.getElem_cons_succ, List.getElem_cons_zero, List.setIfInBounds_toArray, List.set_cons_zero, List.set_cons_succ]
              refine Reg.take1 (i := 5) (v := ?_) rfl (by kernel_rfl) (by kernel_rfl) (by kernel_rfl) (by kernel_rfl) (by kernel_rfl) (fun _ _ _ h => h) (Or.inl ⟨by rfl, ?_⟩) yE ?_
              rotate_left
              · (intro w hS; have hs1 := hS; go_simp; try with_reducible rfl)
              try simp only [Act.put, List.getElem_toArray, List.getElem_cons_succ, List.getElem_cons_zero, List.setIfInBounds_toArray, List.set_cons_zero, List.set_cons_succ]
              refine Reg.only (i := 2) (by kernel_rfl) rfl (fun K hK => ?_)
              go_simp
              refine (f15_bad wE (rg := rg) (Lib.hid (.inl (by decide)))).mono ?_; rintro e w6 ⟨rfl, rfl⟩
              simp only []
              refine hK _ _ (fun _ hS => hS) ?_
              clear hK K
              try simp only [Act.put, List.getElem_toArray, List.getElem_cons_succ, List.getElem_cons_zero, List.setIfInBounds_toArray, List.set_cons_zero, List.set_cons_succ]
              refine Reg.only (i := 6) (by kernel_rfl) rfl (fun K hK => ?_)
              go_simp
              refine (f30_bad wE (qb := qb) (Lib.hid (.inl (by decide)))).mono ?_; rintro e w6 ⟨rfl, rfl⟩
              simp only []
              refine hK _ _ (fun _ hS => hS) ?_
              clear hK K
              try simp only [Act.put, List.getElem_toArray, List.getElem_cons_succ, List.getElem_cons_zero, List.setIfInBounds_toArray, List.set_cons_zero, List.set_cons_succ]
              refine Reg.take0 (i := 7) (v := ?_) rfl (by kernel_rfl) (by kernel_rfl) (by kernel_rfl) (by kernel_rfl) (fun _ _ _ h => h) (Or.inl ⟨by rfl, ?_⟩) ?_
              rotate_left
              · (intro w _; go_simp; try with_reducible rfl)
              try simp only [Act.put, List.getElem_toArray, List.getElem_cons_succ, List.getElem_cons_zero, List.setIfInBounds_toArray, List.set_cons_zero, List.set_cons_succ]
              refine Reg.take0 (i := 8) (v := ?_) rfl (by kernel_rfl) (by kernel_rfl) (by kernel_rfl) (by kernel_rfl) (fun _ _ _ h => h) (Or.inl ⟨by rfl, ?_⟩) ?_
              rotate_left
              · (intro w _; go_simp; try with_reducible rfl)
              try simp only [Act.put, List.getElem_toArray, List.getElem_cons_succ, List.getElem_cons_zero, List.setIfInBounds_toArray, List.set_cons_zero, List.set_cons_succ]
              refine Reg.done (by kernel_rfl) ?_ _
              go_wp2_with fail
              refine (f31_zero wE).mono ?_; rintro e w6 ⟨rfl, rfl⟩
              go_wp2_with fail
              go_meet
              exact ⟨rfl, _, R2, Q2, Lib.hid (hPE.out.up (Nat.le_succ _)), hBE⟩
            · have hxq0 : Hid (¬ Q2.own xb) := Lib.hid fun h => by
                obtain ⟨⟨a', c', e1, e2⟩, _⟩ := hsl.out.2
                simp only [Value.slice.injEq] at e1
                rcases e2 with rfl | ⟨b', o', e3, _, e4, _⟩
                · have := hlm.out; simp at this; omega
                · rw [← e1.1] at e3
                  simp only [Option.some.injEq, Addr.mk.injEq, and_true] at e3
                  have := hPA.out.ref.ge _ h
                  have := hb1s.out
                  omega
              have hxp : Hid (Pr xb ∨ xb = sb) := Lib.hid hxb
              have hcl_ := hcl 30
              clear hcl
              have hcl := Lib.hid hcl_
              clear hcl_
              obtain ⟨b5, hb5⟩ : ∃ b5, Hid (wA.heap.size = b5) := ⟨_, Lib.hid rfl⟩
              rw [hb5.out] at hcl hbC kC tC
              have hPC := hPA.out.grow hBC (b := b5) (Nat.le_of_eq hb5.out) kC.lt
              have hBCw : Below w.heap.size w wC := hBA.out.trans (hBC.mono hBA.out.size)
              have yC : wC.cell? ⟨sb, 2, none⟩ = some (.slice (some ⟨xb, xo, none⟩) m q) := (hBC.cell (World.block_lt_of_cell? _ _ y2)).trans y2
              have hbxC : Bts wC xb xo m (fun i => l.getD i 0) := fun i hi => (hBC.cell (World.block_lt_of_cell? _ _ (hbx i hi))).trans (hbx i hi)
              have h5q : ¬ Q2.own b5 := fun h => by have h9 := hPA.out.ref.lt h; have h8 := hb5.out; omega
              have hxq : ¬ Q2.own xb := fun h => hxq0.out h
              have hPC_ := hPC
              clear hPC
              have hPC := Lib.hid hPC_
              clear hPC_
              have hBCw_ := hBCw
              clear hBCw
              have hBCw := Lib.hid hBCw_
              clear hBCw_
              have hbxC_ := hbxC
              clear hbxC
              have hbxC := Lib.hid hbxC_
              clear hbxC_
              have h5q_ := h5q
              clear h5q
              have h5q := Lib.hid h5q_
              clear h5q_
              have hm1_ := hm1
              clear hm1
              have hm1 := Lib.hid hm1_
              clear hm1_
              have hby_ := hby
              clear hby
              have hby := Lib.hid hby_
              clear hby_
              have hbC_ := hbC
              clear hbC
              have hbC := Lib.hid hbC_
              clear hbC_
              have kC_ := kC
              clear kC
              have kC := Lib.hid kC_
              clear kC_
              have tC_ := tC
              clear tC
              have tC := Lib.hid tC_
              clear tC_
              have hxq_ := hxq
              clear hxq
              have hxq := Lib.hid hxq_
              clear hxq_
              clear hBC hbx hxb
              go_wp2_with (first | (at_builtin; refine wpList_plain rfl fun K hK => wp_append_run (.const (.slice none 0 0)) (.tmp 130) 30 rfl _ _ _ rfl rfl hcl.out (hK _ _ ?_)))
              by_cases hbig : 4096 < m
              · have hbig := Lib.hid hbig
                as_aux_lemma =>
                  refine Reg.start (S := (fun w' => w'.cell? ⟨sb, 2, none⟩ = some (.slice (some ⟨xb, xo, none⟩) m q))) (B := (fun _ => false)) (by kernel_rfl) ?_
                  have hbd : Below wC.heap.size wC wC.drew := (Below.refl _ _).drew
                  have hPE := Lib.hid (hPC.out.call hbd)
                  have hBE : Hid (Below w.heap.size w wC.drew) := Lib.hid hBCw.out.drew
                  have yE : wC.drew.cell? ⟨sb, 2, none⟩ = some (.slice (some ⟨xb, xo, none⟩) m q) := yC
                  have bE : Hid (Bts wC.drew b5 0 m (fun i => l.getD i 0)) := Lib.hid hbC.out
                  have bxE : Hid (Bts wC.drew xb xo m (fun i => l.getD i 0)) := Lib.hid hbxC.out
                  have kE : Hid (KindAt wC.drew b5 5) := Lib.hid kC.out
                  have tE : Hid (Thaw wC.drew b5) := Lib.hid tC.out
                  clear hbd
                  clear hcl
                  revert hPE hBE yE bE bxE kE tE
                  generalize wC.drew = wE
                  intro hPE hBE yE bE bxE kE tE
                  refine Reg.take0 (i := 0) (v := ?_) rfl (by kernel_rfl) (by kernel_rfl) (by kernel_rfl) (by kernel_rfl) (fun _ _ _ h => h) (Or.inl ⟨by rfl, ?_⟩) ?_
                  rotate_left
                  · (intro w _; go_simp; try with_reducible rfl)
                  try simp only [Act.put, List.getElem_toArray, List.getElem_cons_succ, List.getElem_cons_zero, List.setIfInBounds_toArray, List.set_cons_zero, List.set_cons_succ]
                  refine Reg.take0 (i := 1) (v := ?_) rfl (by kernel_rfl) (by kernel_rfl) (by kernel_rfl) (by kernel_rfl) (fun _ _ _ h => h) (Or.inl ⟨by rfl, ?_⟩) ?_
                  rotate_left
                  · (intro w _; go_simp; try with_reducible rfl)
                  try simp only [Act.put, List.getElem_toArray, List.getElem_cons_succ, List.getElem_cons_zero, List.setIfInBounds_toArray, List.set_cons_zero, List.set_cons_succ]
                  refine Reg.take0 (i := 3) (v := ?_) rfl (by kernel_rfl) (by kernel_rfl) (by kernel_rfl) (by kernel_rfl) (fun _ _ _ h => h) (Or.inl ⟨by rfl, ?_⟩) ?_
                  rotate_left
                  · (intro w _; go_simp; try with_reducible rfl)
                  try simp only [Act.put, List.getElem_toArray, List.getElem_cons_succ, List.getElem_cons_zero, List.setIfInBounds_toArray, List.set_cons_zero, List.set_cons_succ]
                  refine Reg.take0 (i := 4) (v := ?_) rfl (by kernel_rfl) (by kernel_rfl) (by kernel_rfl) (by kernel_rfl) (fun _ _ _ h => h) (Or.inl ⟨by rfl, ?_⟩) ?_
                  rotate_left
                  · (intro w _; go_simp; try with_reducible rfl)
                  try simp only [Act.put, List.getElem_toArray, List.getElem_cons_succ, List.getElem_cons_zero, List.setIfInBounds_toArray, List.set_cons_zero, List.set_cons_succ]
                  refine Reg.take1 (i := 5) (v := ?_) rfl (by kernel_rfl) (by kernel_rfl) (by kernel_rfl) (by kernel_rfl) (by kernel_rfl) (fun _ _ _ h => h) (Or.inl ⟨by rfl, ?_⟩) yE ?_
                  rotate_left
                  · (intro w hS; have hs1 := hS; go_simp; try with_reducible rfl)
                  try simp only [Act.put, List.getElem_toArray, List.getElem_cons_succ, List.getElem_cons_zero, List.setIfInBounds_toArray, List.set_cons_zero, List.set_cons_succ]
                  refine Reg.only (i := 2) (by kernel_rfl) rfl (fun K hK => ?_)
                  go_simp
                  refine (f15_bad wE (rg := rg) (Lib.hid (.inr hbig.out))).mono ?_; rintro e w6 ⟨rfl, rfl⟩
                  simp only []
                  refine hK _ _ (fun _ hS => hS) ?_
                  clear hK K
                  try simp only [Act.put, List.getElem_toArray, List.getElem_cons_succ, List.getElem_cons_zero, List.setIfInBounds_toArray, List.set_cons_zero, List.set_cons_succ]
                  refine Reg.only (i := 6) (by kernel_rfl) rfl (fun K hK => ?_)
                  go_simp
                  refine (f30_bad wE (qb := qb) (Lib.hid (.inr hbig.out))).mono ?_; rintro e w6 ⟨rfl, rfl⟩
                  simp only []
                  refine hK _ _ (fun _ hS => hS) ?_
                  clear hK K
                  try simp only [Act.put, List.getElem_toArray, List.getElem_cons_succ, List.getElem_cons_zero, List.setIfInBounds_toArray, List.set_cons_zero, List.set_cons_succ]
                  refine Reg.take0 (i := 7) (v := ?_) rfl (by kernel_rfl) (by kernel_rfl) (by kernel_rfl) (by kernel_rfl) (fun _ _ _ h => h) (Or.inl ⟨by rfl, ?_⟩) ?_
                  rotate_left
                  · (intro w _; go_simp; try with_reducible rfl)
                  try simp only [Act.put, List.getElem_toArray, List.getElem_cons_succ, List.getElem_cons_zero, List.setIfInBounds_toArray, List.set_cons_zero, List.set_cons_succ]
                  refine Reg.take0 (i := 8) (v := ?_) rfl (by kernel_rfl) (by kernel_rfl) (by kernel_rfl) (by kernel_rfl) (fun _ _ _ h => h) (Or.inl ⟨by rfl, ?_⟩) ?_
                  rotate_left
                  · (intro w _; go_simp; try with_reducible rfl)
                  try simp only [Act.put, List.getElem_toArray, List.getElem_cons_succ, List.getElem_cons_zero, List.setIfInBounds_toArray, List.set_cons_zero, List.set_cons_succ]
                  refine Reg.done (by kernel_rfl) ?_ _
                  go_wp2_with fail
                  refine (f31_ok wE bE tE (Lib.hid (by have := h45k.out; omega))).mono ?_; rintro e w9 ⟨rfl, hO9⟩
                  have hP9 := Lib.hid (hPE.out.spoil hO9 (.inr rfl) h5q.out)
                  have hB9 : Hid (Below w.heap.size w w9) := Lib.hid (hBE.out.trans (hO9.belowN hBE.out.size fun j hj h => by have h8 := hb5.out; have h7 := hBA.out.size; omega))
                  clear hO9
                  go_wp2_with fail
                  go_meet
                  exact ⟨rfl, _, R2, Q2, Lib.hid (hP9.out.up (by omega)), hB9⟩
              · have hmm : Hid (1 ≤ m ∧ m ≤ 4096) := Lib.hid (by have := hm1.out; omega)
                by_cases hfull : z < usedQ Q2.recs + takesN m
                · have hfull := Lib.hid hfull
                  as_aux_lemma =>
                    refine Reg.start (S := (fun w' => w'.cell? ⟨sb, 2, none⟩ = some (.slice (some ⟨xb, xo, none⟩) m q))) (B := (fun _ => false)) (by kernel_rfl) ?_
                    have hbd : Below wC.heap.size wC wC.drew := (Below.refl _ _).drew
                    have hPE := Lib.hid (hPC.out.call hbd)
                    have hBE : Hid (Below w.heap.size w wC.drew) := Lib.hid hBCw.out.drew
                    have yE : wC.drew.cell? ⟨sb, 2, none⟩ = some (.slice (some ⟨xb, xo, none⟩) m q) := yC
                    have bE : Hid (Bts wC.drew b5 0 m (fun i => l.getD i 0)) := Lib.hid hbC.out
                    have bxE : Hid (Bts wC.drew xb xo m (fun i => l.getD i 0)) := Lib.hid hbxC.out
                    have kE : Hid (KindAt wC.drew b5 5) := Lib.hid kC.out
                    have tE : Hid (Thaw wC.drew b5) := Lib.hid tC.out
                    clear hbd
                    clear hcl
                    revert hPE hBE yE bE bxE kE tE
                    generalize wC.drew = wE
                    intro hPE hBE yE bE bxE kE tE
                    refine Reg.take0 (i := 0) (v := ?_) rfl (by kernel_rfl) (by kernel_rfl) (by kernel_rfl) (by kernel_rfl) (fun _ _ _ h => h) (Or.inl ⟨by rfl, ?_⟩) ?_
                    rotate_left
                    · (intro w _; go_simp; try with_reducible rfl)
                    try simp only [Act.put, List.getElem_toArray, List.getElem_cons_succ, List.getElem_cons_zero, List.setIfInBounds_toArray, List.set_cons_zero, List.set_cons_succ]
                    refine Reg.take0 (i := 1) (v := ?_) rfl (by kernel_rfl) (by kernel_rfl) (by kernel_rfl) (by kernel_rfl) (fun _ _ _ h => h) (Or.inl ⟨by rfl, ?_⟩) ?_
                    rotate_left
                    · (intro w _; go_simp; try with_reducible rfl)
                    try simp only [Act.put, List.getElem_toArray, List.getElem_cons_succ, List.getElem_cons_zero, List.setIfInBounds_toArray, List.set_cons_zero, List.set_cons_succ]
                    refine Reg.take0 (i := 3) (v := ?_) rfl (by kernel_rfl) (by kernel_rfl) (by kernel_rfl) (by kernel_rfl) (fun _ _ _ h => h) (Or.inl ⟨by rfl, ?_⟩) ?_
                    rotate_left
                    · (intro w _; go_simp; try with_reducible rfl)
                    try simp only [Act.put, List.getElem_toArray, List.getElem_cons_succ, List.getElem_cons_zero, List.setIfInBounds_toArray, List.set_cons_zero, List.set_cons_succ]
                    refine Reg.take0 (i := 4) (v := ?_) rfl (by kernel_rfl) (by kernel_rfl) (by kernel_rfl) (by kernel_rfl) (fun _ _ _ h => h) (Or.inl ⟨by rfl, ?_⟩) ?_
                    rotate_left
                    · (intro w _; go_simp; try with_reducible rfl)
                    try simp only [Act.put, List.getElem_toArray, List.getElem_cons_succ, List.getElem_cons_zero, List.setIfInBounds_toArray, List.set_cons_zero, List.set_cons_succ]
                    refine Reg.take1 (i := 5) (v := ?_) rfl (by kernel_rfl) (by kernel_rfl) (by kernel_rfl) (by kernel_rfl) (by kernel_rfl) (fun _ _ _ h => h) (Or.inl ⟨by rfl, ?_⟩) yE ?_
                    rotate_left
                    · (intro w hS; have hs1 := hS; go_simp; try with_reducible rfl)
                    try simp only [Act.put, List.getElem_toArray, List.getElem_cons_succ, List.getElem_cons_zero, List.setIfInBounds_toArray, List.set_cons_zero, List.set_cons_succ]
                    refine Reg.only (i := 2) (by kernel_rfl) rfl (fun K hK => ?_)
                    go_simp
                    refine (output_full wE (Lib.hid hPE.out.ring) (Lib.hid hPE.out.rg_) hmm (Lib.hid (by rw [hPE.out.sz, hPl.out.2.2.1]; exact hfull.out))).mono ?_; rintro e w6 ⟨rfl, hO6, hR6⟩
                    simp only []
                    refine hK _ _ (fun _ hS => (hO6.cell (p := ⟨sb, 2, none⟩) (World.block_lt_of_cell? _ _ hS) (fun h => h (.inl (.inr rfl)))).trans hS) ?_
                    clear hK K
                    try simp only [Act.put, List.getElem_toArray, List.getElem_cons_succ, List.getElem_cons_zero, List.setIfInBounds_toArray, List.set_cons_zero, List.set_cons_succ]
                    have hq6 := Lib.hid (hPE.out.refAt hO6)
                    have hB6 : Hid (Below w.heap.size w w6) := Lib.hid (hBE.out.trans (hO6.belowN hBE.out.size fun j hj h => h (.inl (hlow.out j hj))))
                    have b6 : Hid (Bts w6 b5 0 m (fun i => l.getD i 0)) := Lib.hid fun i hi => (hO6.cell (p := ⟨b5, 0 + i, none⟩) kE.out.lt (fun h => h (.inr rfl))).trans (bE.out i hi)
                    have t6 : Hid (Thaw w6 b5) := Lib.hid (tE.out.only hO6 kE.out.lt (fun h => h (.inr rfl)))
                    have hO6_ := hO6
                    clear hO6
                    have hO6 := Lib.hid hO6_
                    clear hO6_
                    have hR6_ := hR6
                    clear hR6
                    have hR6 := Lib.hid hR6_
                    clear hR6_
                    refine Reg.only (i := 6) (by kernel_rfl) rfl (fun K hK => ?_)
                    go_simp
                    refine (Calls.at (f30_full w6 hq6 (Lib.hid (by have := hPl.out; omega)) (Lib.hid (by have := hPl.out; omega)) hmm (Lib.hid (by rw [hPE.out.qsz]; exact hfull.out))) (a' := #[.pointer (some ⟨qb, 0, none⟩), .slice (some ⟨xb, xo, none⟩) m q]) (by rw [hPE.out.qb_])).mono ?_; rintro e w7 ⟨rfl, hb7⟩
                    simp only []
                    refine hK _ _ (fun _ hS => (hb7.cell (World.block_lt_of_cell? _ _ hS)).trans hS) ?_
                    clear hK K
                    try simp only [Act.put, List.getElem_toArray, List.getElem_cons_succ, List.getElem_cons_zero, List.setIfInBounds_toArray, List.set_cons_zero, List.set_cons_succ]
                    have hP7 : Hid (Play w1.heap.size (fun j => (Pr j ∨ j = sb) ∨ j = b5) w7 R2 Q2 rg mb qb nb z k) := Lib.hid ⟨hR6.out.below hb7, hq6.out.below hb7, hPE.out.own, hPE.out.rows, hPE.out.regs, hPE.out.rg_, hPE.out.mb_, hPE.out.sz, hPE.out.qb_, hPE.out.nb_, hPE.out.qsz, hPE.out.rs⟩
                    have hB7 : Hid (Below w.heap.size w w7) := Lib.hid (hB6.out.trans (hb7.mono hB6.out.size))
                    have b7 : Hid (Bts w7 b5 0 m (fun i => l.getD i 0)) := Lib.hid fun i hi => (hb7.cell (World.block_lt_of_cell? _ _ (b6.out i hi))).trans (b6.out i hi)
                    have t7 : Hid (Thaw w7 b5) := Lib.hid (t6.out.only (S := fun _ => False) (Only.of_below hb7) (World.block_lt_of_cell? _ _ (b6.out 0 (by have := hm1.out; omega))) (fun h => h))
                    clear hb7
                    refine Reg.take0 (i := 7) (v := ?_) rfl (by kernel_rfl) (by kernel_rfl) (by kernel_rfl) (by kernel_rfl) (fun _ _ _ h => h) (Or.inl ⟨by rfl, ?_⟩) ?_
                    rotate_left
                    · (intro w _; go_simp; try with_reducible rfl)
                    try simp only [Act.put, List.getElem_toArray, List.getElem_cons_succ, List.getElem_cons_zero, List.setIfInBounds_toArray, List.set_cons_zero, List.set_cons_succ]
                    refine Reg.take0 (i := 8) (v := ?_) rfl (by kernel_rfl) (by kernel_rfl) (by kernel_rfl) (by kernel_rfl) (fun _ _ _ h => h) (Or.inl ⟨by rfl, ?_⟩) ?_
                    rotate_left
                    · (intro w _; go_simp; try with_reducible rfl)
                    try simp only [Act.put, List.getElem_toArray, List.getElem_cons_succ, List.getElem_cons_zero, List.setIfInBounds_toArray, List.set_cons_zero, List.set_cons_succ]
                    refine Reg.done (by kernel_rfl) ?_ _
                    go_wp2_with fail
                    refine (f31_ok w7 b7 t7 (Lib.hid (by have := h45k.out; omega))).mono ?_; rintro e w9 ⟨rfl, hO9⟩
                    have hP9 := Lib.hid (hP7.out.spoil hO9 (.inr rfl) h5q.out)
                    have hB9 : Hid (Below w.heap.size w w9) := Lib.hid (hB7.out.trans (hO9.belowN hB7.out.size fun j hj h => by have h8 := hb5.out; have h7 := hBA.out.size; omega))
                    clear hO9
                    go_wp2_with fail
                    go_meet
                    exact ⟨rfl, _, R2, Q2, Lib.hid (hP9.out.up (by omega)), hB9⟩
                · have hfull : Hid (usedQ Q2.recs + takesN m ≤ z) := Lib.hid (by omega)
                  as_aux_lemma =>
                    refine Reg.start (S := (fun w' => w'.cell? ⟨sb, 2, none⟩ = some (.slice (some ⟨xb, xo, none⟩) m q))) (B := (fun _ => false)) (by kernel_rfl) ?_
                    have hbd : Below wC.heap.size wC wC.drew := (Below.refl _ _).drew
                    have hPE := Lib.hid (hPC.out.call hbd)
                    have hBE : Hid (Below w.heap.size w wC.drew) := Lib.hid hBCw.out.drew
                    have yE : wC.drew.cell? ⟨sb, 2, none⟩ = some (.slice (some ⟨xb, xo, none⟩) m q) := yC
                    have bE : Hid (Bts wC.drew b5 0 m (fun i => l.getD i 0)) := Lib.hid hbC.out
                    have bxE : Hid (Bts wC.drew xb xo m (fun i => l.getD i 0)) := Lib.hid hbxC.out
                    have kE : Hid (KindAt wC.drew b5 5) := Lib.hid kC.out
                    have tE : Hid (Thaw wC.drew b5) := Lib.hid tC.out
                    clear hbd
                    clear hcl
                    revert hPE hBE yE bE bxE kE tE
                    generalize wC.drew = wE
                    intro hPE hBE yE bE bxE kE tE
                    refine Reg.take0 (i := 0) (v := ?_) rfl (by kernel_rfl) (by kernel_rfl) (by kernel_rfl) (by kernel_rfl) (fun _ _ _ h => h) (Or.inl ⟨by rfl, ?_⟩) ?_
                    rotate_left
                    · (intro w _; go_simp; try with_reducible rfl)
                    try simp only [Act.put, List.getElem_toArray, List.getElem_cons_succ, List.getElem_cons_zero, List.setIfInBounds_toArray, List.set_cons_zero, List.set_cons_succ]
                    refine Reg.take0 (i := 1) (v := ?_) rfl (by kernel_rfl) (by kernel_rfl) (by kernel_rfl) (by kernel_rfl) (fun _ _ _ h => h) (Or.inl ⟨by rfl, ?_⟩) ?_
                    rotate_left
                    · (intro w _; go_simp; try with_reducible rfl)
                    try simp only [Act.put, List.getElem_toArray, List.getElem_cons_succ, List.getElem_cons_zero, List.setIfInBounds_toArray, List.set_cons_zero, List.set_cons_succ]
                    refine Reg.take0 (i := 3) (v := ?_) rfl (by kernel_rfl) (by kernel_rfl) (by kernel_rfl) (by kernel_rfl) (fun _ _ _ h => h) (Or.inl ⟨by rfl, ?_⟩) ?_
                    rotate_left
                    · (intro w _; go_simp; try with_reducible rfl)
                    try simp only [Act.put, List.getElem_toArray, List.getElem_cons_succ, List.getElem_cons_zero, List.setIfInBounds_toArray, List.set_cons_zero, List.set_cons_succ]
                    refine Reg.take0 (i := 4) (v := ?_) rfl (by kernel_rfl) (by kernel_rfl) (by kernel_rfl) (by kernel_rfl) (fun _ _ _ h => h) (Or.inl ⟨by rfl, ?_⟩) ?_
                    rotate_left
                    · (intro w _; go_simp; try with_reducible rfl)
                    try simp only [Act.put, List.getElem_toArray, List.getElem_cons_succ, List.getElem_cons_zero, List.setIfInBounds_toArray, List.set_cons_zero, List.set_cons_succ]
                    refine Reg.take1 (i := 5) (v := ?_) rfl (by kernel_rfl) (by kernel_rfl) (by kernel_rfl) (by kernel_rfl) (by kernel_rfl) (fun _ _ _ h => h) (Or.inl ⟨by rfl, ?_⟩) yE ?_
                    rotate_left
                    · (intro w hS; have hs1 := hS; go_simp; try with_reducible rfl)
                    try simp only [Act.put, List.getElem_toArray, List.getElem_cons_succ, List.getElem_cons_zero, List.setIfInBounds_toArray, List.set_cons_zero, List.set_cons_succ]
                    refine Reg.only (i := 2) (by kernel_rfl) rfl (fun K hK => ?_)
                    go_simp
                    refine (output_ok wE (Lib.hid hPE.out.ring) (Lib.hid hPE.out.rg_) bE hby kE hmm (Lib.hid (by rw [hPE.out.sz, hPl.out.2.2.1]; exact hfull.out)) (Lib.hid (by have := hRl.out; have := hk60.out; omega)) (c := cc)).mono ?_; rintro e w6 ⟨rfl, hO6, R6, rxb, rbs, rrb, rbb, rf, hR6, hS6, hrows6, hrs6, hf6⟩
                    simp only []
                    refine hK _ _ (fun _ hS => (hO6.cell (p := ⟨sb, 2, none⟩) (World.block_lt_of_cell? _ _ hS) (fun h => h (.inl (.inr rfl)))).trans hS) ?_
                    clear hK K
                    try simp only [Act.put, List.getElem_toArray, List.getElem_cons_succ, List.getElem_cons_zero, List.setIfInBounds_toArray, List.set_cons_zero, List.set_cons_succ]
                    have hq6 := Lib.hid (hPE.out.refAt hO6)
                    have hB6 : Hid (Below w.heap.size w w6) := Lib.hid (hBE.out.trans (hO6.belowN hBE.out.size fun j hj h => h (.inl (hlow.out j hj))))
                    have b6 : Hid (Bts w6 b5 0 m (fun i => l.getD i 0)) := Lib.hid fun i hi => (hO6.cell (p := ⟨b5, 0 + i, none⟩) kE.out.lt (fun h => h (.inr rfl))).trans (bE.out i hi)
                    have bx6 : Hid (Bts w6 xb xo m (fun i => l.getD i 0)) := Lib.hid fun i hi => (hO6.cell (p := ⟨xb, xo + i, none⟩) (World.block_lt_of_cell? _ _ (bxE.out i hi)) (fun h => h (.inl hxp.out))).trans (bxE.out i hi)
                    have t6 : Hid (Thaw w6 b5) := Lib.hid (tE.out.only hO6 kE.out.lt (fun h => h (.inr rfl)))
                    have k6 : Hid (KindAt w6 b5 5) := Lib.hid (hO6.kind _ _ (by decide) kE.out)
                    have hO6_ := hO6
                    clear hO6
                    have hO6 := Lib.hid hO6_
                    clear hO6_
                    have hR6_ := hR6
                    clear hR6
                    have hR6 := Lib.hid hR6_
                    clear hR6_
                    have hS6_ := hS6
                    clear hS6
                    have hS6 := Lib.hid hS6_
                    clear hS6_
                    have hrows6_ := hrows6
                    clear hrows6
                    have hrows6 := Lib.hid hrows6_
                    clear hrows6_
                    have hrs6_ := hrs6
                    clear hrs6
                    have hrs6 := Lib.hid hrs6_
                    clear hrs6_
                    have hf6_ := hf6
                    clear hf6
                    have hf6 := Lib.hid hf6_
                    clear hf6_
                    refine Reg.only (i := 6) (by kernel_rfl) rfl (fun K hK => ?_)
                    go_simp
                    refine (Calls.at (f30_ok w6 hq6 (Lib.hid (by have := hPl.out; omega)) (Lib.hid (by have := hPl.out; omega)) hmm (Lib.hid (by rw [hPE.out.qsz]; exact hfull.out)) (Lib.hid (by have := hRl.out; have := hk60.out; omega)) (Lib.hid hPE.out.ids) bx6 hby hxq (c := q)) (a' := #[.pointer (some ⟨qb, 0, none⟩), .slice (some ⟨xb, xo, none⟩) m q]) (by rw [hPE.out.qb_])).mono ?_; rintro e w7 ⟨rfl, hO7, Q7, hQ7, hown7, hq7, hn7, hz7, bv, bbq, fq, p7, hrecs7, hparts7, hpn7, hpl7, hpf7, hfq7⟩
                    simp only []
                    refine hK _ _ (fun _ hS => (hO7.cell (p := ⟨sb, 2, none⟩) (World.block_lt_of_cell? _ _ hS) (fun h => hsbq.out h)).trans hS) ?_
                    clear hK K
                    try simp only [Act.put, List.getElem_toArray, List.getElem_cons_succ, List.getElem_cons_zero, List.setIfInBounds_toArray, List.set_cons_zero, List.set_cons_succ]
                    have efq : (List.range m).map rf = (List.range m).map fq := range_congr fun i hi => (hf6.out i hi).trans (hfq7 i hi).symm
                    have hP7 := Lib.hid (play_more hPE.out hO7 hR6.out (fun _ h => h) hS6.out hQ7 hown7 hq7 hn7 hz7 hrows6.out hrecs7 hrs6.out hparts7 (by unfold keyR keyQ Rec.bytes QR.bytes; simp only [efq, hRl.out.2]) (by unfold rk pk; rw [hpn7, hpl7, hpf7]; simp only [efq]; rfl))
                    have hB7 : Hid (Below w.heap.size w w7) := Lib.hid (hB6.out.trans (hO7.belowN hB6.out.size hqlow.out))
                    have b7 : Hid (Bts w7 b5 0 m (fun i => l.getD i 0)) := Lib.hid fun i hi => (hO7.cell (p := ⟨b5, 0 + i, none⟩) k6.out.lt h5q.out).trans (b6.out i hi)
                    have t7 : Hid (Thaw w7 b5) := Lib.hid (t6.out.only hO7 k6.out.lt h5q.out)
                    have h5q7 : Hid (¬ Q7.own b5) := Lib.hid fun h => (hown7 b5 h).elim h5q.out fun h9 => by have := k6.out.lt; omega
                    clear hO7 hQ7 hown7 hq7 hn7 hz7 hrecs7 hparts7 hpn7 hpl7 hpf7 hfq7 efq
                    refine Reg.take0 (i := 7) (v := ?_) rfl (by kernel_rfl) (by kernel_rfl) (by kernel_rfl) (by kernel_rfl) (fun _ _ _ h => h) (Or.inl ⟨by rfl, ?_⟩) ?_
                    rotate_left
                    · (intro w _; go_simp; try with_reducible rfl)
                    try simp only [Act.put, List.getElem_toArray, List.getElem_cons_succ, List.getElem_cons_zero, List.setIfInBounds_toArray, List.set_cons_zero, List.set_cons_succ]
                    refine Reg.take0 (i := 8) (v := ?_) rfl (by kernel_rfl) (by kernel_rfl) (by kernel_rfl) (by kernel_rfl) (fun _ _ _ h => h) (Or.inl ⟨by rfl, ?_⟩) ?_
                    rotate_left
                    · (intro w _; go_simp; try with_reducible rfl)
                    try simp only [Act.put, List.getElem_toArray, List.getElem_cons_succ, List.getElem_cons_zero, List.setIfInBounds_toArray, List.set_cons_zero, List.set_cons_succ]
                    refine Reg.done (by kernel_rfl) ?_ _
                    go_wp2_with fail
                    refine (f31_ok w7 b7 t7 (Lib.hid (by have := h45k.out; omega))).mono ?_; rintro e w9 ⟨rfl, hO9⟩
                    have hP9 := Lib.hid (hP7.out.spoil hO9 (.inl (.inr rfl)) h5q7.out)
                    have hB9 : Hid (Below w.heap.size w w9) := Lib.hid (hB7.out.trans (hO9.belowN hB7.out.size fun j hj h => by have h8 := hb5.out; have h7 := hBA.out.size; omega))
                    clear hO9
                    go_wp2_with fail
                    go_meet
                    exact ⟨rfl, _, R6, Q7, Lib.hid (hP9.out.up (by omega)), hB9⟩
        by_cases h5 : what = 5
        · subst h5
          as_aux_lemma =>
            have hapx := Lib.hid hPA.out.ring.apx
            go_wp2_with fail
            refine (read_ok wA (Lib.hid hPA.out.ring) (Lib.hid hPA.out.rg_)).mono ?_; rintro e w6 ⟨a6, n6, c6, rfl, hO6, R6, tk, rest, hn6, h6a, h6b, h6c, hrow6, hR6, hS6, hrows6, hrs6, hin6⟩
            have hq6 := Lib.hid (hPA.out.refAt hO6)
            have hB6 : Hid (Below w.heap.size w w6) := Lib.hid (hBA.out.trans (hO6.belowN hBA.out.size fun j hj h => h (hlow.out j hj)))
            have hO6_ := hO6
            clear hO6
            have hO6 := Lib.hid hO6_
            clear hO6_
            have hn6_ := hn6
            clear hn6
            have hn6 := Lib.hid hn6_
            clear hn6_
            have h6a_ := h6a
            clear h6a
            have h6a := Lib.hid h6a_
            clear h6a_
            have h6b_ := h6b
            clear h6b
            have h6b := Lib.hid h6b_
            clear h6b_
            have h6c_ := h6c
            clear h6c
            have h6c := Lib.hid h6c_
            clear h6c_
            have hrow6_ := hrow6
            clear hrow6
            have hrow6 := Lib.hid hrow6_
            clear hrow6_
            have hR6_ := hR6
            clear hR6
            have hR6 := Lib.hid hR6_
            clear hR6_
            have hS6_ := hS6
            clear hS6
            have hS6 := Lib.hid hS6_
            clear hS6_
            have hrows6_ := hrows6
            clear hrows6
            have hrows6 := Lib.hid hrows6_
            clear hrows6_
            have hrs6_ := hrs6
            clear hrs6
            have hrs6 := Lib.hid hrs6_
            clear hrs6_
            have hin6_ := hin6
            clear hin6
            have hin6 := Lib.hid hin6_
            clear hin6_
            go_wp2_with fail
            refine (Calls.at (f32_ok w6 hq6 (Lib.hid (by have := hPl.out; omega))) (a' := #[.pointer (some ⟨qb, 0, none⟩)]) (by rw [hPA.out.qb_])).mono ?_; rintro e w7 ⟨V7, rfl, tq, rq, q7a, q7b, q7c, hrow7, rv7, hQ7, hO7, hrv7⟩
            obtain ⟨hP7, hkeys⟩ := play_read hPA.out hR6.out (fun j h => .inl h) hS6.out h6a.out h6b.out h6c.out hrows6.out hrs6.out q7a q7b q7c hQ7 hO7 hrv7
            have hB7 : Hid (Below w.heap.size w w7) := Lib.hid (hB6.out.trans (hO7.belowN hB6.out.size fun j hj h => hqlow.out j hj (.inl h)))
            have hkq6 : KindAt w6 Q2.qb 102 := hq6.out.kq
            have hx7 : RowAt wA.heap.size 30 w7 (.slice a6 n6 c6) (outsOf tk) := hrow6.out.only hO7 fun j hj he => absurd ((hrow6.out.own hj).1.inj (he ▸ hkq6)) (by decide)
            have hge : w1.heap.size ≤ Q2.qb := hq6.out.ge _ (.inl rfl)
            have hslx : SlL w1.heap.size (fun _ => True) w7 (outsOf tk) ((tk.filter fun r => r.st == 1).map Rec.bytes) := (outs_sl (B := w1.heap.size) (Pr := fun j => Pr j ∨ j = sb) (V := .slice a6 n6 c6) hin6.out).map fun v l h => (h.rows hO7 (e := 102) (by decide) (fun j hj => by subst hj; exact ⟨hge, hkq6⟩)).mono fun _ _ _ => trivial
            have hsly : SlL w1.heap.size (fun _ => True) w7 (outsQ tq) ((tk.filter fun r => r.st == 1).map Rec.bytes) := by
              rw [cont_keys hkeys]
              exact outsQ_sl fun q hq => by
                have h1 := hq6.out.recs q (by rw [q7a]; exact List.mem_append_left _ hq)
                exact h1.only hO7 fun hs he => absurd ((h1.done hs).2.2.1.inj (he ▸ hkq6)) (by decide)
            obtain ⟨a7, c7, e7⟩ := hrow7.len
            have hlen7 : (outsQ tq).length = n6 := by rw [hsly.1, ← hslx.1, hn6.out]
            rw [hlen7] at e7
            subst e7
            have htl : n6 ≤ 512 := by
              rw [hn6.out]
              have h1 := outs_len tk
              have h2 := congrArg List.length h6a.out
              rw [List.length_append] at h2
              have h3 := hPl.out
              have h4 := hPA.out.len.1
              omega
            have hbs7 : ∀ (j : Nat) r, (tk.filter fun r => r.st == 1)[j]? = some r → Bts w7 r.bs 0 r.n r.g ∧ Thaw w7 r.bs ∧ KindAt w7 r.bs 5 ∧ (r.n ≤ 4096) ∧ (Given (fun j => Pr j ∨ j = sb) tk (.slice a6 n6 c6) r.bs) ∧ ¬ Q2.own r.bs := fun j r hr => by
              obtain ⟨h1, h2⟩ := List.mem_filter.1 (List.mem_of_getElem? hr)
              have h3 : r.st = 1 := by simpa using h2
              obtain ⟨g1, g2, g3, g4, g5, g6⟩ := hin6.out r h1 (by omega)
              have hne : ¬ r.bs = Q2.qb := fun he => absurd (g2.inj (he ▸ hkq6)) (by decide)
              exact ⟨fun i hi => (hO7.cell (p := ⟨r.bs, 0 + i, none⟩) g2.lt hne).trans (g1 i hi), g3.only hO7 g2.lt hne, hO7.kind _ _ (by decide) g2, g5.2, .inr (.inl ⟨r, h1, rfl⟩), fun h => g4 (hPA.out.own _ h)⟩
            have hpair : ∀ (i j : Nat) a b, i < j → (tk.filter fun r => r.st == 1)[i]? = some a → (tk.filter fun r => r.st == 1)[j]? = some b → a.bs ≠ b.bs := fun i j a b hij ha hb => by
              have hp : (tk.filter fun r => r.st == 1).Pairwise fun a b => a.bs ≠ b.bs := by
                have h1 := hapx.out
                rw [h6a.out] at h1
                have h2 := (List.pairwise_append.1 h1).1
                exact List.Pairwise.imp_of_mem (fun {a b} ha hb h => h.2.2 (by have := (List.mem_filter.1 ha).2; simp at this; omega) (by have := (List.mem_filter.1 hb).2; simp at this; omega)) (h2.sublist List.filter_sublist)
              obtain ⟨b1, b2⟩ := List.getElem?_eq_some_iff.1 ha
              obtain ⟨b3, b4⟩ := List.getElem?_eq_some_iff.1 hb
              have := List.pairwise_iff_getElem.1 hp i j b1 b3 hij
              rw [b2, b4] at this; exact this
            have hown7 : ∀ j, ({ Q2 with recs := rq, rv := rv7 } : RefS).own j → Q2.own j := fun j hj => by
              rcases hj with hi | hi | hi | hi | hi | ⟨a, ha, has, hi⟩
              · exact .inl hi
              · exact .inr (.inl hi)
              · exact .inr (.inr (.inl (hrv7 j hi)))
              · exact .inr (.inr (.inr (.inl hi)))
              · exact .inr (.inr (.inr (.inr (.inl hi))))
              · exact .inr (.inr (.inr (.inr (.inr ⟨a, by rw [q7a]; exact List.mem_append_right _ ha, has, hi⟩))))
            have hP7_ := hP7
            clear hP7
            have hP7 := Lib.hid hP7_
            clear hP7_
            have hx7_ := hx7
            clear hx7
            have hx7 := Lib.hid hx7_
            clear hx7_
            have hrow7_ := hrow7
            clear hrow7
            have hrow7 := Lib.hid hrow7_
            clear hrow7_
            have hslx_ := hslx
            clear hslx
            have hslx := Lib.hid hslx_
            clear hslx_
            have hsly_ := hsly
            clear hsly
            have hsly := Lib.hid hsly_
            clear hsly_
            have htl_ := htl
            clear htl
            have htl := Lib.hid htl_
            clear htl_
            have hbs7_ := hbs7
            clear hbs7
            have hbs7 := Lib.hid hbs7_
            clear hbs7_
            have hpair_ := hpair
            clear hpair
            have hpair := Lib.hid hpair_
            clear hpair_
            have hown7_ := hown7
            clear hown7
            have hown7 := Lib.hid hown7_
            clear hown7_
            clear hkeys q7a q7b q7c hQ7 hO7 hrv7 hkq6 hge hlen7
            have hnn6 : Hid ((outsOf tk).length = n6 ∧ n6 < 2 ^ 40) := Lib.hid ⟨hn6.out.symm, by have := htl.out; omega⟩
            go_wp2_with fail
            refine (f18_ok w7 hx7 hrow7 hnn6 hslx hsly).mono ?_; rintro e w8 ⟨rfl, hb8⟩
            have hP8 := Lib.hid (hP7.out.call hb8)
            have hB8 : Hid (Below w.heap.size w w8) := Lib.hid (hB7.out.trans (hb8.mono hB7.out.size))
            have hx8 := Lib.hid (hx7.out.below hb8)
            have hbs8 : Hid (∀ (j : Nat) r, (tk.filter fun r => r.st == 1)[j]? = some r → Bts w8 r.bs 0 r.n r.g ∧ Thaw w8 r.bs ∧ KindAt w8 r.bs 5) := Lib.hid fun j r hr => by
              obtain ⟨g1, g2, g3, _⟩ := hbs7.out j r hr
              exact ⟨fun i hi => (hb8.cell g3.lt).trans (g1 i hi), g2.only (S := fun _ => False) (Only.of_below hb8) g3.lt (fun h => h), g3.below hb8⟩
            clear hb8
            go_wp2_with fail
            go_loopg [21] n6 (fun g i wr => ∃ j : Nat, Hid (g = n6 - j) ∧ j ≤ n6 ∧ i = .int .i64 j ∧ Hid (Play w1.heap.size (fun j => Given (fun j => Pr j ∨ j = sb) tk (.slice a6 n6 c6) j ∨ ({ Q2 with recs := rq, rv := rv7 } : RefS).own j) wr R6 { Q2 with recs := rq, rv := rv7 } rg mb qb nb z k) ∧ Hid (Below w.heap.size w wr) ∧ Hid (RowAt wA.heap.size 30 wr (.slice a6 n6 c6) (outsOf tk)) ∧ Hid (∀ (i : Nat) r, j ≤ i → (tk.filter fun r => r.st == 1)[i]? = some r → Bts wr r.bs 0 r.n r.g ∧ Thaw wr r.bs ∧ KindAt wr r.bs 5))
            case atStart => exact ⟨0, Lib.hid rfl, Nat.zero_le _, rfl, hP8, hB8, hx8, Lib.hid fun i r _ h => hbs8.out i r h⟩
            case round =>
              obtain ⟨j, hg9, hj9, rfl, hP9, hB9, hx9, hbs9⟩ := hrel
              by_cases hlt9 : j < n6
              · have hlt9' : (j : Int) < (n6 : Int) := by omega
                have hjl : j < (tk.filter fun r => r.st == 1).length := by
                  have h1 := hn6.out
                  unfold outsOf at h1
                  rw [List.length_map] at h1
                  omega
                obtain ⟨r, hr⟩ : ∃ r, (tk.filter fun r => r.st == 1)[j]? = some r := ⟨_, List.getElem?_eq_getElem hjl⟩
                obtain ⟨gx, ox, rfl, -, xe⟩ := hx9.out.at' (j := j) (x := r.outV) (by unfold outsOf; rw [List.getElem?_map, hr]; rfl)
                obtain ⟨t1, t2, t3⟩ := hbs9.out j r (Nat.le_refl _) hr
                obtain ⟨_, _, _, s4, s5, s6⟩ := hbs7.out j r hr
                obtain ⟨bs, hbs⟩ : ∃ bs, r.bs = bs := ⟨_, rfl⟩
                obtain ⟨rn, hrn⟩ : ∃ rn, r.n = rn := ⟨_, rfl⟩
                obtain ⟨rg', hrg'⟩ : ∃ g, r.g = g := ⟨_, rfl⟩
                have hr := Lib.hid hr
                unfold Rec.outV at xe
                rw [hbs, hrn] at xe
                rw [hbs, hrn, hrg'] at t1
                rw [hbs] at t2 t3 s5 s6
                rw [hrn] at s4
                have hbs := Lib.hid hbs
                have t1 := Lib.hid t1
                have t2 := Lib.hid t2
                have t3 := Lib.hid t3
                have s4 := Lib.hid s4
                have s5 := Lib.hid s5
                have s6 := Lib.hid s6
                clear hrn hrg' hjl
                go_wp2_with fail
                refine (f31_ok wr t1 t2 (Lib.hid (by have := s4.out; omega))).mono ?_; rintro e w9 ⟨rfl, hO9⟩
                have hP10 := Lib.hid (hP9.out.spoil hO9 (.inl s5.out) fun h => s6.out (hown7.out _ h))
                have hB10 : Hid (Below w.heap.size w w9) := Lib.hid (hB9.out.trans (hO9.belowN hB9.out.size fun i hi h => by
                  have h1 : ¬ i < w.heap.size := fun h2 => by
                    have h3 := hR6.out.low i (Nat.lt_of_lt_of_le h2 hb1s.out)
                    subst h
                    have h4 := hlow.out _ h2
                    obtain ⟨h5, h6⟩ := List.mem_filter.1 (List.mem_of_getElem? hr.out)
                    have h7 : r.st = 1 := by simpa using h6
                    exact (hin6.out r h5 (by omega)).2.2.2.1 (by rw [hbs.out]; exact h4)
                  exact h1 hi))
                have hx10 : Hid (RowAt wA.heap.size 30 w9 (.slice (some ⟨gx, ox, none⟩) n6 c6) (outsOf tk)) := Lib.hid (hx9.out.only hO9 fun i hi he => absurd ((hx9.out.own hi).1.inj (he ▸ t3.out)) (by decide))
                have hbs10 : Hid (∀ (i : Nat) r, j + 1 ≤ i → (tk.filter fun r => r.st == 1)[i]? = some r → Bts w9 r.bs 0 r.n r.g ∧ Thaw w9 r.bs ∧ KindAt w9 r.bs 5) := Lib.hid fun i a hi ha => by
                  obtain ⟨g1, g2, g3⟩ := hbs9.out i a (by omega) ha
                  have hne : ¬ a.bs = bs := fun he => hpair.out j i r a (by omega) hr.out ha (hbs.out.trans he.symm)
                  exact ⟨fun x hx => (hO9.cell (p := ⟨a.bs, 0 + x, none⟩) g3.lt hne).trans (g1 x hx), g2.only hO9 g3.lt hne, hO9.kind _ _ (by decide) g3⟩
                have hn512 := htl.out
                clear hO9
                go_wp2_with fail
                go_roundg (n6 - (j + 1))
                case measure => rw [hg9.out]; omega
                case rel => exact ⟨j + 1, Lib.hid rfl, hlt9, by go_num, hP10, hB10, hx10, hbs10⟩
              · have hjn : n6 = j := by omega
                subst hjn
                go_wp2_with fail
                go_meet
                exact ⟨rfl, _, R6, _, Lib.hid (hP9.out.up (Nat.le_succ _)), hB9⟩
        have e0 : (what == 0) = false := by simp; exact h0
        have e1 : (what == 1) = false := by simp; exact h1
        have e2 : (what == 2) = false := by simp; exact h2
        have e3 : (what == 3) = false := by simp; exact h3
        have e4 : (what == 4) = false := by simp; exact h4
        have e5 : (what == 5) = false := by simp; exact h5
        as_aux_lemma =>
          by_cases hout : N < 1 ∨ (R2.rs.length : Int) < N
          · have hout := Lib.hid hout
            as_aux_lemma =>
              go_wp2_with fail
              refine Reg.start (S := (fun w' => w'.cell? ⟨sb, 1, none⟩ = some (.int .i64 N) ∧ w'.cell? ⟨sb, 2, none⟩ = some (.slice sa m q))) (B := (fun _ => false)) (by kernel_rfl) ?_
              have hbd : Below wA.heap.size wA wA.drew := (Below.refl _ _).drew
              have hPD := Lib.hid (hPA.out.call hbd)
              have hBD : Hid (Below w.heap.size w wA.drew) := Lib.hid hBA.out.drew
              have yD : wA.drew.cell? ⟨sb, 1, none⟩ = some (.int .i64 N) := y1
              have yE : wA.drew.cell? ⟨sb, 2, none⟩ = some (.slice sa m q) := y2
              have hslD : SlB w1.heap.size (fun j => Pr j ∨ j = sb) wA.drew (.slice sa m q) l := hslA.out.below hbd
              obtain ⟨wD, hwD⟩ : ∃ wD, wA.drew = wD := ⟨_, rfl⟩
              rw [hwD] at hPD hBD yD yE hslD
              rw [hwD]
              have hslD := Lib.hid hslD
              clear hwD hbd
              obtain ⟨vC, wC, hcl, hBC⟩ : ∃ v w', (Builtin.append_ #[30, 30] 30 #[.slice none 0 0, .slice sa m q]).run Try.prog wD = .ok v w' ∧ Below wD.heap.size wD w' := by
                rcases clone_any hslD.out (by have := h45k.out; omega) with ⟨_, h⟩ | ⟨cc, xb, xo, w', _, _, _, _, _, h, _, _, _, hb⟩
                · exact ⟨_, _, h 30, Below.refl _ _⟩
                · exact ⟨_, _, h 30, hb⟩
              obtain ⟨va, vn, vc, rfl⟩ : ∃ a n c, vC = .slice a n c := by
                rcases clone_any hslD.out (by have := h45k.out; omega) with ⟨_, h⟩ | ⟨cc, xb, xo, w', _, _, _, _, _, h, _, _, _, hb⟩
                · have := (h 30).symm.trans hcl; simp only [Result.ok.injEq] at this; exact ⟨_, _, _, this.1.symm⟩
                · have := (h 30).symm.trans hcl; simp only [Result.ok.injEq] at this; exact ⟨_, _, _, this.1.symm⟩
              have hPC := Lib.hid (hPD.out.call hBC)
              have hBC2 : Hid (Below w.heap.size w wC) := Lib.hid (hBD.out.trans (hBC.mono hBD.out.size))
              refine Reg.take0 (i := 0) (v := ?_) rfl (by kernel_rfl) (by kernel_rfl) (by kernel_rfl) (by kernel_rfl) (fun _ _ _ h => h) (Or.inl ⟨by rfl, ?_⟩) ?_
              rotate_left
              · (intro w _; go_simp; try with_reducible rfl)
              try simp only [Act.put, List.getElem_toArray, List.getElem_cons_succ, List.getElem_cons_zero, List.setIfInBounds_toArray, List.set_cons_zero, List.set_cons_succ]
              refine Reg.take0 (i := 1) (v := ?_) rfl (by kernel_rfl) (by kernel_rfl) (by kernel_rfl) (by kernel_rfl) (fun _ _ _ h => h) (Or.inl ⟨by rfl, ?_⟩) ?_
              rotate_left
              · (intro w _; go_simp; try with_reducible rfl)
              try simp only [Act.put, List.getElem_toArray, List.getElem_cons_succ, List.getElem_cons_zero, List.setIfInBounds_toArray, List.set_cons_zero, List.set_cons_succ]
              refine Reg.take1 (i := 2) (v := ?_) rfl (by kernel_rfl) (by kernel_rfl) (by kernel_rfl) (by kernel_rfl) (by kernel_rfl) (fun _ _ _ h => h) (Or.inl ⟨by rfl, ?_⟩) ⟨yD, yE⟩ ?_
              rotate_left
              · (intro w hS; obtain ⟨hs1, hs2⟩ := hS; go_simp; try with_reducible rfl)
              try simp only [Act.put, List.getElem_toArray, List.getElem_cons_succ, List.getElem_cons_zero, List.setIfInBounds_toArray, List.set_cons_zero, List.set_cons_succ]
              refine Reg.take0 (i := 3) (v := ?_) rfl (by kernel_rfl) (by kernel_rfl) (by kernel_rfl) (by kernel_rfl) (fun _ _ _ h => h) (Or.inl ⟨by rfl, ?_⟩) ?_
              rotate_left
              · (intro w _; go_simp; try with_reducible rfl)
              try simp only [Act.put, List.getElem_toArray, List.getElem_cons_succ, List.getElem_cons_zero, List.setIfInBounds_toArray, List.set_cons_zero, List.set_cons_succ]
              refine Reg.take1 (i := 4) (v := ?_) rfl (by kernel_rfl) (by kernel_rfl) (by kernel_rfl) (by kernel_rfl) (by kernel_rfl) (fun _ _ _ h => h) (Or.inl ⟨by rfl, ?_⟩) ⟨yD, yE⟩ ?_
              rotate_left
              · (intro w hS; obtain ⟨hs1, hs2⟩ := hS; go_simp; try with_reducible rfl)
              try simp only [Act.put, List.getElem_toArray, List.getElem_cons_succ, List.getElem_cons_zero, List.setIfInBounds_toArray, List.set_cons_zero, List.set_cons_succ]
              refine Reg.take0 (i := 7) (v := ?_) rfl (by kernel_rfl) (by kernel_rfl) (by kernel_rfl) (by kernel_rfl) (fun _ _ _ h => h) (Or.inl ⟨by rfl, ?_⟩) ?_
              rotate_left
              · (intro w _; go_simp; try with_reducible rfl)
              try simp only [Act.put, List.getElem_toArray, List.getElem_cons_succ, List.getElem_cons_zero, List.setIfInBounds_toArray, List.set_cons_zero, List.set_cons_succ]
              refine Reg.take0 (i := 8) (v := ?_) rfl (by kernel_rfl) (by kernel_rfl) (by kernel_rfl) (by kernel_rfl) (fun _ _ _ h => h) (Or.inl ⟨by rfl, ?_⟩) ?_
              rotate_left
              · (intro w _; go_simp; try with_reducible rfl)
              try simp only [Act.put, List.getElem_toArray, List.getElem_cons_succ, List.getElem_cons_zero, List.setIfInBounds_toArray, List.set_cons_zero, List.set_cons_succ]
              refine Reg.take1 (i := 9) (v := ?_) rfl (by kernel_rfl) (by kernel_rfl) (by kernel_rfl) (by kernel_rfl) (by kernel_rfl) (fun _ _ _ h => h) (Or.inl ⟨by rfl, ?_⟩) ⟨yD, yE⟩ ?_
              rotate_left
              · (intro w hS; obtain ⟨hs1, hs2⟩ := hS; go_simp; try with_reducible rfl)
              try simp only [Act.put, List.getElem_toArray, List.getElem_cons_succ, List.getElem_cons_zero, List.setIfInBounds_toArray, List.set_cons_zero, List.set_cons_succ]
              refine Reg.take0 (i := 10) (v := ?_) rfl (by kernel_rfl) (by kernel_rfl) (by kernel_rfl) (by kernel_rfl) (fun _ _ _ h => h) (Or.inl ⟨by rfl, ?_⟩) ?_
              rotate_left
              · (intro w _; go_simp; try with_reducible rfl)
              try simp only [Act.put, List.getElem_toArray, List.getElem_cons_succ, List.getElem_cons_zero, List.setIfInBounds_toArray, List.set_cons_zero, List.set_cons_succ]
              refine Reg.take1 (i := 11) (v := ?_) rfl (by kernel_rfl) (by kernel_rfl) (by kernel_rfl) (by kernel_rfl) (by kernel_rfl) (fun _ _ _ h => h) (Or.inl ⟨by rfl, ?_⟩) ⟨yD, yE⟩ ?_
              rotate_left
              · (intro w hS; obtain ⟨hs1, hs2⟩ := hS; go_simp; try with_reducible rfl)
              try simp only [Act.put, List.getElem_toArray, List.getElem_cons_succ, List.getElem_cons_zero, List.setIfInBounds_toArray, List.set_cons_zero, List.set_cons_succ]
              refine Reg.only (i := 5) (by kernel_rfl) rfl (fun K hK => ?_)
              rw [if_pos (by rfl)]
              refine wp_append_run (.const (.slice none 0 0)) (.tmp 70) 30 rfl _ _ _ rfl rfl hcl ?_
              refine hK _ _ (fun _ hS => ⟨(hBC.cell (World.block_lt_of_cell? _ _ hS.1)).trans hS.1, (hBC.cell (World.block_lt_of_cell? _ _ hS.2)).trans hS.2⟩) ?_
              clear hK K
              try simp only [Act.put, List.getElem_toArray, List.getElem_cons_succ, List.getElem_cons_zero, List.setIfInBounds_toArray, List.set_cons_zero, List.set_cons_succ]
              refine Reg.only (i := 6) (by kernel_rfl) rfl (fun K hK => ?_)
              go_simp
              refine (Calls.at (f20_none (Lib.hid hPC.out.ring.mem) (i := N) (Lib.hid (by rw [RingS.l_len]; exact hout.out)) (a := va) (m := vn) (c := vc)) (a' := #[.pointer (some ⟨mb, 0, none⟩), .int .i64 N, .int .i64 0, .slice va vn vc]) (by rw [hPC.out.mb_])).mono ?_; rintro e w6 ⟨rfl, rfl⟩
              simp only []
              refine hK _ _ (fun _ hS => hS) ?_
              clear hK K
              try simp only [Act.put, List.getElem_toArray, List.getElem_cons_succ, List.getElem_cons_zero, List.setIfInBounds_toArray, List.set_cons_zero, List.set_cons_succ]
              refine Reg.only (i := 12) (by kernel_rfl) rfl (fun K hK => ?_)
              go_simp
              refine (Calls.at (f33_none wC (Lib.hid hPC.out.ref) (i := N) (Lib.hid (by rw [← hRl.out.2]; exact hout.out)) (a := sa) (m := m) (c := q)) (a' := #[.pointer (some ⟨nb, 0, none⟩), .int .i64 N, .int .i64 0, .slice sa m q]) (by rw [hPC.out.nb_])).mono ?_; rintro e w6 ⟨rfl, rfl⟩
              simp only []
              refine hK _ _ (fun _ hS => hS) ?_
              clear hK K
              try simp only [Act.put, List.getElem_toArray, List.getElem_cons_succ, List.getElem_cons_zero, List.setIfInBounds_toArray, List.set_cons_zero, List.set_cons_succ]
              refine Reg.take0 (i := 13) (v := ?_) rfl (by kernel_rfl) (by kernel_rfl) (by kernel_rfl) (by kernel_rfl) (fun _ _ _ h => h) (Or.inl ⟨by rfl, ?_⟩) ?_
              rotate_left
              · (intro w _; go_simp; try with_reducible rfl)
              try simp only [Act.put, List.getElem_toArray, List.getElem_cons_succ, List.getElem_cons_zero, List.setIfInBounds_toArray, List.set_cons_zero, List.set_cons_succ]
              refine Reg.take0 (i := 14) (v := ?_) rfl (by kernel_rfl) (by kernel_rfl) (by kernel_rfl) (by kernel_rfl) (fun _ _ _ h => h) (Or.inl ⟨by rfl, ?_⟩) ?_
              rotate_left
              · (intro w _; go_simp; try with_reducible rfl)
              try simp only [Act.put, List.getElem_toArray, List.getElem_cons_succ, List.getElem_cons_zero, List.setIfInBounds_toArray, List.set_cons_zero, List.set_cons_succ]
              refine Reg.done (by kernel_rfl) ?_ _
              go_wp2_with fail
              go_meet
              exact ⟨rfl, _, R2, Q2, Lib.hid (hPC.out.up (Nat.le_succ _)), hBC2⟩
          · obtain ⟨j, hij, hj⟩ : ∃ j : Nat, N = j + 1 ∧ j < R2.rs.length := ⟨(N - 1).toNat, by omega, by omega⟩
            obtain ⟨x, hx⟩ : ∃ x, R2.rs[j]? = some x := ⟨_, List.getElem?_eq_getElem hj⟩
            obtain ⟨p, hp, hxp⟩ := parts_at hPA.out.regs hx
            have x1 : x.n = p.n := congrArg (fun t : Nat × Bool × List Nat => t.1) hxp
            have hxpos : Hid (1 ≤ x.n ∧ x.n ≤ 4096) := Lib.hid (by rw [x1]; exact (hPA.out.ref.parts p (List.mem_of_getElem? hp)).pos)
            have hlj : Hid (R2.l[j]? = some (false, x.rb)) := Lib.hid (by unfold RingS.l; rw [List.getElem?_map, hx]; rfl)
            have hlne : Hid (R2.l ≠ []) := Lib.hid fun h => by have := hlj.out; rw [h] at this; simp at this
            have hij_ := hij
            clear hij
            have hij := Lib.hid hij_
            clear hij_
            have hx_ := hx
            clear hx
            have hx := Lib.hid hx_
            clear hx_
            have hp_ := hp
            clear hp
            have hp := Lib.hid hp_
            clear hp_
            have hxp_ := hxp
            clear hxp
            have hxp := Lib.hid hxp_
            clear hxp_
            have x1_ := x1
            clear x1
            have x1 := Lib.hid x1_
            clear x1_
            clear hout hj
            by_cases hzero : m = 0
            · have hzero := Lib.hid hzero
              as_aux_lemma =>
                go_wp2_with fail
                refine Reg.start (S := (fun w' => w'.cell? ⟨sb, 1, none⟩ = some (.int .i64 N) ∧ w'.cell? ⟨sb, 2, none⟩ = some (.slice sa m q))) (B := (fun _ => false)) (by kernel_rfl) ?_
                have hbd : Below wA.heap.size wA wA.drew := (Below.refl _ _).drew
                have hPD := Lib.hid (hPA.out.call hbd)
                have hBD : Hid (Below w.heap.size w wA.drew) := Lib.hid hBA.out.drew
                have yD : wA.drew.cell? ⟨sb, 1, none⟩ = some (.int .i64 N) := y1
                have yE : wA.drew.cell? ⟨sb, 2, none⟩ = some (.slice sa m q) := y2
                have hslD : SlB w1.heap.size (fun j => Pr j ∨ j = sb) wA.drew (.slice sa m q) l := hslA.out.below hbd
                obtain ⟨wD, hwD⟩ : ∃ wD, wA.drew = wD := ⟨_, rfl⟩
                rw [hwD] at hPD hBD yD yE hslD
                rw [hwD]
                have hslD := Lib.hid hslD
                clear hwD hbd
                rcases clone_any hslD.out (by have := h45k.out; omega) with ⟨hm0, hcl⟩ | ⟨cc, xb, xo, wC, hm1, _⟩
                rotate_left
                · exact absurd hzero.out (by omega)
                obtain rfl := hm0
                have hcl := hcl 30
                have hPC := hPD
                have hXC := hPD.out.ring.regs x (List.mem_of_getElem? hx.out)
                obtain ⟨abC, htabC⟩ := hPD.out.ring.mem.tab hlne.out
                have htabC := Lib.hid htabC
                have hXC := Lib.hid hXC.1
                refine Reg.take0 (i := 0) (v := ?_) rfl (by kernel_rfl) (by kernel_rfl) (by kernel_rfl) (by kernel_rfl) (fun _ _ _ h => h) (Or.inl ⟨by rfl, ?_⟩) ?_
                rotate_left
                · (intro w _; go_simp; try with_reducible rfl)
                try simp only [Act.put, List.getElem_toArray, List.getElem_cons_succ, List.getElem_cons_zero, List.setIfInBounds_toArray, List.set_cons_zero, List.set_cons_succ]
                refine Reg.take0 (i := 1) (v := ?_) rfl (by kernel_rfl) (by kernel_rfl) (by kernel_rfl) (by kernel_rfl) (fun _ _ _ h => h) (Or.inl ⟨by rfl, ?_⟩) ?_
                rotate_left
                · (intro w _; go_simp; try with_reducible rfl)
                try simp only [Act.put, List.getElem_toArray, List.getElem_cons_succ, List.getElem_cons_zero, List.setIfInBounds_toArray, List.set_cons_zero, List.set_cons_succ]
                refine Reg.take1 (i := 2) (v := ?_) rfl (by kernel_rfl) (by kernel_rfl) (by kernel_rfl) (by kernel_rfl) (by kernel_rfl) (fun _ _ _ h => h) (Or.inl ⟨by rfl, ?_⟩) ⟨yD, yE⟩ ?_
                rotate_left
                · (intro w hS; obtain ⟨hs1, hs2⟩ := hS; go_simp; try with_reducible rfl)
                try simp only [Act.put, List.getElem_toArray, List.getElem_cons_succ, List.getElem_cons_zero, List.setIfInBounds_toArray, List.set_cons_zero, List.set_cons_succ]
                refine Reg.take0 (i := 3) (v := ?_) rfl (by kernel_rfl) (by kernel_rfl) (by kernel_rfl) (by kernel_rfl) (fun _ _ _ h => h) (Or.inl ⟨by rfl, ?_⟩) ?_
                rotate_left
                · (intro w _; go_simp; try with_reducible rfl)
                try simp only [Act.put, List.getElem_toArray, List.getElem_cons_succ, List.getElem_cons_zero, List.setIfInBounds_toArray, List.set_cons_zero, List.set_cons_succ]
                refine Reg.take1 (i := 4) (v := ?_) rfl (by kernel_rfl) (by kernel_rfl) (by kernel_rfl) (by kernel_rfl) (by kernel_rfl) (fun _ _ _ h => h) (Or.inl ⟨by rfl, ?_⟩) ⟨yD, yE⟩ ?_
                rotate_left
                · (intro w hS; obtain ⟨hs1, hs2⟩ := hS; go_simp; try with_reducible rfl)
                try simp only [Act.put, List.getElem_toArray, List.getElem_cons_succ, List.getElem_cons_zero, List.setIfInBounds_toArray, List.set_cons_zero, List.set_cons_succ]
                refine Reg.take0 (i := 7) (v := ?_) rfl (by kernel_rfl) (by kernel_rfl) (by kernel_rfl) (by kernel_rfl) (fun _ _ _ h => h) (Or.inl ⟨by rfl, ?_⟩) ?_
                rotate_left
                · (intro w _; go_simp; try with_reducible rfl)
                try simp only [Act.put, List.getElem_toArray, List.getElem_cons_succ, List.getElem_cons_zero, List.setIfInBounds_toArray, List.set_cons_zero, List.set_cons_succ]
                refine Reg.take0 (i := 8) (v := ?_) rfl (by kernel_rfl) (by kernel_rfl) (by kernel_rfl) (by kernel_rfl) (fun _ _ _ h => h) (Or.inl ⟨by rfl, ?_⟩) ?_
                rotate_left
                · (intro w _; go_simp; try with_reducible rfl)
                try simp only [Act.put, List.getElem_toArray, List.getElem_cons_succ, List.getElem_cons_zero, List.setIfInBounds_toArray, List.set_cons_zero, List.set_cons_succ]
                refine Reg.take1 (i := 9) (v := ?_) rfl (by kernel_rfl) (by kernel_rfl) (by kernel_rfl) (by kernel_rfl) (by kernel_rfl) (fun _ _ _ h => h) (Or.inl ⟨by rfl, ?_⟩) ⟨yD, yE⟩ ?_
                rotate_left
                · (intro w hS; obtain ⟨hs1, hs2⟩ := hS; go_simp; try with_reducible rfl)
                try simp only [Act.put, List.getElem_toArray, List.getElem_cons_succ, List.getElem_cons_zero, List.setIfInBounds_toArray, List.set_cons_zero, List.set_cons_succ]
                refine Reg.take0 (i := 10) (v := ?_) rfl (by kernel_rfl) (by kernel_rfl) (by kernel_rfl) (by kernel_rfl) (fun _ _ _ h => h) (Or.inl ⟨by rfl, ?_⟩) ?_
                rotate_left
                · (intro w _; go_simp; try with_reducible rfl)
                try simp only [Act.put, List.getElem_toArray, List.getElem_cons_succ, List.getElem_cons_zero, List.setIfInBounds_toArray, List.set_cons_zero, List.set_cons_succ]
                refine Reg.take1 (i := 11) (v := ?_) rfl (by kernel_rfl) (by kernel_rfl) (by kernel_rfl) (by kernel_rfl) (by kernel_rfl) (fun _ _ _ h => h) (Or.inl ⟨by rfl, ?_⟩) ⟨yD, yE⟩ ?_
                rotate_left
                · (intro w hS; obtain ⟨hs1, hs2⟩ := hS; go_simp; try with_reducible rfl)
                try simp only [Act.put, List.getElem_toArray, List.getElem_cons_succ, List.getElem_cons_zero, List.setIfInBounds_toArray, List.set_cons_zero, List.set_cons_succ]
                refine Reg.only (i := 5) (by kernel_rfl) rfl (fun K hK => ?_)
                rw [if_pos (by rfl)]
                refine wp_append_run (.const (.slice none 0 0)) (.tmp 70) 30 rfl _ _ _ rfl rfl hcl ?_
                refine hK _ _ (fun _ hS => hS) ?_
                clear hK K
                try simp only [Act.put, List.getElem_toArray, List.getElem_cons_succ, List.getElem_cons_zero, List.setIfInBounds_toArray, List.set_cons_zero, List.set_cons_succ]
                refine Reg.only (i := 6) (by kernel_rfl) rfl (fun K hK => ?_)
                go_simp
                refine (Calls.at (f20_zero wD htabC hij hlj hXC (Lib.hid hxpos.out.1) (a := none) (c := 0)) (a' := #[.pointer (some ⟨mb, 0, none⟩), .int .i64 N, .int .i64 0, .slice none 0 0]) (by rw [hPD.out.mb_])).mono ?_; rintro e w6 ⟨rfl, rfl⟩
                simp only []
                refine hK _ _ (fun _ hS => hS) ?_
                clear hK K
                try simp only [Act.put, List.getElem_toArray, List.getElem_cons_succ, List.getElem_cons_zero, List.setIfInBounds_toArray, List.set_cons_zero, List.set_cons_succ]
                refine Reg.only (i := 12) (by kernel_rfl) rfl (fun K hK => ?_)
                go_simp
                refine (Calls.at (f33_zero wD (Lib.hid hPD.out.ref) (Lib.hid (by have := hRl.out; have := hk60.out; omega)) hij hp (a := sa) (c := q)) (a' := #[.pointer (some ⟨nb, 0, none⟩), .int .i64 N, .int .i64 0, .slice sa 0 q]) (by rw [hPD.out.nb_])).mono ?_; rintro e w6 ⟨rfl, rfl⟩
                simp only []
                refine hK _ _ (fun _ hS => hS) ?_
                clear hK K
                try simp only [Act.put, List.getElem_toArray, List.getElem_cons_succ, List.getElem_cons_zero, List.setIfInBounds_toArray, List.set_cons_zero, List.set_cons_succ]
                refine Reg.take0 (i := 13) (v := ?_) rfl (by kernel_rfl) (by kernel_rfl) (by kernel_rfl) (by kernel_rfl) (fun _ _ _ h => h) (Or.inl ⟨by rfl, ?_⟩) ?_
                rotate_left
                · (intro w _; go_simp; try with_reducible rfl)
                try simp only [Act.put, List.getElem_toArray, List.getElem_cons_succ, List.getElem_cons_zero, List.setIfInBounds_toArray, List.set_cons_zero, List.set_cons_succ]
                refine Reg.take0 (i := 14) (v := ?_) rfl (by kernel_rfl) (by kernel_rfl) (by kernel_rfl) (by kernel_rfl) (fun _ _ _ h => h) (Or.inl ⟨by rfl, ?_⟩) ?_
                rotate_left
                · (intro w _; go_simp; try with_reducible rfl)
                try simp only [Act.put, List.getElem_toArray, List.getElem_cons_succ, List.getElem_cons_zero, List.setIfInBounds_toArray, List.set_cons_zero, List.set_cons_succ]
                refine Reg.done (by kernel_rfl) ?_ _
                go_wp2_with fail
                go_meet
                exact ⟨rfl, _, R2, Q2, Lib.hid (hPD.out.up (Nat.le_succ _)), hBD⟩
            · have hzero := Lib.hid hzero
              by_cases hlong : x.n < m
              · have hlong := Lib.hid hlong
                as_aux_lemma =>
                  go_wp2_with fail
                  refine Reg.start (S := (fun w' => w'.cell? ⟨sb, 1, none⟩ = some (.int .i64 N) ∧ w'.cell? ⟨sb, 2, none⟩ = some (.slice sa m q))) (B := (fun _ => false)) (by kernel_rfl) ?_
                  have hbd : Below wA.heap.size wA wA.drew := (Below.refl _ _).drew
                  have hPD := Lib.hid (hPA.out.call hbd)
                  have hBD : Hid (Below w.heap.size w wA.drew) := Lib.hid hBA.out.drew
                  have yD : wA.drew.cell? ⟨sb, 1, none⟩ = some (.int .i64 N) := y1
                  have yE : wA.drew.cell? ⟨sb, 2, none⟩ = some (.slice sa m q) := y2
                  have hslD : SlB w1.heap.size (fun j => Pr j ∨ j = sb) wA.drew (.slice sa m q) l := hslA.out.below hbd
                  obtain ⟨wD, hwD⟩ : ∃ wD, wA.drew = wD := ⟨_, rfl⟩
                  rw [hwD] at hPD hBD yD yE hslD
                  rw [hwD]
                  have hslD := Lib.hid hslD
                  clear hwD hbd
                  rcases clone_any hslD.out (by have := h45k.out; omega) with ⟨hm0, hcl⟩ | ⟨cc, xb, xo, wC, hm1, hsae, hxb, hbx, hby, hcl, hbC, kC, tC, hBC⟩
                  · exact absurd hm0 hzero.out
                  subst hsae
                  have hcl := hcl 30
                  have hPC := Lib.hid (hPD.out.call hBC)
                  have hBC2 : Hid (Below w.heap.size w wC) := Lib.hid (hBD.out.trans (hBC.mono hBD.out.size))
                  obtain ⟨b5, hb5⟩ : ∃ b5, Hid (wD.heap.size = b5) := ⟨_, Lib.hid rfl⟩
                  rw [hb5.out] at hcl hbC kC tC
                  have hbxC : Hid (Bts wC xb xo m (fun i => l.getD i 0)) := Lib.hid fun i hi => (hBC.cell (World.block_lt_of_cell? _ _ (hbx i hi))).trans (hbx i hi)
                  have hby := Lib.hid hby
                  have hbC := Lib.hid hbC
                  clear kC tC hbx
                  have hXC := hPC.out.ring.regs x (List.mem_of_getElem? hx.out)
                  obtain ⟨abC, htabC⟩ := hPC.out.ring.mem.tab hlne.out
                  have htabC := Lib.hid htabC
                  have hXC := Lib.hid hXC.1
                  refine Reg.take0 (i := 0) (v := ?_) rfl (by kernel_rfl) (by kernel_rfl) (by kernel_rfl) (by kernel_rfl) (fun _ _ _ h => h) (Or.inl ⟨by rfl, ?_⟩) ?_
                  rotate_left
                  · (intro w _; go_simp; try with_reducible rfl)
                  try simp only [Act.put, List.getElem_toArray, List.getElem_cons_succ, List.getElem_cons_zero, List.setIfInBounds_toArray, List.set_cons_zero, List.set_cons_succ]
                  refine Reg.take0 (i := 1) (v := ?_) rfl (by kernel_rfl) (by kernel_rfl) (by kernel_rfl) (by kernel_rfl) (fun _ _ _ h => h) (Or.inl ⟨by rfl, ?_⟩) ?_
                  rotate_left
                  · (intro w _; go_simp; try with_reducible rfl)
                  try simp only [Act.put, List.getElem_toArray, List.getElem_cons_succ, List.getElem_cons_zero, List.setIfInBounds_toArray, List.set_cons_zero, List.set_cons_succ]
                  refine Reg.take1 (i := 2) (v := ?_) rfl (by kernel_rfl) (by kernel_rfl) (by kernel_rfl) (by kernel_rfl) (by kernel_rfl) (fun _ _ _ h => h) (Or.inl ⟨by rfl, ?_⟩) ⟨yD, yE⟩ ?_
                  rotate_left
                  · (intro w hS; obtain ⟨hs1, hs2⟩ := hS; go_simp; try with_reducible rfl)
                  try simp only [Act.put, List.getElem_toArray, List.getElem_cons_succ, List.getElem_cons_zero, List.setIfInBounds_toArray, List.set_cons_zero, List.set_cons_succ]
                  refine Reg.take0 (i := 3) (v := ?_) rfl (by kernel_rfl) (by kernel_rfl) (by kernel_rfl) (by kernel_rfl) (fun _ _ _ h => h) (Or.inl ⟨by rfl, ?_⟩) ?_
                  rotate_left
                  · (intro w _; go_simp; try with_reducible rfl)
                  try simp only [Act.put, List.getElem_toArray, List.getElem_cons_succ, List.getElem_cons_zero, List.setIfInBounds_toArray, List.set_cons_zero, List.set_cons_succ]
                  refine Reg.take1 (i := 4) (v := ?_) rfl (by kernel_rfl) (by kernel_rfl) (by kernel_rfl) (by kernel_rfl) (by kernel_rfl) (fun _ _ _ h => h) (Or.inl ⟨by rfl, ?_⟩) ⟨yD, yE⟩ ?_
                  rotate_left
                  · (intro w hS; obtain ⟨hs1, hs2⟩ := hS; go_simp; try with_reducible rfl)
                  try simp only [Act.put, List.getElem_toArray, List.getElem_cons_succ, List.getElem_cons_zero, List.setIfInBounds_toArray, List.set_cons_zero, List.set_cons_succ]
                  refine Reg.take0 (i := 7) (v := ?_) rfl (by kernel_rfl) (by kernel_rfl) (by kernel_rfl) (by kernel_rfl) (fun _ _ _ h => h) (Or.inl ⟨by rfl, ?_⟩) ?_
                  rotate_left
                  · (intro w _; go_simp; try with_reducible rfl)
                  try simp only [Act.put, List.getElem_toArray, List.getElem_cons_succ, List.getElem_cons_zero, List.setIfInBounds_toArray, List.set_cons_zero, List.set_cons_succ]
                  refine Reg.take0 (i := 8) (v := ?_) rfl (by kernel_rfl) (by kernel_rfl) (by kernel_rfl) (by kernel_rfl) (fun _ _ _ h => h) (Or.inl ⟨by rfl, ?_⟩) ?_
                  rotate_left
                  · (intro w _; go_simp; try with_reducible rfl)
                  try simp only [Act.put, List.getElem_toArray, List.getElem_cons_succ, List.getElem_cons_zero, List.setIfInBounds_toArray, List.set_cons_zero, List.set_cons_succ]
                  refine Reg.take1 (i := 9) (v := ?_) rfl (by kernel_rfl) (by kernel_rfl) (by kernel_rfl) (by kernel_rfl) (by kernel_rfl) (fun _ _ _ h => h) (Or.inl ⟨by rfl, ?_⟩) ⟨yD, yE⟩ ?_
                  rotate_left
                  · (intro w hS; obtain ⟨hs1, hs2⟩ := hS; go_simp; try with_reducible rfl)
                  try simp only [Act.put, List.getElem_toArray, List.getElem_cons_succ, List.getElem_cons_zero, List.setIfInBounds_toArray, List.set_cons_zero, List.set_cons_succ]
                  refine Reg.take0 (i := 10) (v := ?_) rfl (by kernel_rfl) (by kernel_rfl) (by kernel_rfl) (by kernel_rfl) (fun _ _ _ h => h) (Or.inl ⟨by rfl, ?_⟩) ?_
                  rotate_left
                  · (intro w _; go_simp; try with_reducible rfl)
                  try simp only [Act.put, List.getElem_toArray, List.getElem_cons_succ, List.getElem_cons_zero, List.setIfInBounds_toArray, List.set_cons_zero, List.set_cons_succ]
                  refine Reg.take1 (i := 11) (v := ?_) rfl (by kernel_rfl) (by kernel_rfl) (by kernel_rfl) (by kernel_rfl) (by kernel_rfl) (fun _ _ _ h => h) (Or.inl ⟨by rfl, ?_⟩) ⟨yD, yE⟩ ?_
                  rotate_left
                  · (intro w hS; obtain ⟨hs1, hs2⟩ := hS; go_simp; try with_reducible rfl)
                  try simp only [Act.put, List.getElem_toArray, List.getElem_cons_succ, List.getElem_cons_zero, List.setIfInBounds_toArray, List.set_cons_zero, List.set_cons_succ]
                  refine Reg.only (i := 5) (by kernel_rfl) rfl (fun K hK => ?_)
                  rw [if_pos (by rfl)]
                  refine wp_append_run (.const (.slice none 0 0)) (.tmp 70) 30 rfl _ _ _ rfl rfl hcl ?_
                  refine hK _ _ (fun _ hS => ⟨(hBC.cell (World.block_lt_of_cell? _ _ hS.1)).trans hS.1, (hBC.cell (World.block_lt_of_cell? _ _ hS.2)).trans hS.2⟩) ?_
                  clear hK K
                  try simp only [Act.put, List.getElem_toArray, List.getElem_cons_succ, List.getElem_cons_zero, List.setIfInBounds_toArray, List.set_cons_zero, List.set_cons_succ]
                  refine Reg.only (i := 6) (by kernel_rfl) rfl (fun K hK => ?_)
                  go_simp
                  refine (Calls.at (f20_long wC htabC hij hlj hXC (a := some ⟨b5, 0, none⟩) (c := cc) hlong) (a' := #[.pointer (some ⟨mb, 0, none⟩), .int .i64 N, .int .i64 0, .slice (some ⟨b5, 0, none⟩) m cc]) (by rw [hPC.out.mb_])).mono ?_; rintro e w6 ⟨rfl, rfl⟩
                  simp only []
                  refine hK _ _ (fun _ hS => hS) ?_
                  clear hK K
                  try simp only [Act.put, List.getElem_toArray, List.getElem_cons_succ, List.getElem_cons_zero, List.setIfInBounds_toArray, List.set_cons_zero, List.set_cons_succ]
                  refine Reg.only (i := 12) (by kernel_rfl) rfl (fun K hK => ?_)
                  go_simp
                  refine (Calls.at (f33_long wC (Lib.hid hPC.out.ref) (Lib.hid (by have := hRl.out; have := hk60.out; omega)) hij hp (a := some ⟨xb, xo, none⟩) (c := q) (Lib.hid (by rw [← x1.out]; exact hlong.out))) (a' := #[.pointer (some ⟨nb, 0, none⟩), .int .i64 N, .int .i64 0, .slice (some ⟨xb, xo, none⟩) m q]) (by rw [hPC.out.nb_])).mono ?_; rintro e w6 ⟨rfl, rfl⟩
                  simp only []
                  refine hK _ _ (fun _ hS => hS) ?_
                  clear hK K
                  try simp only [Act.put, List.getElem_toArray, List.getElem_cons_succ, List.getElem_cons_zero, List.setIfInBounds_toArray, List.set_cons_zero, List.set_cons_succ]
                  refine Reg.take0 (i := 13) (v := ?_) rfl (by kernel_rfl) (by kernel_rfl) (by kernel_rfl) (by kernel_rfl) (fun _ _ _ h => h) (Or.inl ⟨by rfl, ?_⟩) ?_
                  rotate_left
                  · (intro w _; go_simp; try with_reducible rfl)
                  try simp only [Act.put, List.getElem_toArray, List.getElem_cons_succ, List.getElem_cons_zero, List.setIfInBounds_toArray, List.set_cons_zero, List.set_cons_succ]
                  refine Reg.take0 (i := 14) (v := ?_) rfl (by kernel_rfl) (by kernel_rfl) (by kernel_rfl) (by kernel_rfl) (fun _ _ _ h => h) (Or.inl ⟨by rfl, ?_⟩) ?_
                  rotate_left
                  · (intro w _; go_simp; try with_reducible rfl)
                  try simp only [Act.put, List.getElem_toArray, List.getElem_cons_succ, List.getElem_cons_zero, List.setIfInBounds_toArray, List.set_cons_zero, List.set_cons_succ]
                  refine Reg.done (by kernel_rfl) ?_ _
                  go_wp2_with fail
                  go_meet
                  exact ⟨rfl, _, R2, Q2, Lib.hid (hPC.out.up (Nat.le_succ _)), hBC2⟩
              · have hlong : Hid (m ≤ x.n) := Lib.hid (by omega)
                as_aux_lemma =>
                  go_wp2_with fail
                  refine Reg.start (S := (fun w' => w'.cell? ⟨sb, 1, none⟩ = some (.int .i64 N) ∧ w'.cell? ⟨sb, 2, none⟩ = some (.slice sa m q))) (B := (fun _ => false)) (by kernel_rfl) ?_
                  have hbd : Below wA.heap.size wA wA.drew := (Below.refl _ _).drew
                  have hPD := Lib.hid (hPA.out.call hbd)
                  have hBD : Hid (Below w.heap.size w wA.drew) := Lib.hid hBA.out.drew
                  have yD : wA.drew.cell? ⟨sb, 1, none⟩ = some (.int .i64 N) := y1
                  have yE : wA.drew.cell? ⟨sb, 2, none⟩ = some (.slice sa m q) := y2
                  have hslD : SlB w1.heap.size (fun j => Pr j ∨ j = sb) wA.drew (.slice sa m q) l := hslA.out.below hbd
                  obtain ⟨wD, hwD⟩ : ∃ wD, wA.drew = wD := ⟨_, rfl⟩
                  rw [hwD] at hPD hBD yD yE hslD
                  rw [hwD]
                  have hslD := Lib.hid hslD
                  clear hwD hbd
                  rcases clone_any hslD.out (by have := h45k.out; omega) with ⟨hm0, hcl⟩ | ⟨cc, xb, xo, wC, hm1, hsae, hxb, hbx, hby, hcl, hbC, kC, tC, hBC⟩
                  · exact absurd hm0 hzero.out
                  subst hsae
                  have hcl := hcl 30
                  have hPC := Lib.hid (hPD.out.call hBC)
                  have hBC2 : Hid (Below w.heap.size w wC) := Lib.hid (hBD.out.trans (hBC.mono hBD.out.size))
                  obtain ⟨b5, hb5⟩ : ∃ b5, Hid (wD.heap.size = b5) := ⟨_, Lib.hid rfl⟩
                  rw [hb5.out] at hcl hbC kC tC
                  have hbxC : Hid (Bts wC xb xo m (fun i => l.getD i 0)) := Lib.hid fun i hi => (hBC.cell (World.block_lt_of_cell? _ _ (hbx i hi))).trans (hbx i hi)
                  have hby := Lib.hid hby
                  have hbC := Lib.hid hbC
                  clear kC tC hbx
                  have hXC := hPC.out.ring.regs x (List.mem_of_getElem? hx.out)
                  obtain ⟨abC, htabC⟩ := hPC.out.ring.mem.tab hlne.out
                  have htabC := Lib.hid htabC
                  have hXC := Lib.hid hXC.1
                  refine Reg.take0 (i := 0) (v := ?_) rfl (by kernel_rfl) (by kernel_rfl) (by kernel_rfl) (by kernel_rfl) (fun _ _ _ h => h) (Or.inl ⟨by rfl, ?_⟩) ?_
                  rotate_left
                  · (intro w _; go_simp; try with_reducible rfl)
                  try simp only [Act.put, List.getElem_toArray, List.getElem_cons_succ, List.getElem_cons_zero, List.setIfInBounds_toArray, List.set_cons_zero, List.set_cons_succ]
                  refine Reg.take0 (i := 1) (v := ?_) rfl (by kernel_rfl) (by kernel_rfl) (by kernel_rfl) (by kernel_rfl) (fun _ _ _ h => h) (Or.inl ⟨by rfl, ?_⟩) ?_
                  rotate_left
                  · (intro w _; go_simp; try with_reducible rfl)
                  try simp only [Act.put, List.getElem_toArray, List.getElem_cons_succ, List.getElem_cons_zero, List.setIfInBounds_toArray, List.set_cons_zero, List.set_cons_succ]
                  refine Reg.take1 (i := 2) (v := ?_) rfl (by kernel_rfl) (by kernel_rfl) (by kernel_rfl) (by kernel_rfl) (by kernel_rfl) (fun _ _ _ h => h) (Or.inl ⟨by rfl, ?_⟩) ⟨yD, yE⟩ ?_
                  rotate_left
                  · (intro w hS; obtain ⟨hs1, hs2⟩ := hS; go_simp; try with_reducible rfl)
                  try simp only [Act.put, List.getElem_toArray, List.getElem_cons_succ, List.getElem_cons_zero, List.setIfInBounds_toArray, List.set_cons_zero, List.set_cons_succ]
                  refine Reg.take0 (i := 3) (v := ?_) rfl (by kernel_rfl) (by kernel_rfl) (by kernel_rfl) (by kernel_rfl) (fun _ _ _ h => h) (Or.inl ⟨by rfl, ?_⟩) ?_
                  rotate_left
                  · (intro w _; go_simp; try with_reducible rfl)
                  try simp only [Act.put, List.getElem_toArray, List.getElem_cons_succ, List.getElem_cons_zero, List.setIfInBounds_toArray, List.set_cons_zero, List.set_cons_succ]
                  refine Reg.take1 (i := 4) (v := ?_) rfl (by kernel_rfl) (by kernel_rfl) (by kernel_rfl) (by kernel_rfl) (by kernel_rfl) (fun _ _ _ h => h) (Or.inl ⟨by rfl, ?_⟩) ⟨yD, yE⟩ ?_
                  rotate_left
                  · (intro w hS; obtain ⟨hs1, hs2⟩ := hS; go_simp; try with_reducible rfl)
                  try simp only [Act.put, List.getElem_toArray, List.getElem_cons_succ, List.getElem_cons_zero, List.setIfInBounds_toArray, List.set_cons_zero, List.set_cons_succ]
                  refine Reg.take0 (i := 7) (v := ?_) rfl (by kernel_rfl) (by kernel_rfl) (by kernel_rfl) (by kernel_rfl) (fun _ _ _ h => h) (Or.inl ⟨by rfl, ?_⟩) ?_
                  rotate_left
                  · (intro w _; go_simp; try with_reducible rfl)
                  try simp only [Act.put, List.getElem_toArray, List.getElem_cons_succ, List.getElem_cons_zero, List.setIfInBounds_toArray, List.set_cons_zero, List.set_cons_succ]
                  refine Reg.take0 (i := 8) (v := ?_) rfl (by kernel_rfl) (by kernel_rfl) (by kernel_rfl) (by kernel_rfl) (fun _ _ _ h => h) (Or.inl ⟨by rfl, ?_⟩) ?_
                  rotate_left
                  · (intro w _; go_simp; try with_reducible rfl)
                  try simp only [Act.put, List.getElem_toArray, List.getElem_cons_succ, List.getElem_cons_zero, List.setIfInBounds_toArray, List.set_cons_zero, List.set_cons_succ]
                  refine Reg.take1 (i := 9) (v := ?_) rfl (by kernel_rfl) (by kernel_rfl) (by kernel_rfl) (by kernel_rfl) (by kernel_rfl) (fun _ _ _ h => h) (Or.inl ⟨by rfl, ?_⟩) ⟨yD, yE⟩ ?_
                  rotate_left
                  · (intro w hS; obtain ⟨hs1, hs2⟩ := hS; go_simp; try with_reducible rfl)
                  try simp only [Act.put, List.getElem_toArray, List.getElem_cons_succ, List.getElem_cons_zero, List.setIfInBounds_toArray, List.set_cons_zero, List.set_cons_succ]
                  refine Reg.take0 (i := 10) (v := ?_) rfl (by kernel_rfl) (by kernel_rfl) (by kernel_rfl) (by kernel_rfl) (fun _ _ _ h => h) (Or.inl ⟨by rfl, ?_⟩) ?_
                  rotate_left
                  · (intro w _; go_simp; try with_reducible rfl)
                  try simp only [Act.put, List.getElem_toArray, List.getElem_cons_succ, List.getElem_cons_zero, List.setIfInBounds_toArray, List.set_cons_zero, List.set_cons_succ]
                  refine Reg.take1 (i := 11) (v := ?_) rfl (by kernel_rfl) (by kernel_rfl) (by kernel_rfl) (by kernel_rfl) (by kernel_rfl) (fun _ _ _ h => h) (Or.inl ⟨by rfl, ?_⟩) ⟨yD, yE⟩ ?_
                  rotate_left
                  · (intro w hS; obtain ⟨hs1, hs2⟩ := hS; go_simp; try with_reducible rfl)
                  try simp only [Act.put, List.getElem_toArray, List.getElem_cons_succ, List.getElem_cons_zero, List.setIfInBounds_toArray, List.set_cons_zero, List.set_cons_succ]
                  refine Reg.only (i := 5) (by kernel_rfl) rfl (fun K hK => ?_)
                  rw [if_pos (by rfl)]
                  refine wp_append_run (.const (.slice none 0 0)) (.tmp 70) 30 rfl _ _ _ rfl rfl hcl ?_
                  refine hK _ _ (fun _ hS => ⟨(hBC.cell (World.block_lt_of_cell? _ _ hS.1)).trans hS.1, (hBC.cell (World.block_lt_of_cell? _ _ hS.2)).trans hS.2⟩) ?_
                  clear hK K
                  try simp only [Act.put, List.getElem_toArray, List.getElem_cons_succ, List.getElem_cons_zero, List.setIfInBounds_toArray, List.set_cons_zero, List.set_cons_succ]
                  refine Reg.only (i := 6) (by kernel_rfl) rfl (fun K hK => ?_)
                  go_simp
                  refine (set_ok wC (Lib.hid hPC.out.ring) (Lib.hid hPC.out.mb_) hx hbC hby (Lib.hid ⟨hlong.out, hxpos.out.1⟩) hij (c := cc)).mono ?_; rintro e w6 ⟨rfl, hO6, R6, hR6, hS6, hrows6, hrs6⟩
                  simp only []
                  refine hK _ _ (fun _ hS => ⟨(hO6.cell (p := ⟨sb, 1, none⟩) (World.block_lt_of_cell? _ _ hS.1) (fun h => h (.inr rfl))).trans hS.1, (hO6.cell (p := ⟨sb, 2, none⟩) (World.block_lt_of_cell? _ _ hS.2) (fun h => h (.inr rfl))).trans hS.2⟩) ?_
                  clear hK K
                  try simp only [Act.put, List.getElem_toArray, List.getElem_cons_succ, List.getElem_cons_zero, List.setIfInBounds_toArray, List.set_cons_zero, List.set_cons_succ]
                  have hq6 := Lib.hid (hPC.out.refAt hO6)
                  have hB6 : Hid (Below w.heap.size w w6) := Lib.hid (hBC2.out.trans (hO6.belowN hBC2.out.size fun j hj h => h (hlow.out j hj)))
                  have bx6 : Hid (Bts w6 xb xo m (fun i => l.getD i 0)) := Lib.hid fun i hi => (hO6.cell (p := ⟨xb, xo + i, none⟩) (World.block_lt_of_cell? _ _ (hbxC.out i hi)) (fun h => h hxb)).trans (hbxC.out i hi)
                  have hO6_ := hO6
                  clear hO6
                  have hO6 := Lib.hid hO6_
                  clear hO6_
                  have hR6_ := hR6
                  clear hR6
                  have hR6 := Lib.hid hR6_
                  clear hR6_
                  have hS6_ := hS6
                  clear hS6
                  have hS6 := Lib.hid hS6_
                  clear hS6_
                  have hrows6_ := hrows6
                  clear hrows6
                  have hrows6 := Lib.hid hrows6_
                  clear hrows6_
                  have hrs6_ := hrs6
                  clear hrs6
                  have hrs6 := Lib.hid hrs6_
                  clear hrs6_
                  refine Reg.only (i := 12) (by kernel_rfl) rfl (fun K hK => ?_)
                  go_simp
                  refine (Calls.at (f33_in w6 hq6 (Lib.hid (by have := hRl.out; have := hk60.out; omega)) hij hp bx6 hby (c := q) (Lib.hid (by rw [← x1.out]; exact hlong.out))) (a' := #[.pointer (some ⟨nb, 0, none⟩), .int .i64 N, .int .i64 0, .slice (some ⟨xb, xo, none⟩) m q]) (by rw [hPC.out.nb_])).mono ?_; rintro e w7 ⟨rfl, hO7, hQ7⟩
                  simp only []
                  refine hK _ _ (fun _ hS => ⟨(hO7.cell (p := ⟨sb, 1, none⟩) (World.block_lt_of_cell? _ _ hS.1) (fun h => hsbq.out h)).trans hS.1, (hO7.cell (p := ⟨sb, 2, none⟩) (World.block_lt_of_cell? _ _ hS.2) (fun h => hsbq.out h)).trans hS.2⟩) ?_
                  clear hK K
                  try simp only [Act.put, List.getElem_toArray, List.getElem_cons_succ, List.getElem_cons_zero, List.setIfInBounds_toArray, List.set_cons_zero, List.set_cons_succ]
                  obtain ⟨Pr7, Q7, hP7, hpr7⟩ := play_set hPC.out hO7 hR6.out hS6.out hx.out hp.out hxp.out hrows6.out hrs6.out hQ7
                  have hP7 := Lib.hid hP7
                  have hB7 : Hid (Below w.heap.size w w7) := Lib.hid (hB6.out.trans (hO7.belowN hB6.out.size hqlow.out))
                  clear hO7 hQ7 hpr7
                  refine Reg.take0 (i := 13) (v := ?_) rfl (by kernel_rfl) (by kernel_rfl) (by kernel_rfl) (by kernel_rfl) (fun _ _ _ h => h) (Or.inl ⟨by rfl, ?_⟩) ?_
                  rotate_left
                  · (intro w _; go_simp; try with_reducible rfl)
                  try simp only [Act.put, List.getElem_toArray, List.getElem_cons_succ, List.getElem_cons_zero, List.setIfInBounds_toArray, List.set_cons_zero, List.set_cons_succ]
                  refine Reg.take0 (i := 14) (v := ?_) rfl (by kernel_rfl) (by kernel_rfl) (by kernel_rfl) (by kernel_rfl) (fun _ _ _ h => h) (Or.inl ⟨by rfl, ?_⟩) ?_
                  rotate_left
                  · (intro w _; go_simp; try with_reducible rfl)
                  try simp only [Act.put, List.getElem_toArray, List.getElem_cons_succ, List.getElem_cons_zero, List.setIfInBounds_toArray, List.set_cons_zero, List.set_cons_succ]
                  refine Reg.done (by kernel_rfl) ?_ _
                  go_wp2_with fail
                  go_meet
                  exact ⟨rfl, _, R6, Q7, Lib.hid (hP7.out.up (Nat.le_succ _)), hB7⟩
      case rest =>
        as_aux_lemma =>
          obtain ⟨rfl, Pr7, R7, Q7, hP7, hB7⟩ := hcut
          obtain ⟨u, hu⟩ : ∃ u, Hid (usedN R7.rows = u) := ⟨_, Lib.hid rfl⟩
          have hle := Lib.hid hP7.out.recs_le
          go_wp2_with fail
          refine (used_ok wc (Lib.hid hP7.out.ring) (Lib.hid hP7.out.rg_)).mono ?_; rintro e w8 ⟨rfl, rfl⟩
          rw [hu.out]
          go_wp2_with fail
          refine (Calls.at (f34_ok wc (Lib.hid hP7.out.ref) (Lib.hid (by have := hle.out; omega)) (Lib.hid (by have := hle.out; omega))) (a' := #[.pointer (some ⟨qb, 0, none⟩)]) (by rw [hP7.out.qb_])).mono ?_; rintro e w8 ⟨rfl, rfl⟩
          rw [← hle.out.2.2.1, hu.out]
          go_wp2_with fail
          refine (Calls.at (f23_ok wc (Lib.hid hP7.out.ring)) (a' := #[.pointer (some ⟨rg, 0, none⟩)]) (by rw [hP7.out.rg_])).mono ?_; rintro e w8 ⟨V8, rfl, hV8, hb8⟩
          have hV8 := Lib.hid hV8
          have hb8 := Lib.hid hb8
          have hP8 := Lib.hid (hP7.out.call hb8.out)
          go_wp2_with fail
          refine (Calls.at (f36_ok w8 (Lib.hid hP8.out.ref) (Lib.hid (by have := hle.out; omega))) (a' := #[.pointer (some ⟨qb, 0, none⟩)]) (by rw [hP8.out.qb_])).mono ?_; rintro e w9 ⟨V9, rfl, hV9, hb9⟩
          have hV9 := Lib.hid hV9
          have hb9 := Lib.hid hb9
          have hP9 := Lib.hid (hP8.out.call hb9.out)
          obtain ⟨xs, hxs⟩ : ∃ xs : List Int, pendOf R7.rows = xs.map (Value.int .i64) := ⟨(R7.rows.filter fun r => r.st == 0).map fun r => (r.id : Int), by unfold pendOf; rw [List.map_map]; rfl⟩
          have hxl : xs.length ≤ R7.rows.length := by have := pend_len R7.rows; rw [hxs] at this; simpa using this
          have hV8' : RowAt wc.heap.size 3 w9 V8 (xs.map (Value.int .i64)) := by rw [← hxs]; exact hV8.out.below hb9.out
          have hV9' : RowAt w8.heap.size 3 w9 V9 (xs.map (Value.int .i64)) := by rw [← hxs, pend_keys hP7.out.rows]; exact hV9.out
          obtain ⟨a8, c8, e8⟩ := hV8'.len
          obtain ⟨a9, c9, e9⟩ := hV9'.len
          rw [List.length_map] at e8 e9
          obtain ⟨nn, hnn⟩ : ∃ nn, xs.length = nn := ⟨_, rfl⟩
          rw [hnn] at e8 e9
          subst e8
          subst e9
          have hV8' := Lib.hid hV8'
          have hV9' := Lib.hid hV9'
          have hnn' : Hid (xs.length = nn ∧ nn < 2 ^ 40) := Lib.hid ⟨hnn, by have := hle.out; have := hP7.out.len.1; omega⟩
          have hB9 : Hid (Below w.heap.size w w9) := Lib.hid ((hB7.out.trans (hb8.out.mono hB7.out.size)).trans (hb9.out.mono (Nat.le_trans hB7.out.size hb8.out.size)))
          clear hnn hxl hxs hV8 hV9
          go_wp2_with fail
          refine (f35_ok w9 hV8' hV9' hnn').mono ?_; rintro e w10 ⟨rfl, hb10⟩
          have hP10 := Lib.hid (hP9.out.call hb10)
          have hn60 := h60.out
          have hB10 : Hid (Below w.heap.size w w10) := Lib.hid (hB9.out.trans (hb10.mono hB9.out.size))
          clear hb10
          go_wp2_with fail
          go_roundg (n - (k + 1))
          case measure => rw [hg.out]; omega
          case rel => exact ⟨k + 1, Pr7, R7, Q7, Lib.hid rfl, hlt, by go_num, hP10, hB10⟩
    · as_aux_lemma =>
        obtain rfl : n = k := by omega
        clear hlt hk
        clear hg
        go_wp2_with fail
        go_loopg [22] n (fun g i wr => ∃ j : Nat, Hid (g = n - j) ∧ j ≤ n ∧ i = .int .i64 ((j : Int) + 1) ∧ Hid (Play w1.heap.size Pr wr R2 Q2 rg mb qb nb z n) ∧ Hid (Below w.heap.size w wr))
        case atStart => exact ⟨0, Lib.hid rfl, Nat.zero_le _, rfl, hP2, hB2⟩
        case round =>
          obtain ⟨j, hg9, hj9, rfl, hP9, hB9⟩ := hrel
          have hn60 := h60.out
          by_cases hlt9 : j < n
          · have hlt9' : (j : Int) + 1 ≤ (n : Int) := by omega
            have hrl : Hid (R2.rs.length ≤ n ∧ R2.rs.length = Q2.parts.length) := Lib.hid ⟨hP9.out.rs, hP9.out.len.2⟩
            by_cases hjl : j < R2.rs.length
            · obtain ⟨x, hx⟩ : ∃ x, R2.rs[j]? = some x := ⟨_, List.getElem?_eq_getElem hjl⟩
              obtain ⟨p, hp, hxp⟩ := parts_at hP9.out.regs hx
              have x2 : x.d = !p.live := congrArg (fun t : Nat × Bool × List Nat => t.2.1) hxp
              have x3 : (!x.d) = p.live := by rw [x2, Bool.not_not]
              have hlj : R2.l[j]? = some (false, x.rb) := by unfold RingS.l; rw [List.getElem?_map, hx]; rfl
              have hlne : R2.l ≠ [] := fun h => by rw [h] at hlj; simp at hlj
              have hX := (hP9.out.ring.regs x (List.mem_of_getElem? hx)).1.dead
              obtain ⟨ab, htab⟩ := hP9.out.ring.mem.tab hlne
              obtain ⟨lv, hlv⟩ : ∃ lv, p.live = lv := ⟨_, rfl⟩
              have hc1 := Lib.hid (Calls.at (f37_ok wr (Lib.hid htab) (i := (j : Int) + 1) rfl hlj x.d hX) (a' := #[.pointer (some ⟨mb, 0, none⟩), .int .i64 ((j : Int) + 1)]) (by rw [hP9.out.mb_]))
              have hc2 := Lib.hid (Calls.at (f38_ok wr (Lib.hid hP9.out.ref) (Lib.hid (by have := hrl.out; omega)) (Lib.hid rfl) (Lib.hid hp)) (a' := #[.pointer (some ⟨nb, 0, none⟩), .int .i64 ((j : Int) + 1)]) (by rw [hP9.out.nb_]))
              rw [x3, hlv] at hc1
              rw [hlv] at hc2
              clear hx hp hxp x2 x3 hlj hlne hX htab hlv hjl
              go_wp2_with fail
              refine hc1.out.mono ?_; rintro e w9 ⟨rfl, rfl⟩
              go_wp2_with fail
              refine hc2.out.mono ?_; rintro e w9 ⟨rfl, rfl⟩
              clear hc1 hc2
              go_wp2_with fail
              go_roundg (n - (j + 1))
              case measure => rw [hg9.out]; omega
              case rel => exact ⟨j + 1, Lib.hid rfl, hlt9, by go_num, hP9, hB9⟩
            · have hout : Hid (((j : Int) + 1) < 1 ∨ (R2.rs.length : Int) < (j : Int) + 1) := Lib.hid (by omega)
              clear hjl
              go_wp2_with fail
              refine (Calls.at (f37_none (Lib.hid hP9.out.ring.mem) (i := (j : Int) + 1) (Lib.hid (by rw [RingS.l_len]; exact hout.out))) (a' := #[.pointer (some ⟨mb, 0, none⟩), .int .i64 ((j : Int) + 1)]) (by rw [hP9.out.mb_])).mono ?_; rintro e w9 ⟨rfl, rfl⟩
              go_wp2_with fail
              refine (Calls.at (f38_none wr (Lib.hid hP9.out.ref) (i := (j : Int) + 1) (Lib.hid (by rw [← hrl.out.2]; exact hout.out))) (a' := #[.pointer (some ⟨nb, 0, none⟩), .int .i64 ((j : Int) + 1)]) (by rw [hP9.out.nb_])).mono ?_; rintro e w9 ⟨rfl, rfl⟩
              go_wp2_with fail
              go_roundg (n - (j + 1))
              case measure => rw [hg9.out]; omega
              case rel => exact ⟨j + 1, Lib.hid rfl, hlt9, by go_num, hP9, hB9⟩
          · obtain rfl : n = j := by omega
            go_wp2_with fail
            go_ret
            exact ⟨rfl, hB9.out⟩
end Go.Proofs.Ytmjeloinibembaa
