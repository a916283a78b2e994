/-
  RingStream: the walk of the law.
-/
import Derived.Test.YtmjeloinibembaaStB
namespace Go.Proofs.Ytmjeloinibembaa
open Go.RowKit
set_option linter.unusedVariables false
set_option linter.unusedSimpArgs false
theorem used_le {n : Nat} : ∀ {l : List Rec}, (∀ r ∈ l, r.n ≤ 80 ∧ r.st = 1) → usedN l ≤ 88 * l.length
  | [], _ => by simp [usedN]
  | r :: l, h => by
    have h1 := used_le (n := n) (fun a ha => h a (List.mem_cons_of_mem _ ha))
    have h2 := (h r (by simp)).1
    rw [usedN_cons, List.length_cons]
    unfold takesN
    omega
theorem all_read {rows tk rest : List Rec} (h : rows = tk ++ rest) (hr : ∀ r, rest.head? = some r → r.st = 0) (ha : ∀ r ∈ rows, r.n ≤ 80 ∧ r.st = 1) : tk = rows ∧ rest = [] ∧ (tk.filter fun r => r.st == 1) = rows := by
  have h1 : rest = [] := by
    rcases rest with _ | ⟨y, l⟩
    · rfl
    · have h1 := hr y rfl
      have h2 := (ha y (by rw [h]; simp)).2
      omega
  subst h1
  rw [List.append_nil] at h
  subst h
  exact ⟨rfl, rfl, List.filter_eq_self.2 fun a h => by rw [(ha a h).2]; rfl⟩
/-- where the stream stands. -/
structure Str (B : Nat) (Pr : Nat → Prop) (w : World) (R : RingS) (rg p k : Nat) (V : Value) (cw : List (List Nat)) (U : Value) (cg : List (List Nat)) : Prop where
  two : ∃ xs us, Two B Pr w R V xs cw U us cg
  rg_ : R.rg = rg
  size : R.size = 1024
  rs : R.rs.length ≤ k
  len : R.rows.length ≤ p
  all : ∀ r ∈ R.rows, r.n ≤ 80 ∧ r.st = 1
  eq : cw = cg ++ R.rows.map Rec.bytes
  cw_ : cw.length ≤ k
theorem low_of {B : Nat} {Pr : Nat → Prop} {w : World} {R : RingS} (h : RingAt B Pr w R) : ∀ k, k < B → Pr k := h.low
theorem sl_len {B : Nat} {Pr : Nat → Prop} {w : World} {R : RingS} {V U : Value} {xs us : List Value} {cs du : List (List Nat)} (h : Two B Pr w R V xs cs U us du) : xs.length = cs.length ∧ us.length = du.length := ⟨h.sl.1, h.sl2.1⟩
theorem Str.up {B : Nat} {Pr : Nat → Prop} {w : World} {R : RingS} {rg p k p' k' : Nat} {V U : Value} {cw cg : List (List Nat)} (h : Str B Pr w R rg p k V cw U cg) (h1 : p ≤ p') (h2 : k ≤ k') : Str B Pr w R rg p' k' V cw U cg :=
  ⟨h.two, h.rg_, h.size, Nat.le_trans h.rs h2, Nat.le_trans h.len h1, h.all, h.eq, Nat.le_trans h.cw_ h2⟩
theorem Str.below {B : Nat} {Pr : Nat → Prop} {w w' : World} {R : RingS} {rg p k : Nat} {V U : Value} {cw cg : List (List Nat)} (h : Str B Pr w R rg p k V cw U cg) (hb : Below w.heap.size w w') : Str B Pr w' R rg p k V cw U cg := by
  obtain ⟨xs, us, ht⟩ := h.two
  exact ⟨⟨xs, us, ht.below hb⟩, h.rg_, h.size, h.rs, h.len, h.all, h.eq, h.cw_⟩
theorem str_out {B : Nat} {Pr : Nat → Prop} {w w5 : World} {R R5 : RingS} {rg p k m : Nat} {V U v : Value} {cw cg : List (List Nat)} {l : List Nat} {a : Rec} {y : Rgn} (h : Str B Pr w R rg p k V cw U cg) (hk : k ≤ 1000) (ho : Only (fun k => ¬ Pr k) w w5) (hr : RingAt B Pr w5 R5) (hS : Same R R5)
    (hrows : R5.rows = R.rows ++ [a]) (hrs : R5.rs = R.rs ++ [y]) (ha : a.n ≤ 80 ∧ a.st = 1) (hl : a.bytes = l) (hv : SlB B Pr w5 v l) :
    ∃ (V' : Value) (w6 : World) (Pr' : Nat → Prop), (Builtin.append_ #[32, 32] 32 #[V, .slice (some ⟨w5.heap.size, 0, none⟩) 1 1]).run Try.prog (w5.alloc (.cells #[v] 30)) = .ok V' w6 ∧ Str B Pr' w6 R5 rg (p + 1) (k + 1) V' (cw ++ [l]) U cg ∧ Below B w5 w6 := by
  obtain ⟨xs, us, ht⟩ := h.two
  have h5 := ht.call ho hr
  have hal : Below w5.heap.size w5 (w5.alloc (.cells #[v] 30)) := Below.one _
  have h5' := h5.below hal
  obtain ⟨V', w6, Pr', h1, h2, h3, h4⟩ := h5'.app RowAt.made (SlL.one (hv.below hal)) (by have := h5.sl.1; have := h.cw_; simp; omega)
  have hBs : B ≤ w5.heap.size := by
    rcases Nat.lt_or_ge w5.heap.size B with h1 | h1
    · have := hr.prlt _ (hr.low _ h1); omega
    · exact h1
  refine ⟨V', w6, Pr', h1, ⟨⟨_, _, h2⟩, hS.1.trans h.rg_, hS.2.1.trans h.size, by rw [hrs, List.length_append]; have := h.rs; simp; omega, by rw [hrows, List.length_append]; have := h.len; simp; omega, fun r hr => ?_, ?_, by rw [List.length_append]; have := h.cw_; simp; omega⟩, (hal.mono hBs).trans h3⟩
  · rw [hrows] at hr
    rcases List.mem_append.1 hr with hr | hr
    · exact h.all r hr
    · obtain rfl := List.mem_singleton.1 hr; exact ha
  · rw [hrows, h.eq]; simp [hl]
theorem str_read {B : Nat} {Pr : Nat → Prop} {w w7 : World} {R R7 : RingS} {rg p k : Nat} {V U V2 : Value} {cw cg : List (List Nat)} {tk rest : List Rec} (h : Str B Pr w R rg p k V cw U cg) (hk : k ≤ 1000) (ho : Only (fun k => ¬ Pr k) w w7) (h7a : R.rows = tk ++ rest) (h7c : ∀ r, rest.head? = some r → r.st = 0)
    (hrow : RowAt w.heap.size 30 w7 V2 (outsOf tk)) (hr : RingAt B (Given Pr tk V2) w7 R7) (hS : Same R R7) (hrows : R7.rows = rest) (hrs : R7.rs = R.rs)
    (hin : ∀ r ∈ tk, r.st ≠ 0 → Bts w7 r.bs 0 r.n r.g ∧ KindAt w7 r.bs 5 ∧ Thaw w7 r.bs ∧ ¬ Pr r.bs ∧ (1 ≤ r.n ∧ r.n ≤ 4096) ∧ ∀ i, i < r.n → r.g i < 256) :
    ∃ (U' : Value) (w8 : World) (Pr' : Nat → Prop), (Builtin.append_ #[32, 32] 32 #[U, V2]).run Try.prog w7 = .ok U' w8 ∧ Str B Pr' w8 R7 rg 0 k V cw U' cw ∧ Below B w7 w8 := by
  obtain ⟨xs, us, ht⟩ := h.two
  obtain ⟨h1, h2, h3⟩ := all_read h7a h7c h.all
  have hsl := outs_sl (B := B) (V := V2) hin
  rw [h3] at hsl
  have hln : R.rows.length ≤ 1000 := by have := h.rs; have := h.cw_; have := congrArg List.length h.eq; simp at this; omega
  obtain ⟨U', w8, Pr', g1, g2, g3, g4⟩ := (ht.read ho hr).swap.app hrow hsl (by
    have h8 := ht.sl2.1
    have h9 := outs_len tk
    rw [h1] at h9
    have := congrArg List.length h.eq; simp at this
    have := h.cw_; rw [h1]; omega)
  refine ⟨U', w8, Pr', g1, ⟨⟨_, _, by rw [h.eq]; rw [h.eq] at g2; exact g2.swap⟩, hS.1.trans h.rg_, hS.2.1.trans h.size, by rw [hrs]; exact h.rs, by rw [hrows, h2]; exact Nat.le_refl _, fun r hr => ?_, ?_, h.cw_⟩, g3⟩
  · rw [hrows, h2] at hr; simp at hr
  · rw [hrows, h2]; simp
theorem getD_bytes {l : List Nat} {r : Rec} {f : Nat → Nat} (hn : r.n = l.length) (hg : r.g = f) (h : ∀ i, i < l.length → f i = l.getD i 0) : r.bytes = l := by
  unfold Rec.bytes
  refine List.ext_getElem (by simp [hn]) fun i h1 h2 => ?_
  simp only [List.getElem_map, List.getElem_range, hg]
  rw [h i h2]
  simp [List.getD, List.getElem?_eq_getElem h2]
set_option maxRecDepth 100000 in
set_option maxHeartbeats 8000000 in
theorem stream (w : World) {n c0 every : Nat} {a0 : Option Addr} {xs : List Value} {cs : List (List Nat)} (hn : n ≤ 60) (he : 1 ≤ every ∧ every ≤ 10) (hx : Hid (xs.length = n ∧ (n = 0 ∨ ∃ g o, a0 = some ⟨g, o, none⟩ ∧ ∀ (j : Nat) u, xs[j]? = some u → w.cell? ⟨g, o + j, none⟩ = some u) ∧ SlL w.heap.size (· < w.heap.size) w xs cs)) :
    Calls Try.prog 4 #[.slice a0 n c0, .int .i64 every] w fun e w' => e = .returned (.bool true) ∧ Below w.heap.size w w' := by
  have g1 : ¬ (60 < (n : Int)) := by omega
  have g2 : ¬ ((every : Int) < 1) := by omega
  have g3 : ¬ (10 < (every : Int)) := by omega
  have he' := Lib.hid he
  have hn' := Lib.hid hn
  clear hn he
  go_enter Try.func4, Try.ntmps4
  go_wp2_with fail
  refine (f12_ok w).mono ?_; rintro e w1 ⟨rfl, hb1⟩
  have hb1_ := hb1
  clear hb1
  have hb1 := Lib.hid hb1_
  clear hb1_
  go_wp2_with fail
  refine (f14_ok w1).mono ?_; rintro e w2 ⟨rfl, hw2⟩
  have hw2_ := hw2
  clear hw2
  have hw2 := Lib.hid hw2_
  clear hw2_
  go_wp2_with fail
  refine (new_ok w2 (size := 1024) (by decide) (by decide) (by decide) hw2.out rfl).mono ?_; rintro e w3 ⟨R, rg, rfl, hrg, hsz, hmb, hrows, hrs, hR, hB⟩
  clear hmb
  have hS : Hid (Str w1.heap.size (· < w1.heap.size) w3 R rg 0 0 (.slice none 0 0) [] (.slice none 0 0) []) := Lib.hid ⟨⟨[], [], Two.start hR⟩, hrg, hsz, by rw [hrs]; exact Nat.le_refl _, by rw [hrows]; exact Nat.le_refl _, by rw [hrows]; simp, by rw [hrows]; rfl, Nat.le_refl _⟩
  clear hR hrg hsz hrows hrs
  have hB_ := hB
  clear hB
  have hB := Lib.hid hB_
  clear hB_
  have hBB : Hid (Below w.heap.size w w3) := Lib.hid (hb1.out.trans (hB.out.mono hb1.out.size))
  have hb1s : Hid (w.heap.size ≤ w1.heap.size) := Lib.hid hb1.out.size
  go_wp2_with fail
  go_loopg [6, 7, 8, 9] n (fun g ee V U i wr => ∃ (k : Nat) (Pr : Nat → Prop) (R : RingS) (cw cg : List (List Nat)), Hid (g = n - k) ∧ k ≤ n ∧ i = .int .i64 k ∧ Hid (Str w1.heap.size Pr wr R rg (k % every) k V cw U cg) ∧ Hid (Below w.heap.size w wr))
  case atStart => exact ⟨0, _, R, [], [], Lib.hid rfl, Nat.zero_le _, rfl, by rw [Nat.zero_mod]; exact hS, hBB⟩
  case round =>
    obtain ⟨k, Pr, R2, cw, cg, hg, hk, rfl, hS2, hB2⟩ := hrel
    clear hS hBB
    by_cases hlt : k < n
    · have hlt' : (k : Int) < (n : Int) := by omega
      have hxk : k < xs.length := by rw [hx.out.1]; exact hlt
      have hck : k < cs.length := by rw [← hx.out.2.2.1]; exact hxk
      obtain ⟨ga, oa, rfl, hcells⟩ : ∃ g o, a0 = some ⟨g, o, none⟩ ∧ ∀ (j : Nat) u, xs[j]? = some u → w.cell? ⟨g, o + j, none⟩ = some u := by
        rcases hx.out.2.1 with h | h
        · omega
        · exact h
      have a1 := hcells k _ (List.getElem?_eq_getElem hxk)
      have sl := hx.out.2.2.2 k _ _ (List.getElem?_eq_getElem hxk) (List.getElem?_eq_getElem hck)
      obtain ⟨v, hv⟩ : ∃ v, xs[k] = v := ⟨_, rfl⟩
      obtain ⟨l, hl⟩ : ∃ l, cs[k] = l := ⟨_, rfl⟩
      rw [hv] at a1 sl
      rw [hl] at sl
      have a2 := (hB2.out.cell (World.block_lt_of_cell? _ _ a1)).trans a1
      obtain ⟨m, hm⟩ : ∃ m, l.length = m := ⟨_, rfl⟩
      obtain ⟨pa, qa, rfl⟩ : ∃ p q, v = .slice p m q := by obtain ⟨⟨a, c, h, _⟩, _⟩ := sl; exact ⟨_, _, hm ▸ h⟩
      have sl := Lib.hid sl
      have hm_ := hm
      clear hm
      have hm := Lib.hid hm_
      clear hm_
      have hgl : Hid (ga < w.heap.size) := Lib.hid (World.block_lt_of_cell? _ _ a1)
      clear hv hl hxk hck hcells a1
      have e0 : (0 : Int) ≤ (every : Int) := by omega
      have hev0 : ¬ ((every : Int) = 0) := by have := he'.out; omega
      by_cases h80 : 80 < m
      · have h80' : (80 : Int) < (m : Int) := by omega
        go_wp2_with fail
        go_ret
        exact ⟨rfl, hB2.out⟩
      · have h80' : ¬ ((80 : Int) < (m : Int)) := by omega
        have hm80 := Lib.hid h80
        clear h80
        by_cases h0 : m = 0
        · subst h0
          go_wp2_with fail
          refine (f15_bad wr (rg := rg) (Lib.hid (.inl (by decide)))).mono ?_; rintro e w5 ⟨rfl, rfl⟩
          have hS5 : Hid (Str w1.heap.size Pr wr R2 rg (k % every) (k + 1) u7 cw u8 cg) := Lib.hid (hS2.out.up (Nat.le_refl _) (Nat.le_succ _))
          have hpe : k % every < every := Nat.mod_lt _ (by have := he'.out; omega)
          obtain ⟨pm, hpm⟩ : ∃ pm, Hid (k % every = pm) := ⟨_, Lib.hid rfl⟩
          have em : (k : Int) % (every : Int) = (pm : Int) := by rw [← hpm.out]; rfl
          have em2 : wrap64 (pm : Int) = (pm : Int) := by have := hpm.out; have := he'.out; unfold wrap64; omega
          have ee1 : wrap64 ((every : Int) - 1) = (every : Int) - 1 := by have := he'.out; unfold wrap64; omega
          by_cases hq : pm = every - 1
          · have hq1 : (pm : Int) = (every : Int) - 1 := by have := he'.out; omega
            have hq' := Lib.hid hq
            clear hq hpe
            go_wp2_with fail
            refine (read_ok wr (Lib.hid (let ⟨_, _, ht⟩ := hS5.out.two; ht.ring)) (Lib.hid hS5.out.rg_)).mono ?_; rintro e w7 ⟨a7, n7, c7, rfl, hO7, R7, tk7, rest7, hn7, h7a, h7b, h7c, hrow7, hR7, hS7, hrows7, hrs7, hin7⟩
            obtain ⟨U', w8, Pr8, hap, hS8, hb8⟩ := str_read hS5.out (by have := hn'.out; omega) hO7 h7a h7c hrow7 hR7 hS7 hrows7 hrs7 hin7
            have hB8 : Hid (Below w.heap.size w w8) := Lib.hid (by
              have hb7 : Below w.heap.size w w7 := hB2.out.trans (hO7.belowN hB2.out.size fun j hj h => h (let ⟨_, _, ht⟩ := hS5.out.two; ht.ring.low _ (Nat.lt_of_lt_of_le hj hb1s.out)))
              exact hb7.trans (hb8.mono hb1s.out))
            have hap := Lib.hid hap
            clear hO7 hn7 h7a h7b h7c hrow7 hR7 hS7 hrows7 hrs7 hin7 hb8
            go_wp2_with (first | (at_builtin; refine wpList_plain rfl fun K hK => wp_append_run (.tmp 75) (.tmp 77) 32 rfl _ _ _ rfl rfl hap.out (hK _ _ ?_)))
            go_roundg (n - (k + 1))
            case measure => rw [hg.out]; omega
            case rel => exact ⟨k + 1, Pr8, R7, _, _, Lib.hid rfl, hlt, by go_num, Lib.hid (hS8.up (Nat.zero_le _) (Nat.le_refl _)), hB8⟩
          · have hq1 : ¬ ((pm : Int) = (every : Int) - 1) := by have := he'.out; omega
            have hpk : Hid ((k + 1) % every = pm + 1) := Lib.hid (by have h1 := hpm.out; have h2 := he'.out; rw [Nat.add_mod, h1]; rcases Nat.lt_or_ge 1 every with h3 | h3
                                                                     · rw [Nat.mod_eq_of_lt h3, Nat.mod_eq_of_lt (by omega)]
                                                                     · omega)
            clear hq hpe
            go_wp2_with fail
            go_roundg (n - (k + 1))
            case measure => rw [hg.out]; omega
            case rel => exact ⟨k + 1, _, _, _, _, Lib.hid rfl, hlt, by go_num, Lib.hid (hS5.out.up (by rw [hpk.out, hpm.out]; exact Nat.le_succ _) (Nat.le_refl _)), hB2⟩
        · have hm0 : ¬ ((m : Int) = 0) := by omega
          have hm1 := Lib.hid h0
          clear h0
          obtain ⟨sb, so, rfl, hbts, hlt5⟩ : ∃ b o, pa = some ⟨b, o, none⟩ ∧ Bts wr b o m (fun i => l.getD i 0) ∧ b < w.heap.size := by
            obtain ⟨⟨a, c, h1, h2⟩, h3⟩ := sl.out
            rcases h2 with rfl | ⟨b, o, rfl, h4, h5, h6, h7⟩
            · exact absurd hm.out.symm (by simp; exact hm1.out)
            · simp only [Value.slice.injEq] at h1
              refine ⟨b, o, h1.1, fun i hi => ?_, h5⟩
              have hil : i < l.length := by rw [hm.out]; exact hi
              rw [hB2.out.cell h5, h7 i l[i] (List.getElem?_eq_getElem hil)]
              simp [List.getD, List.getElem?_eq_getElem hil]
          have hbts := Lib.hid hbts
          have hlt5 := Lib.hid hlt5
          have hbyte : Hid (∀ i, i < m → l.getD i 0 < 256) := Lib.hid fun i hi => by
            have hil : i < l.length := by rw [hm.out]; exact hi
            simp only [List.getD, List.getElem?_eq_getElem hil, Option.getD_some]
            exact sl.out.2 _ (List.getElem_mem hil)
          have hring : Hid (RingAt w1.heap.size Pr wr R2) := Lib.hid (let ⟨_, _, ht⟩ := hS2.out.two; ht.ring)
          go_wp2_with fail
          refine (output_ok2 wr hring (Lib.hid hS2.out.rg_) hbts hbyte (Lib.hid (hring.out.low _ (Nat.lt_of_lt_of_le hlt5.out hb1s.out))) (Lib.hid (by have := hm1.out; have := hm80.out; omega)) (Lib.hid (by
            have h1 := used_le (n := 0) hS2.out.all
            have h2 := hS2.out.len
            have h3 := hS2.out.size
            have h4 : k % every < every := Nat.mod_lt _ (by have := he'.out; omega)
            have h5 := he'.out
            have h6 := hm80.out
            unfold takesN
            omega)) (Lib.hid (by have := hS2.out.rs; have := hn'.out; omega))).mono ?_
          rintro e w5 ⟨rfl, hO5, R5, xb, bs, rb, bb, f, hR5, hSm5, hrows5, hrs5, hf5⟩
          have hBw5 : Below w.heap.size w w5 := hB2.out.trans (hO5.belowN hB2.out.size fun j hj h => h (hring.out.low _ (Nat.lt_of_lt_of_le hj hb1s.out)))
          obtain ⟨V6, w6, Pr6, hap, hS6, hb6⟩ := str_out (m := m) hS2.out (by have := hn'.out; omega) hO5 hR5 hSm5 hrows5 hrs5 ⟨by have := hm80.out; show m ≤ 80; omega, rfl⟩ (getD_bytes (l := l) hm.out.symm rfl fun i hi => hf5 i (by rw [← hm.out]; exact hi)) (sl.out.arg hBw5 hb1s.out hring.out.low)
          have hB6 : Hid (Below w.heap.size w w6) := Lib.hid (hBw5.trans (hb6.mono hb1s.out))
          have a2' : w5.cell? ⟨ga, oa + k, none⟩ = some (.slice (some ⟨sb, so, none⟩) m qa) := by
            have h1 := hgl.out
            exact (hO5.cell (p := ⟨ga, oa + k, none⟩) (World.block_lt_of_cell? _ _ a2) fun h => h (hring.out.low _ (Nat.lt_of_lt_of_le h1 hb1s.out))).trans a2
          have hap := Lib.hid hap
          have hS6 := Lib.hid hS6
          clear hO5 hR5 hSm5 hrows5 hrs5 hf5 hBw5 hb6
          have hpe : k % every < every := Nat.mod_lt _ (by have := he'.out; omega)
          obtain ⟨pm, hpm⟩ : ∃ pm, Hid (k % every = pm) := ⟨_, Lib.hid rfl⟩
          have em : (k : Int) % (every : Int) = (pm : Int) := by rw [← hpm.out]; rfl
          have em2 : wrap64 (pm : Int) = (pm : Int) := by have := hpm.out; have := he'.out; unfold wrap64; omega
          have ee1 : wrap64 ((every : Int) - 1) = (every : Int) - 1 := by have := he'.out; unfold wrap64; omega
          by_cases hq : pm = every - 1
          · have hq1 : (pm : Int) = (every : Int) - 1 := by have := he'.out; omega
            have hq' := Lib.hid hq
            clear hq hpe
            go_wp2_with (first | (at_builtin; refine wpList_plain rfl fun K hK => wp_append_run (.tmp 62) (.tmp 67) 32 rfl _ _ _ rfl rfl hap.out (hK _ _ ?_)))
            refine (read_ok w6 (Lib.hid (let ⟨_, _, ht⟩ := hS6.out.two; ht.ring)) (Lib.hid hS6.out.rg_)).mono ?_; rintro e w7 ⟨a7, n7, c7, rfl, hO7, R7, tk7, rest7, hn7, h7a, h7b, h7c, hrow7, hR7, hS7, hrows7, hrs7, hin7⟩
            obtain ⟨U', w8, Pr8, hap, hS8, hb8⟩ := str_read hS6.out (by have := hn'.out; omega) hO7 h7a h7c hrow7 hR7 hS7 hrows7 hrs7 hin7
            have hB8 : Hid (Below w.heap.size w w8) := Lib.hid (by
              have hb7 : Below w.heap.size w w7 := hB6.out.trans (hO7.belowN hB6.out.size fun j hj h => h (let ⟨_, _, ht⟩ := hS6.out.two; ht.ring.low _ (Nat.lt_of_lt_of_le hj hb1s.out)))
              exact hb7.trans (hb8.mono hb1s.out))
            have hap := Lib.hid hap
            clear hO7 hn7 h7a h7b h7c hrow7 hR7 hS7 hrows7 hrs7 hin7 hb8
            go_wp2_with (first | (at_builtin; refine wpList_plain rfl fun K hK => wp_append_run (.tmp 75) (.tmp 77) 32 rfl _ _ _ rfl rfl hap.out (hK _ _ ?_)))
            go_roundg (n - (k + 1))
            case measure => rw [hg.out]; omega
            case rel => exact ⟨k + 1, Pr8, R7, _, _, Lib.hid rfl, hlt, by go_num, Lib.hid (hS8.up (Nat.zero_le _) (Nat.le_refl _)), hB8⟩
          · have hq1 : ¬ ((pm : Int) = (every : Int) - 1) := by have := he'.out; omega
            have hpk : Hid ((k + 1) % every = pm + 1) := Lib.hid (by have h1 := hpm.out; have h2 := he'.out; rw [Nat.add_mod, h1]; rcases Nat.lt_or_ge 1 every with h3 | h3
                                                                     · rw [Nat.mod_eq_of_lt h3, Nat.mod_eq_of_lt (by omega)]
                                                                     · omega)
            clear hq hpe
            go_wp2_with (first | (at_builtin; refine wpList_plain rfl fun K hK => wp_append_run (.tmp 62) (.tmp 67) 32 rfl _ _ _ rfl rfl hap.out (hK _ _ ?_)))
            go_roundg (n - (k + 1))
            case measure => rw [hg.out]; omega
            case rel => exact ⟨k + 1, _, _, _, _, Lib.hid rfl, hlt, by go_num, Lib.hid (hS6.out.up (by rw [hpk.out, hpm.out]; exact Nat.le_refl _) (Nat.le_refl _)), hB6⟩
    · have hkn : k = n := by omega
      subst hkn
      go_wp2_with fail
      refine (read_ok wr (Lib.hid (let ⟨_, _, ht⟩ := hS2.out.two; ht.ring)) (Lib.hid hS2.out.rg_)).mono ?_; rintro e w7 ⟨a7, n7, c7, rfl, hO7, R7, tk7, rest7, hn7, h7a, h7b, h7c, hrow7, hR7, hS7, hrows7, hrs7, hin7⟩
      obtain ⟨U', w8, Pr8, hap, hS8, hb8⟩ := str_read hS2.out (by have := hn'.out; omega) hO7 h7a h7c hrow7 hR7 hS7 hrows7 hrs7 hin7
      have hB8 : Hid (Below w.heap.size w w8) := Lib.hid (by
        have hb7 : Below w.heap.size w w7 := hB2.out.trans (hO7.belowN hB2.out.size fun j hj h => h (let ⟨_, _, ht⟩ := hS2.out.two; ht.ring.low _ (Nat.lt_of_lt_of_le hj hb1s.out)))
        exact hb7.trans (hb8.mono hb1s.out))
      have hap := Lib.hid hap
      clear hO7 hn7 h7a h7b h7c hrow7 hR7 hS7 hrows7 hrs7 hin7 hb8
      obtain ⟨xs8, us8, hT8⟩ := hS8.two
      obtain ⟨va, vc, hva⟩ := hT8.row.len
      obtain ⟨ua, uc, hua⟩ := hT8.row2.len
      rw [hva] at hT8
      obtain ⟨nn, hnn⟩ : ∃ nn, us8.length = nn := ⟨_, rfl⟩
      have hln : xs8.length = nn := by rw [← hnn, hT8.sl.1, hT8.sl2.1]
      rw [hua] at hT8 hap
      rw [hln] at hT8 hva
      rw [hnn] at hT8 hap
      have hnn40 : nn < 2 ^ 40 := by rw [← hln, hT8.sl.1]; have := hS8.cw_; have := hn'.out; omega
      have hT8 := Lib.hid hT8
      have hnn := Lib.hid hnn
      have hln := Lib.hid hln
      have hnn40' := Lib.hid hnn40
      subst hva
      clear hS8 hua hnn40
      go_wp2_with (first | (at_builtin; refine wpList_plain rfl fun K hK => wp_append_run (.tmp 79) (.tmp 81) 32 rfl _ _ _ rfl rfl hap.out (hK _ _ ?_)))
      refine (f18_ok w8 (Lib.hid hT8.out.row2) (Lib.hid hT8.out.row) (Lib.hid ⟨hnn.out, hnn40'.out⟩) (Lib.hid hT8.out.sl2) (Lib.hid hT8.out.sl)).mono ?_; rintro e w9 ⟨rfl, hb9⟩
      have hB9 : Hid (Below w.heap.size w w9) := Lib.hid (hB8.out.trans (hb9.mono hB8.out.size))
      clear hb9
      go_wp2_with fail
      go_ret
      exact ⟨rfl, hB9.out⟩
set_option maxRecDepth 100000 in
set_option maxHeartbeats 2000000 in
theorem stream_no (a0 : Option Addr) (n c0 : Nat) (a1 : Int) (h : Hid (60 < n ∨ a1 < 1 ∨ 10 < a1)) (w : World) :
    Calls Try.prog 4 #[.slice a0 n c0, .int .i64 a1] w fun e w' => e = .returned (.bool true) ∧ Below w.heap.size w w' := by
  by_cases h1 : 60 < (n : Int)
  · go_enter Try.func4, Try.ntmps4
    go_wp2_with fail
    refine (f12_ok w).mono ?_; rintro e w1 ⟨rfl, hb1⟩
    have hb1_ := hb1
    clear hb1
    have hb1 := Lib.hid hb1_
    clear hb1_
    go_wp2_with fail
    go_ret
    exact ⟨rfl, hb1.out⟩
  · by_cases h2 : a1 < 1
    · go_enter Try.func4, Try.ntmps4
      go_wp2_with fail
      refine (f12_ok w).mono ?_; rintro e w1 ⟨rfl, hb1⟩
      have hb1_ := hb1
      clear hb1
      have hb1 := Lib.hid hb1_
      clear hb1_
      go_wp2_with fail
      go_ret
      exact ⟨rfl, hb1.out⟩
    · have h3 : 10 < a1 := by have := h.out; omega
      go_enter Try.func4, Try.ntmps4
      go_wp2_with fail
      refine (f12_ok w).mono ?_; rintro e w1 ⟨rfl, hb1⟩
      have hb1_ := hb1
      clear hb1
      have hb1 := Lib.hid hb1_
      clear hb1_
      go_wp2_with fail
      go_ret
      exact ⟨rfl, hb1.out⟩
theorem ringStream_walk (a0 : Option Addr) (n c0 : Nat) (a1 : Int) (w1 : (Lit.int .i64 a1).wf = true) (w : World) {xs : List Value} {cs : List (List Nat)} (hx : xs.length = n ∧ (n = 0 ∨ ∃ g o, a0 = some ⟨g, o, none⟩ ∧ ∀ (j : Nat) u, xs[j]? = some u → w.cell? ⟨g, o + j, none⟩ = some u) ∧ SlL w.heap.size (· < w.heap.size) w xs cs) :
    Calls Try.prog 4 #[.slice a0 n c0, .int .i64 a1] w fun e w' => e = .returned (.bool true) ∧ Below w.heap.size w w' := by
  by_cases h : n ≤ 60 ∧ 1 ≤ a1 ∧ a1 ≤ 10
  · obtain ⟨m, rfl⟩ : ∃ m : Nat, a1 = m := ⟨a1.toNat, by omega⟩
    exact stream w h.1 (by omega) (Lib.hid hx)
  · exact stream_no a0 n c0 a1 (Lib.hid (by omega)) w
end Go.Proofs.Ytmjeloinibembaa
