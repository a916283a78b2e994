/-
  RingOrder: where it stands in its two halves (plain facts).
-/
import Derived.Test.YtmjeloinibembaaOrdA
namespace Go.Proofs.Ytmjeloinibembaa
open Go.RowKit
set_option linter.unusedVariables false
set_option linter.unusedSimpArgs false
def nj (ls : List Nat) (j : Nat) : Nat := ls.getD j 0 % 100 + 1
def sbm (lh : List Nat) (j : Nat) : Bool := decide (lh.length ≤ j ∨ 0 < lh.getD j 0 % 3)
def ct (ls : List Nat) (j : Nat) : List Nat := (List.range (nj ls j)).map fun k => (j + k) % 256
def wantC (ls lh : List Nat) (i : Nat) : List (List Nat) := ((List.range i).filter (sbm lh)).map (ct ls)
def idsL (i : Nat) : List Value := (List.range i).map fun j => .int .i64 ((j + 1 : Nat) : Int)
def numL (L : List Nat) : List Value := L.map fun (j : Nat) => .int .i64 (j : Int)
theorem idsL_len (i : Nat) : (idsL i).length = i := by simp [idsL]
theorem idsL_succ (i : Nat) : idsL (i + 1) = idsL i ++ [.int .i64 ((i + 1 : Nat) : Int)] := by simp [idsL, List.range_succ]
theorem idsL_at {i j : Nat} (h : j < i) : (idsL i)[j]? = some (.int .i64 ((j + 1 : Nat) : Int)) := by simp [idsL, h]
theorem wantC_len (ls lh : List Nat) (i : Nat) : (wantC ls lh i).length ≤ i := by
  unfold wantC; rw [List.length_map]
  exact Nat.le_trans (List.length_filter_le _ _) (by simp)
theorem wantC_succ1 {ls lh : List Nat} {i : Nat} (h : sbm lh i = true) : wantC ls lh (i + 1) = wantC ls lh i ++ [ct ls i] := by simp [wantC, List.range_succ, h]
theorem wantC_succ0 {ls lh : List Nat} {i : Nat} (h : sbm lh i = false) : wantC ls lh (i + 1) = wantC ls lh i := by simp [wantC, List.range_succ, h]
theorem nj_le (ls : List Nat) (j : Nat) : 1 ≤ nj ls j ∧ nj ls j ≤ 100 := by unfold nj; omega
theorem used_100 : ∀ {l : List Rec}, (∀ r ∈ l, r.n ≤ 100) → usedN l ≤ 112 * l.length
  | [], _ => by simp [usedN]
  | r :: l, h => by
    have h1 := used_100 (fun a ha => h a (List.mem_cons_of_mem _ ha))
    have h2 := h r (by simp)
    rw [usedN_cons, List.length_cons]
    unfold takesN
    omega
structure Ph1 (ls : List Nat) (B : Nat) (Pr : Nat → Prop) (w : World) (R : RingS) (rg mb i ni : Nat) (Vi Vw : Value) (cw : List (List Nat)) : Prop where
  tri : Tri B Pr w R Vw cw (.slice none 0 0) [] [(Vi, idsL ni)]
  rg_ : R.rg = rg
  mb_ : R.mb = mb
  size : R.size = 4096
  len : R.rows.length = i
  rows : ∀ (j : Nat) r, R.rows[j]? = some r → r.id = j + 1 ∧ r.n = nj ls j ∧ r.st = 0
  rslen : R.rs.length = i
  rs : ∀ (j : Nat) x, R.rs[j]? = some x → x.n = nj ls j ∧ ∀ k, k < nj ls j → x.f k = (j + k) % 256
theorem Ph1.used {ls : List Nat} {B : Nat} {Pr : Nat → Prop} {w : World} {R : RingS} {rg mb i ni : Nat} {Vi Vw : Value} {cw : List (List Nat)} (h : Ph1 ls B Pr w R rg mb i ni Vi Vw cw) : usedN R.rows ≤ 112 * i := by
  rw [← h.len]
  refine used_100 fun r hr => ?_
  obtain ⟨j, hj⟩ := List.getElem?_of_mem hr
  rw [(h.rows j r hj).2.1]
  exact (nj_le ls j).2
/-- one more is reserved and set. -/
theorem ph1_set {ls : List Nat} {B : Nat} {Pr : Nat → Prop} {w w1 w3 w4 : World} {R R1 R4 : RingS} {rg mb i ni xb rb bb b5 d : Nat} {Vi Vw : Value} {cw : List (List Nat)} {f : Nat → Nat} (h : Ph1 ls B Pr w R rg mb i ni Vi Vw cw) (ho : Only (fun k => ¬ Pr k) w w1) (hr : RingAt B Pr w1 R1) (hS : Same R R1) (hd : d = R.rs.length + 1)
    (hrows : R1.rows = R.rows ++ [⟨xb, d, nj ls i, 0, 0, fun _ => 0⟩]) (hrs : R1.rs = R.rs ++ [⟨rb, bb, nj ls i, false, fun _ => 0⟩]) (hb3 : Below w1.heap.size w1 w3) (hb5 : w1.heap.size ≤ b5 ∧ b5 < w3.heap.size)
    (ho4 : Only (fun k => ¬ (Pr k ∨ k = b5)) w3 w4) (hr4 : RingAt B (fun k => Pr k ∨ k = b5) w4 R4) (hS4 : Same R1 R4) (hrows4 : R4.rows = R1.rows) (hrs4 : R4.rs = R1.rs.set i { (⟨rb, bb, nj ls i, false, fun _ => 0⟩ : Rgn) with f := f }) (hf : ∀ k, k < nj ls i → f k = (i + k) % 256) :
    Ph1 ls B (fun k => Pr k ∨ k = b5) w4 R4 rg mb (i + 1) ni Vi Vw cw := by
  have t1 := h.tri.call ho hr
  have t3 := t1.grow hb3 hb5.1 hb5.2
  refine ⟨t3.call ho4 hr4, hS4.1.trans (hS.1.trans h.rg_), hS4.2.2.trans (hS.2.2.trans h.mb_), hS4.2.1.trans (hS.2.1.trans h.size), by rw [hrows4, hrows, List.length_append, h.len]; rfl, fun j r hj => ?_, by rw [hrs4, hrs]; simp [h.rslen], fun j x hj => ?_⟩
  · rw [hrows4, hrows] at hj
    by_cases hj1 : j < R.rows.length
    · rw [List.getElem?_append_left hj1] at hj; exact h.rows j r hj
    · rw [List.getElem?_append_right (by omega)] at hj
      have hj2 : j - R.rows.length = 0 := by
        have := (List.getElem?_eq_some_iff.1 hj).1; simp at this; omega
      rw [hj2] at hj
      simp only [List.getElem?_cons_zero, Option.some.injEq] at hj
      subst hj
      have hji : j = i := by have := h.len; omega
      subst hji
      exact ⟨by rw [hd, h.rslen], rfl, rfl⟩
  · rw [hrs4, hrs, List.getElem?_set] at hj
    split at hj
    · rename_i hij
      subst hij
      split at hj
      · simp only [Option.some.injEq] at hj; subst hj; exact ⟨rfl, hf⟩
      · simp at hj
    · rename_i hij
      by_cases hj1 : j < R.rs.length
      · rw [List.getElem?_append_left hj1] at hj; exact h.rs j x hj
      · have := (List.getElem?_eq_some_iff.1 hj).1
        simp at this
        have := h.rslen; omega
theorem ph1_ids {ls : List Nat} {B : Nat} {Pr : Nat → Prop} {w : World} {R : RingS} {rg mb i ni : Nat} {Vi Vw : Value} {cw : List (List Nat)} (h : Ph1 ls B Pr w R rg mb i ni Vi Vw cw) (hn : ni ≤ 1000) {d : Int} (hd : d = ((ni + 1 : Nat) : Int)) :
    ∃ (V' : Value) (w' : World) (Pr' : Nat → Prop), (Builtin.append_ #[37, 37] 37 #[Vi, .slice (some ⟨w.heap.size, 0, none⟩) 1 1]).run Try.prog (w.alloc (.cells #[.int .i64 d] 3)) = .ok V' w' ∧ Ph1 ls B Pr' w' R rg mb i (ni + 1) V' Vw cw ∧ Below B w w' ∧ ∀ v l, SlB B Pr w v l → SlB B Pr' w' v l := by
  subst hd
  have hal : Below w.heap.size w (w.alloc (.cells #[.int .i64 ((ni + 1 : Nat) : Int)] 3)) := Below.one _
  obtain ⟨V', w', Pr', h1, h2, h3, h4⟩ := (h.tri.below hal).int RowAt.made3 (fun u hu => by obtain rfl := List.mem_singleton.1 hu; rfl) (by rw [idsL_len]; simp; omega)
  exact ⟨V', w', Pr', h1, ⟨by rw [idsL_succ]; exact h2, h.rg_, h.mb_, h.size, h.len, h.rows, h.rslen, h.rs⟩, (hal.mono h.tri.big).trans h3, fun v l hs => h4.2 v l (hs.below hal)⟩
theorem ph1_want {ls : List Nat} {B : Nat} {Pr : Nat → Prop} {w : World} {R : RingS} {rg mb i ni : Nat} {Vi Vw v : Value} {cw : List (List Nat)} {l : List Nat} (h : Ph1 ls B Pr w R rg mb i ni Vi Vw cw) (hn : cw.length ≤ 1000) (hv : SlB B Pr w v l) :
    ∃ (V' : Value) (w' : World) (Pr' : Nat → Prop), (Builtin.append_ #[32, 32] 32 #[Vw, .slice (some ⟨w.heap.size, 0, none⟩) 1 1]).run Try.prog (w.alloc (.cells #[v] 30)) = .ok V' w' ∧ Ph1 ls B Pr' w' R rg mb i ni Vi V' (cw ++ [l]) ∧ Below B w w' := by
  have hal : Below w.heap.size w (w.alloc (.cells #[v] 30)) := Below.one _
  obtain ⟨V', w', Pr', h1, h2, h3, _⟩ := (h.tri.below hal).app RowAt.made (SlL.one (hv.below hal)) (by simp; omega)
  exact ⟨V', w', Pr', h1, ⟨h2, h.rg_, h.mb_, h.size, h.len, h.rows, h.rslen, h.rs⟩, (hal.mono h.tri.big).trans h3⟩
/-- the second half. -/
structure Ph3 (ls lh : List Nat) (B : Nat) (Pr : Nat → Prop) (w : World) (R : RingS) (rg N s : Nat) (Vl Vi Vw Vg : Value) (L : List Nat) : Prop where
  tri : Tri B Pr w R Vg (wantC ls lh s) Vw (wantC ls lh N) [(Vl, numL L), (Vi, idsL N)]
  rg_ : R.rg = rg
  nod : L.Nodup ∧ ∀ j ∈ L, j < N
  len : R.rows.length + s = N
  rows : ∀ (j : Nat) r, R.rows[j]? = some r → r.id = s + j + 1 ∧ r.n = nj ls (s + j) ∧ (s + j ∈ L → r.st = 0) ∧ (s + j ∉ L → r.st = (if sbm lh (s + j) then 1 else 2) ∧ r.bytes = ct ls (s + j))
  past : ∀ j, j < s → j ∉ L
  rslen : R.rs.length = N
  rs : ∀ j x, j ∈ L → R.rs[j]? = some x → x.n = nj ls j ∧ ∀ k, k < nj ls j → x.f k = (j + k) % 256
theorem ph3_start {ls lh : List Nat} {B : Nat} {Pr : Nat → Prop} {w w' : World} {R : RingS} {rg mb N b : Nat} {Vi Vw Vl : Value} (h : Ph1 ls B Pr w R rg mb N N Vi Vw (wantC ls lh N)) (hb : Below w.heap.size w w') (h1 : w.heap.size ≤ b) (hr : RowAt B 3 w' Vl (numL (List.range N))) (hV : Vl.ownBlock = some b) :
    Ph3 ls lh B (fun k => Pr k ∨ k = b) w' R rg N 0 Vl Vi Vw (.slice none 0 0) (List.range N) := by
  refine ⟨(h.tri.swap).add hb h1 hr hV, h.rg_, ⟨List.nodup_range, fun j hj => List.mem_range.1 hj⟩, h.len, fun j r hj => ?_, fun j hj => by omega, h.rslen, fun j x _ hx => h.rs j x hx⟩
  obtain ⟨a1, a2, a3⟩ := h.rows j r hj
  have hjN : j < N := by have := (List.getElem?_eq_some_iff.1 hj).1; have := h.len; omega
  rw [Nat.zero_add]
  exact ⟨a1, a2, fun _ => a3, fun hn => absurd (List.mem_range.2 hjN) hn⟩
/-- who is to be ended. -/
theorem Ph3.at {ls lh : List Nat} {B : Nat} {Pr : Nat → Prop} {w : World} {R : RingS} {rg N s k : Nat} {Vl Vi Vw Vg : Value} {L : List Nat} (h : Ph3 ls lh B Pr w R rg N s Vl Vi Vw Vg L) (hk : k ∈ L) : ∃ r, r ∈ R.rows ∧ r.st = 0 ∧ r.id = k + 1 := by
  have h1 : s ≤ k := by
    rcases Nat.lt_or_ge k s with h2 | h2
    · exact absurd hk (h.past k h2)
    · exact h2
  have h2 := h.nod.2 k hk
  have hlt : k - s < R.rows.length := by have := h.len; omega
  obtain ⟨a1, a2, a3, a4⟩ := h.rows (k - s) _ (List.getElem?_eq_getElem hlt)
  rw [show s + (k - s) = k by omega] at a1 a3
  exact ⟨_, List.getElem_mem hlt, a3 hk, a1⟩
/-- one is taken out of what is left. -/
theorem ph3_left {ls lh : List Nat} {B : Nat} {Pr : Nat → Prop} {w : World} {R : RingS} {rg N s at' n cap : Nat} {g o : Nat} {Vi Vw Vg : Value} {L : List Nat} (h : Ph3 ls lh B Pr w R rg N s (.slice (some ⟨g, o, none⟩) n cap) Vi Vw Vg L) (ha : at' < L.length) (hLN : L.length ≤ 1000) {ad : Option Addr} (had : (if cap = at' + 1 then some ⟨g, o, none⟩ else some ⟨g, o + (at' + 1), none⟩) = ad) :
    ∃ (V' : Value) (w' : World) (Pr' : Nat → Prop), (Builtin.append_ #[37, 37] 37 #[.slice (some ⟨g, o, none⟩) at' at', .slice ad (n - (at' + 1)) (cap - (at' + 1))]).run Try.prog w = .ok V' w' ∧ Below B w w' ∧ Tri B Pr' w' R Vg (wantC ls lh s) Vw (wantC ls lh N) [(V', numL (L.eraseIdx at')), (Vi, idsL N)] := by
  have hrow := (h.tri.rows _ (List.mem_cons_self ..)).1
  simp only at hrow
  have hl : (numL L).length = L.length := by simp [numL]
  have h1 := hrow.ahead (at' := at') (by omega)
  obtain ⟨h2, h3, h4⟩ := hrow.behind (k := at' + 1) (by omega)
  rw [had] at h4
  obtain ⟨V', w', Pr', a1, a2, a3, a4⟩ := (h.tri.cut h1 fun k hk => hk).int h4 (fun u hu => by
    have := List.mem_of_mem_drop hu
    simp only [numL, List.mem_map] at this
    obtain ⟨j, _, rfl⟩ := this; rfl) (by simp; omega)
  refine ⟨V', w', Pr', a1, a3, ?_⟩
  rw [show numL (L.eraseIdx at') = (numL L).take at' ++ (numL L).drop (at' + 1) by unfold numL; rw [List.eraseIdx_eq_take_drop_succ, List.map_append, List.map_take, List.map_drop]]
  exact a2
/-- one is ended. -/
theorem ph3_end {ls lh : List Nat} {B : Nat} {Pr Pr' : Nat → Prop} {w w' w'' : World} {R R' : RingS} {rg N s at' k sx bs : Nat} {Vl Vl' Vi Vw Vg : Value} {L : List Nat} {r : Rec} {x : Rgn} (h : Ph3 ls lh B Pr w R rg N s Vl Vi Vw Vg L) (hk : L[at']? = some k)
    (ht : Tri B Pr' w' R Vg (wantC ls lh s) Vw (wantC ls lh N) [(Vl', numL (L.eraseIdx at')), (Vi, idsL N)]) (ho : Only (fun k => ¬ Pr' k) w' w'') (hr : RingAt B Pr' w'' R') (hS : Same R R') (hid : r.id = k + 1) (hx : R.rs[r.id - 1]? = some x)
    (hrows : R'.rows = R.rows.map (Rec.fin r.id sx bs x.f)) (hrs : R'.rs = R.rs.set (r.id - 1) { x with d := true }) (hsx : sx = if sbm lh k then 1 else 2) : Ph3 ls lh B Pr' w'' R' rg N s Vl' Vi Vw Vg (L.eraseIdx at') := by
  have hkL : k ∈ L := List.mem_of_getElem? hk
  have hlt : at' < L.length := (List.getElem?_eq_some_iff.1 hk).1
  have hk' : L[at'] = k := (List.getElem?_eq_some_iff.1 hk).2
  have hmem : ∀ j, j ∈ L.eraseIdx at' ↔ j ∈ L ∧ j ≠ k := fun j => by
    rw [List.mem_eraseIdx_iff_getElem?]
    constructor
    · rintro ⟨i, hi, hj⟩
      refine ⟨List.mem_of_getElem? hj, fun he => ?_⟩
      subst he
      obtain ⟨h1, h2⟩ := List.getElem?_eq_some_iff.1 hj
      have hp := List.pairwise_iff_getElem.1 h.nod.1
      rcases Nat.lt_or_gt_of_ne hi with h3 | h3
      · exact hp i at' h1 hlt h3 (h2.trans hk'.symm)
      · exact hp at' i hlt h1 h3 (hk'.trans h2.symm)
    · rintro ⟨h1, h2⟩
      obtain ⟨i, hi⟩ := List.getElem?_of_mem h1
      exact ⟨i, fun he => h2 (by subst he; rw [hk] at hi; exact (Option.some.inj hi).symm), hi⟩
  have hidk : r.id - 1 = k := by omega
  rw [hidk] at hx hrs
  obtain ⟨hxn, hxf⟩ := h.rs k x hkL hx
  refine ⟨ht.call ho hr, hS.1.trans h.rg_, ⟨h.nod.1.eraseIdx _, fun j hj => h.nod.2 j ((hmem j).1 hj).1⟩, by rw [hrows, List.length_map]; exact h.len, fun j a hj => ?_, fun j hj hm => h.past j hj ((hmem j).1 hm).1, by rw [hrs, List.length_set]; exact h.rslen, fun j y hj hy => ?_⟩
  · rw [hrows, List.getElem?_map] at hj
    cases hb : R.rows[j]? with
    | none => rw [hb] at hj; simp at hj
    | some b =>
      rw [hb] at hj
      simp only [Option.map_some, Option.some.injEq] at hj
      subst hj
      obtain ⟨a1, a2, a3, a4⟩ := h.rows j b hb
      refine ⟨by rw [Rec.fin_id]; exact a1, by rw [Rec.fin_n]; exact a2, fun hm => ?_, fun hm => ?_⟩
      · obtain ⟨h1, h2⟩ := (hmem _).1 hm
        rw [show b.fin r.id sx bs x.f = b from if_neg (by omega)]
        exact a3 h1
      · by_cases hjk : s + j = k
        · rw [show b.fin r.id sx bs x.f = { b with st := sx, bs := bs, g := x.f } from if_pos (by omega)]
          refine ⟨by rw [hjk]; exact hsx, ?_⟩
          unfold Rec.bytes ct
          simp only
          rw [a2, hjk]
          exact List.map_congr_left fun i hi => hxf i (List.mem_range.1 hi)
        · rw [show b.fin r.id sx bs x.f = b from if_neg (by omega)]
          exact a4 fun h1 => hm ((hmem _).2 ⟨h1, hjk⟩)
  · obtain ⟨h1, h2⟩ := (hmem _).1 hj
    rw [hrs, List.getElem?_set_ne (fun e => h2 e.symm)] at hy
    exact h.rs j y h1 hy
theorem filter_range' (p : Nat → Bool) (s : Nat) : ∀ m, (List.range (s + m)).filter p = (List.range s).filter p ++ ((List.range m).map (s + ·)).filter p
  | 0 => by simp
  | m + 1 => by
    rw [← Nat.add_assoc, List.range_succ, List.filter_append, filter_range' p s m, List.range_succ, List.map_append, List.filter_append, List.append_assoc]
    rfl
/-- what can be read is read. -/
theorem ph3_read {ls lh : List Nat} {B : Nat} {Pr : Nat → Prop} {w w7 : World} {R R7 : RingS} {rg N s : Nat} {Vl Vi Vw Vg V2 : Value} {L : List Nat} {tk rest : List Rec} (h : Ph3 ls lh B Pr w R rg N s Vl Vi Vw Vg L) (hN : N ≤ 1000) (ho : Only (fun k => ¬ Pr k) w w7) (h7a : R.rows = tk ++ rest) (h7b : ∀ r ∈ tk, r.st ≠ 0)
    (hrow : RowAt w.heap.size 30 w7 V2 (outsOf tk)) (hr : RingAt B (Given Pr tk V2) w7 R7) (hS : Same R R7) (hrows : R7.rows = rest) (hrs : R7.rs = R.rs)
    (hin : ∀ r ∈ tk, r.st ≠ 0 → Bts w7 r.bs 0 r.n r.g ∧ KindAt w7 r.bs 5 ∧ Thaw w7 r.bs ∧ ¬ Pr r.bs ∧ (1 ≤ r.n ∧ r.n ≤ 4096) ∧ ∀ i, i < r.n → r.g i < 256) :
    ∃ (V' : Value) (w8 : World) (Pr' : Nat → Prop), (Builtin.append_ #[32, 32] 32 #[Vg, V2]).run Try.prog w7 = .ok V' w8 ∧ Ph3 ls lh B Pr' w8 R7 rg N (s + tk.length) Vl Vi Vw V' L ∧ Below B w7 w8 := by
  have hsl := outs_sl (B := B) (V := V2) hin
  have hat : ∀ (j : Nat) r, tk[j]? = some r → R.rows[j]? = some r := fun j r hj => by rw [h7a, List.getElem?_append_left (List.getElem?_eq_some_iff.1 hj).1]; exact hj
  have hnot : ∀ (j : Nat) r, tk[j]? = some r → s + j ∉ L := fun j r hj hm => h7b r (List.mem_of_getElem? hj) ((h.rows j r (hat j r hj)).2.2.1 hm)
  have hcont : (tk.filter fun r => r.st == 1).map Rec.bytes = (((List.range tk.length).map (s + ·)).filter (sbm lh)).map (ct ls) := by
    have h1 : tk.map (fun r => (r.st == 1, r.bytes)) = ((List.range tk.length).map (s + ·)).map fun j => (sbm lh j, ct ls j) := by
      refine List.ext_getElem (by simp) fun i g1 g2 => ?_
      have hi : i < tk.length := by simpa using g1
      obtain ⟨a1, a2, a3, a4⟩ := h.rows i _ (hat i _ (List.getElem?_eq_getElem hi))
      obtain ⟨b1, b2⟩ := a4 (hnot i _ (List.getElem?_eq_getElem hi))
      simp only [List.getElem_map, List.getElem_range, Prod.mk.injEq]
      refine ⟨?_, b2⟩
      rw [b1]
      cases sbm lh (s + i) <;> rfl
    have h2 : ∀ (l : List Rec), (l.filter fun r => r.st == 1).map Rec.bytes = ((l.map fun r => (r.st == 1, r.bytes)).filter fun x => x.1).map fun x => x.2 := fun l => by
      rw [List.filter_map, List.map_map]; rfl
    have h3 : ∀ (l : List Nat), (l.filter (sbm lh)).map (ct ls) = ((l.map fun j => (sbm lh j, ct ls j)).filter fun x => x.1).map fun x => x.2 := fun l => by
      rw [List.filter_map, List.map_map]; rfl
    rw [h2, h3, h1]
  have hlen : tk.length + rest.length + s = N := by have := h.len; rw [h7a, List.length_append] at this; exact this
  have hfl : ((tk.filter fun r => r.st == 1).map Rec.bytes).length ≤ tk.length := by rw [List.length_map]; exact List.length_filter_le _ _
  obtain ⟨V', w8, Pr', g1, g2, g3, g4, _⟩ := (h.tri.read ho hr).app hrow hsl (by have := wantC_len ls lh s; omega)
  have hwant : wantC ls lh s ++ (tk.filter fun r => r.st == 1).map Rec.bytes = wantC ls lh (s + tk.length) := by
    rw [hcont]; unfold wantC; rw [filter_range', List.map_append]
  rw [hwant] at g2
  refine ⟨V', w8, Pr', g1, ⟨g2, hS.1.trans h.rg_, h.nod, by rw [hrows]; omega, fun j r hj => ?_, fun j hj hm => ?_, by rw [hrs]; exact h.rslen, by rw [hrs]; exact h.rs⟩, g3⟩
  · rw [hrows] at hj
    have hj' : R.rows[tk.length + j]? = some r := by rw [h7a, List.getElem?_append_right (by omega)]; rwa [Nat.add_sub_cancel_left]
    have := h.rows _ r hj'
    rwa [← Nat.add_assoc] at this
  · rcases Nat.lt_or_ge j s with h1 | h1
    · exact h.past j h1 hm
    · have hjt : j - s < tk.length := by omega
      have := hnot (j - s) _ (List.getElem?_eq_getElem hjt)
      rw [show s + (j - s) = j by omega] at this
      exact this hm
/-- at its end nothing is left. -/
theorem ph3_done {ls lh : List Nat} {B : Nat} {Pr : Nat → Prop} {w : World} {R : RingS} {rg N s : Nat} {Vl Vi Vw Vg : Value} (h : Ph3 ls lh B Pr w R rg N s Vl Vi Vw Vg []) (hh : ∀ r, R.rows.head? = some r → r.st = 0) : R.rows = [] ∧ s = N := by
  have h1 : R.rows = [] := by
    cases hr : R.rows with
    | nil => rfl
    | cons r l =>
      have h2 := hh r (by rw [hr]; rfl)
      have h3 := ((h.rows 0 r (by rw [hr]; rfl)).2.2.2 (by simp)).1
      split at h3 <;> omega
  exact ⟨h1, by have := h.len; rw [h1] at this; simpa using this⟩
end Go.Proofs.Ytmjeloinibembaa
