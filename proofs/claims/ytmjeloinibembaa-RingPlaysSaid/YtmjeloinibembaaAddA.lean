/-
  THE WALKS of package region: bytes cloned; a region added.
-/
import Derived.Test.YtmjeloinibembaaRegE
import Derived.Laws.OwnMore
namespace Go.Proofs.Ytmjeloinibembaa
open Go.RowKit
set_option linter.unusedVariables false
set_option linter.unusedSimpArgs false
theorem info5 : Try.prog.info? 5 = some Try.t5 := by kernel_rfl
theorem zero5 : Try.t5.zero = some (.int .u8 0) := by kernel_rfl
theorem size5 : Try.t5.size = 1 := by kernel_rfl
theorem bytes5 : Try.t5.bytes = 1 := by kernel_rfl
theorem info90 : Try.prog.info? 90 = some Try.t90 := by kernel_rfl
theorem zero90 : Try.t90.zero = some .nilIface := by kernel_rfl
theorem size90 : Try.t90.size = 1 := by kernel_rfl
theorem bytes90 : Try.t90.bytes = 16 := by kernel_rfl
theorem addr_add (b o j : Nat) : (⟨b, o, none⟩ : Addr).add j = ⟨b, o + j, none⟩ := by simp [Addr.add]
/-- bytes as values. -/
def byteL (f : Nat → Nat) (n : Nat) : List Value := (List.range n).map fun i => .int .u8 ((f i : Nat) : Int)
theorem byteL_length (f : Nat → Nat) (n : Nat) : (byteL f n).length = n := by simp [byteL]
theorem byteL_at {f : Nat → Nat} {n j : Nat} (h : j < n) : (byteL f n)[j]? = some (.int .u8 ((f j : Nat) : Int)) := by simp [byteL, h]
theorem byteL_some {f : Nat → Nat} {n j : Nat} {u : Value} (h : (byteL f n)[j]? = some u) : j < n ∧ u = .int .u8 ((f j : Nat) : Int) := by
  have hj : j < n := by
    rcases Nat.lt_or_ge j n with h' | h'
    · exact h'
    · rw [List.getElem?_eq_none (by rw [byteL_length]; exact h')] at h; cases h
  refine ⟨hj, ?_⟩
  rw [byteL_at hj] at h
  exact (Option.some.inj h).symm
theorem byteL_one {f : Nat → Nat} {n : Nat} : ∀ u ∈ byteL f n, u.oneCell' = true := by
  intro u hu
  simp only [byteL, List.mem_map] at hu
  obtain ⟨i, _, rfl⟩ := hu
  rfl
theorem bts_of_own {w : World} {base g n c : Nat} {f : Nat → Nat} (h : w.ownsRow base 5 1 (.slice (some ⟨g, 0, none⟩) n c) n (byteL f n)) : Bts w g 0 n f := fun i hi => by
  rw [Nat.zero_add, h.cellAt i (by omega), byteL_at hi]
theorem own_slice {w : World} {base e size n : Nat} {v : Value} {xs : List Value} (h : w.ownsRow base e size v n xs) (hv : v ≠ .slice none 0 0) : ∃ g c, v = .slice (some ⟨g, 0, none⟩) n c ∧ base ≤ g ∧ g < w.heap.size ∧ n ≤ c := by
  rcases h.2 with ⟨h', _⟩ | ⟨g, cap, cur, h', hb, hg, hnc, _⟩
  · exact absurd h' hv
  · exact ⟨g, cap, h', hb, (Array.getElem?_eq_some_iff.1 hg).1, hnc⟩

set_option maxRecDepth 100000 in
set_option maxHeartbeats 1000000 in
theorem f59_ok (w : World) {sb so n c : Nat} {f : Nat → Nat} (hb : Bts w sb so n f) (hn : n < 2 ^ 40) :
    Calls Try.prog 59 #[.slice (some ⟨sb, so, none⟩) n c] w fun e w' => ∃ g c', e = .returned (.slice (some ⟨g, 0, none⟩) n c') ∧ w'.ownsRow w.heap.size 5 1 (.slice (some ⟨g, 0, none⟩) n c') n (byteL f n) ∧ Below w.heap.size w w' := by
  have q30 : ∀ (w : World) (a : Option Addr) (n c n' c' : Nat), (binOp .eql 30 (.slice a n c) (.slice none n' c')).run Try.prog w = .ok (.bool a.isNone) w := fun w a n c n' c' => Lib.run_eql_slice_nil w _ _ a n c n' c' Try.underlying30
  have HB := Lib.hid hb
  clear hb
  have hown : (w.alloc (.cells #[] 5)).ownsRow w.heap.size 5 1 (.slice (some ⟨w.heap.size, 0, none⟩) 0 0) 0 [] := World.ownsRow_made w #[] 0 (Nat.le_refl _) (by decide) rfl
  have hnews : Hid (∀ j u, (byteL f n)[j]? = some u → (w.alloc (.cells #[] 5)).cell? ((⟨sb, so, none⟩ : Addr).add j) = some u) := Lib.hid fun j u hu => by
    obtain ⟨hj, rfl⟩ := byteL_some hu
    have h1 := HB.out j hj
    have h2 := World.block_lt_of_cell? _ _ h1
    rw [addr_add]
    rw [World.cell?_alloc_lt _ _ _ h2]; exact h1
  have hn' := Lib.hid hn
  clear hn
  go_enter Try.func59, Try.ntmps59
  go_wp2_with (first
    | (at_builtin; refine wpList_append_own _ rfl _ _ 30 rfl w.heap.size 5 Try.t5 (.int .u8 0) 1 1 Try.underlying30 info5 zero5 size5 bytes5 rfl (by decide) _ _ _ rfl hown ⟨sb, so, none⟩ n c (byteL f n) rfl (by rw [byteL_length]; omega) hnews.out byteL_one (by have := hn'.out; unfold maxLen; omega) (by have := hn'.out; omega) (by simp) ?_; intro v' w3 ho3 hg3 hnil3))
  have hv : v' ≠ .slice none 0 0 := fun h => by
    have := (hnil3.1 h).1
    cases this
  rw [Nat.zero_add] at ho3
  obtain ⟨g, c', rfl, hb1, hb2, hb3⟩ := own_slice ho3 hv
  go_returns
  refine ⟨g, c', rfl, by simpa using ho3, ?_⟩
  have hbb := Below.one (w := w) (.cells #[] 5)
  exact hbb.grown hg3 (by simp) (fun k hk => by have : w.heap.size = k := Option.some.inj hk; omega)
theorem own_ne {w : World} {B e size n : Nat} {v : Value} {xs : List Value} (h : w.ownsRow B e size v n xs) (hn : 0 < n) : v ≠ .slice none 0 0 := fun hv => by
  rcases h.2 with ⟨_, h0⟩ | ⟨g, cap, cur, h', _⟩
  · omega
  · rw [h'] at hv; simp at hv
theorem own_cap {w : World} {B e size n g c : Nat} {xs : List Value} (h : w.ownsRow B e size (.slice (some ⟨g, 0, none⟩) n c) n xs) : n ≤ c := by
  rcases h.2 with ⟨h', _⟩ | ⟨g', cap, cur, h', _, _, hnc, _⟩
  · simp at h'
  · simp only [Value.slice.injEq] at h'
    omega
/-- an append whose run is known. -/
theorem wp_append_run {P : Program} {o : Oper} {a : Act} {K : Act → World → Prop} {Q : Exit → Act → World → Prop} {w w' : World} (s x : Operand) (t : TypeId) (ho : o.op = .call { callee := .builtin .append, args := #[s, x], argTypes := #[t, t] })
    (v1 v2 v' : Value) (hs : a.eval s = v1) (hx : a.eval x = v2) (hr : (Builtin.append_ #[t, t] o.type #[v1, v2]).run P w = .ok v' w') (h : K (a.put o.dst v') w') : o.wp P a w K Q := by
  unfold Oper.wp execOp
  simp only [ho, resolve, invoke, builtin, Sem.run_bind, Sem.run_pure, Result.andThen_ok, List.map_toArray, List.map_cons, List.map_nil, hs, hx, hr]
  exact h
theorem kpa {W : World} {a : Addr} {v : Value} {o : Obj} (h : W.cell? a = some v) : (W.alloc o).cell? a = some v := by
  rw [World.cell?_alloc_lt _ _ _ (World.block_lt_of_cell? _ _ h)]; exact h
/-- a memory: its list, in a row of its own. -/
structure MemRow (B : Nat) (w : World) (mb : Nat) (v : Value) (l : List (Bool × Nat)) : Prop where
  all : w.cell? ⟨mb, 0, none⟩ = some v
  own : w.ownsRow B 90 1 v l.length (l.map areaV)
  thaw : Thaw w mb
  kind : KindAt w mb 83
  ge : B ≤ mb
  small : l.length < 2 ^ 30
theorem own_kind {w : World} {B e size n : Nat} {v : Value} {xs : List Value} (h : w.ownsRow B e size v n xs) {k : Nat} (hk : v.ownBlock = some k) : KindAt w k e ∧ B ≤ k := by
  rcases h.2 with ⟨rfl, _⟩ | ⟨g, cap, cur, rfl, hb, hg, _⟩
  · simp [Value.ownBlock] at hk
  · simp only [Value.ownBlock, Option.some.injEq] at hk
    subst hk
    exact ⟨⟨cur, _, hg⟩, hb⟩
theorem MemRow.tab {B : Nat} {w : World} {mb : Nat} {v : Value} {l : List (Bool × Nat)} (h : MemRow B w mb v l) (hl : l ≠ []) : ∃ ab, Tab w mb ab l := by
  have hv : v ≠ .slice none 0 0 := fun hv => by
    rcases h.own.2 with ⟨_, h0⟩ | ⟨g, cap, cur, rfl, _⟩
    · exact hl (List.eq_nil_of_length_eq_zero h0)
    · simp at hv
  obtain ⟨g, c, rfl, h1, h2, h3⟩ := own_slice h.own hv
  refine ⟨g, ⟨c, h.all⟩, by have := h.small; omega, fun j x hx => ?_⟩
  have hj := (List.getElem?_eq_some_iff.1 hx).1
  rw [h.own.cellAt j (by omega), List.getElem?_map, hx]; rfl
theorem ownsRow_only {S : Nat → Prop} {w w' : World} {B e size n : Nat} {v : Value} {xs : List Value} (h : w.ownsRow B e size v n xs) (ho : Only S w w') (hn : ∀ k, v.ownBlock = some k → ¬ S k) : w'.ownsRow B e size v n xs := by
  refine ⟨h.1, ?_⟩
  rcases h.2 with hv | ⟨g, cap, cur, rfl, hb, hg, rest⟩
  · exact .inl hv
  · exact .inr ⟨g, cap, cur, rfl, hb, by rw [ho.block g (Array.getElem?_eq_some_iff.1 hg).1 (hn g rfl)]; exact hg, rest⟩
theorem MemRow.only {S : Nat → Prop} {B : Nat} {w w' : World} {mb : Nat} {v : Value} {l : List (Bool × Nat)} (h : MemRow B w mb v l) (ho : Only S w w') (hm : ¬ S mb) (hv : ∀ k, v.ownBlock = some k → ¬ S k) : MemRow B w' mb v l :=
  ⟨by rw [ho.cell (p := ⟨mb, 0, none⟩) h.kind.lt hm]; exact h.all, ownsRow_only h.own ho hv, h.thaw.only ho h.kind.lt hm, ho.kind _ _ (by decide) h.kind, h.ge, h.small⟩
/-- a change of blocks of other kinds leaves a memory. -/
theorem MemRow.keep {S : Nat → Prop} {B : Nat} {w w' : World} {mb : Nat} {v : Value} {l : List (Bool × Nat)} (h : MemRow B w mb v l) (ho : Only S w w') (hs : ∀ k, S k → ∃ e, (e = 5 ∨ e = 95 ∨ e = 121 ∨ e = 80 ∨ e = 85) ∧ KindAt w k e) : MemRow B w' mb v l :=
  h.only ho (fun hx => by obtain ⟨e, he, hk⟩ := hs _ hx; have := hk.inj h.kind; rcases he with rfl | rfl | rfl | rfl | rfl <;> exact absurd this (by decide)) (fun k hk hx => by obtain ⟨e, he, hk'⟩ := hs _ hx; have := hk'.inj (own_kind h.own hk).1; rcases he with rfl | rfl | rfl | rfl | rfl <;> exact absurd this (by decide))
theorem append90 {B : Nat} {w : World} {v : Value} {l : List (Bool × Nat)} (h : w.ownsRow B 90 1 v l.length (l.map areaV)) (hB : B ≤ w.heap.size) (hl : l.length < 2 ^ 30) (x : Bool × Nat) :
    ∃ v' w', (Builtin.append_ #[81, 81] 81 #[v, .slice (some ⟨w.heap.size, 0, none⟩) 1 1]).run Try.prog (w.alloc (.cells #[areaV x] 90)) = .ok v' w' ∧ w'.ownsRow B 90 1 v' (l ++ [x]).length ((l ++ [x]).map areaV) ∧ (w.alloc (.cells #[areaV x] 90)).grownBy w' v.ownBlock := by
  obtain ⟨v', w', h1, h2, h3, _⟩ := run_append_own (P := Try.prog) (w.alloc (.cells #[areaV x] 90)) B 81 81 90 Try.t90 .nilIface 1 16 Try.underlying81 info90 zero90 size90 bytes90 rfl (by decide) v l.length (l.map areaV) (h.alloc _)
    ⟨w.heap.size, 0, none⟩ 1 1 [areaV x] rfl (fun j u hu => by
      rcases j with _ | j
      · rw [addr_add, World.cell?_alloc_at _ _ _ _ rfl]; exact hu
      · simp at hu) (fun u hu => by
      simp only [List.mem_singleton] at hu; subst hu; unfold areaV; split <;> rfl) (by unfold maxLen; omega) (by omega) (by simp; omega)
  exact ⟨v', w', h1, by simpa using h2, h3⟩

set_option maxRecDepth 100000 in
set_option maxHeartbeats 2000000 in
theorem f43_ok (B : Nat) (w : World) {mb : Nat} {v : Value} {l : List (Bool × Nat)} (hm : Hid (MemRow B w mb v l)) (hl : Hid (l.length + 1 < 2 ^ 30)) (hB : Hid (B ≤ w.heap.size)) {sb so n c : Nat} {f : Nat → Nat} (hb : Hid (Bts w sb so n f)) (hn : Hid (n < 2 ^ 40)) (hf : Hid (∀ i, i < n → f i < 256)) (wr : Bool) :
    Calls Try.prog 43 #[.pointer (some ⟨mb, 0, none⟩), .slice (some ⟨sb, so, none⟩) n c, .bool wr, .int .i64 0] w fun e w' => ∃ rb bb v', e = .returned (.int .i64 ((l.length + 1 : Nat) : Int)) ∧ MemRow B w' mb v' (l ++ [(false, rb)]) ∧ RegAt w' rb bb false wr n f ∧ w.heap.size ≤ rb ∧ w.heap.size ≤ bb ∧ Only (fun k => k = mb ∨ v.ownBlock = some k) w w' := by
  have h1 := hm.out.all
  go_enter Try.func43, Try.ntmps43
  go_wp2_with fail
  refine Reg.start (S := (fun w' => w'.cell? ⟨mb, 0, none⟩ = some v)) (B := (fun j => [20].contains j)) (by kernel_rfl) ?_
  refine Reg.take0 (i := 0) (v := ?_) rfl (by kernel_rfl) (by kernel_rfl) (by kernel_rfl) (by kernel_rfl) (fun _ _ _ h => h) (Or.inl ⟨by rfl, ?_⟩) ?_
  rotate_left
  · (intro w _; go_simp; try with_reducible rfl)
  try simp only [Act.put, List.setIfInBounds_toArray, List.set_cons_zero, List.set_cons_succ]
  refine Reg.take0 (i := 1) (v := ?_) rfl (by kernel_rfl) (by kernel_rfl) (by kernel_rfl) (by kernel_rfl) (fun _ _ _ h => h) (Or.inl ⟨by rfl, ?_⟩) ?_
  rotate_left
  · (intro w _; go_simp; try with_reducible rfl)
  try simp only [Act.put, List.setIfInBounds_toArray, List.set_cons_zero, List.set_cons_succ]
  refine Reg.take0 (i := 2) (v := ?_) rfl (by kernel_rfl) (by kernel_rfl) (by kernel_rfl) (by kernel_rfl) (fun _ _ _ h => h) (Or.inl ⟨by rfl, ?_⟩) ?_
  rotate_left
  · (intro w _; go_simp; try with_reducible rfl)
  try simp only [Act.put, List.setIfInBounds_toArray, List.set_cons_zero, List.set_cons_succ]
  refine Reg.take0 (i := 3) (v := ?_) rfl (by kernel_rfl) (by kernel_rfl) (by kernel_rfl) (by kernel_rfl) (fun _ _ _ h => h) (Or.inl ⟨by rfl, ?_⟩) ?_
  rotate_left
  · (intro w _; go_simp; try with_reducible rfl)
  try simp only [Act.put, List.setIfInBounds_toArray, List.set_cons_zero, List.set_cons_succ]
  refine Reg.take1 (i := 4) (v := ?_) rfl (by kernel_rfl) (by kernel_rfl) (by kernel_rfl) (by kernel_rfl) (by kernel_rfl) (fun _ _ _ h => h) (Or.inl ⟨by rfl, ?_⟩) (kp0 h1) ?_
  rotate_left
  · (intro w hS; have hs1 := hS; go_simp; try with_reducible rfl)
  try simp only [Act.put, List.setIfInBounds_toArray, List.set_cons_zero, List.set_cons_succ]
  refine Reg.take0 (i := 5) (v := ?_) rfl (by kernel_rfl) (by kernel_rfl) (by kernel_rfl) (by kernel_rfl) (fun _ _ _ h => h) (Or.inl ⟨by rfl, ?_⟩) ?_
  rotate_left
  · (intro w _; go_simp; try with_reducible rfl)
  try simp only [Act.put, List.setIfInBounds_toArray, List.set_cons_zero, List.set_cons_succ]
  refine Reg.take0 (i := 7) (v := ?_) rfl (by kernel_rfl) (by kernel_rfl) (by kernel_rfl) (by kernel_rfl) (fun _ _ _ h => h) (Or.inl ⟨by rfl, ?_⟩) ?_
  rotate_left
  · (intro w _; go_simp; try with_reducible rfl)
  try simp only [Act.put, List.setIfInBounds_toArray, List.set_cons_zero, List.set_cons_succ]
  refine Reg.take0 (i := 8) (v := ?_) rfl (by kernel_rfl) (by kernel_rfl) (by kernel_rfl) (by kernel_rfl) (fun _ _ _ h => h) (Or.inl ⟨by rfl, ?_⟩) ?_
  rotate_left
  · (intro w _; go_simp; try with_reducible rfl)
  try simp only [Act.put, List.setIfInBounds_toArray, List.set_cons_zero, List.set_cons_succ]
  refine Reg.take0 (i := 9) (v := ?_) rfl (by kernel_rfl) (by kernel_rfl) (by kernel_rfl) (by kernel_rfl) (fun _ _ _ h => h) (Or.inl ⟨by rfl, ?_⟩) ?_
  rotate_left
  · (intro w _; go_simp; try with_reducible rfl)
  try simp only [Act.put, List.setIfInBounds_toArray, List.set_cons_zero, List.set_cons_succ]
  refine Reg.take0 (i := 10) (v := ?_) rfl (by kernel_rfl) (by kernel_rfl) (by kernel_rfl) (by kernel_rfl) (fun _ _ _ h => h) (Or.inl ⟨by rfl, ?_⟩) ?_
  rotate_left
  · (intro w _; go_simp; try with_reducible rfl)
  try simp only [Act.put, List.setIfInBounds_toArray, List.set_cons_zero, List.set_cons_succ]
  refine Reg.take0 (i := 11) (v := ?_) rfl (by kernel_rfl) (by kernel_rfl) (by kernel_rfl) (by kernel_rfl) (fun _ _ _ h => h) (Or.inl ⟨by rfl, ?_⟩) ?_
  rotate_left
  · (intro w _; go_simp; try with_reducible rfl)
  try simp only [Act.put, List.setIfInBounds_toArray, List.set_cons_zero, List.set_cons_succ]
  refine Reg.take0 (i := 12) (v := .int .i64 0) rfl (by kernel_rfl) (by kernel_rfl) (by kernel_rfl) (by kernel_rfl) (fun _ _ _ h => h) (Or.inl ⟨by rfl, ?_⟩) ?_
  · (intro w _; go_simp; try omega; try with_reducible rfl)
  try simp only [Act.put, List.setIfInBounds_toArray, List.set_cons_zero, List.set_cons_succ]
  refine Reg.only (i := 6) (by kernel_rfl) rfl (fun K hK => ?_)
  go_simp
  refine (f59_ok (w.drew) (sb := sb) (so := so) (n := n) (c := c) (f := f) hb.out hn.out).mono ?_; rintro e w1 ⟨g, c', rfl, ho1, hb1⟩
  simp only []
  refine hK _ _ (fun _ hS => by rw [hb1.cell (World.block_lt_of_cell? _ _ hS)]; exact hS) ?_
  clear hK K
  try simp only [Act.put, List.setIfInBounds_toArray, List.set_cons_zero, List.set_cons_succ]
  refine Reg.take0 (i := 13) (v := ?_) rfl (by kernel_rfl) (by kernel_rfl) (by kernel_rfl) (by kernel_rfl) (fun _ _ _ h => h) (Or.inl ⟨by rfl, ?_⟩) ?_
  rotate_left
  · (intro w _; go_simp; try with_reducible rfl)
  try simp only [Act.put, List.setIfInBounds_toArray, List.set_cons_zero, List.set_cons_succ]
  refine Reg.only (i := 14) (by kernel_rfl) rfl (fun K hK => ?_)
  go_simp
  refine hK _ _ (fun _ h => kpa h) ?_
  clear hK K
  try simp only [Act.put, List.setIfInBounds_toArray, List.set_cons_zero, List.set_cons_succ]
  refine Reg.take0 (i := 15) (v := ?_) rfl (by kernel_rfl) (by kernel_rfl) (by kernel_rfl) (by kernel_rfl) (fun _ _ _ h => h) (Or.inl ⟨by rfl, ?_⟩) ?_
  rotate_left
  · (intro w _; go_simp; try with_reducible rfl)
  try simp only [Act.put, List.setIfInBounds_toArray, List.set_cons_zero, List.set_cons_succ]
  refine Reg.only (i := 16) (by kernel_rfl) rfl (fun K hK => ?_)
  go_simp
  refine hK _ _ (fun _ h => kpa h) ?_
  clear hK K
  try simp only [Act.put, List.setIfInBounds_toArray, List.set_cons_zero, List.set_cons_succ]
  have hd1 : Below w.heap.size w w1 := (Below.refl _ _).drew.trans hb1
  have hoB : (w1.alloc (.cells #[.bool false, .slice (some ⟨g, 0, none⟩) n c', .bool wr, .int .i64 0] 95)).ownsRow B 90 1 v l.length (l.map areaV) := (ownsRow_only hm.out.own (Only.of_below (S := fun _ => False) hd1) (fun _ _ h => h)).alloc _
  obtain ⟨v', w3, hap, ho3, hg3⟩ := append90 hoB (by have := hd1.size; have := hB.out; simp; omega) (by have := hl.out; omega) (false, w1.heap.size)
  simp only [World.size_alloc, area_r] at hap
  obtain ⟨g2, c2, rfl, hgB, hgl, hgc⟩ := own_slice ho3 (own_ne ho3 (by simp))
  have hkm1 : KindAt w1 mb 83 := hm.out.kind.below hd1
  have hkv1 : ∀ k, v.ownBlock = some k → KindAt w1 k 90 := fun k hk => (own_kind hm.out.own hk).1.below hd1
  have hkg1 : KindAt w1 g 5 := (own_kind ho1 rfl).1
  have hgB1 : w.heap.size ≤ g := (own_kind ho1 rfl).2
  have hnm : some mb ≠ v.ownBlock := fun he => absurd ((hkv1 mb he.symm).inj hkm1) (by decide)
  have O1 : Only (fun k => k = mb ∨ v.ownBlock = some k) w ((w1.alloc (.cells #[.bool false, .slice (some ⟨g, 0, none⟩) n c', .bool wr, .int .i64 0] 95)).alloc (.cells #[areaV (false, w1.heap.size)] 90)) := ((Only.of_below hd1).alloc _).alloc _
  have O3 := O1.grown hg3 (fun k hk => ⟨fun _ => .inr hk, .inr ⟨90, by decide, ((hkv1 k hk).alloc _).alloc _⟩⟩)
  have R1 : Only (fun k => k = mb ∨ v.ownBlock = some k) (w1.alloc (.cells #[.bool false, .slice (some ⟨g, 0, none⟩) n c', .bool wr, .int .i64 0] 95)) ((w1.alloc (.cells #[.bool false, .slice (some ⟨g, 0, none⟩) n c', .bool wr, .int .i64 0] 95)).alloc (.cells #[areaV (false, w1.heap.size)] 90)) := (Only.refl _ _).alloc _
  have R3 := R1.grown hg3 (fun k hk => ⟨fun _ => .inr hk, .inr ⟨90, by decide, ((hkv1 k hk).alloc _).alloc _⟩⟩)
  have c1 : w1.cell? ⟨mb, 0, none⟩ = some v := by rw [hd1.cell hm.out.kind.lt]; exact hm.out.all
  have c3 : w3.cell? ⟨mb, 0, none⟩ = some v := hg3.cell (kpa (kpa c1)) hnm
  have z3 : w3.frozen? ⟨mb, 0, none⟩ = false := by
    have h1 := World.frozen?_of_block (a := ⟨mb, 0, none⟩) (hg3.block mb ((hkm1.alloc _).alloc _).lt hnm)
    rw [h1, World.frozen?_alloc_old _ _ _ (by have := hkm1.lt; simp; omega), World.frozen?_alloc_old _ _ _ (by have := hkm1.lt; exact Nat.ne_of_lt this), hd1.frozen hm.out.kind.lt]
    exact hm.out.thaw 0
  have REG : RegAt (w1.alloc (.cells #[.bool false, .slice (some ⟨g, 0, none⟩) n c', .bool wr, .int .i64 0] 95)) w1.heap.size g false wr n f := by
    have hlt := hkg1.lt
    refine ⟨?_, ⟨c', (own_cap ho1), ?_⟩, ?_, ?_, fun i hi => ?_, Thaw.new _ _ _, fun j => ?_, hf.out, by simp; omega, by omega, KindAt.new _ _ _, hkg1.alloc _, hn.out⟩
    · rw [World.cell?_alloc_at _ _ _ _ rfl]; rfl
    · rw [World.cell?_alloc_at _ _ _ _ rfl]; rfl
    · rw [World.cell?_alloc_at _ _ _ _ rfl]; rfl
    · rw [World.cell?_alloc_at _ _ _ _ rfl]; rfl
    · exact kpa (bts_of_own ho1 i hi)
    · rw [World.frozen?_alloc_old _ _ _ (Nat.ne_of_lt hlt)]; exact ho1.frozenAt j
  refine Reg.only (i := 17) (by kernel_rfl) rfl (fun K hK => ?_)
  rw [if_pos (by rfl)]
  refine wp_append_run (.tmp 13) (.tmp 25) 81 rfl _ _ _ rfl rfl hap ?_
  refine hK _ _ (fun _ hS => ?_) ?_
  · exact hg3.cell hS hnm
  clear hK K
  try simp only [Act.put, List.setIfInBounds_toArray, List.set_cons_zero, List.set_cons_succ]
  refine Reg.only (i := 18) (by kernel_rfl) rfl (fun K hK => ?_)
  go_simp
  refine hK _ _ (fun _ h => h) ?_
  clear hK K
  try simp only [Act.put, List.setIfInBounds_toArray, List.set_cons_zero, List.set_cons_succ]
  refine Reg.only (i := 19) (by kernel_rfl) rfl (fun K hK => ?_)
  go_simp
  refine hK _ _ (fun _ h => h) ?_
  clear hK K
  try simp only [Act.put, List.setIfInBounds_toArray, List.set_cons_zero, List.set_cons_succ]
  refine Reg.only (i := 20) (by kernel_rfl) rfl (fun K hK => ?_)
  go_simp
  refine hK _ _ (fun hb => absurd hb (by decide)) ?_
  clear hK K
  try simp only [Act.put, List.setIfInBounds_toArray, List.set_cons_zero, List.set_cons_succ]
  refine Reg.done (by kernel_rfl) ?_ _
  have c4 := cell_same (.slice (some ⟨g2, 0, none⟩) (l ++ [(false, w1.heap.size)]).length c2) c3
  have O4 := O3.setCell (p := ⟨mb, 0, none⟩) (fun _ => .inl rfl) (.slice (some ⟨g2, 0, none⟩) (l ++ [(false, w1.heap.size)]).length c2)
  have R4 := R3.setCell (p := ⟨mb, 0, none⟩) (fun _ => .inl rfl) (.slice (some ⟨g2, 0, none⟩) (l ++ [(false, w1.heap.size)]).length c2)
  have M4 : MemRow B (w3.setCell ⟨mb, 0, none⟩ (.slice (some ⟨g2, 0, none⟩) (l ++ [(false, w1.heap.size)]).length c2)) mb (.slice (some ⟨g2, 0, none⟩) (l ++ [(false, w1.heap.size)]).length c2) (l ++ [(false, w1.heap.size)]) := by
    have hk4 := O4.kind _ _ (by decide) hm.out.kind
    refine ⟨c4, ownsRow_only ho3 ((Only.refl (· = mb) _).setCell (fun _ => rfl) _) (fun k hk he => ?_), fun j => ?_, hk4, hm.out.ge, by have := hl.out; simp; omega⟩
    · subst he
      exact absurd ((own_kind ho3 hk).1.inj (O3.kind _ _ (by decide) hm.out.kind)) (by decide)
    · rw [World.frozen?_setCell]
      have h1 := World.frozen?_of_block (a := ⟨mb, j, none⟩) (hg3.block mb ((hkm1.alloc _).alloc _).lt hnm)
      rw [h1, World.frozen?_alloc_old _ _ _ (by have := hkm1.lt; simp; omega), World.frozen?_alloc_old _ _ _ (by have := hkm1.lt; exact Nat.ne_of_lt this), hd1.frozen hm.out.kind.lt]
      exact hm.out.thaw j
  have R5 := REG.only R4 (fun hx => by
    rcases hx with hx | hx
    · exact absurd (REG.kR.inj (hx ▸ hkm1.alloc _)) (by decide)
    · exact absurd (REG.kR.inj ((hkv1 _ hx).alloc _)) (by decide)) (fun hx => by
    rcases hx with hx | hx
    · exact absurd (REG.kB.inj (hx ▸ hkm1.alloc _)) (by decide)
    · exact absurd (REG.kB.inj ((hkv1 _ hx).alloc _)) (by decide))
  have hfin := Lib.hid (⟨_, _, _, M4, R5, hd1.size, hgB1, O4⟩ : ∃ rb bb v', MemRow B _ mb v' (l ++ [(false, rb)]) ∧ RegAt _ rb bb false wr n f ∧ w.heap.size ≤ rb ∧ w.heap.size ≤ bb ∧ Only (fun k => k = mb ∨ v.ownBlock = some k) w _)
  clear M4 R5 O4 R4 O3 R3 O1 R1 hap ho3 hg3 REG c3 z3 c1 hoB ho1 hkm1 hkv1 hkg1 hd1 hb1
  simp only [List.length_append, List.length_cons, List.length_nil, Nat.zero_add] at c4 hfin ⊢
  go_wp2_with fail
  go_ret
  obtain ⟨rb, bb, v', hfin⟩ := hfin.out
  exact ⟨rb, bb, v', rfl, hfin⟩
end Go.Proofs.Ytmjeloinibembaa
