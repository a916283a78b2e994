/-
  A DRAWN REGION, operation by operation: a condition S on the world holds till the first of some later operations ('barriers'); what reads under S may be taken first where every barrier waits for it; what yields in whatever world may be taken first as ever.
-/
import Derived.OrdersHeld
import Derived.KernelRfl
import Derived.Orders
import Derived.Laws.World
namespace Go.Proofs.Ytmjeloinibembaa
namespace Reg
section
variable {P : Program} {ops : Array Oper} {Q : Exit → Act → World → Prop} {md : Region.Mode} {S : World → Prop} {B : Nat → Bool}

/-- whatever order is picked from here on, and an operation that is no barrier leaves S. -/
def wpAnyB (P : Program) (md : Region.Mode) (ops : Array Oper) (Q : Exit → Act → World → Prop) (S : World → Prop) (B : Nat → Bool) : Nat → Array Bool → Act → World → Prop
  | 0, listed, a, w => Region.ready md ops listed = [] ∧ Q .normal a w
  | fuel + 1, listed, a, w =>
    (Region.ready md ops listed = [] → Q .normal a w) ∧
    ∀ i ∈ Region.ready md ops listed, wpOp P ops Q i (fun a' w' => (B i = false → S w → S w') ∧ wpAnyB P md ops Q S B fuel (listed.setIfInBounds i true) a' w') a w

theorem any_of : ∀ (fuel : Nat) (listed : Array Bool) (a : Act) (w : World), wpAnyB P md ops Q S B fuel listed a w → wpAny P md ops Q fuel listed a w
  | 0, _, _, _, h => h
  | fuel + 1, _, _, _, h => ⟨h.1, fun i hi => wpOp_mono (fun a' w' h' => any_of fuel _ a' w' h'.2) (h.2 i hi)⟩

/-- what has come up has all that it waits for behind it. -/
def closedB (md : Region.Mode) (ops : Array Oper) (listed : Array Bool) : Bool :=
  (List.range ops.size).all fun k => !listed.getD k true || match ops[k]? with
    | some o => o.after.all fun e => !Region.binds md e || listed.getD e.on false
    | none => true
def Closed (md : Region.Mode) (ops : Array Oper) (listed : Array Bool) : Prop :=
  ∀ k ok, ops[k]? = some ok → listed.getD k true = true → ∀ e ∈ ok.after, Region.binds md e = true → listed.getD e.on false = true
theorem closed_spec {listed : Array Bool} (h : closedB md ops listed = true) : Closed md ops listed := fun k ok hk hl e he hb => by
  have hlt : k < ops.size := by
    rcases Nat.lt_or_ge k ops.size with h' | h'
    · exact h'
    · rw [Array.getElem?_eq_none h'] at hk; cases hk
  have h1 := List.all_eq_true.1 h k (List.mem_range.2 hlt)
  rw [hl, hk] at h1
  simp only [Bool.not_true, Bool.false_or] at h1
  have h2 := Array.all_eq_true'.1 h1 e he
  rw [hb] at h2
  simpa using h2
theorem getD_mono {listed : Array Bool} {k j : Nat} (h : listed.getD k false = true) : (listed.setIfInBounds j true).getD k false = true := by
  by_cases hjk : j = k
  · subst hjk
    rcases Nat.lt_or_ge j listed.size with h' | h'
    · simp [h']
    · simp [Array.getElem?_eq_none h'] at h
  · simp only [Array.getD_eq_getD_getElem?, Array.getElem?_setIfInBounds] at h ⊢
    rw [if_neg hjk]; exact h
theorem Closed.step {listed : Array Bool} {j : Nat} (h : Closed md ops listed) (hj : j ∈ Region.ready md ops listed) : Closed md ops (listed.setIfInBounds j true) := fun k ok hk hl e he hb => by
  obtain ⟨hjun, oj, hoj, hall⟩ := mem_ready.1 hj
  by_cases hjk : j = k
  · subst hjk
    rw [hoj] at hk
    obtain rfl : oj = ok := by simpa using hk
    exact getD_mono (hall e he hb)
  · rw [getD_set_ne true hjk] at hl
    exact getD_mono (h k ok hk hl e he hb)

/-- what may come up now may be taken first, if it yields its value in every world that meets T, the world at hand meets T, whatever comes up and doesn't wait for it leaves T, and all that has not come up waits for it or is apart from it. -/
theorem first {T : World → Prop} {i : Nat} {oi : Oper} {v : Value} (hi : ops[i]? = some oi) (hsel : ∀ (j : Nat) (o : Oper) cs b, ops[j]? = some o → o.op ≠ .select cs b)
    (hQ : ∀ c a w, Q (.panic c) (a.put oi.dst v) w → Q (.panic c) a w)
    (hT : ∀ (listed : Array Bool), Closed md ops listed → listed.getD i true = false → ∀ j, j ∈ Region.ready md ops listed → ∀ w w', T w → (B j = false → S w → S w') → T w') :
    ∀ (fuel : Nat) (listed : Array Bool) (a : Act) (w : World), Closed md ops listed →
      (∀ j oj, ops[j]? = some oj → j ≠ i → listed.getD j true = false → (∀ e ∈ oj.after, Region.binds md e = true → e.on ≠ i) → oi.apart ops oj = true) →
      i ∈ Region.ready md ops listed → YieldsIf P ops T oi v a → T w →
      wpAnyB P md ops Q S B fuel (listed.setIfInBounds i true) (a.put oi.dst v) w → wpAnyB P md ops Q S B (fuel + 1) listed a w := by
  intro fuel
  induction fuel with
  | zero =>
    intro listed a w _ _ hr hy ht H
    refine ⟨fun h => (by rw [h] at hr; cases hr), fun j hj => ?_⟩
    by_cases hji : j = i
    · subst hji; exact hy.wpOp hi ht ⟨fun _ h => h, H⟩
    · have := ready_mono hj hji
      rw [H.1] at this
      cases this
  | succ fuel ih =>
    intro listed a w hcl hfree hr hy ht H
    refine ⟨fun h => (by rw [h] at hr; cases hr), fun j hj => ?_⟩
    by_cases hji : j = i
    · subst hji; exact hy.wpOp hi ht ⟨fun _ h => h, H⟩
    · have h1 := H.2 j (ready_mono hj hji)
      obtain ⟨hjun, oj, hoj, hall⟩ := mem_ready.1 hj
      have hnot : ∀ e ∈ oj.after, Region.binds md e = true → e.on ≠ i := fun e he hb heq => by
        have h1 := hall e he hb
        have h0 := (mem_ready.1 hr).1
        rw [heq] at h1
        rcases Nat.lt_or_ge i listed.size with h' | h'
        · simp [h'] at h0 h1; rw [h0] at h1; cases h1
        · simp [Array.getElem?_eq_none h'] at h1
      have h2 := wpOp_putIf hoj (hfree j oj hoj hji hjun hnot) (fun cs b => hsel i oi cs b hi) (fun cs b => hsel j oj cs b hoj) hQ hy h1
      have hfree' : ∀ k ok, ops[k]? = some ok → k ≠ i → (listed.setIfInBounds j true).getD k true = false →
          (∀ e ∈ ok.after, Region.binds md e = true → e.on ≠ i) → oi.apart ops ok = true := fun k ok hk hki hun hno => by
        refine hfree k ok hk hki ?_ hno
        by_cases hjk : j = k
        · subst hjk; exact hjun
        · rw [getD_set_ne true hjk] at hun; exact hun
      refine wpOp_mono (fun a' w' h3 => ⟨h3.2.1, ih (listed.setIfInBounds j true) a' w' (hcl.step hj) hfree' (ready_mono hr (Ne.symm hji)) h3.1 (hT listed hcl (mem_ready.1 hr).1 j hj w w' ht h3.2.1) ?_⟩) h2
      rw [Array.setIfInBounds_comm _ _ hji]
      exact h3.2.2

/-- taken first: it yields in whatever world. -/
theorem take0 {i : Nat} {oi : Oper} {v : Value} {fuel : Nat} {listed : Array Bool} {a : Act} {w : World} (hi : ops[i]? = some oi)
    (hs : Region.noSelect ops = true) (hf : Region.free md ops listed i = true) (hr : (Region.ready md ops listed).contains i = true) (hc : closedB md ops listed = true)
    (hQ : ∀ c a w, Q (.panic c) (a.put oi.dst v) w → Q (.panic c) a w) (hy : YieldsIf P ops (fun _ => True) oi v a)
    (h : wpAnyB P md ops Q S B fuel (listed.setIfInBounds i true) (a.put oi.dst v) w) : wpAnyB P md ops Q S B (fuel + 1) listed a w :=
  first (T := fun _ => True) hi (Region.noSelect_spec hs) hQ (fun _ _ _ _ _ _ _ _ _ => trivial) fuel listed a w (closed_spec hc) (Region.free_spec hi hf) (by simpa using hr) hy trivial h

/-- every barrier waits for number i, by itself or by way of another. -/
def waits (md : Region.Mode) (ops : Array Oper) (B : Nat → Bool) (i : Nat) : Bool :=
  (List.range ops.size).all fun j => !B j || match ops[j]? with
    | some o => o.after.any fun e => Region.binds md e && (e.on == i || match ops[e.on]? with
      | some o2 => o2.after.any fun e2 => Region.binds md e2 && e2.on == i
      | none => false)
    | none => true
theorem getD_true {listed : Array Bool} {k : Nat} (h : listed.getD k false = true) : listed.getD k true = true := by
  rcases Nat.lt_or_ge k listed.size with h' | h'
  · simp [h'] at h ⊢; exact h
  · simp [Array.getElem?_eq_none h'] at h
theorem waits_spec {i : Nat} (h : waits md ops B i = true) (listed : Array Bool) (hc : Closed md ops listed) (hun : listed.getD i true = false) (j : Nat) (hj : j ∈ Region.ready md ops listed) : B j = false := by
  obtain ⟨hjun, oj, hoj, hall⟩ := mem_ready.1 hj
  cases hb : B j with
  | false => rfl
  | true =>
    have hlt : j < ops.size := by
      rcases Nat.lt_or_ge j ops.size with h' | h'
      · exact h'
      · rw [Array.getElem?_eq_none h'] at hoj; cases hoj
    have h1 := List.all_eq_true.1 h j (List.mem_range.2 hlt)
    rw [hb, hoj] at h1
    simp only [Bool.not_true, Bool.false_or, Array.any_eq_true'] at h1
    obtain ⟨e, he, h2⟩ := h1
    simp only [Bool.and_eq_true, Bool.or_eq_true, beq_iff_eq] at h2
    have h3 := hall e he h2.1
    rcases h2.2 with h4 | h4
    · rw [h4] at h3
      rw [getD_true h3] at hun; cases hun
    · cases ho2 : ops[e.on]? with
      | none => rw [ho2] at h4; cases h4
      | some o2 =>
        rw [ho2] at h4
        simp only [Array.any_eq_true', Bool.and_eq_true, beq_iff_eq] at h4
        obtain ⟨e2, he2, hb2, hi2⟩ := h4
        have h5 := hc e.on o2 ho2 (getD_true h3) e2 he2 hb2
        rw [hi2] at h5
        rw [getD_true h5] at hun; cases hun
/-- taken first: it yields in every world that meets S, and every barrier waits for it. -/
theorem take1 {i : Nat} {oi : Oper} {v : Value} {fuel : Nat} {listed : Array Bool} {a : Act} {w : World} (hi : ops[i]? = some oi)
    (hs : Region.noSelect ops = true) (hf : Region.free md ops listed i = true) (hr : (Region.ready md ops listed).contains i = true) (hc : closedB md ops listed = true) (hw : waits md ops B i = true)
    (hQ : ∀ c a w, Q (.panic c) (a.put oi.dst v) w → Q (.panic c) a w) (hy : YieldsIf P ops S oi v a) (hS : S w)
    (h : wpAnyB P md ops Q S B fuel (listed.setIfInBounds i true) (a.put oi.dst v) w) : wpAnyB P md ops Q S B (fuel + 1) listed a w :=
  first (T := S) hi (Region.noSelect_spec hs) hQ (fun listed hcl hun j hj w w' ht h => h (waits_spec hw listed hcl hun j hj) ht) fuel listed a w (closed_spec hc) (Region.free_spec hi hf) (by simpa using hr) hy hS h

theorem done {listed : Array Bool} {a : Act} {w : World} (hr : Region.ready md ops listed = []) (h : Q .normal a w) :
    ∀ fuel, wpAnyB P md ops Q S B fuel listed a w
  | 0 => ⟨hr, h⟩
  | _ + 1 => ⟨fun _ => h, by rw [hr]; simp⟩

/-- one alone may come up: it is carried out. -/
theorem only {i : Nat} {o : Oper} {fuel : Nat} {listed : Array Bool} {a : Act} {w : World} (hr : Region.ready md ops listed = [i]) (ho : ops[i]? = some o)
    (h : ∀ K : Act → World → Prop, (∀ a' w', (B i = false → S w → S w') → wpAnyB P md ops Q S B fuel (listed.setIfInBounds i true) a' w' → K a' w') →
      if Region.wanted o (yielded ops a.tmps) = true then Oper.wp P o a w K Q else K (a.put o.dst undef) w) : wpAnyB P md ops Q S B (fuel + 1) listed a w := by
  refine ⟨fun h0 => (by rw [hr] at h0; cases h0), fun j hj => ?_⟩
  rw [hr] at hj
  obtain rfl : j = i := by simpa using hj
  have := h (fun a' w' => (B j = false → S w → S w') ∧ wpAnyB P md ops Q S B fuel (listed.setIfInBounds j true) a' w') (fun a' w' h1 h2 => ⟨h1, h2⟩)
  unfold wpOp
  rw [ho]
  show if Region.wanted o (yielded ops a.tmps) = true then _ else _
  split
  · rename_i hw; rw [if_pos hw] at this; exact .inl this
  · rename_i hw; rw [if_neg hw] at this; exact this
/-- two may come up: each is carried out. -/
theorem both {i i2 : Nat} {o o2 : Oper} {fuel : Nat} {listed : Array Bool} {a : Act} {w : World} (hr : Region.ready md ops listed = [i, i2]) (ho : ops[i]? = some o) (ho2 : ops[i2]? = some o2)
    (h : ∀ K : Act → World → Prop, (∀ a' w', (B i = false → S w → S w') → wpAnyB P md ops Q S B fuel (listed.setIfInBounds i true) a' w' → K a' w') →
      if Region.wanted o (yielded ops a.tmps) = true then Oper.wp P o a w K Q else K (a.put o.dst undef) w)
    (h2 : ∀ K : Act → World → Prop, (∀ a' w', (B i2 = false → S w → S w') → wpAnyB P md ops Q S B fuel (listed.setIfInBounds i2 true) a' w' → K a' w') →
      if Region.wanted o2 (yielded ops a.tmps) = true then Oper.wp P o2 a w K Q else K (a.put o2.dst undef) w) : wpAnyB P md ops Q S B (fuel + 1) listed a w := by
  refine ⟨fun h0 => (by rw [hr] at h0; cases h0), fun j hj => ?_⟩
  rw [hr] at hj
  have key : ∀ (k : Nat) (ok : Oper), ops[k]? = some ok → (∀ K : Act → World → Prop, (∀ a' w', (B k = false → S w → S w') → wpAnyB P md ops Q S B fuel (listed.setIfInBounds k true) a' w' → K a' w') →
      if Region.wanted ok (yielded ops a.tmps) = true then Oper.wp P ok a w K Q else K (a.put ok.dst undef) w) →
      wpOp P ops Q k (fun a' w' => (B k = false → S w → S w') ∧ wpAnyB P md ops Q S B fuel (listed.setIfInBounds k true) a' w') a w := fun k ok hok hk => by
    have := hk (fun a' w' => (B k = false → S w → S w') ∧ wpAnyB P md ops Q S B fuel (listed.setIfInBounds k true) a' w') (fun a' w' h1 h2 => ⟨h1, h2⟩)
    unfold wpOp
    rw [hok]
    show if Region.wanted ok (yielded ops a.tmps) = true then _ else _
    split
    · rename_i hw; rw [if_pos hw] at this; exact .inl this
    · rename_i hw; rw [if_neg hw] at this; exact this
  rcases List.mem_cons.1 hj with rfl | hj
  · exact key _ _ ho h
  · obtain rfl : j = i2 := by simpa using hj
    exact key _ _ ho2 h2

/-- the beginning: from the world behind the draw. -/
theorem start {id : Nat} {a : Act} {w : World} (hm : P.follows .mixedOrders = true)
    (h : wpAnyB P .any ops Q S B ops.size (Array.replicate ops.size false) a w.drew) : (Code.region id ops true).wp P Q a w :=
  wp_region_any hm (any_of _ _ _ _ h)
end
end Reg
end Go.Proofs.Ytmjeloinibembaa
