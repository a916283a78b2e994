/-
  THE WALKS of package region: memories, what stands in them, whether it lives.
-/
import Derived.Test.YtmjeloinibembaaRegA
import Derived.KernelRfl
namespace Go.Proofs.Ytmjeloinibembaa
open Go.RowKit
set_option linter.unusedVariables false
set_option linter.unusedSimpArgs false
/-- what stands in a memory's list: a region or a frame, by its block. -/
def areaV (x : Bool × Nat) : Value := if x.1 then .iface 114 (.pointer (some ⟨x.2, 0, none⟩)) else .iface 87 (.pointer (some ⟨x.2, 0, none⟩))

theorem ta_rr (b : Nat) (w : World) : (Instr.typeAssert (.iface 87 (.pointer (some ⟨b, 0, none⟩))) 90 87 true).run Try.prog w = .ok (.tuple #[.pointer (some ⟨b, 0, none⟩), .bool true]) w := by kernel_rfl
theorem ta_ff (b : Nat) (w : World) : (Instr.typeAssert (.iface 114 (.pointer (some ⟨b, 0, none⟩))) 90 114 true).run Try.prog w = .ok (.tuple #[.pointer (some ⟨b, 0, none⟩), .bool true]) w := by kernel_rfl
theorem ta_fr (b : Nat) (w : World) : (Instr.typeAssert (.iface 114 (.pointer (some ⟨b, 0, none⟩))) 90 87 true).run Try.prog w = .ok (.tuple #[.pointer none, .bool false]) w := by kernel_rfl
theorem ta_rf (b : Nat) (w : World) : (Instr.typeAssert (.iface 87 (.pointer (some ⟨b, 0, none⟩))) 90 114 true).run Try.prog w = .ok (.tuple #[.pointer none, .bool false]) w := by kernel_rfl
theorem ta_f (b : Nat) (w : World) : (Instr.typeAssert (.iface 114 (.pointer (some ⟨b, 0, none⟩))) 90 114 false).run Try.prog w = .ok (.pointer (some ⟨b, 0, none⟩)) w := by kernel_rfl
theorem m_alive_r (b : Nat) (w : World) : (method 262 87 (.pointer (some ⟨b, 0, none⟩)) "barbican/region.alive").run Try.prog w = .ok (85, .pointer (some ⟨b, 0, none⟩)) w := by kernel_rfl
theorem m_alive_f (b : Nat) (w : World) : (method 262 114 (.pointer (some ⟨b, 0, none⟩)) "barbican/region.alive").run Try.prog w = .ok (85, .pointer (some ⟨b, 0, none⟩)) w := by kernel_rfl
theorem m_kill_r (b : Nat) (w : World) : (method 262 87 (.pointer (some ⟨b, 0, none⟩)) "barbican/region.kill").run Try.prog w = .ok (86, .pointer (some ⟨b, 0, none⟩)) w := by kernel_rfl
theorem m_kill_f (b : Nat) (w : World) : (method 262 114 (.pointer (some ⟨b, 0, none⟩)) "barbican/region.kill").run Try.prog w = .ok (86, .pointer (some ⟨b, 0, none⟩)) w := by kernel_rfl
theorem m_limits_r (b : Nat) (w : World) : (method 262 87 (.pointer (some ⟨b, 0, none⟩)) "barbican/region.limits").run Try.prog w = .ok (87, .pointer (some ⟨b, 0, none⟩)) w := by kernel_rfl
theorem m_limits_f (b : Nat) (w : World) : (method 262 114 (.pointer (some ⟨b, 0, none⟩)) "barbican/region.limits").run Try.prog w = .ok (97, .pointer (some ⟨b, 0, none⟩)) w := by kernel_rfl
theorem m_load_r (b : Nat) (w : World) : (method 262 87 (.pointer (some ⟨b, 0, none⟩)) "barbican/region.load").run Try.prog w = .ok (88, .pointer (some ⟨b, 0, none⟩)) w := by kernel_rfl
theorem m_load_f (b : Nat) (w : World) : (method 262 114 (.pointer (some ⟨b, 0, none⟩)) "barbican/region.load").run Try.prog w = .ok (98, .pointer (some ⟨b, 0, none⟩)) w := by kernel_rfl
theorem m_store_r (b : Nat) (w : World) : (method 262 87 (.pointer (some ⟨b, 0, none⟩)) "barbican/region.store").run Try.prog w = .ok (89, .pointer (some ⟨b, 0, none⟩)) w := by kernel_rfl
theorem m_store_f (b : Nat) (w : World) : (method 262 114 (.pointer (some ⟨b, 0, none⟩)) "barbican/region.store").run Try.prog w = .ok (100, .pointer (some ⟨b, 0, none⟩)) w := by kernel_rfl

set_option maxRecDepth 100000 in
set_option maxHeartbeats 1000000 in
theorem f14_ok (w : World) : Calls Try.prog 14 #[] w fun e w' => e = .returned (.pointer (some ⟨w.heap.size, 0, none⟩)) ∧ w' = w.alloc (.cells #[.slice none 0 0] 83) := by
  go_enter Try.func14, Try.ntmps14
  go_wp2_with fail
  go_ret
  exact ⟨rfl, rfl⟩
set_option maxRecDepth 100000 in
set_option maxHeartbeats 1000000 in
theorem f85_ok (w : World) (b : Nat) (d : Bool) (h : w.cell? ⟨b, 0, none⟩ = some (.bool d)) : Calls Try.prog 85 #[.pointer (some ⟨b, 0, none⟩)] w fun e w' => e = .returned (.bool (!d)) ∧ w = w' := by
  go_enter Try.func85, Try.ntmps85
  go_wp2_with fail
  go_ret
  exact ⟨rfl, rfl⟩
set_option maxRecDepth 100000 in
set_option maxHeartbeats 1000000 in
theorem f86_ok (w : World) (b : Nat) (d : Bool) (h : w.cell? ⟨b, 0, none⟩ = some (.bool d)) (hz : w.frozen? ⟨b, 0, none⟩ = false) : Calls Try.prog 86 #[.pointer (some ⟨b, 0, none⟩)] w fun e w' => e = .returned (.bool (!d)) ∧ w' = w.setCell ⟨b, 0, none⟩ (.bool true) := by
  go_enter Try.func86, Try.ntmps86
  go_wp2_with fail
  go_ret
  exact ⟨rfl, rfl⟩
set_option maxRecDepth 100000 in
set_option maxHeartbeats 1000000 in
theorem f50_ok (w : World) (mb ab n c : Nat) (i : Int) (j : Nat) (v : Value) (hij : i = j + 1) (hm : w.cell? ⟨mb, 0, none⟩ = some (.slice (some ⟨ab, 0, none⟩) n c)) (hn : j < n) (hN : n < 2 ^ 40) (hv : w.cell? ⟨ab, j, none⟩ = some v) :
    Calls Try.prog 50 #[.pointer (some ⟨mb, 0, none⟩), .int .i64 i] w fun e w' => e = .returned v ∧ w = w' := by
  subst hij
  have hw : wrap64 ((j : Int) + 1 - 1) = j := by unfold wrap64; omega
  have h1 : ¬ ((j : Int) + 1 < 1) := by omega
  have h2 : ¬ ((n : Int) < (j : Int) + 1) := by omega
  go_enter Try.func50, Try.ntmps50
  go_wp2_with fail
  go_ret
  exact ⟨rfl, rfl⟩

/-- a memory's list of regions and frames. -/
structure Tab (w : World) (mb ab : Nat) (l : List (Bool × Nat)) : Prop where
  all : ∃ c, w.cell? ⟨mb, 0, none⟩ = some (.slice (some ⟨ab, 0, none⟩) l.length c)
  small : l.length < 2 ^ 40
  at' : ∀ (j : Nat) (x : Bool × Nat), l[j]? = some x → w.cell? ⟨ab, j, none⟩ = some (areaV x)
theorem Tab.only {S : Nat → Prop} {w w' : World} {mb ab : Nat} {l : List (Bool × Nat)} (h : Tab w mb ab l) (ho : Only S w w') (hm : mb < w.heap.size ∧ ¬ S mb) (ha : ab < w.heap.size ∧ ¬ S ab) : Tab w' mb ab l :=
  ⟨h.all.imp fun c hc => by rw [ho.cell (p := ⟨mb, 0, none⟩) hm.1 hm.2]; exact hc, h.small, fun j x hx => by rw [ho.cell (p := ⟨ab, j, none⟩) ha.1 ha.2]; exact h.at' j x hx⟩

theorem at_ok (w : World) {mb ab : Nat} {l : List (Bool × Nat)} (ht : Tab w mb ab l) {i : Int} {j : Nat} {x : Bool × Nat} (hij : i = j + 1) (hx : l[j]? = some x) :
    Calls Try.prog 50 #[.pointer (some ⟨mb, 0, none⟩), .int .i64 i] w fun e w' => e = .returned (areaV x) ∧ w = w' := by
  obtain ⟨c, hc⟩ := ht.all
  exact f50_ok w mb ab l.length c i j (areaV x) hij hc (List.getElem?_eq_some_iff.1 hx).1 ht.small (ht.at' j x hx)
theorem area_r (b : Nat) : areaV (false, b) = .iface 87 (.pointer (some ⟨b, 0, none⟩)) := rfl
theorem area_f (b : Nat) : areaV (true, b) = .iface 114 (.pointer (some ⟨b, 0, none⟩)) := rfl

set_option maxRecDepth 100000 in
set_option maxHeartbeats 1000000 in
theorem f37_ok (w : World) {mb ab : Nat} {l : List (Bool × Nat)} (ht : Hid (Tab w mb ab l)) {i : Int} {j : Nat} {x : Bool × Nat} (hij : i = j + 1) (hx : l[j]? = some x) (d : Bool) (hd : w.cell? ⟨x.2, 0, none⟩ = some (.bool d)) :
    Calls Try.prog 37 #[.pointer (some ⟨mb, 0, none⟩), .int .i64 i] w fun e w' => e = .returned (.bool (!d)) ∧ w = w' := by
  have hij' := Lib.hid hij
  clear hij
  obtain ⟨k, b⟩ := x
  cases k
  all_goals
    have hm1 := m_alive_r b
    have hm2 := m_alive_f b
    go_enter Try.func37, Try.ntmps37
    go_wp2_with fail
    refine (at_ok w ht.out hij'.out hx).mono ?_; rintro e w' ⟨rfl, rfl⟩
    simp only [area_r, area_f]
    go_wp2_with fail
    refine (f85_ok _ _ d hd).mono ?_; rintro e w' ⟨rfl, rfl⟩
    go_wp2_with fail
    go_ret
    exact ⟨rfl, rfl⟩
set_option maxRecDepth 100000 in
set_option maxHeartbeats 1000000 in
theorem f45_ok (w : World) {mb ab : Nat} {l : List (Bool × Nat)} (ht : Hid (Tab w mb ab l)) {i : Int} {j : Nat} {x : Bool × Nat} (hij : i = j + 1) (hx : l[j]? = some x) (d : Bool) (hd : w.cell? ⟨x.2, 0, none⟩ = some (.bool d)) (hz : w.frozen? ⟨x.2, 0, none⟩ = false) :
    Calls Try.prog 45 #[.pointer (some ⟨mb, 0, none⟩), .int .i64 i] w fun e w' => e = .returned (.bool (!d)) ∧ w' = w.setCell ⟨x.2, 0, none⟩ (.bool true) := by
  have hij' := Lib.hid hij
  clear hij
  obtain ⟨k, b⟩ := x
  cases k
  all_goals
    have hm1 := m_kill_r b
    have hm2 := m_kill_f b
    go_enter Try.func45, Try.ntmps45
    go_wp2_with fail
    refine (at_ok w ht.out hij'.out hx).mono ?_; rintro e w' ⟨rfl, rfl⟩
    simp only [area_r, area_f]
    go_wp2_with fail
    refine (f86_ok _ _ d hd hz).mono ?_; rintro e w' ⟨rfl, rfl⟩
    go_wp2_with fail
    go_ret
    exact ⟨rfl, rfl⟩
set_option maxRecDepth 100000 in
set_option maxHeartbeats 1000000 in
theorem f66_ok (w : World) {mb ab : Nat} {l : List (Bool × Nat)} (ht : Hid (Tab w mb ab l)) {i : Int} {j : Nat} {x : Bool × Nat} (hij : i = j + 1) (hx : l[j]? = some x) (d : Bool) (hd : w.cell? ⟨x.2, 0, none⟩ = some (.bool d)) (k : Int) (nv ov : Value)
    (hk : k = if x.1 then 2 else 5) :
    Calls Try.prog 66 #[.pointer (some ⟨mb, 0, none⟩), .agg #[.int .i64 k, nv, .int .i64 i, ov]] w fun e w' => e = .returned (.tuple (if d then #[.nilIface, .int .i64 4] else #[areaV x, .int .i64 0])) ∧ Below w.heap.size w w' := by
  have hij' := Lib.hid hij
  clear hij
  have hb := Lib.hid (World.block_lt_of_cell? _ _ hd)
  obtain ⟨c, hcm⟩ := ht.out.all
  have hm0 := Lib.hid (World.block_lt_of_cell? _ _ hcm)
  have hj0 := (List.getElem?_eq_some_iff.1 hx).1
  have ha0 := Lib.hid (World.block_lt_of_cell? _ _ (ht.out.at' j x hx))
  have htn : Hid (∀ o, Tab (w.alloc o) mb ab l) := Lib.hid fun o => ht.out.only (Only.of_below (S := fun _ => False) (Below.one o)) ⟨hm0.out, fun h => h⟩ ⟨ha0.out, fun h => h⟩
  have hdn : ∀ o, (w.alloc o).cell? ⟨x.2, 0, none⟩ = some (.bool d) := fun o => by rw [World.cell?_alloc_lt _ _ _ hb.out]; exact hd
  clear hd
  clear hcm hj0
  obtain ⟨k', b⟩ := x
  cases k' <;> cases d
  all_goals
    simp only [if_true, Bool.false_eq_true, if_false] at hk
    subst hk
    simp only at hdn
    have hm1 := m_alive_r b
    have hm2 := m_alive_f b
    have hm3 := ta_rr b
    have hm4 := ta_ff b
    have hm5 := ta_fr b
    have hm6 := ta_rf b
    go_enter Try.func66, Try.ntmps66
    go_wp2_with fail
    refine (at_ok _ (htn.out _) hij'.out hx).mono ?_; rintro e w' ⟨rfl, rfl⟩
    simp only [area_r, area_f]
    go_wp2_with fail
    refine (f85_ok _ _ _ (hdn _)).mono ?_; rintro e w' ⟨rfl, rfl⟩
    go_wp2_with fail
    go_ret2
    exact ⟨rfl, Below.one _⟩
end Go.Proofs.Ytmjeloinibembaa
