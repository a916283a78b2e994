/-
  THE GROUND of the rings: maps of open records, records, a ring.
-/
import Derived.Test.YtmjeloinibembaaRow
import Derived.Test.YtmjeloinibembaaKn8
import Derived.MapKept
namespace Go.Proofs.Ytmjeloinibembaa
open Go.RowKit
set_option linter.unusedVariables false
set_option linter.unusedSimpArgs false
/-- an entry: a region's number, its record's block, its stamp. -/
def ent (x : Nat × Nat × Nat) : MapEntry := { key := .int .i64 (x.1 : Int), val := .pointer (some ⟨x.2.1, 0, none⟩), born := x.2.2 }
theorem find_none (d : TypeDesc) (hd : d = .int .i64) (id : Int) : ∀ (l : List (Nat × Nat × Nat)) (i : Nat), (∀ x ∈ l, (x.1 : Int) ≠ id) → Instr.findNow d (.int .i64 id) (l.map ent) i = some none
  | [], _, _ => rfl
  | x :: l, i, h => by
    subst hd
    have h1 := h x (by simp)
    have h2 : (id == (x.1 : Int)) = false := by simp; exact fun e => h1 e.symm
    simp only [List.map_cons, Instr.findNow, ent, Instr.sameNow, if_true, h2]
    exact find_none _ rfl id l (i + 1) (fun y hy => h y (by simp [hy]))
theorem find_some (d : TypeDesc) (hd : d = .int .i64) : ∀ (l : List (Nat × Nat × Nat)) (i : Nat) (x : Nat × Nat × Nat), x ∈ l → (l.map (·.1)).Nodup → ∃ j, l[j]? = some x ∧ Instr.findNow d (.int .i64 (x.1 : Int)) (l.map ent) i = some (some (i + j, .pointer (some ⟨x.2.1, 0, none⟩)))
  | [], _, _, h, _ => by simp at h
  | y :: l, i, x, h, hn => by
    subst hd
    simp only [List.map_cons, List.nodup_cons, List.mem_map, not_exists, not_and] at hn
    by_cases hxy : x = y
    · subst hxy
      exact ⟨0, rfl, by simp [Instr.findNow, ent, Instr.sameNow]⟩
    · have hx : x ∈ l := by
        rcases List.mem_cons.1 h with h | h
        · exact absurd h hxy
        · exact h
      have hne : x.1 ≠ y.1 := fun e => hn.1 x hx e
      obtain ⟨j, hj1, hj2⟩ := find_some _ rfl l (i + 1) x hx hn.2
      refine ⟨j + 1, by simpa using hj1, ?_⟩
      have h2 : ((x.1 : Int) == (y.1 : Int)) = false := by simp; omega
      simp only [List.map_cons, Instr.findNow, ent, Instr.sameNow, if_true, h2]
      have : (i + 1 + j) = i + (j + 1) := by omega
      rw [← this]; exact hj2
theorem und77 : Try.prog.underlying 77 = some (.map 3 86) := by kernel_rfl
theorem und3 : Try.prog.underlying 3 = some (.int .i64) := by kernel_rfl
theorem zero86 (w : World) : (zeroValue 86).run Try.prog w = .ok (.pointer none) w := by kernel_rfl
def World.putMap (w : World) (r : Nat) (es : Array MapEntry) (c : Nat) : World := { w with heap := w.heap.setIfInBounds r (.map es c) }
theorem lookup_hit {w : World} {r c : Nat} {l : List (Nat × Nat × Nat)} (hb : w.heap[r]? = some (.map (l.map ent).toArray c)) (hn : (l.map (·.1)).Nodup) {x : Nat × Nat × Nat} (hx : x ∈ l) : (Instr.lookup 77 (.map (some r)) (.int .i64 (x.1 : Int)) true).run Try.prog w = .ok (.tuple #[.pointer (some ⟨x.2.1, 0, none⟩), .bool true]) w := by
  obtain ⟨j, _, hj⟩ := find_some (.int .i64) rfl l 0 x hx hn
  simp only [Instr.lookup, Sem.run_bind, run_underlying und77, MapKept.run_getObj_map hb, Result.andThen_ok, Sem.run_pure, MapKept.run_checkKey und3 (show MapKept.IsKey (.int .i64) (.int .i64 (x.1 : Int)) from rfl), MapKept.run_findKey und3 hj, if_true]
theorem lookup_miss {w : World} {r c : Nat} {l : List (Nat × Nat × Nat)} (hb : w.heap[r]? = some (.map (l.map ent).toArray c)) {id : Int} (hx : ∀ x ∈ l, (x.1 : Int) ≠ id) : (Instr.lookup 77 (.map (some r)) (.int .i64 id) true).run Try.prog w = .ok (.tuple #[.pointer none, .bool false]) w := by
  have hj := find_none (.int .i64) rfl id l 0 hx
  simp only [Instr.lookup, Sem.run_bind, run_underlying und77, MapKept.run_getObj_map hb, Result.andThen_ok, Sem.run_pure, MapKept.run_checkKey und3 (show MapKept.IsKey (.int .i64) (.int .i64 id) from rfl), MapKept.run_findKey und3 hj, zero86, if_true]
theorem entry_new {w : World} {r c : Nat} {l : List (Nat × Nat × Nat)} (hb : w.heap[r]? = some (.map (l.map ent).toArray c)) {id : Nat} (hx : ∀ x ∈ l, x.1 ≠ id) : (Instr.mapEntry 77 (.map (some r)) (.int .i64 (id : Int))).run Try.prog w = .ok (.tuple #[.pointer none, .int .i64 (c : Int)]) (World.putMap w r ((l.map ent).toArray.push { key := .int .i64 (id : Int), val := .pointer none, born := c }) (c + 1)) := by
  have hj := find_none (.int .i64) rfl (id : Int) l 0 (fun x hx' e => hx x hx' (by omega))
  simp only [Instr.mapEntry, Sem.run_bind, run_underlying und77, MapKept.run_getObj_map hb, Result.andThen_ok, Sem.run_pure, MapKept.run_checkKey und3 (show MapKept.IsKey (.int .i64) (.int .i64 (id : Int)) from rfl), MapKept.run_findKey und3 hj, zero86, MapKept.run_setObj_map _ hb, World.putMap, goInt]
theorem modify_last {α : Type} (f : α → α) (a : α) : ∀ l : List α, (l ++ [a]).modify l.length f = l ++ [f a]
  | [] => by simp
  | x :: l => by simp only [List.cons_append, List.length_cons, List.modify_succ_cons]; rw [modify_last f a l]
theorem erase_map {α β : Type} (f : α → β) : ∀ (l : List α) (j : Nat), (l.map f).eraseIdx j = (l.eraseIdx j).map f
  | [], j => by simp
  | x :: l, 0 => by simp
  | x :: l, j + 1 => by simp [erase_map f l j]
theorem entry_store {w : World} {r c c' id xb : Nat} {l : List (Nat × Nat × Nat)} (hb : w.heap[r]? = some (.map ((l.map ent).toArray.push { key := .int .i64 (id : Int), val := .pointer none, born := c }) c')) (hl : ∀ x ∈ l, x.2.2 < c) :
    (Instr.entryStore 77 (.map (some r)) (.int .i64 (c : Int)) (.pointer (some ⟨xb, 0, none⟩))).run Try.prog w = .ok () (World.putMap w r ((l ++ [(id, xb, c)]).map ent).toArray c') := by
  have ha : (asInt (.int .i64 (c : Int))).run Try.prog w = .ok (c : Int) w := rfl
  have hf : ((l.map ent).toArray.push { key := .int .i64 (id : Int), val := .pointer none, born := c }).findIdx? (fun e => (e.born : Int) == (c : Int)) = some l.length := by
    rw [Array.findIdx?_eq_some_iff_getElem]
    refine ⟨by simp, by simp, fun j hj => ?_⟩
    have h1 : j < (l.map ent).toArray.size := by simpa using hj
    rw [Array.getElem_push_lt h1]
    simp only [List.getElem_toArray, List.getElem_map, ent]
    have h2 := hl (l[j]'(by simpa using hj)) (List.getElem_mem _)
    simp; omega
  simp only [Instr.entryStore, Sem.run_bind, MapKept.run_getObj_map hb, Result.andThen_ok, ha, hf, MapKept.run_setObj_map _ hb, World.putMap]
  congr 3
  apply congrArg (fun z => Obj.map z c')
  apply Array.ext'
  have h2 := modify_last (fun e : MapEntry => { key := e.key, val := Value.pointer (some { block := xb, off := 0 }), born := e.born }) { key := .int .i64 (id : Int), val := .pointer none, born := c } (l.map ent)
  simp only [List.length_map] at h2
  simp [ent]
  exact h2
theorem delete_hit {w : World} {r c : Nat} {l : List (Nat × Nat × Nat)} (hb : w.heap[r]? = some (.map (l.map ent).toArray c)) (hn : (l.map (·.1)).Nodup) {x : Nat × Nat × Nat} (hx : x ∈ l) :
    ∃ j, l[j]? = some x ∧ ∀ ty, (Builtin.delete_ #[77, 3] ty #[.map (some r), .int .i64 (x.1 : Int)]).run Try.prog w = .ok (.tuple #[]) (World.putMap w r ((l.eraseIdx j).map ent).toArray c) := by
  obtain ⟨j, hj1, hj⟩ := find_some (.int .i64) rfl l 0 x hx hn
  refine ⟨j, hj1, fun ty => ?_⟩
  have e : (l.map ent).toArray.eraseIdxIfInBounds j = ((l.eraseIdx j).map ent).toArray := by
    have hlt : j < l.length := (List.getElem?_eq_some_iff.1 hj1).1
    apply Array.ext'
    simp [Array.eraseIdxIfInBounds, hlt, erase_map]
  rw [Nat.zero_add] at hj
  simp [Builtin.delete_, Sem.run_bind, run_underlying und77, MapKept.run_getObj_map hb, MapKept.run_checkKey und3 (show MapKept.IsKey (.int .i64) (.int .i64 (x.1 : Int)) from rfl), MapKept.run_findKey und3 hj, MapKept.run_setObj_map _ hb, World.putMap, e, erase_map]
end Go.Proofs.Ytmjeloinibembaa
