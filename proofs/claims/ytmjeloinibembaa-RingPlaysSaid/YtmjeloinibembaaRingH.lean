/-
  RINGS: Pending.
-/
import Derived.Test.YtmjeloinibembaaRingG
import Derived.Test.YtmjeloinibembaaRingF
namespace Go.Proofs.Ytmjeloinibembaa
open Go.RowKit
set_option linter.unusedVariables false
set_option linter.unusedSimpArgs false
theorem und37 : Try.prog.underlying 37 = some (.slice 3) := by kernel_rfl
def pendOf (l : List Rec) : List Value := (l.filter fun r => r.st == 0).map fun r => .int .i64 (r.id : Int)
theorem pend_snoc1 {l : List Rec} {r : Rec} (h : r.st = 0) : pendOf (l ++ [r]) = pendOf l ++ [.int .i64 (r.id : Int)] := by simp [pendOf, h]
theorem pend_snoc0 {l : List Rec} {r : Rec} (h : r.st ≠ 0) : pendOf (l ++ [r]) = pendOf l := by simp [pendOf, h]
theorem pend_len (l : List Rec) : (pendOf l).length ≤ l.length := by unfold pendOf; rw [List.length_map]; exact List.length_filter_le _ _
set_option maxRecDepth 100000 in
set_option maxHeartbeats 4000000 in
theorem f23_ok {B : Nat} {Pr : Nat → Prop} (w : World) {R : RingS} (H : Hid (RingAt B Pr w R)) :
    Calls Try.prog 23 #[.pointer (some ⟨R.rg, 0, none⟩)] w fun e w' => ∃ V : Value, e = .returned V ∧ RowAt w.heap.size 3 w' V (pendOf R.rows) ∧ Below w.heap.size w w' := by
  obtain ⟨a, c, hrv⟩ := H.out.row.len
  rw [List.length_map] at hrv
  obtain ⟨n, hn⟩ : ∃ n, Hid (R.rows.length = n) := ⟨_, Lib.hid rfl⟩
  rw [hn.out] at hrv
  have c3 := H.out.c3
  rw [hrv] at c3
  have hrow := H.out.row
  rw [hrv] at hrow
  have hrow := Lib.hid hrow
  have hrv := Lib.hid hrv
  have hn40 := usedN_len H.out
  rw [hn.out] at hn40
  have hn40 := Lib.hid hn40
  go_enter Try.func23, Try.ntmps23
  go_wp2_with fail
  go_loopg [3, 5, 11] n (fun g V x i wr => ∃ k : Nat, Hid (g = n - k) ∧ k ≤ n ∧ i = .int .i64 k ∧ Hid (RowAt w.heap.size 3 wr V (pendOf (R.rows.take k))) ∧ Hid (Below w.heap.size w wr))
  case atStart => exact ⟨0, Lib.hid rfl, Nat.zero_le _, rfl, Lib.hid (RowAt.nil _ _ _), Lib.hid (Below.refl _ _)⟩
  case round =>
    obtain ⟨k, hg, hk, rfl, hV, hB⟩ := hrel
    by_cases hlt : k < n
    · have hlt' : (k : Int) < (n : Int) := by omega
      obtain ⟨r, hr⟩ : ∃ r, R.rows[k]? = some r := ⟨_, List.getElem?_eq_getElem (by rw [hn.out]; exact hlt)⟩
      have hr := Lib.hid hr
      obtain ⟨g, o, rfl, hzz, hx0⟩ := hrow.out.at' (j := k) (by rw [List.getElem?_map, hr.out]; rfl)
      clear hzz
      have htk := Lib.hid (List.take_add_one (l := R.rows) (i := k))
      have hrec := Lib.hid (H.out.recs r (List.mem_of_getElem? hr.out))
      have x0 : wr.cell? ⟨g, o + k, none⟩ = some (.pointer (some ⟨r.xb, 0, none⟩)) := (hB.out.cell (World.block_lt_of_cell? _ _ hx0)).trans hx0
      have k2 : wr.cell? ⟨r.xb, 2, none⟩ = some (.int .i64 (r.st : Int)) := (hB.out.cell hrec.out.kind.lt).trans hrec.out.c2
      have k0 : wr.cell? ⟨r.xb, 0, none⟩ = some (.int .i64 (r.id : Int)) := (hB.out.cell hrec.out.kind.lt).trans hrec.out.c0
      clear hx0 c3
      by_cases h0 : r.st = 0
      · rw [h0] at k2
        have h0' := Lib.hid h0
        clear h0
        have hal := Below.one (w := wr) (.cells #[.int .i64 (r.id : Int)] 3)
        have hbs := hB.out.size
        obtain ⟨V', w2, hap, hV2, hg2, hvv⟩ := (hV.out.below hal).append (t := 37) (by simp; omega) Try.t3 (.int .i64 0) 8 und37 info3 zero3 size3 bytes3 rfl (by decide)
          (Nat.lt_of_le_of_lt (pend_len _) (by rw [List.length_take]; have := hn40.out; omega)) (.int .i64 (r.id : Int)) rfl (nb := wr.heap.size) (by rw [World.cell?_alloc_at _ _ _ _ rfl]; rfl) (fun he => by have := (hV.out.own he).1.lt; omega)
        have hap := hap 37
        have hV2 : Hid (RowAt w.heap.size 3 w2 V' (pendOf (R.rows.take (k + 1)))) := Lib.hid (by rw [htk.out, hr.out]; show RowAt _ _ _ _ (pendOf (R.rows.take k ++ [r])); rw [pend_snoc1 h0'.out]; exact hV2)
        have hB2 : Hid (Below w.heap.size w w2) := Lib.hid ((hB.out.trans (hal.mono hbs)).grown hg2 (by simp; omega) fun k hk => (hV.out.own hk).2)
        clear hvv hg2 hal hbs
        have hap' := Lib.hid hap
        clear hap
        go_wp2_with (first | (at_builtin; refine wpList_plain rfl fun K hK => wp_append_run (.tmp 20) (.tmp 25) 37 rfl _ _ _ rfl rfl hap'.out (hK _ _ ?_)))
        go_roundg (n - (k + 1))
        case measure => rw [hg.out]; omega
        case rel => exact ⟨k + 1, Lib.hid rfl, hlt, by go_num, hV2, hB2⟩
      · have e0 : ((r.st : Int) == 0) = false := by simp; exact h0
        have h0' := Lib.hid h0
        clear h0
        have hV2 : Hid (RowAt w.heap.size 3 wr u3 (pendOf (R.rows.take (k + 1)))) := Lib.hid (by rw [htk.out, hr.out]; show RowAt _ _ _ _ (pendOf (R.rows.take k ++ [r])); rw [pend_snoc0 h0'.out]; exact hV.out)
        go_wp2_with fail
        go_roundg (n - (k + 1))
        case measure => rw [hg.out]; omega
        case rel => exact ⟨k + 1, Lib.hid rfl, hlt, by go_num, hV2, hB⟩
    · have : k = n := by omega
      subst this
      have hV2 : Hid (RowAt w.heap.size 3 wr u3 (pendOf R.rows)) := Lib.hid (by have h := hV.out; rwa [← hn.out, List.take_length] at h)
      go_wp2_with fail
      go_ret
      exact ⟨_, rfl, hV2.out, hB.out⟩
end Go.Proofs.Ytmjeloinibembaa
