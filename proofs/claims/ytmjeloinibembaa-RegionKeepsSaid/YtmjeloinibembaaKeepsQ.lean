/-
  RegionKeeps: the walk of the law (pointers, plain laws).
-/
import Derived.Test.YtmjeloinibembaaKeepsL
namespace Go.Proofs.Ytmjeloinibembaa
open Go.RowKit
set_option linter.unusedVariables false
set_option linter.unusedSimpArgs false
theorem tmod_pos {a : Int} (h : a ≤ 0) : a.tmod 8 = -((-a) % 8) := by
  have h1 : a = -(-a) := by omega
  rw [h1, Int.neg_tmod, Int.tmod_eq_emod_of_nonneg (by omega), Int.neg_neg]
theorem put_tag (a : Nat) (vk vn vi vo : Int) (s : Nat) : (putP FS.zero a vk vn vi vo).tag s = 0 := rfl
theorem put_has (a : Nat) (vk vn vi vo : Int) (s : Nat) : (putP FS.zero a vk vn vi vo).has s = decide (s = a) := by
  show upd (unw FS.zero a).has a true s = _
  by_cases h : s = a
  · subst h; rw [upd_same]; simp
  · rw [upd_ne _ _ h]; show upd FS.zero.has a false s = _; rw [upd_ne _ _ h]; simp [FS.zero, h]
theorem keep_has {o1 o2 n y : Nat} (h8 : o1 % 8 = 0) (hn : 0 < n) (hd : o1 + 8 ≤ o2 ∨ o2 + n ≤ o1) : (wrote (putP FS.zero (o1 / 8) 4 0 3 0) o2 n (gB y)).has (o1 / 8) = true := by
  rw [wrote_has, if_neg (by omega), put_has]; simp
theorem keep_pk {o1 o2 n y : Nat} (h8 : o1 % 8 = 0) (hn : 0 < n) (hd : o1 + 8 ≤ o2 ∨ o2 + n ≤ o1) : (wrote (putP FS.zero (o1 / 8) 4 0 3 0) o2 n (gB y)).pk (o1 / 8) = 4 := by
  show (wipe _ _ _).pk _ = _
  rw [wipe_pk _ _ _ _ (by omega)]; simp [putP, upd]
theorem keep_pn {o1 o2 n y : Nat} (h8 : o1 % 8 = 0) (hn : 0 < n) (hd : o1 + 8 ≤ o2 ∨ o2 + n ≤ o1) : (wrote (putP FS.zero (o1 / 8) 4 0 3 0) o2 n (gB y)).pn (o1 / 8) = 0 := by
  show (wipe _ _ _).pn _ = _
  rw [wipe_pn _ _ _ _ (by omega)]; simp [putP, upd]
theorem keep_pi {o1 o2 n y : Nat} (h8 : o1 % 8 = 0) (hn : 0 < n) (hd : o1 + 8 ≤ o2 ∨ o2 + n ≤ o1) : (wrote (putP FS.zero (o1 / 8) 4 0 3 0) o2 n (gB y)).pi (o1 / 8) = 3 := by
  show (wipe _ _ _).pi _ = _
  rw [wipe_pi _ _ _ _ (by omega)]; simp [putP, upd]
theorem keep_po {o1 o2 n y : Nat} (h8 : o1 % 8 = 0) (hn : 0 < n) (hd : o1 + 8 ≤ o2 ∨ o2 + n ≤ o1) : (wrote (putP FS.zero (o1 / 8) 4 0 3 0) o2 n (gB y)).po (o1 / 8) = 0 := by
  show (wipe _ _ _).po _ = _
  rw [wipe_po _ _ _ _ (by omega)]; simp [putP, upd]
theorem gone_has {o1 o2 n y : Nat} (h8 : o1 % 8 = 0) (hn : 0 < n) (hd : ¬ (o1 + 8 ≤ o2 ∨ o2 + n ≤ o1)) : (wrote (putP FS.zero (o1 / 8) 4 0 3 0) o2 n (gB y)).has (o1 / 8) = false := by
  rw [wrote_has, if_pos (by omega)]
theorem gone_read {o1 o2 n y : Nat} (h8 : o1 % 8 = 0) (hn : 0 < n) (hn8 : n ≤ 8) (hd : ¬ (o1 + 8 ≤ o2 ∨ o2 + n ≤ o1)) (hne : ¬ (n = 8 ∧ o1 = o2)) : readT (wrote (putP FS.zero (o1 / 8) 4 0 3 0) o2 n (gB y)) o1 8 = 1 := by
  refine read_un (fun s => by rw [wrote_tag]; rfl) (decide_eq_false fun ⟨k, hk, hh⟩ => ?_) (decide_eq_false fun hall => ?_)
  · have hk0 : k = 0 := by omega
    subst hk0
    rw [Nat.add_zero, gone_has h8 hn hd] at hh
    exact absurd hh (by decide)
  · obtain ⟨k, hk, hout⟩ : ∃ k, k < 8 ∧ ¬ (o2 ≤ o1 + k ∧ o1 + k < o2 + n) := by
      by_cases h1 : o1 < o2
      · exact ⟨0, by decide, by omega⟩
      · exact ⟨7, by decide, by omega⟩
    have h2 := hall k hk
    have e : (o1 + k) / 8 = o1 / 8 := by omega
    rw [wrote_wr, if_neg hout, e, if_pos ⟨by omega, by omega, by rw [put_has]; simp⟩] at h2
    exact absurd h2 (by decide)
end Go.Proofs.Ytmjeloinibembaa
