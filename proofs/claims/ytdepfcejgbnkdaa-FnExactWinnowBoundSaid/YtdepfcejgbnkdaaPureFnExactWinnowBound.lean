/- Proved: the law FnExactWinnowBound answers true for every two whole numbers; no condition. -/
import Derived.Test.YtdepfcejgbnkdaaPFnExactWinnowBoundx1
import Derived.Test.YtdepfcejgbnkdaaBase
set_option linter.unusedVariables false
set_option linter.unusedSimpArgs false
namespace Go.Proofs.Ytdepfcejgbnkdaa.Pure
open Go.RowKit Go.Proofs.Ytdepfcejgbnkdaa.PFnExactWinnowBound Go.Proofs.YtdepfcejgbnkdaaW.PrintWords Go.Proofs.YtdepfcejgbnkdaaW.PrintLast Go.Proofs.YtdepfcejgbnkdaaW.PrintMore Go.Proofs.Ytdepfcejgbnkdaa.Base

theorem spec_l1In_is (a lo hi : Int) : spec_l1In.f a lo hi = some (inB lo hi a) := by
  unfold spec_l1In.f
  exact within_is a lo hi
def winB (n x : Int) : Int × Bool := if inB 1 8 n && inB 0 n x then (1 + 2 * x * (if n ≤ 1 then 0 else if n ≤ 2 then 1 else if n ≤ 4 then 2 else 3), true) else (0, false)
theorem spec_WinnowBound_l (k : Nat) (n x : Int) (h0 : 1 ≤ n) (h1 : n ≤ 8) (h2 : 0 ≤ x) (h3 : x ≤ n) (hk : 4 ≤ k) : spec_WinnowBound.l0 k n x 0 = some (1 + 2 * x * (if n ≤ 1 then 0 else if n ≤ 2 then 1 else if n ≤ 4 then 2 else 3), true) := by
  obtain ⟨k, rfl⟩ : ∃ m, k = m + 1 + 1 + 1 + 1 := ⟨k - 4, by omega⟩
  have s0 : shl .i64 1 0 = 1 := by decide
  have s1 : shl .i64 1 1 = 2 := by decide
  have s2 : shl .i64 1 2 = 4 := by decide
  have s3 : shl .i64 1 3 = 8 := by decide
  have w0 : wrap64 (0 + 1) = 1 := by unfold wrap64; omega
  have w1 : wrap64 (1 + 1) = 2 := by unfold wrap64; omega
  have w2 : wrap64 (2 + 1) = 3 := by unfold wrap64; omega
  have e : wrap64 (2 * x) = 2 * x := w64 (by omega) (by omega)
  simp only [spec_WinnowBound.l0, s0, s1, s2, s3, w0, w1, w2, e]
  rcases (show n ≤ 1 ∨ (1 < n ∧ n ≤ 2) ∨ (2 < n ∧ n ≤ 4) ∨ 4 < n by omega) with a | a | a | a
  · rw [if_pos (by omega), if_neg (by omega), if_pos a, w64 (x := 2 * x * 0) (by omega) (by omega), w64 (by omega) (by omega)]
  · rw [if_pos (by omega), if_pos (by omega), if_pos (by omega), if_neg (by omega), if_neg (by omega), if_pos (by omega), w64 (x := 2 * x * 1) (by omega) (by omega), w64 (by omega) (by omega)]
  · rw [if_pos (by omega), if_pos (by omega), if_pos (by omega), if_pos (by omega), if_pos (by omega), if_neg (by omega), if_neg (by omega), if_neg (by omega), if_pos (by omega), w64 (x := 2 * x * 2) (by omega) (by omega), w64 (by omega) (by omega)]
  · rw [if_pos (by omega), if_pos (by omega), if_pos (by omega), if_pos (by omega), if_pos (by omega), if_pos (by omega), if_pos (by omega), if_neg (by omega), if_neg (by omega), if_neg (by omega), if_neg (by omega), w64 (x := 2 * x * 3) (by omega) (by omega), w64 (by omega) (by omega)]
theorem spec_WinnowBound_is (k : Nat) (n x : Int) (hk : 5 ≤ k) : spec_WinnowBound.f k n x = some (winB n x) := by
  obtain ⟨k, rfl⟩ : ∃ m, k = m + 1 := ⟨k - 1, by omega⟩
  unfold spec_WinnowBound.f winB
  rw [spec_l1In_is, spec_l1In_is]
  simp only [Option.bind_some]
  by_cases h : inB 1 8 n = true
  · rw [if_pos h]
    simp only [spec_WinnowBound.j0]
    by_cases h2 : inB 0 n x = true
    · have a := inB_iff.1 h
      have b := inB_iff.1 h2
      rw [if_neg (by simp [h2]), spec_WinnowBound_l k n x (by omega) (by omega) (by omega) (by omega) (by omega)]
      simp [h, h2]
    · rw [if_pos (by simp [h2])]
      simp [h2]
  · rw [if_neg h]
    simp [spec_WinnowBound.j0, h]
theorem impl_within_is (a lo hi : Int) : impl_within.f a lo hi = some (inB lo hi a) := by
  unfold impl_within.f
  exact within_is a lo hi
theorem impl_WinnowBound_l (k : Nat) (n x : Int) (h0 : 1 ≤ n) (h1 : n ≤ 8) (h2 : 0 ≤ x) (h3 : x ≤ n) (hk : 4 ≤ k) : impl_WinnowBound.l0 k n x 0 = some (1 + 2 * x * (if n ≤ 1 then 0 else if n ≤ 2 then 1 else if n ≤ 4 then 2 else 3), true) := by
  obtain ⟨k, rfl⟩ : ∃ m, k = m + 1 + 1 + 1 + 1 := ⟨k - 4, by omega⟩
  have s0 : shl .i64 1 0 = 1 := by decide
  have s1 : shl .i64 1 1 = 2 := by decide
  have s2 : shl .i64 1 2 = 4 := by decide
  have s3 : shl .i64 1 3 = 8 := by decide
  have w0 : wrap64 (0 + 1) = 1 := by unfold wrap64; omega
  have w1 : wrap64 (1 + 1) = 2 := by unfold wrap64; omega
  have w2 : wrap64 (2 + 1) = 3 := by unfold wrap64; omega
  have e : wrap64 (2 * x) = 2 * x := w64 (by omega) (by omega)
  simp only [impl_WinnowBound.l0, s0, s1, s2, s3, w0, w1, w2, e]
  rcases (show n ≤ 1 ∨ (1 < n ∧ n ≤ 2) ∨ (2 < n ∧ n ≤ 4) ∨ 4 < n by omega) with a | a | a | a
  · rw [if_pos (by omega), if_neg (by omega), if_pos a, w64 (x := 2 * x * 0) (by omega) (by omega), w64 (by omega) (by omega)]
  · rw [if_pos (by omega), if_pos (by omega), if_pos (by omega), if_neg (by omega), if_neg (by omega), if_pos (by omega), w64 (x := 2 * x * 1) (by omega) (by omega), w64 (by omega) (by omega)]
  · rw [if_pos (by omega), if_pos (by omega), if_pos (by omega), if_pos (by omega), if_pos (by omega), if_neg (by omega), if_neg (by omega), if_neg (by omega), if_pos (by omega), w64 (x := 2 * x * 2) (by omega) (by omega), w64 (by omega) (by omega)]
  · rw [if_pos (by omega), if_pos (by omega), if_pos (by omega), if_pos (by omega), if_pos (by omega), if_pos (by omega), if_pos (by omega), if_neg (by omega), if_neg (by omega), if_neg (by omega), if_neg (by omega), w64 (x := 2 * x * 3) (by omega) (by omega), w64 (by omega) (by omega)]
theorem impl_WinnowBound_is (k : Nat) (n x : Int) (hk : 5 ≤ k) : impl_WinnowBound.f k n x = some (winB n x) := by
  obtain ⟨k, rfl⟩ : ∃ m, k = m + 1 := ⟨k - 1, by omega⟩
  unfold impl_WinnowBound.f winB
  rw [impl_within_is, impl_within_is]
  simp only [Option.bind_some]
  by_cases h : inB 1 8 n = true
  · rw [if_pos h]
    simp only [impl_WinnowBound.j0]
    by_cases h2 : inB 0 n x = true
    · have a := inB_iff.1 h
      have b := inB_iff.1 h2
      rw [if_neg (by simp [h2]), impl_WinnowBound_l k n x (by omega) (by omega) (by omega) (by omega) (by omega)]
      simp [h, h2]
    · rw [if_pos (by simp [h2])]
      simp [h2]
  · rw [if_neg h]
    simp [impl_WinnowBound.j0, h]
theorem FnExactWinnowBound : laws_FnExactWinnowBound.Pure := by
  intro n x _ _
  refine ⟨20, ?_⟩
  unfold laws_FnExactWinnowBound.f
  rw [spec_WinnowBound_is 20 n x (by omega), impl_WinnowBound_is 20 n x (by omega)]
  simp

end Go.Proofs.Ytdepfcejgbnkdaa.Pure
