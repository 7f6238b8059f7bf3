/- Proved: the law FnExactChecksum answers true for every string; no condition. -/
import Derived.Test.YtdepfcejgbnkdaaPFnExactChecksumx1
import Derived.Test.YtdepfcejgbnkdaaBase
set_option linter.unusedVariables false
set_option linter.unusedSimpArgs false
namespace Go.Proofs.Ytdepfcejgbnkdaa.Pure
open Go.RowKit Go.Proofs.Ytdepfcejgbnkdaa.PFnExactChecksum Go.Proofs.YtdepfcejgbnkdaaW.PrintWords Go.Proofs.YtdepfcejgbnkdaaW.PrintLast Go.Proofs.YtdepfcejgbnkdaaW.PrintMore Go.Proofs.Ytdepfcejgbnkdaa.Base

theorem spec_l1Sum_some (s : ByteArray) (hs : s.size ≤ 1048576) : ∀ (k i : Nat) (h : Int), i ≤ s.size → s.size < i + k → ∃ r, spec_l1Sum.l0 k s h (i : Int) = some r
  | 0, i, h, _, hk => by omega
  | k + 1, i, h, hi, hk => by
    simp only [spec_l1Sum.l0]
    by_cases e : i < s.size
    · rw [if_pos (by omega), if_pos (by omega), w64_nat (by omega)]
      exact spec_l1Sum_some s hs k (i + 1) _ (by omega) (by omega)
    · rw [if_neg (by omega)]
      exact ⟨_, rfl⟩
theorem impl_checksum_same (s : ByteArray) : ∀ (k : Nat) (h i : Int), impl_checksum.l0 k s h (s.size : Int) i = spec_l1Sum.l0 k s h i
  | 0, h, i => rfl
  | k + 1, h, i => by
    simp only [impl_checksum.l0, spec_l1Sum.l0]
    by_cases e : i < (s.size : Int)
    · rw [if_pos e, if_pos e, if_pos e, impl_checksum_same s k]
    · rw [if_neg e, if_neg e]
theorem FnExactChecksum : laws_FnExactChecksum.Pure := by
  intro s _
  refine ⟨1048600, ?_⟩
  unfold laws_FnExactChecksum.f
  by_cases h : (s.size : Int) > 1048576
  · rw [if_pos h]
  · rw [if_neg h]
    unfold spec_Checksum.f impl_Checksum.f
    by_cases h2 : (s.size : Int) > 4000
    · rw [if_pos h2, if_pos h2]
      simp
    · rw [if_neg h2, if_neg h2]
      unfold spec_l1Sum.f impl_checksum.f
      obtain ⟨r, hr⟩ := spec_l1Sum_some s (by omega) 1048600 0 7 (by omega) (by omega)
      rw [impl_checksum_same, show (0 : Int) = ((0 : Nat) : Int) from rfl, hr]
      simp

end Go.Proofs.Ytdepfcejgbnkdaa.Pure
