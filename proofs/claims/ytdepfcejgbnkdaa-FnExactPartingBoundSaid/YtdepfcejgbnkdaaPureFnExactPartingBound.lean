/- Proved: the law FnExactPartingBound answers true for every two whole numbers; no condition. -/
import Derived.Test.YtdepfcejgbnkdaaPFnExactPartingBoundx1
import Derived.Test.YtdepfcejgbnkdaaBase
set_option linter.unusedVariables false
set_option linter.unusedSimpArgs false
namespace Go.Proofs.Ytdepfcejgbnkdaa.Pure
open Go.RowKit Go.Proofs.Ytdepfcejgbnkdaa.PFnExactPartingBound Go.Proofs.YtdepfcejgbnkdaaW.PrintWords Go.Proofs.YtdepfcejgbnkdaaW.PrintLast Go.Proofs.YtdepfcejgbnkdaaW.PrintMore Go.Proofs.Ytdepfcejgbnkdaa.Base

theorem spec_l1In_is (a lo hi : Int) : spec_l1In.f a lo hi = some (inB lo hi a) := by
  unfold spec_l1In.f
  exact within_is a lo hi
theorem impl_within_is (a lo hi : Int) : impl_within.f a lo hi = some (inB lo hi a) := by
  unfold impl_within.f
  exact within_is a lo hi
theorem parting_inside : ∀ n d : Fin 9, 1 ≤ d.val → d.val ≤ 4 → (spec_PartingBound.f 20 (n.val : Int) (d.val : Int)).isSome = true ∧ impl_PartingBound.f 20 (n.val : Int) (d.val : Int) = spec_PartingBound.f 20 (n.val : Int) (d.val : Int) := by
  decide +kernel
theorem FnExactPartingBound : laws_FnExactPartingBound.Pure := by
  intro n d _ _
  refine ⟨20, ?_⟩
  have h : ∃ r, spec_PartingBound.f 20 n d = some r ∧ impl_PartingBound.f 20 n d = some r := by
    by_cases h : inB 0 8 n = true
    · by_cases h2 : inB 1 4 d = true
      · have a := inB_iff.1 h
        have b := inB_iff.1 h2
        obtain ⟨n, rfl⟩ := Int.eq_ofNat_of_zero_le a.1
        obtain ⟨d, rfl⟩ := Int.eq_ofNat_of_zero_le (show 0 ≤ d by omega)
        have q := parting_inside ⟨n, by omega⟩ ⟨d, by omega⟩ (show 1 ≤ d by omega) (show d ≤ 4 by omega)
        simp only at q
        obtain ⟨r, hr⟩ := Option.isSome_iff_exists.1 q.1
        exact ⟨r, hr, q.2.trans hr⟩
      · refine ⟨(0, false), ?_, ?_⟩
        · unfold spec_PartingBound.f
          rw [spec_l1In_is, spec_l1In_is]
          simp [spec_PartingBound.j0, h, h2]
        · unfold impl_PartingBound.f
          rw [impl_within_is, impl_within_is]
          simp [impl_PartingBound.j0, h, h2]
    · refine ⟨(0, false), ?_, ?_⟩
      · unfold spec_PartingBound.f
        rw [spec_l1In_is]
        simp [spec_PartingBound.j0, h]
      · unfold impl_PartingBound.f
        rw [impl_within_is]
        simp [impl_PartingBound.j0, h]
  obtain ⟨r, h1, h2⟩ := h
  unfold laws_FnExactPartingBound.f
  rw [h1, h2]
  simp

end Go.Proofs.Ytdepfcejgbnkdaa.Pure
