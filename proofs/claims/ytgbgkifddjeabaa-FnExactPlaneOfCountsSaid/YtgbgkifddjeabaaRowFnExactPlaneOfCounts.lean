/- The law FnExactPlaneOfCounts holds of the given program: every call returns true and leaves its arguments as they were; no condition. -/
import Derived.Test.YtgbgkifddjeabaaRows
import Derived.Test.YtgbgkifddjeabaaQFnExactPlaneOfCountsx8
import Derived.Test.YtgbgkifddjeabaaPureFnExactPlaneOfCounts
import Derived.Test.YtgbgkifddjeabaaOpen
import Derived.WalkKit
import Derived.ProofKit
import Derived.OpenShut
import Derived.ShutString
import Derived.ChangeOld
import Derived.Below
import Derived.SizedLaws
namespace Go.Proofs.Ytgbgkifddjeabaa.fnExactPlaneOfCounts
open Go.ChangeShapes Go.WideShapes Go.ChangeAt Go.RowKit
open Go.ChangeMaps (open_string shut_string)
open Go.Proofs.YtgbgkifddjeabaaW.PrintWords (Kd)
set_option linter.unusedVariables false
theorem own : ownKnob Try.prog.godebug = none := by kernel_rfl
theorem laidOut : laidOutB Try.prog = true := by kernel_rfl
set_option maxRecDepth 100000 in
theorem lifted (os : Os) (started : os.Started) (H : Type) (enc : TypeId × Value → H) :
    ReturnsInHanded {} Try.checked os 11 .any (Rows.fnExactPlaneOfCountsSpec.pre6 enc Try.prog Try.f11 Rows.fnExactPlaneOfCountsRow.domain false) (Rows.fnExactPlaneOfCountsSpec.post enc Try.prog Try.f11 false true false false) := by
  refine returnsInHanded_of_change_sized (C := Try.checked) own started (by kernel_rfl) Try.func11
    (ChangeSpec.witness6 (enc := enc) (C := Try.checked) false ⟨#[], #[.agg #[.slice none 0 0, .slice none 0 0], .slice none 0 0], []⟩ 8 (by kernel_rfl) (by kernel_rfl) (by kernel_rfl) (by kernel_rfl)) ?_
  intro W base args ds gs before hval0 hW hcnd _ _
  have hval : ∀ (j : Nat) t v, Try.f11.params[j]? = some t → args[j]? = some v → Value.okWide Try.prog W .any base t v := hval0
  have hW' := hW
  obtain ⟨p, q, hA0, hV, rfl, hfz, hnd⟩ := hW
  have hA : DataW.TrodAll enc Try.prog W 0 (fun _ => true) true Try.f11.params.toList args.toList ds p := hA0
  rw [Try.params11] at hA hval
  obtain ⟨v0, vs0, d0, ds0, p0, q0, hargs, rfl, rfl, h0, r0⟩ := trodAll_cons hA
  obtain ⟨v1, vs1, d1, ds1, p1, q1, rfl, rfl, rfl, h1, r1⟩ := trodAll_cons r0
  obtain ⟨rfl, rfl, rfl⟩ := trodAll_nil r1
  obtain rfl : args = #[v0, v1] := by cases args; simp_all
  obtain ⟨rfl, rfl⟩ := trodVars_none hV
  have k0 := h0
  have lt0 : ∀ x ∈ p0, x.block < W.heap.size := by obtain ⟨m, hm⟩ := k0; exact DataW.trod_lt m _ _ _ hm
  have k1 := h1
  have lt1 : ∀ x ∈ p1, x.block < W.heap.size := by obtain ⟨m, hm⟩ := k1; exact DataW.trod_lt m _ _ _ hm
  obtain ⟨A0, c0, l0, B0, d0_, m0, rfl, hc0, lm0, wf0, hr0, hd0, mm0, wm0, hs0⟩ := Open.open_sample Try.underlying34 (by kernel_rfl) (by kernel_rfl) rfl rfl Try.underlying22 (by kernel_rfl) Try.underlying23 Try.underlying3 (by kernel_rfl) (hval 0 34 v0 rfl rfl) h0
  obtain ⟨A1, c1, l1, e1, hc1, lm1, wf1, hr1⟩ : ∃ (A : Option Addr) (c : Nat) (l : List Int), v1 = .slice A l.length c ∧ l.length ≤ c ∧ l.length ≤ maxLen ∧ (∀ x ∈ l, (Lit.int .i64 x).wf = true) ∧ Kd.C (Kd.int .i64) W A l.length l := by
    obtain ⟨aa, ln, cp, rfl⟩ := okWide_slice Try.underlying23 (hval 1 23 v1 rfl rfl)
    obtain ⟨fuel, hf⟩ := h1
    obtain ⟨A, c, l, e, g1, g2, g3, g4⟩ := Open.open_list Try.underlying23 Try.underlying3 (by kernel_rfl) hf
    simp only [Value.cells, List.cons.injEq, and_true] at e
    exact ⟨A, c, l, e, g1, g2, g3, g4⟩
  subst e1
  clear hA0 hval0
  obtain ⟨k, h⟩ := Pure.FnExactPlaneOfCounts l0 m0 l1 lm0 wf0 mm0 wm0 lm1 wf1
  refine (QFnExactPlaneOfCounts.laws_FnExactPlaneOfCounts.calls k _ _ l0 _ _ m0 _ _ l1 true W hr0 hc0 hs0 hd0 hr1 hc1 h).mono fun e W' ⟨he, bel⟩ => ?_
  subst he
  exact ⟨_, rfl, _, _, _, [], _, [], hW', trodAll_mk1 (shut_bool Try.underlying4 _), (trodAll_cons_mk (Below.trod laidOut (by kernel_rfl) (of_decide_eq_true (by kernel_rfl)) k0 bel lt0) (trodAll_cons_mk (Below.trod laidOut (by kernel_rfl) (of_decide_eq_true (by kernel_rfl)) k1 bel lt1) trodAll_mk0)), rfl, bel.frame _, fun h => by cases h⟩
theorem over : Rows.fnExactPlaneOfCountsRow.holds Try.pinned (OpenSpec.ofChange Rows.fnExactPlaneOfCountsSpec) :=
  OpenClaim.holds_of_wide 11 Try.f11 rfl rfl rfl rfl rfl rfl rfl ⟨rfl, rfl, rfl, rfl, rfl⟩ rfl rfl rfl rfl rfl (by kernel_rfl) Try.func11 (by kernel_rfl)
    (of_decide_eq_true (by kernel_rfl)) (by unfold Func.isWrapper; first | (rw [if_pos (by decide +kernel)]; kernel_rfl) | (rw [if_neg (by decide +kernel)]; exact ⟨rfl, rfl⟩))
    (fun os started H enc _ => lifted os started H enc)
theorem proved : Rows.FnExactPlaneOfCountsSaid := over
#print axioms proved
end Go.Proofs.Ytgbgkifddjeabaa.fnExactPlaneOfCounts
namespace Go.Proofs.Ytgbgkifddjeabaa
/-- The row, under a short name, for the claim. -/
theorem fnExactPlaneOfCounts_holds : Rows.FnExactPlaneOfCountsSaid := fnExactPlaneOfCounts.proved
end Go.Proofs.Ytgbgkifddjeabaa
