/- An argument that is a list of texts, opened: what the reading of the argument tells in the words of the walks; no condition. -/
import Derived.Test.YtkgjacacldcacaaWMore
import Derived.ProofKit
import Derived.OpenShut
import Derived.SliceStrings
set_option linter.unusedVariables false
namespace Go.Proofs.Ytkgjacacldcacaa.Texts
open Go.ChangeShapes Go.WideShapes Go.ChangeAt Go.RowKit Go.Proofs.YtkgjacacldcacaaW.PrintWords
variable {H : Type} {enc : TypeId × Value → H} {P : Program} {W : World} {base : Nat}
theorem open_texts {t e : TypeId} (ht : P.underlying t = some (.slice e)) (he : P.underlying e = some .string) (hc : P.cellsOf e = 1) {fuel : Nat} {cs : List Value} {y : DataW H × List MemPlace}
    (h : DataW.trod enc P W base (fun _ => true) true fuel t cs = some y) :
    ∃ (A : Option Addr) (c : Nat) (l : List ByteArray), cs = [.slice A l.length c] ∧ l.length ≤ c ∧ l.length ≤ maxLen ∧ (∀ x ∈ l, x.size ≤ maxLen) ∧ Kd.C Kd.string W A l.length l := by
  rcases open_strings ht he hc h with ⟨hcs, _⟩ | ⟨a, len, cap, ss, hcs, _, hl, hm, hlen, _, hcell, hz⟩
  · exact ⟨none, 0, [], hcs, Nat.le_refl _, by simp, by simp, by simp, by simp, fun hp => absurd hp (by simp)⟩
  · simp only [if_true] at hlen
    have h1 : (ss.take len).length = len := by rw [List.length_take]; omega
    refine ⟨some a, cap, ss.take len, by rw [hcs, h1], by omega, by omega, fun x hx => hz x (List.mem_of_mem_take hx), rfl, by rw [h1]; unfold maxLen at hm; omega, fun _ => ⟨a, rfl, fun j p hj => ?_⟩⟩
    obtain ⟨hj1, hj2⟩ := List.getElem?_eq_some_iff.1 hj
    have hjl : j < len := by omega
    refine ⟨[.string p], rfl, rfl, fun i u hu => ?_⟩
    cases i with
    | zero =>
      obtain rfl := Option.some.inj hu
      have e := hcell j (by omega)
      have ep : ss.getD j ByteArray.empty = p := by
        rw [← hj2, List.getElem_take]
        simp [List.getD_eq_getElem?_getD, List.getElem?_eq_getElem (show j < ss.length by omega)]
      rw [ep] at e
      have : j * (Kd.string).sz + 0 = j := by show j * 1 + 0 = j; omega
      rw [this]
      exact e
    | succ i => simp at hu
end Go.Proofs.Ytkgjacacldcacaa.Texts
