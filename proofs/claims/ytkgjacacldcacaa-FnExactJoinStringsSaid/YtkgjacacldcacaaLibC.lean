/- Library calls of this seat: what each asks of a world and what it tells; no condition beyond what each states. -/
import Derived.Test.YtkgjacacldcacaaShelf
import Derived.Test.YtkgjacacldcacaaWMore
import Derived.WalkSmall
import Derived.Shelf.Vars
import Derived.Lib.AtoiErrMem
set_option linter.unusedVariables false
namespace Go.Proofs.Ytkgjacacldcacaa.LibC
open Go.RowKit Go.Proofs.YtkgjacacldcacaaW.PrintWords Go.Proofs.YtkgjacacldcacaaW.PrintLast Go.Proofs.YtkgjacacldcacaaW.PrintMore
/-- a row of strings that a call has laid -/
theorem row_new (w : World) (xs : List ByteArray) (t : Nat) (h : xs.length ≤ maxLen) : Kd.R Kd.string t (w.alloc (.cells (xs.map Value.string).toArray t)) w.heap.size (fun _ => True) (.slice (some ⟨w.heap.size, 0, none⟩) xs.length xs.length) xs := by
  refine Kd.R_of_own (enc := Value.string) (h1 := fun _ => rfl) ?_ (fun _ _ => trivial)
  have := World.ownsRow_lit (e := t) (size := 1) (base := w.heap.size) w (xs.map Value.string).toArray xs.length (Nat.le_refl _) h (by simp)
  simpa [encs] using this
/-- where a row of strings lies -/
theorem row_cells {w : World} {A : Option Addr} {n : Nat} {xs : List ByteArray} (h : Kd.C Kd.string w A n xs) (hn : xs.length = n) (h0 : 0 < n) : ∃ b o, A = some ⟨b, o, none⟩ ∧ b < w.heap.size ∧ ∀ (j : Nat) x, xs[j]? = some x → w.cell? ⟨b, o + j, none⟩ = some (.string x) := by
  obtain ⟨ad, hA, hc⟩ := Kd.at_string h 0 (by omega) (by omega)
  have e0 : ad.add (0 : Int).toNat = ad := by simp [Addr.add]
  rw [e0] at hc
  have hb := World.block_lt_of_cell? w _ hc
  obtain ⟨b, o, sp⟩ := ad
  have hs : sp = none := by
    cases sp with
    | none => rfl
    | some z =>
      unfold World.cell? at hc
      split at hc
      · simp at hc
      · cases hc
  subst hs
  refine ⟨b, o, hA, hb, fun j x hj => ?_⟩
  have hjl : j < xs.length := (List.getElem?_eq_some_iff.1 hj).1
  obtain ⟨ad2, hA2, hc2⟩ := Kd.at_string h (j : Int) (by omega) (by omega)
  rw [hA] at hA2
  obtain rfl := Option.some.inj hA2
  have e1 : (⟨b, o, none⟩ : Addr).add ((j : Int)).toNat = ⟨b, o + j, none⟩ := by
    unfold Addr.add
    rw [Int.toNat_natCast]
    split
    · rename_i h; subst h; rfl
    · rfl
  have e2 : rdOf ByteArray.empty xs (j : Int) = x := by
    unfold rdOf
    rw [Int.toNat_natCast, List.getD_eq_getElem?_getD, hj]
    rfl
  rw [e1, e2] at hc2
  exact hc2
end Go.Proofs.Ytkgjacacldcacaa.LibC
