/- Library calls of this seat: what each asks of a world and what it tells; no condition beyond what each states. -/
import Derived.Test.YtkgjacacldcacaaDoorShelf
import Derived.Test.YtkgjacacldcacaaDoorWMore
import Derived.WalkSmall
import Derived.Shelf.Vars
import Derived.Lib.AtoiErrMem
set_option linter.unusedVariables false
namespace Go.Proofs.YtkgjacacldcacaaDoor.LibC
open Go.RowKit Go.Proofs.YtkgjacacldcacaaDoorW.PrintWords Go.Proofs.YtkgjacacldcacaaDoorW.PrintLast Go.Proofs.YtkgjacacldcacaaDoorW.PrintMore
/-- what library calls ask of the package-level variables: the powers of ten, MaxLen, the two errors -/
def TabsOf (p m e : Bool) (w : World) : Prop :=
  (p = true → Go.Lib.TabIs Tryd.prog w "internal/strconv.uint64pow10" .u64 Go.Lib.pow10Tab) ∧
  (m = true → ∃ v, w.cell? ⟨0, 0, none⟩ = some (.int .i64 v)) ∧
  (e = true → ∃ tp v, w.cell? ⟨1, 0, none⟩ = some (.iface tp v))
theorem var_below {P : Program} {w w' : World} {n : String} {cs : Array Value} (h : Below w.heap.size w w') (hv : w.var? P n = some cs) : w'.var? P n = some cs := by
  have hv0 := hv
  unfold World.var? at hv
  obtain ⟨g, hg, hv⟩ := Option.bind_eq_some_iff.1 hv
  refine var?_below h hg ?_ hv0
  rcases Nat.lt_or_ge g w.heap.size with h1 | h1
  · exact h1
  · rw [Array.getElem?_eq_none h1] at hv
    cases hv
theorem tabs_below {p m e : Bool} {w w' : World} (hT : TabsOf p m e w) (h : Below w.heap.size w w') : TabsOf p m e w' :=
  ⟨fun a => var_below h (hT.1 a), fun a => (hT.2.1 a).imp fun _ hv => pw_cell_below h hv, fun a => (hT.2.2 a).imp fun _ ⟨v, hv⟩ => ⟨v, pw_cell_below h hv⟩⟩
theorem below_bytes {w w' : World} {t : ByteArray} {e : TypeId} (h : w' = Go.Lib.bytesWorld w e t) : Below w.heap.size w w' := by
  subst h
  exact Go.Lib.bytesWorld_below w e t
/-- MaxLen holds some int in every world of that shape -/
theorem max_of {w : World} (h : w.ShapedOpen Tryd.prog) : ∃ v, w.cell? ⟨0, 0, none⟩ = some (.int .i64 v) :=
  cell_of_shapedOpen_int (t := 3) (zero := #[.int .i64 0]) h (of_decide_eq_true (by kernel_rfl)) (by kernel_rfl) rfl (by kernel_rfl) (by kernel_rfl) (by kernel_rfl)
theorem below_grow (w : World) (k : Nat) (os : Array Obj) : Below w.heap.size w (Go.Sort.grow (w.drewN k) os) :=
  ⟨rfl, rfl, rfl, by show w.heap.size ≤ (w.heap ++ os).size; rw [Array.size_append]; omega, fun j hj => by
    show (w.heap ++ os)[j]? = w.heap[j]?
    rw [Array.getElem?_append_left hj]⟩
/-- a row of strings that a call has laid -/
theorem row_new (w : World) (xs : List ByteArray) (t : Nat) (h : xs.length ≤ maxLen) : Kd.R Kd.string t (w.alloc (.cells (xs.map Value.string).toArray t)) w.heap.size (fun _ => True) (.slice (some ⟨w.heap.size, 0, none⟩) xs.length xs.length) xs := by
  refine Kd.R_of_own (enc := Value.string) (h1 := fun _ => rfl) ?_ (fun _ _ => trivial)
  have := World.ownsRow_lit (e := t) (size := 1) (base := w.heap.size) w (xs.map Value.string).toArray xs.length (Nat.le_refl _) h (by simp)
  simpa [encs] using this
/-- where a row of strings lies -/
theorem row_cells {w : World} {A : Option Addr} {n : Nat} {xs : List ByteArray} (h : Kd.C Kd.string w A n xs) (hn : xs.length = n) (h0 : 0 < n) : ∃ b o, A = some ⟨b, o, none⟩ ∧ b < w.heap.size ∧ ∀ (j : Nat) x, xs[j]? = some x → w.cell? ⟨b, o + j, none⟩ = some (.string x) := by
  obtain ⟨ad, hA, hc⟩ := Kd.at_string h 0 (by omega) (by omega)
  have e0 : ad.add (0 : Int).toNat = ad := by simp [Addr.add]
  rw [e0] at hc
  have hb := World.block_lt_of_cell? w _ hc
  obtain ⟨b, o, sp⟩ := ad
  have hs : sp = none := by
    cases sp with
    | none => rfl
    | some z =>
      unfold World.cell? at hc
      split at hc
      · simp at hc
      · cases hc
  subst hs
  refine ⟨b, o, hA, hb, fun j x hj => ?_⟩
  have hjl : j < xs.length := (List.getElem?_eq_some_iff.1 hj).1
  obtain ⟨ad2, hA2, hc2⟩ := Kd.at_string h (j : Int) (by omega) (by omega)
  rw [hA] at hA2
  obtain rfl := Option.some.inj hA2
  have e1 : (⟨b, o, none⟩ : Addr).add ((j : Int)).toNat = ⟨b, o + j, none⟩ := by
    unfold Addr.add
    rw [Int.toNat_natCast]
    split
    · rename_i h; subst h; rfl
    · rfl
  have e2 : rdOf ByteArray.empty xs (j : Int) = x := by
    unfold rdOf
    rw [Int.toNat_natCast, List.getD_eq_getElem?_getD, hj]
    rfl
  rw [e1, e2] at hc2
  exact hc2
end Go.Proofs.YtkgjacacldcacaaDoor.LibC
