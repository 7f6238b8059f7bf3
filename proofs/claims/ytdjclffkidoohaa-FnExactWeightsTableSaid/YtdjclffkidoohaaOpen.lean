/- Arguments of the shapes []int, [][]int, struct{[]int, int}, struct{[][]int, []int}, opened: what the reading of the argument tells in the words of the walks; no condition. -/
import Derived.Test.YtdjclffkidoohaaWMore
import Derived.Test.YtdjclffkidoohaaWSized
import Derived.ProofKit
import Derived.OpenShut
import Derived.Deep.Matrix
import Derived.Lib.SmallJoins
set_option linter.unusedVariables false
set_option linter.unusedSimpArgs false
namespace Go.Proofs.Ytdjclffkidoohaa.Open
open Go.ChangeShapes Go.WideShapes Go.ChangeAt Go.RowKit Go.Proofs.YtdjclffkidoohaaW.PrintWords
variable {H : Type} {enc : TypeId × Value → H} {P : Program} {W : World} {base : Nat}

theorem open_list {t e : TypeId} (ht : P.underlying t = some (.slice e)) (he : P.underlying e = some (.int .i64)) (hc : P.cellsOf e = 1) {fuel : Nat} {cs : List Value} {y : DataW H × List MemPlace}
    (h : DataW.trod enc P W base (fun _ => true) true fuel t cs = some y) :
    ∃ (A : Option Addr) (c : Nat) (l : List Int), cs = [.slice A l.length c] ∧ l.length ≤ c ∧ l.length ≤ maxLen ∧ (∀ x ∈ l, (Lit.int .i64 x).wf = true) ∧ Kd.C (Kd.int .i64) W A l.length l := by
  rcases open_ints ht he hc h with ⟨hcs, _⟩ | ⟨x, len, cap, zs, hcs, _, hl, hm, hz, _, hcell, hwz⟩
  · obtain ⟨l, e1, hr, h1, h2, h3⟩ := ReadsInt.ofRowC (k := .i64) (w := W) (a := none) (len := 0) (cap := 0) (zs := []) (.inl ⟨rfl, rfl, rfl, rfl⟩)
    exact ⟨none, 0, l, by rw [hcs, ← e1], h3, h1, h2, Kd.C_of_reads (d := (0 : Int)) (h1 := fun _ => rfl) hr⟩
  · simp only [if_true] at hz
    obtain ⟨l, e1, hr, h1, h2, h3⟩ := ReadsInt.ofRowC (k := .i64) (w := W) (a := some x) (len := len) (cap := cap) (zs := zs) (.inr ⟨x, rfl, hl, hm, hz, hcell, hwz⟩)
    exact ⟨some x, cap, l, by rw [hcs, ← e1], h3, h1, h2, Kd.C_of_reads (d := (0 : Int)) (h1 := fun _ => rfl) hr⟩

theorem open_bytes {t e : TypeId} (ht : P.underlying t = some (.slice e)) (he : P.underlying e = some (.int .u8)) (hc : P.cellsOf e = 1) {fuel : Nat} {cs : List Value} {y : DataW H × List MemPlace}
    (h : DataW.trod enc P W base (fun _ => true) true fuel t cs = some y) :
    ∃ (A : Option Addr) (c : Nat) (l : List Int), cs = [.slice A l.length c] ∧ l.length ≤ c ∧ l.length ≤ maxLen ∧ (∀ x ∈ l, (Lit.int .u8 x).wf = true) ∧ Kd.C (Kd.int .u8) W A l.length l := by
  rcases open_ints ht he hc h with ⟨hcs, _⟩ | ⟨x, len, cap, zs, hcs, _, hl, hm, hz, _, hcell, hwz⟩
  · obtain ⟨l, e1, hr, h1, h2, h3⟩ := ReadsInt.ofRowC (k := .u8) (w := W) (a := none) (len := 0) (cap := 0) (zs := []) (.inl ⟨rfl, rfl, rfl, rfl⟩)
    exact ⟨none, 0, l, by rw [hcs, ← e1], h3, h1, h2, Kd.C_of_reads (d := (0 : Int)) (h1 := fun _ => rfl) hr⟩
  · simp only [if_true] at hz
    obtain ⟨l, e1, hr, h1, h2, h3⟩ := ReadsInt.ofRowC (k := .u8) (w := W) (a := some x) (len := len) (cap := cap) (zs := zs) (.inr ⟨x, rfl, hl, hm, hz, hcell, hwz⟩)
    exact ⟨some x, cap, l, by rw [hcs, ← e1], h3, h1, h2, Kd.C_of_reads (d := (0 : Int)) (h1 := fun _ => rfl) hr⟩

theorem open_rows {t e q : TypeId} (ht : P.underlying t = some (.slice e)) (he : P.underlying e = some (.slice q)) (hq : P.underlying q = some (.int .i64)) (ce : P.cellsOf e = 1) (cq : P.cellsOf q = 1) {fuel : Nat} {cs : List Value} {y : DataW H × List MemPlace}
    (h : DataW.trod enc P W base (fun _ => true) true fuel t cs = some y) :
    ∃ (A : Option Addr) (c : Nat) (l : List (List Int)), cs = [.slice A l.length c] ∧ l.length ≤ c ∧ l.length ≤ maxLen ∧ (∀ r ∈ l, r.length ≤ maxLen ∧ ∀ x ∈ r, (Lit.int .i64 x).wf = true) ∧ Kd.C (Kd.slice q (Kd.int .i64)) W A l.length l := by
  rcases Go.Deep.open_int_rows ht he hq ce cq h with ⟨hcs, _⟩ | ⟨a, len, cap, A, L, C, Z, hcs, _, hl, hm, _, hr⟩
  · exact ⟨none, 0, [], hcs, Nat.le_refl _, by simp, by simp, by simp, by simp, fun hp => absurd hp (by simp)⟩
  · have hlen : ((List.range len).map fun r => (Z r).take (L r)).length = len := by simp
    refine ⟨some a, cap, (List.range len).map fun r => (Z r).take (L r), by rw [hcs, hlen], by omega, by omega, ?_, ?_⟩
    · intro r hr'
      obtain ⟨j, hj, rfl⟩ := List.mem_map.1 hr'
      have hj' := List.mem_range.1 hj
      obtain ⟨_, h2, h3, h4, h5, _⟩ := hr j (by omega)
      refine ⟨by rw [List.length_take]; omega, fun x hx => h5 x (List.mem_of_mem_take hx)⟩
    · refine ⟨rfl, by rw [hlen]; unfold maxLen at hm; omega, fun _ => ⟨a, rfl, fun j p hj => ?_⟩⟩
      obtain ⟨hj1, hj2⟩ := List.getElem?_eq_some_iff.1 hj
      have hjl : j < len := by omega
      obtain ⟨g1, g2, g3, g4, g5, g6, g7⟩ := hr j (by omega)
      have hp : p = (Z j).take (L j) := by rw [← hj2]; simp
      have hpl : p.length = L j := by rw [hp, List.length_take]; omega
      refine ⟨[.slice (A j) (L j) (C j)], rfl, ⟨A j, C j, by rw [hpl], by omega, ?_⟩, fun i u hu => ?_⟩
      · refine Kd.C_of_reads (d := (0 : Int)) (h1 := fun _ => rfl) ⟨rfl, by unfold maxLen at g3; omega, fun hn => ?_⟩
        cases hA : A j with
        | none =>
          have := g6 hA
          omega
        | some a' =>
          refine ⟨a', rfl, fun i hi => ?_⟩
          rw [(g7 a' hA).2 i (by omega), hp]
          have hi2 : i < L j := by omega
          rw [List.getD_eq_getElem?_getD, List.getD_eq_getElem?_getD, List.getElem?_take_of_lt hi2]
      · cases i with
        | zero =>
          simp only [List.getElem?_cons_zero, Option.some.injEq] at hu
          subst hu
          have e1 : j * (Kd.slice q (Kd.int .i64)).sz + 0 = j := by simp [Kd.slice]
          rw [e1]
          exact g1
        | succ i => simp at hu

theorem open_plane {t tl te ti : TypeId} {r : Reach} {b0 : Nat} {f0 f1 : Field} {v : Value} {d : DataW H} {p : List MemPlace} (hs : P.underlying t = some (.struct #[f0, f1])) (hone : Go.Deep.oneCellFields P #[f0, f1] = true) (hC : P.cellsOf t = 2) (e0 : f0.type = tl) (e1 : f1.type = ti)
    (ht : P.underlying tl = some (.slice te)) (he : P.underlying te = some (.int .i64)) (hc : P.cellsOf te = 1) (hi : P.underlying ti = some (.int .i64))
    (hv : Value.okWide P W r b0 t v) (h : DataW.Trod enc P W base (fun _ => true) true t v d p) :
    ∃ (A : Option Addr) (c : Nat) (l : List Int) (b : Int), v = .agg #[.slice A l.length c, .int .i64 b] ∧ l.length ≤ c ∧ l.length ≤ maxLen ∧ (∀ x ∈ l, (Lit.int .i64 x).wf = true) ∧ (Lit.int .i64 b).wf = true ∧ Kd.C (Kd.int .i64) W A l.length l := by
  obtain ⟨u0, u1, y0, y1, n, rfl, _, _, g0, g1⟩ := Go.Joins.open_agg2 hs hone hC hv h
  subst e0
  subst e1
  obtain ⟨A, c, l, e0, h1, h2, h3, h4⟩ := open_list ht he hc g0
  obtain ⟨b, e1, _, h5⟩ := DataW.trod_int hi g1
  simp only [List.cons.injEq, and_true] at e0 e1
  subst e0
  subst e1
  exact ⟨A, c, l, b, rfl, h1, h2, h3, h5, h4⟩

theorem open_sample {t tr tl te : TypeId} {r : Reach} {b0 : Nat} {f0 f1 : Field} {v : Value} {d : DataW H} {p : List MemPlace} (hs : P.underlying t = some (.struct #[f0, f1])) (hone : Go.Deep.oneCellFields P #[f0, f1] = true) (hC : P.cellsOf t = 2) (e0 : f0.type = tr) (e1 : f1.type = tl)
    (hr : P.underlying tr = some (.slice tl)) (cl : P.cellsOf tl = 1) (ht : P.underlying tl = some (.slice te)) (he : P.underlying te = some (.int .i64)) (hc : P.cellsOf te = 1)
    (hv : Value.okWide P W r b0 t v) (h : DataW.Trod enc P W base (fun _ => true) true t v d p) :
    ∃ (A : Option Addr) (c : Nat) (l : List (List Int)) (B : Option Addr) (c' : Nat) (m : List Int), v = .agg #[.slice A l.length c, .slice B m.length c'] ∧ l.length ≤ c ∧ l.length ≤ maxLen ∧ (∀ r ∈ l, r.length ≤ maxLen ∧ ∀ x ∈ r, (Lit.int .i64 x).wf = true) ∧ Kd.C (Kd.slice te (Kd.int .i64)) W A l.length l ∧
      m.length ≤ c' ∧ m.length ≤ maxLen ∧ (∀ x ∈ m, (Lit.int .i64 x).wf = true) ∧ Kd.C (Kd.int .i64) W B m.length m := by
  obtain ⟨u0, u1, y0, y1, n, rfl, _, _, g0, g1⟩ := Go.Joins.open_agg2 hs hone hC hv h
  subst e0
  subst e1
  obtain ⟨A, c, l, e0, h1, h2, h3, h4⟩ := open_rows hr ht he cl hc g0
  obtain ⟨B, c', m, e1, h5, h6, h7, h8⟩ := open_list ht he hc g1
  simp only [List.cons.injEq, and_true] at e0 e1
  subst e0
  subst e1
  exact ⟨A, c, l, B, c', m, rfl, h1, h2, h3, h4, h5, h6, h7, h8⟩
end Go.Proofs.Ytdjclffkidoohaa.Open
