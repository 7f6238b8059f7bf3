/- Plain facts on numbers and lists of whole numbers, used by the pure statements of this seat; no condition. -/
import Derived.Test.YtdepfcejgbnkdaaWMore
set_option linter.unusedVariables false
set_option linter.unusedSimpArgs false
namespace Go.Proofs.Ytdepfcejgbnkdaa.Base
open Go.RowKit Go.Proofs.YtdepfcejgbnkdaaW.PrintWords Go.Proofs.YtdepfcejgbnkdaaW.PrintLast Go.Proofs.YtdepfcejgbnkdaaW.PrintMore

theorem w64 {x : Int} (h1 : -9223372036854775808 ≤ x) (h2 : x ≤ 9223372036854775807) : wrap64 x = x := by
  unfold wrap64
  omega
theorem w64_nat {n : Nat} (h : n ≤ 4611686018427387904) : wrap64 ((n : Int) + 1) = ((n + 1 : Nat) : Int) := by
  rw [w64 (by omega) (by omega)]
  omega
theorem rd_nat (l : List Int) (i : Nat) (h : i < l.length) : rd l (i : Int) = l[i] := by
  simp [rd, h]
theorem wf_range {x : Int} (h : (Lit.int .i64 x).wf = true) : -9223372036854775808 ≤ x ∧ x ≤ 9223372036854775807 := by
  have e1 : IntKind.i64.min = -9223372036854775808 := by decide
  have e2 : IntKind.i64.max = 9223372036854775807 := by decide
  simp only [Lit.wf, Bool.and_eq_true, decide_eq_true_eq] at h
  omega

/-- a number between two others -/
def inB (lo hi x : Int) : Bool := decide (lo ≤ x ∧ x ≤ hi)
theorem inB_iff {lo hi x : Int} : inB lo hi x = true ↔ lo ≤ x ∧ x ≤ hi := by simp [inB]
theorem within_is (a lo hi : Int) : (if a ≥ lo then (some (decide (a ≤ hi))) else (some false)) = some (inB lo hi a) := by
  unfold inB
  by_cases h : a ≥ lo
  · rw [if_pos h]
    congr 1
    by_cases h2 : a ≤ hi <;> simp [h2]
    omega
  · rw [if_neg h]
    congr 1
    simp
    omega

/-! marks: the numbers a, a + 1, .. -/
def marks : Int → Nat → List Int
  | _, 0 => []
  | a, n + 1 => a :: marks (a + 1) n
theorem marks_length : ∀ (n : Nat) (a : Int), (marks a n).length = n
  | 0, _ => rfl
  | n + 1, a => by simp [marks, marks_length n]
theorem marks_get : ∀ (n : Nat) (a : Int) (i : Nat) (h : i < (marks a n).length), (marks a n)[i] = a + i
  | 0, _, i, h => by simp [marks] at h
  | n + 1, a, 0, h => by simp [marks]
  | n + 1, a, i + 1, h => by
    simp only [marks, List.getElem_cons_succ]
    rw [marks_get n (a + 1) i]
    omega
theorem marks_snoc : ∀ (n : Nat) (a : Int), marks a (n + 1) = marks a n ++ [a + n]
  | 0, a => by simp [marks]
  | n + 1, a => by
    rw [show marks a (n + 1 + 1) = a :: marks (a + 1) (n + 1) from rfl, marks_snoc n (a + 1)]
    simp only [marks, List.cons_append]
    congr 3
    omega

/-! a point, a plane, a sample, a table -/
def ptB (x : List Int) : Bool := inB 1 4 x.length && x.all (inB (-9) 9)
def plB (ws : List Int) (b : Int) : Bool := inB 1 4 ws.length && ws.all (inB (-99) 99) && inB (-99) 99 b
theorem all_range {l : List Int} {lo hi : Int} (h : l.all (inB lo hi) = true) (i : Nat) (hi' : i < l.length) : lo ≤ l[i] ∧ l[i] ≤ hi := by
  have := List.all_eq_true.1 h l[i] (List.getElem_mem hi')
  exact inB_iff.1 this

theorem set_mid (pre post : List Int) (x y : Int) (n : Nat) (h : n = pre.length) : (pre ++ x :: post).set n y = pre ++ y :: post := by
  subst h
  simp
theorem bne_self (b : Bool) : (b != b) = false := by cases b <;> rfl
def shB (l : List Int) : Bool := inB 1 8 l.length && l.all (inB 0 16)
def tbB (n : Int) (l : List Int) : Bool := inB 0 4 n && (decide ((l.length : Int) = 2 ^ n.toNat) && l.all (inB 0 1))
theorem shl_pow (n : Int) (h0 : 0 ≤ n) (h1 : n ≤ 4) : shl .i64 1 n = 2 ^ n.toNat := by
  rcases (show n = 0 ∨ n = 1 ∨ n = 2 ∨ n = 3 ∨ n = 4 by omega) with rfl | rfl | rfl | rfl | rfl <;> decide
theorem pow_le_16 (n : Int) (h0 : 0 ≤ n) (h1 : n ≤ 4) : 1 ≤ (2 : Int) ^ n.toNat ∧ (2 : Int) ^ n.toNat ≤ 16 := by
  rcases (show n = 0 ∨ n = 1 ∨ n = 2 ∨ n = 3 ∨ n = 4 by omega) with rfl | rfl | rfl | rfl | rfl <;> decide
/-- the digits of x from place i on, as many as j -/
def bitsFrom (x : Int) : Nat → Nat → List Int
  | _, 0 => []
  | i, j + 1 => Go.bits .and .i64 (shr .i64 x i) 1 :: bitsFrom x (i + 1) j
theorem bitsFrom_length (x : Int) : ∀ (j i : Nat), (bitsFrom x i j).length = j
  | 0, _ => rfl
  | j + 1, i => by simp [bitsFrom, bitsFrom_length x j]
/-- the sum of the squares of the differences -/
def sqd : List Int → List Int → Int
  | x :: xs, y :: ys => (x - y) * (x - y) + sqd xs ys
  | _, _ => 0
theorem sq_le (x y : Int) (hx : -9 ≤ x ∧ x ≤ 9) (hy : -9 ≤ y ∧ y ≤ 9) : 0 ≤ (x - y) * (x - y) ∧ (x - y) * (x - y) ≤ 324 := by
  obtain ⟨z, hz⟩ : ∃ z, z = x - y := ⟨_, rfl⟩
  rw [← hz]
  have h : -18 ≤ z ∧ z ≤ 18 := by omega
  refine ⟨by rcases Int.le_total 0 z with h0 | h0
             · exact Int.mul_nonneg h0 h0
             · exact Int.mul_nonneg_of_nonpos_of_nonpos h0 h0, ?_⟩
  have a : 0 ≤ (18 - z) * (18 + z) := Int.mul_nonneg (by omega) (by omega)
  have b : (18 - z) * (18 + z) = 324 - z * z := by
    rw [Int.sub_mul, Int.mul_add, Int.mul_add, Int.mul_comm z 18]
    omega
  omega
end Go.Proofs.Ytdepfcejgbnkdaa.Base
