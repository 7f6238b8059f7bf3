/- Plain facts on numbers and lists of whole numbers, used by the pure statements of this seat; no condition. -/
import Derived.Test.YtdjclffkidoohaaWMore
set_option linter.unusedVariables false
set_option linter.unusedSimpArgs false
namespace Go.Proofs.Ytdjclffkidoohaa.Base
open Go.RowKit Go.Proofs.YtdjclffkidoohaaW.PrintWords Go.Proofs.YtdjclffkidoohaaW.PrintLast Go.Proofs.YtdjclffkidoohaaW.PrintMore

theorem w64 {x : Int} (h1 : -9223372036854775808 ≤ x) (h2 : x ≤ 9223372036854775807) : wrap64 x = x := by
  unfold wrap64
  omega
theorem w64_nat {n : Nat} (h : n ≤ 4611686018427387904) : wrap64 ((n : Int) + 1) = ((n + 1 : Nat) : Int) := by
  rw [w64 (by omega) (by omega)]
  omega
theorem rd_nat (l : List Int) (i : Nat) (h : i < l.length) : rd l (i : Int) = l[i] := by
  simp [rd, h]
theorem wf_range {x : Int} (h : (Lit.int .i64 x).wf = true) : -9223372036854775808 ≤ x ∧ x ≤ 9223372036854775807 := by
  have e1 : IntKind.i64.min = -9223372036854775808 := by decide
  have e2 : IntKind.i64.max = 9223372036854775807 := by decide
  simp only [Lit.wf, Bool.and_eq_true, decide_eq_true_eq] at h
  omega

/-- a number between two others -/
def inB (lo hi x : Int) : Bool := decide (lo ≤ x ∧ x ≤ hi)
theorem inB_iff {lo hi x : Int} : inB lo hi x = true ↔ lo ≤ x ∧ x ≤ hi := by simp [inB]
theorem within_is (a lo hi : Int) : (if a ≥ lo then (some (decide (a ≤ hi))) else (some false)) = some (inB lo hi a) := by
  unfold inB
  by_cases h : a ≥ lo
  · rw [if_pos h]
    congr 1
    by_cases h2 : a ≤ hi <;> simp [h2]
    omega
  · rw [if_neg h]
    congr 1
    simp
    omega

/-! marks: the numbers a, a + 1, .. -/
def marks : Int → Nat → List Int
  | _, 0 => []
  | a, n + 1 => a :: marks (a + 1) n
theorem marks_length : ∀ (n : Nat) (a : Int), (marks a n).length = n
  | 0, _ => rfl
  | n + 1, a => by simp [marks, marks_length n]
theorem marks_get : ∀ (n : Nat) (a : Int) (i : Nat) (h : i < (marks a n).length), (marks a n)[i] = a + i
  | 0, _, i, h => by simp [marks] at h
  | n + 1, a, 0, h => by simp [marks]
  | n + 1, a, i + 1, h => by
    simp only [marks, List.getElem_cons_succ]
    rw [marks_get n (a + 1) i]
    omega
theorem marks_snoc : ∀ (n : Nat) (a : Int), marks a (n + 1) = marks a n ++ [a + n]
  | 0, a => by simp [marks]
  | n + 1, a => by
    rw [show marks a (n + 1 + 1) = a :: marks (a + 1) (n + 1) from rfl, marks_snoc n (a + 1)]
    simp only [marks, List.cons_append]
    congr 3
    omega

/-! a point, a plane, a sample, a table -/
def ptB (x : List Int) : Bool := inB 1 4 x.length && x.all (inB (-9) 9)
def plB (ws : List Int) (b : Int) : Bool := inB 1 4 ws.length && ws.all (inB (-99) 99) && inB (-99) 99 b
theorem all_range {l : List Int} {lo hi : Int} (h : l.all (inB lo hi) = true) (i : Nat) (hi' : i < l.length) : lo ≤ l[i] ∧ l[i] ≤ hi := by
  have := List.all_eq_true.1 h l[i] (List.getElem_mem hi')
  exact inB_iff.1 this

theorem set_mid (pre post : List Int) (x y : Int) (n : Nat) (h : n = pre.length) : (pre ++ x :: post).set n y = pre ++ y :: post := by
  subst h
  simp
theorem bne_self (b : Bool) : (b != b) = false := by cases b <;> rfl
def shB (l : List Int) : Bool := inB 1 8 l.length && l.all (inB 0 16)
def tbB (n : Int) (l : List Int) : Bool := inB 0 4 n && (decide ((l.length : Int) = 2 ^ n.toNat) && l.all (inB 0 1))
theorem shl_pow (n : Int) (h0 : 0 ≤ n) (h1 : n ≤ 4) : shl .i64 1 n = 2 ^ n.toNat := by
  rcases (show n = 0 ∨ n = 1 ∨ n = 2 ∨ n = 3 ∨ n = 4 by omega) with rfl | rfl | rfl | rfl | rfl <;> decide
theorem pow_le_16 (n : Int) (h0 : 0 ≤ n) (h1 : n ≤ 4) : 1 ≤ (2 : Int) ^ n.toNat ∧ (2 : Int) ^ n.toNat ≤ 16 := by
  rcases (show n = 0 ∨ n = 1 ∨ n = 2 ∨ n = 3 ∨ n = 4 by omega) with rfl | rfl | rfl | rfl | rfl <;> decide
/-- the digits of x from place i on, as many as j -/
def bitsFrom (x : Int) : Nat → Nat → List Int
  | _, 0 => []
  | i, j + 1 => Go.bits .and .i64 (shr .i64 x i) 1 :: bitsFrom x (i + 1) j
theorem bitsFrom_length (x : Int) : ∀ (j i : Nat), (bitsFrom x i j).length = j
  | 0, _ => rfl
  | j + 1, i => by simp [bitsFrom, bitsFrom_length x j]
/-- the sum of the squares of the differences -/
def sqd : List Int → List Int → Int
  | x :: xs, y :: ys => (x - y) * (x - y) + sqd xs ys
  | _, _ => 0
theorem sq_le (x y : Int) (hx : -9 ≤ x ∧ x ≤ 9) (hy : -9 ≤ y ∧ y ≤ 9) : 0 ≤ (x - y) * (x - y) ∧ (x - y) * (x - y) ≤ 324 := by
  obtain ⟨z, hz⟩ : ∃ z, z = x - y := ⟨_, rfl⟩
  rw [← hz]
  have h : -18 ≤ z ∧ z ≤ 18 := by omega
  refine ⟨by rcases Int.le_total 0 z with h0 | h0
             · exact Int.mul_nonneg h0 h0
             · exact Int.mul_nonneg_of_nonpos_of_nonpos h0 h0, ?_⟩
  have a : 0 ≤ (18 - z) * (18 + z) := Int.mul_nonneg (by omega) (by omega)
  have b : (18 - z) * (18 + z) = 324 - z * z := by
    rw [Int.sub_mul, Int.mul_add, Int.mul_add, Int.mul_comm z 18]
    omega
  omega

theorem ltF {a b : Int} (h : b ≤ a) : (a < b) = False := eq_false (by omega)
theorem gtF {a b : Int} (h : a ≤ b) : (a > b) = False := eq_false (by omega)
theorem rd_mid (pre post : List Int) (x : Int) (n : Nat) (h : n = pre.length) : rd (pre ++ x :: post) (n : Int) = x := by
  subst h
  simp [rd]
/-- all of j numbers from i on -/
def allFrom (p : Nat → Bool) : Nat → Nat → Bool
  | _, 0 => true
  | i, j + 1 => p i && allFrom p (i + 1) j
/-- the product of two lists as the machine reckons it, from a sum on -/
def wdot : Int → List Int → List Int → Int
  | s, a :: as, b :: bs => wdot (wrap64 (s + wrap64 (a * b))) as bs
  | s, _, _ => s
/-- at the places where the row has 1 the number times c -/
def wturn (c : Int) : List Int → List Int → List Int
  | o :: os, b :: bs => (if b = 1 then wrap64 (o * c) else o) :: wturn c os bs
  | os, _ => os
theorem wturn_length (c : Int) : ∀ (os bs : List Int), (wturn c os bs).length = os.length
  | [], _ => by simp [wturn]
  | o :: os, [] => by simp [wturn]
  | o :: os, b :: bs => by simp [wturn, wturn_length c os bs]
def rowB (n : Int) (l : List Int) : Bool := decide ((l.length : Int) = n) && l.all (inB 0 1)
def lbB (x : Int) : Bool := decide (x = 1 ∨ x = -1)
def smB (ps : List (List Int)) (ls : List Int) : Bool := decide (ps.length ≤ 16) && decide (ls.length = ps.length) && ls.all lbB && ps.all (fun x => ptB x && decide (x.length = (ps.headD []).length))
def meetsB (ws : List Int) (b : Int) (x : List Int) : Bool := plB ws b && ptB x && decide (x.length = ws.length)
theorem ptB_parts {x : List Int} (h : ptB x = true) : x.all (inB (-9) 9) = true ∧ 1 ≤ x.length ∧ x.length ≤ 4 := by
  unfold ptB at h
  have h2 := Bool.and_eq_true_iff.1 h
  have := inB_iff.1 h2.1
  exact ⟨h2.2, by omega, by omega⟩
theorem plB_parts {ws : List Int} {b : Int} (h : plB ws b = true) : ws.all (inB (-99) 99) = true ∧ 1 ≤ ws.length ∧ ws.length ≤ 4 ∧ -99 ≤ b ∧ b ≤ 99 := by
  unfold plB at h
  have h2 := Bool.and_eq_true_iff.1 h
  have h3 := Bool.and_eq_true_iff.1 h2.1
  have q := inB_iff.1 h2.2
  have := inB_iff.1 h3.1
  exact ⟨h3.2, by omega, by omega, by omega, by omega⟩
theorem meetsB_parts {ws : List Int} {b : Int} {x : List Int} (h : meetsB ws b x = true) : plB ws b = true ∧ ptB x = true ∧ x.length = ws.length := by
  unfold meetsB at h
  have h2 := Bool.and_eq_true_iff.1 h
  have h3 := Bool.and_eq_true_iff.1 h2.1
  exact ⟨h3.1, h3.2, of_decide_eq_true h2.2⟩
theorem shB_parts {l : List Int} (h : shB l = true) : 1 ≤ l.length ∧ l.length ≤ 8 ∧ l.all (inB 0 16) = true := by
  unfold shB at h
  have h2 := Bool.and_eq_true_iff.1 h
  have := inB_iff.1 h2.1
  exact ⟨by omega, by omega, h2.2⟩
theorem rowB_length {n : Int} {l : List Int} (h : rowB n l = true) : (l.length : Int) = n := of_decide_eq_true (Bool.and_eq_true_iff.1 h).1
theorem tbB_parts {n : Int} {l : List Int} (h : tbB n l = true) : 0 ≤ n ∧ n ≤ 4 ∧ (l.length : Int) = 2 ^ n.toNat ∧ l.length ≤ 16 ∧ l.all (inB 0 1) = true := by
  unfold tbB at h
  have h2 := Bool.and_eq_true_iff.1 h
  have h3 := Bool.and_eq_true_iff.1 h2.2
  have a := inB_iff.1 h2.1
  have b := of_decide_eq_true h3.1
  have c := pow_le_16 n a.1 a.2
  exact ⟨a.1, a.2, b, by omega, h3.2⟩
theorem smB_parts {ps : List (List Int)} {ls : List Int} (h : smB ps ls = true) : ps.length ≤ 16 ∧ ls.length = ps.length ∧ ls.all lbB = true ∧ ∀ x ∈ ps, ptB x = true ∧ x.length = (ps.headD []).length := by
  unfold smB at h
  have h2 := Bool.and_eq_true_iff.1 h
  have h3 := Bool.and_eq_true_iff.1 h2.1
  have h4 := Bool.and_eq_true_iff.1 h3.1
  refine ⟨of_decide_eq_true h4.1, of_decide_eq_true h4.2, h3.2, fun x hx => ?_⟩
  have q := Bool.and_eq_true_iff.1 (List.all_eq_true.1 h2.2 x hx)
  exact ⟨q.1, of_decide_eq_true q.2⟩

theorem allFrom_iff (p : Nat → Bool) : ∀ (j i : Nat), allFrom p i j = true ↔ ∀ t, i ≤ t → t < i + j → p t = true
  | 0, i => by simp [allFrom]; omega
  | j + 1, i => by
    simp only [allFrom, Bool.and_eq_true, allFrom_iff p j (i + 1)]
    constructor
    · rintro ⟨h1, h2⟩ t ht1 ht2
      rcases Nat.eq_or_lt_of_le ht1 with rfl | h
      · exact h1
      · exact h2 t h (by omega)
    · intro h
      exact ⟨h i (Nat.le_refl _) (by omega), fun t h1 h2 => h t (by omega) (by omega)⟩
/-! sums of two bit points -/
def bitOf (a i : Nat) : Int := Go.bits .and .i64 (shr .i64 (a : Int) (i : Int)) 1
def sumOf (a b i : Nat) : Int := wrap64 (bitOf a i + bitOf b i)
theorem sums_and_or : ∀ a b : Fin 16, Go.bits .and .i64 (a.val : Int) (b.val : Int) = sumOf a b 0 / 2 + 2 * (sumOf a b 1 / 2) + 4 * (sumOf a b 2 / 2) + 8 * (sumOf a b 3 / 2) ∧ Go.bits .or .i64 (a.val : Int) (b.val : Int) = (sumOf a b 0 + 1) / 2 + 2 * ((sumOf a b 1 + 1) / 2) + 4 * ((sumOf a b 2 + 1) / 2) + 8 * ((sumOf a b 3 + 1) / 2) := by
  decide +kernel
theorem sums_back : ∀ (a b : Fin 16) (i : Fin 4), sumOf a b i = bitOf (Go.bits .and .i64 (a.val : Int) (b.val : Int)).toNat i + bitOf (Go.bits .or .i64 (a.val : Int) (b.val : Int)).toNat i := by
  decide +kernel
theorem bit_high : ∀ (a : Fin 16) (i : Fin 4), a.val < 2 ^ i.val → bitOf a i = 0 := by
  decide +kernel
theorem same_sums {n a b c d : Nat} (hn : n ≤ 4) (ha : a < 2 ^ n) (hb : b < 2 ^ n) (hc : c < 2 ^ n) (hd : d < 2 ^ n) :
    allFrom (fun i => decide (sumOf a b i = sumOf c d i)) 0 n = decide (Go.bits .and .i64 (a : Int) (b : Int) = Go.bits .and .i64 (c : Int) (d : Int) ∧ Go.bits .or .i64 (a : Int) (b : Int) = Go.bits .or .i64 (c : Int) (d : Int)) := by
  have h16 : 2 ^ n ≤ 16 := by
    have : 2 ^ n ≤ 2 ^ 4 := Nat.pow_le_pow_right (by omega) hn
    omega
  rw [Bool.eq_iff_iff, allFrom_iff, decide_eq_true_iff]
  have ab := sums_and_or ⟨a, by omega⟩ ⟨b, by omega⟩
  have cd := sums_and_or ⟨c, by omega⟩ ⟨d, by omega⟩
  simp only at ab cd
  constructor
  · intro h
    have all : ∀ i, i < 4 → sumOf a b i = sumOf c d i := by
      intro i hi
      by_cases e : i < n
      · exact of_decide_eq_true (h i (by omega) (by omega))
      · have le : 2 ^ n ≤ 2 ^ i := Nat.pow_le_pow_right (by omega) (by omega)
        have a0 := bit_high ⟨a, by omega⟩ ⟨i, hi⟩ (show a < 2 ^ i by omega)
        have b0 := bit_high ⟨b, by omega⟩ ⟨i, hi⟩ (show b < 2 ^ i by omega)
        have c0 := bit_high ⟨c, by omega⟩ ⟨i, hi⟩ (show c < 2 ^ i by omega)
        have d0 := bit_high ⟨d, by omega⟩ ⟨i, hi⟩ (show d < 2 ^ i by omega)
        simp only at a0 b0 c0 d0
        unfold sumOf
        rw [a0, b0, c0, d0]
    rw [ab.1, cd.1, ab.2, cd.2, all 0 (by omega), all 1 (by omega), all 2 (by omega), all 3 (by omega)]
    exact ⟨rfl, rfl⟩
  · rintro ⟨h1, h2⟩ t _ ht
    have s1 := sums_back ⟨a, by omega⟩ ⟨b, by omega⟩ ⟨t, by omega⟩
    have s2 := sums_back ⟨c, by omega⟩ ⟨d, by omega⟩ ⟨t, by omega⟩
    simp only at s1 s2
    rw [decide_eq_true_iff, s1, s2, h1, h2]

def suitsB (ps : List (List Int)) (ls ws : List Int) (b : Int) : Bool := smB ps ls && plB ws b && (decide (ps.length = 0) || decide ((ps.headD []).length = ws.length))
theorem suitsB_parts {ps : List (List Int)} {ls ws : List Int} {b : Int} (h : suitsB ps ls ws b = true) : smB ps ls = true ∧ plB ws b = true ∧ ∀ x ∈ ps, x.length = ws.length := by
  unfold suitsB at h
  have h2 := Bool.and_eq_true_iff.1 h
  have h3 := Bool.and_eq_true_iff.1 h2.1
  refine ⟨h3.1, h3.2, fun x hx => ?_⟩
  have q := (smB_parts h3.1).2.2.2 x hx
  rcases Bool.or_eq_true_iff.1 h2.2 with c | c
  · have c := of_decide_eq_true c
    rw [List.length_eq_zero_iff] at c
    subst c
    simp at hx
  · have c := of_decide_eq_true c
    omega
def mixB (ps : List (List Int)) (ls : List Int) : Bool := smB ps ls && (ls.any (fun x => decide (x = 1)) && ls.any (fun x => decide (x = -1)))
theorem mul_range {a b A B : Int} (ha : -A ≤ a ∧ a ≤ A) (hb : -B ≤ b ∧ b ≤ B) : -(A * B) ≤ a * b ∧ a * b ≤ A * B := by
  have h1 : 0 ≤ (A - a) * (B + b) := Int.mul_nonneg (by omega) (by omega)
  have h2 : 0 ≤ (A + a) * (B - b) := Int.mul_nonneg (by omega) (by omega)
  have h3 : 0 ≤ (A - a) * (B - b) := Int.mul_nonneg (by omega) (by omega)
  have h4 : 0 ≤ (A + a) * (B + b) := Int.mul_nonneg (by omega) (by omega)
  rw [Int.sub_mul, Int.mul_add, Int.mul_add] at h1
  rw [Int.add_mul, Int.mul_sub, Int.mul_sub] at h2
  rw [Int.sub_mul, Int.mul_sub, Int.mul_sub] at h3
  rw [Int.add_mul, Int.mul_add, Int.mul_add] at h4
  omega
/-- the true product of two lists -/
def dot : List Int → List Int → Int
  | a :: as, b :: bs => a * b + dot as bs
  | _, _ => 0
theorem wdot_eq {M : Int} (hM : M ≤ 1000000000000) : ∀ (x y : List Int) (s : Int), x.length ≤ 100 → (∀ i (h : i < x.length) (h' : i < y.length), -M ≤ x[i] * y[i] ∧ x[i] * y[i] ≤ M) → -(1000000000000 * (100 - x.length)) ≤ s → s ≤ 1000000000000 * (100 - x.length) → wdot s x y = s + dot x y
  | [], y, s, _, _, _, _ => by simp [wdot, dot]
  | a :: x, [], s, _, _, _, _ => by simp [wdot, dot]
  | a :: x, b :: y, s, hl, h, h1, h2 => by
    have q := h 0 (by simp) (by simp)
    simp only [List.getElem_cons_zero, List.length_cons] at q h1 h2 hl
    simp only [wdot, dot]
    rw [w64 (x := a * b) (by omega) (by omega), w64 (by omega) (by omega)]
    rw [wdot_eq hM x y (s + a * b) (by omega) (fun i h0 h0' => by
      have := h (i + 1) (by simp; omega) (by simp; omega)
      simpa using this) (by omega) (by omega)]
    omega
theorem dot_range {M : Int} (h0 : 0 ≤ M) : ∀ (x y : List Int) (n : Nat), x.length ≤ n → (∀ i (h : i < x.length) (h' : i < y.length), -M ≤ x[i] * y[i] ∧ x[i] * y[i] ≤ M) → -(n * M) ≤ dot x y ∧ dot x y ≤ n * M
  | [], y, n, _, _ => by
    simp only [dot]
    have : 0 ≤ (n : Int) * M := Int.mul_nonneg (by omega) h0
    omega
  | a :: x, [], n, _, _ => by
    simp only [dot]
    have : 0 ≤ (n : Int) * M := Int.mul_nonneg (by omega) h0
    omega
  | a :: x, b :: y, 0, hl, _ => by simp at hl
  | a :: x, b :: y, n + 1, hl, h => by
    have q := h 0 (by simp) (by simp)
    simp only [List.getElem_cons_zero, List.length_cons] at q hl
    have ih := dot_range h0 x y n (by omega) (fun i h0 h0' => by
      have := h (i + 1) (by simp; omega) (by simp; omega)
      simpa using this)
    simp only [dot]
    have e : ((n + 1 : Nat) : Int) * M = n * M + M := by
      rw [show ((n + 1 : Nat) : Int) = (n : Int) + 1 by omega, Int.add_mul, Int.one_mul]
    omega
theorem mixB_parts {ps : List (List Int)} {ls : List Int} (h : mixB ps ls = true) : smB ps ls = true ∧ (ls.any fun x => decide (x = 1)) = true ∧ (ls.any fun x => decide (x = -1)) = true ∧ 0 < ps.length := by
  unfold mixB at h
  have h2 := Bool.and_eq_true_iff.1 h
  have h3 := Bool.and_eq_true_iff.1 h2.2
  refine ⟨h2.1, h3.1, h3.2, ?_⟩
  have e := (smB_parts h2.1).2.1
  cases ls with
  | nil => simp at h3
  | cons a t => simp at e; omega
/-- the places of a number, counted from i on -/
def idxs (a : Int) : List Int → Nat → List Int
  | [], _ => []
  | x :: xs, i => if x = a then (i : Int) :: idxs a xs (i + 1) else idxs a xs (i + 1)
theorem idxs_length (a : Int) : ∀ (l : List Int) (i : Nat), (idxs a l i).length ≤ l.length
  | [], _ => by simp [idxs]
  | x :: xs, i => by
    have := idxs_length a xs (i + 1)
    simp only [idxs]
    split <;> simp <;> omega
theorem idxs_any (a : Int) : ∀ (l : List Int) (i : Nat), decide (((idxs a l i).length : Int) > 0) = l.any fun x => decide (x = a)
  | [], _ => by simp [idxs]
  | x :: xs, i => by
    have ih := idxs_any a xs (i + 1)
    by_cases h : x = a
    · have e : idxs a (x :: xs) i = (i : Int) :: idxs a xs (i + 1) := by simp [idxs, h]
      rw [e, List.any_cons, decide_eq_true h, Bool.true_or]
      exact decide_eq_true (by simp only [List.length_cons]; omega)
    · have e : idxs a (x :: xs) i = idxs a xs (i + 1) := by simp [idxs, h]
      rw [e, ih, List.any_cons, decide_eq_false h, Bool.false_or]
theorem idxs_mem (a : Int) : ∀ (l : List Int) (i : Nat) (x : Int), x ∈ idxs a l i → ∃ n : Nat, x = n ∧ i ≤ n ∧ n < i + l.length
  | [], _, _, h => by simp [idxs] at h
  | y :: ys, i, x, h => by
    simp only [idxs] at h
    by_cases c : y = a
    · rw [if_pos c] at h
      rcases List.mem_cons.1 h with rfl | h
      · exact ⟨i, rfl, Nat.le_refl _, by simp⟩
      · obtain ⟨n, e, h1, h2⟩ := idxs_mem a ys (i + 1) x h
        exact ⟨n, e, by omega, by simp; omega⟩
    · rw [if_neg c] at h
      obtain ⟨n, e, h1, h2⟩ := idxs_mem a ys (i + 1) x h
      exact ⟨n, e, by omega, by simp; omega⟩
/-! sums of points with numbers, as the machine reckons them -/
def wadd (n : Int) : List Int → List Int → List Int
  | a :: as, m :: ms => wrap64 (a + wrap64 (n * m)) :: wadd n as ms
  | _, _ => []
theorem wadd_length (n : Int) : ∀ (as ms : List Int), as.length = ms.length → (wadd n as ms).length = as.length
  | [], ms, _ => by simp [wadd]
  | a :: as, [], h => by simp at h
  | a :: as, m :: ms, h => by simp only [wadd, List.length_cons, wadd_length n as ms (by simpa using h)]
def signedL (l : Int) (p : List Int) : List Int := l :: p.map fun x => wrap64 (x * l)
/-- the sums of the points with the label a -/
def sumsS (a : Int) : List (List Int) → List Int → List Int → List Int → List Int
  | p :: ps, l :: ls, n :: ns, acc => sumsS a ps ls ns (if l = a then wadd n acc (1 :: p) else acc)
  | _, _, _, acc => acc
def sumsI : List (List Int) → List Int → List Int → List Int → List Int
  | p :: ps, l :: ls, n :: ns, acc => sumsI ps ls ns (wadd n acc (signedL l p))
  | _, _, _, acc => acc
/-- one list is the difference of two, all within a bound -/
def diffR (B : Int) : List Int → List Int → List Int → Prop
  | [], [], [] => True
  | a :: as, x :: xs, y :: ys => a = x - y ∧ (-B ≤ x ∧ x ≤ B) ∧ (-B ≤ y ∧ y ≤ B) ∧ diffR B as xs ys
  | _, _, _ => False
theorem diffR_mono {B C : Int} (h : B ≤ C) : ∀ {as xs ys : List Int}, diffR B as xs ys → diffR C as xs ys
  | [], [], [], _ => trivial
  | a :: as, x :: xs, y :: ys, q => ⟨q.1, ⟨by have := q.2.1; omega, by have := q.2.1; omega⟩, ⟨by have := q.2.2.1; omega, by have := q.2.2.1; omega⟩, diffR_mono h q.2.2.2⟩
theorem diffR_zero : ∀ (n : Nat) (B : Int), 0 ≤ B → diffR B (List.replicate n 0) (List.replicate n 0) (List.replicate n 0)
  | 0, B, _ => trivial
  | n + 1, B, h => ⟨by omega, by omega, by omega, diffR_zero n B h⟩
theorem diffR_plus {B n : Int} (hB : 0 ≤ B) (hB2 : B ≤ 1000000000000) (hn : 0 ≤ n ∧ n ≤ 1000000000) : ∀ {as xs ys : List Int} (v : List Int), diffR B as xs ys → v.length = as.length → v.all (inB (-9) 9) = true → diffR (B + 9000000000) (wadd n as v) (wadd n xs v) ys
  | [], [], [], v, _, _, _ => by simp [wadd, diffR]
  | a :: as, x :: xs, y :: ys, [], _, hl, _ => by simp at hl
  | a :: as, x :: xs, y :: ys, m :: v, q, hl, hv => by
    simp only [List.all_cons, Bool.and_eq_true] at hv
    have hm := inB_iff.1 hv.1
    have hp := mul_range (a := n) (b := m) (A := 1000000000) (B := 9) (by omega) (by omega)
    obtain ⟨q1, q2, q3, q4⟩ := q
    simp only [wadd, diffR]
    rw [w64 (x := n * m) (by omega) (by omega), w64 (x := a + n * m) (by omega) (by omega), w64 (x := x + n * m) (by omega) (by omega)]
    exact ⟨by omega, ⟨by omega, by omega⟩, ⟨by omega, by omega⟩, diffR_plus hB hB2 hn v q4 (by simpa using hl) hv.2⟩
theorem diffR_minus {B n : Int} (hB : 0 ≤ B) (hB2 : B ≤ 1000000000000) (hn : 0 ≤ n ∧ n ≤ 1000000000) : ∀ {as xs ys : List Int} (v : List Int), diffR B as xs ys → v.length = as.length → v.all (inB (-9) 9) = true → diffR (B + 9000000000) (wadd n as (v.map fun x => -x)) xs (wadd n ys v)
  | [], [], [], v, _, _, _ => by simp [wadd, diffR]
  | a :: as, x :: xs, y :: ys, [], _, hl, _ => by simp at hl
  | a :: as, x :: xs, y :: ys, m :: v, q, hl, hv => by
    simp only [List.all_cons, Bool.and_eq_true] at hv
    have hm := inB_iff.1 hv.1
    have hp := mul_range (a := n) (b := m) (A := 1000000000) (B := 9) (by omega) (by omega)
    obtain ⟨q1, q2, q3, q4⟩ := q
    have e : n * -m = -(n * m) := Int.mul_neg _ _
    simp only [wadd, diffR, List.map_cons]
    rw [e, w64 (x := n * m) (by omega) (by omega), w64 (x := -(n * m)) (by omega) (by omega), w64 (x := a + -(n * m)) (by omega) (by omega), w64 (x := y + n * m) (by omega) (by omega)]
    exact ⟨by omega, ⟨by omega, by omega⟩, ⟨by omega, by omega⟩, diffR_minus hB hB2 hn v q4 (by simpa using hl) hv.2⟩
theorem signedL_one {p : List Int} (h : p.all (inB (-9) 9) = true) : signedL 1 p = 1 :: p := by
  unfold signedL
  congr 1
  have : ∀ x ∈ p, wrap64 (x * 1) = x := fun x hx => by
    have := inB_iff.1 (List.all_eq_true.1 h x hx)
    rw [Int.mul_one, w64 (by omega) (by omega)]
  rw [List.map_congr_left this]
  simp
theorem signedL_neg {p : List Int} (h : p.all (inB (-9) 9) = true) : signedL (-1) p = (1 :: p).map fun x => -x := by
  unfold signedL
  rw [List.map_cons]
  congr 1
  refine List.map_congr_left fun x hx => ?_
  have := inB_iff.1 (List.all_eq_true.1 h x hx)
  rw [Int.mul_neg, Int.mul_one, w64 (by omega) (by omega)]
theorem sums_diff {d : Nat} : ∀ (ps : List (List Int)) (ls ns : List Int) (B : Int) (as xs ys : List Int), 0 ≤ B → B + 9000000000 * ps.length ≤ 500000000000 → ls.length = ps.length → ns.length = ps.length → (∀ p ∈ ps, ptB p = true ∧ p.length = d) → ls.all lbB = true → ns.all (inB 0 1000000000) = true → as.length = d + 1 → diffR B as xs ys → xs.length = d + 1 → ys.length = d + 1 → diffR 500000000000 (sumsI ps ls ns as) (sumsS 1 ps ls ns xs) (sumsS (-1) ps ls ns ys)
  | [], ls, ns, B, as, xs, ys, _, hb, _, _, _, _, _, _, q, _, _ => by
    simp only [List.length_nil] at hb
    simp only [sumsI, sumsS]
    exact diffR_mono (by omega) q
  | p :: ps, [], ns, B, as, xs, ys, _, _, hl, _, _, _, _, _, _, _, _ => by simp at hl
  | p :: ps, l :: ls, [], B, as, xs, ys, _, _, _, hl, _, _, _, _, _, _, _ => by simp at hl
  | p :: ps, l :: ls, n :: ns, B, as, xs, ys, h0, hb, hl, hn, hp, hls, hns, ha, q, hx, hy => by
    simp only [List.length_cons] at hb hl hn
    simp only [List.all_cons, Bool.and_eq_true] at hls hns
    obtain ⟨p1, p2⟩ := hp p (by simp)
    have p3 := ptB_parts p1
    have hn' := inB_iff.1 hns.1
    have hv : (1 :: p).all (inB (-9) 9) = true := by
      simp only [List.all_cons, Bool.and_eq_true]
      exact ⟨by decide, p3.1⟩
    have hvl : (1 :: p).length = as.length := by simp [ha, p2]
    simp only [sumsI, sumsS]
    have hp' : ∀ z ∈ ps, ptB z = true ∧ z.length = d := fun z hz => hp z (List.mem_cons_of_mem _ hz)
    rcases (of_decide_eq_true hls.1 : l = 1 ∨ l = -1) with rfl | rfl
    · rw [if_pos rfl, if_neg (by omega), signedL_one p3.1]
      exact sums_diff ps ls ns (B + 9000000000) _ _ _ (by omega) (by omega) (by omega) (by omega) hp' hls.2 hns.2 (by rw [wadd_length _ _ _ hvl.symm]; exact ha) (diffR_plus h0 (by omega) ⟨hn'.1, hn'.2⟩ _ q hvl hv) (by rw [wadd_length _ _ _ (by simp [hx, p2])]; exact hx) hy
    · rw [if_neg (by omega), if_pos rfl, signedL_neg p3.1]
      exact sums_diff ps ls ns (B + 9000000000) _ _ _ (by omega) (by omega) (by omega) (by omega) hp' hls.2 hns.2 (by rw [wadd_length _ _ _ (by simp [ha, p2])]; exact ha) (diffR_minus h0 (by omega) ⟨hn'.1, hn'.2⟩ _ q hvl hv) hx (by rw [wadd_length _ _ _ (by simp [hy, p2])]; exact hy)
theorem diffR_same {B : Int} : ∀ {as xs ys : List Int}, diffR B as xs ys → ((as.all fun x => decide (x = 0)) = decide (xs = ys))
  | [], [], [], _ => by simp
  | a :: as, x :: xs, y :: ys, q => by
    obtain ⟨q1, _, _, q4⟩ := q
    have ih := diffR_same q4
    rw [List.all_cons, ih]
    by_cases c : x = y
    · subst c
      have : a = 0 := by omega
      simp [this]
    · have : ¬ a = 0 := by omega
      simp [this, c]
theorem sumsS_length {d : Nat} (a : Int) : ∀ (ps : List (List Int)) (ls ns acc : List Int), (∀ p ∈ ps, p.length = d) → acc.length = d + 1 → (sumsS a ps ls ns acc).length = d + 1
  | [], ls, ns, acc, _, h => by simp [sumsS, h]
  | p :: ps, [], ns, acc, _, h => by simp [sumsS, h]
  | p :: ps, l :: ls, [], acc, _, h => by simp [sumsS, h]
  | p :: ps, l :: ls, n :: ns, acc, hp, h => by
    simp only [sumsS]
    refine sumsS_length a ps ls ns _ (fun z hz => hp z (List.mem_cons_of_mem _ hz)) ?_
    have := hp p (by simp)
    split
    · rw [wadd_length _ _ _ (by simp [h, this])]
      exact h
    · exact h
theorem sum_zero_iff : ∀ (l : List Int), l.all (inB 0 1000000000) = true → 0 ≤ l.sum ∧ (l.sum = 0 ↔ ∀ x ∈ l, x = 0)
  | [], _ => by simp
  | a :: l, h => by
    simp only [List.all_cons, Bool.and_eq_true] at h
    have q := inB_iff.1 h.1
    obtain ⟨i1, i2⟩ := sum_zero_iff l h.2
    rw [List.sum_cons]
    refine ⟨by omega, ⟨fun e x hx => ?_, fun e => ?_⟩⟩
    · rcases List.mem_cons.1 hx with rfl | hx
      · omega
      · exact i2.1 (by omega) x hx
    · have e1 := e a (by simp)
      have e2 := i2.2 fun x hx => e x (List.mem_cons_of_mem _ hx)
      omega
end Go.Proofs.Ytdjclffkidoohaa.Base
