/- Proved: the law FnExactSquareDistance answers true for every two lists of whole numbers; no condition. -/
import Derived.Test.YtdepfcejgbnkdaaPFnExactSquareDistancex2
import Derived.Test.YtdepfcejgbnkdaaBase
set_option linter.unusedVariables false
set_option linter.unusedSimpArgs false
namespace Go.Proofs.Ytdepfcejgbnkdaa.Pure
open Go.RowKit Go.Proofs.Ytdepfcejgbnkdaa.PFnExactSquareDistance Go.Proofs.YtdepfcejgbnkdaaW.PrintWords Go.Proofs.YtdepfcejgbnkdaaW.PrintLast Go.Proofs.Ytdepfcejgbnkdaa.Base

theorem laws_toIntS_l : ∀ (k i : Nat) (l acc : List Int), l.length ≤ 4611686018427387904 → acc.length = l.length → i ≤ l.length → l.length < i + k → (∀ j, j < i → acc[j]? = l[j]?) → laws_toIntS.l0 k l acc (i : Int) = some l
  | 0, i, l, acc, _, _, _, hk, _ => by omega
  | k + 1, i, l, acc, hn, hl, hi, hk, hj => by
    simp only [laws_toIntS.l0]
    by_cases h : i < l.length
    · rw [if_pos (by omega), if_pos (by omega), if_pos (by omega), rd_nat l i h, w64_nat (by omega)]
      refine laws_toIntS_l k (i + 1) l _ hn (by simp [hl]) (by omega) (by omega) fun j hj' => ?_
      rw [List.getElem?_set]
      by_cases e : i = j
      · subst e
        simp [h, hl]
      · simp only [Int.toNat_natCast]
        rw [if_neg e]
        exact hj j (by omega)
    · rw [if_neg (by omega)]
      congr 1
      refine List.ext_getElem? fun j => ?_
      by_cases e : j < i
      · exact hj j e
      · rw [List.getElem?_eq_none (by omega), List.getElem?_eq_none (by omega)]
theorem laws_toIntS_is (k : Nat) (l : List Int) (hn : l.length ≤ 35184372088832) (hk : l.length < k) : laws_toIntS.f k l = some l := by
  unfold laws_toIntS.f
  rw [if_pos (by omega), if_pos (by omega)]
  exact laws_toIntS_l k 0 l _ (by omega) (by simp) (by omega) (by omega) fun j hj => by omega
theorem laws_eqIntS_l : ∀ (k i : Nat) (l r : List Int), l.length ≤ 4611686018427387904 → r.length = l.length → i ≤ l.length → l.length < i + k → laws_eqIntS.l0 k l r (i : Int) = some (decide (l.drop i = r.drop i))
  | 0, i, l, r, _, _, _, hk => by omega
  | k + 1, i, l, r, hn, hl, hi, hk => by
    simp only [laws_eqIntS.l0]
    by_cases h : i < l.length
    · rw [if_pos (by omega), if_pos (by omega), if_pos (by omega), rd_nat l i h, rd_nat r i (by omega), w64_nat (by omega), laws_eqIntS_l k (i + 1) l r hn hl (by omega) (by omega), List.drop_eq_getElem_cons h, List.drop_eq_getElem_cons (show i < r.length by omega)]
      by_cases e : l[i] = r[i]'(by omega)
      · rw [if_pos e, e]
        simp only [List.cons.injEq, true_and]
      · rw [if_neg e]
        simp only [List.cons.injEq, e, false_and, decide_false]
    · rw [if_neg (by omega), List.drop_of_length_le (by omega), List.drop_of_length_le (by omega)]
      simp
theorem laws_eqIntS_is (k : Nat) (l r : List Int) (hn : l.length ≤ 4611686018427387904) (hk : l.length < k) : laws_eqIntS.f k l r = some (decide (l = r)) := by
  unfold laws_eqIntS.f
  by_cases h : l.length = r.length
  · rw [if_pos (by omega)]
    have := laws_eqIntS_l k 0 l r hn (by omega) (by omega) (by omega)
    simpa using this
  · rw [if_neg (by omega)]
    have : l ≠ r := fun e => h (by rw [e])
    simp [this]
theorem laws_eqIntS_same (k : Nat) (l : List Int) (hn : l.length ≤ 4611686018427387904) (hk : l.length < k) : laws_eqIntS.f k l l = some true := by
  rw [laws_eqIntS_is k l l hn hk]
  simp
theorem spec_l1In_is (a lo hi : Int) : spec_l1In.f a lo hi = some (inB lo hi a) := by
  unfold spec_l1In.f
  exact within_is a lo hi
theorem spec_l2Numbers_l : ∀ (k i : Nat) (l : List Int) (m : Int), -4611686018427387904 ≤ m → m ≤ 4611686018427387904 → l.length ≤ 4611686018427387904 → i ≤ l.length → l.length < i + k → spec_l2Numbers.l0 k l m (i : Int) = some ((l.drop i).all (inB (-m) m))
  | 0, _, _, _, _, _, _, _, hk => by omega
  | k + 1, i, l, m, h1, h2, hn, hi, hk => by
    simp only [spec_l2Numbers.l0]
    by_cases h : i < l.length
    · rw [if_pos (by omega), if_pos (by omega), spec_l1In_is, rd_nat l i h, w64_nat (by omega), w64 (by omega) (by omega), List.drop_eq_getElem_cons h, List.all_cons, spec_l2Numbers_l k (i + 1) l m h1 h2 hn (by omega) (by omega)]
      simp only [Option.bind_some]
      by_cases e : inB (-m) m l[i] = true
      · rw [if_pos e, e]
        simp
      · rw [if_neg e]
        simp [e]
    · rw [if_neg (by omega), List.drop_of_length_le (by omega)]
      simp
theorem spec_l2Numbers_is (k : Nat) (l : List Int) (m : Int) (h1 : -4611686018427387904 ≤ m) (h2 : m ≤ 4611686018427387904) (hn : l.length ≤ 4611686018427387904) (hk : l.length < k) : spec_l2Numbers.f k l m = some (l.all (inB (-m) m)) := by
  unfold spec_l2Numbers.f
  have := spec_l2Numbers_l k 0 l m h1 h2 hn (by omega) (by omega)
  simpa using this
theorem spec_l2Point_is (k : Nat) (l : List Int) (hn : l.length ≤ 4611686018427387904) (hk : l.length < k) : spec_l2Point.f k l = some (ptB l) := by
  unfold spec_l2Point.f ptB
  rw [spec_l1In_is, spec_l2Numbers_is k l 9 (by omega) (by omega) hn hk]
  simp only [Option.bind_some]
  cases inB 1 4 (l.length : Int) <;> simp
theorem spec_l2Square_l : ∀ (k i : Nat) (x y : List Int) (s : Int), x.all (inB (-9) 9) = true → y.all (inB (-9) 9) = true → x.length ≤ 4 → y.length = x.length → i ≤ x.length → x.length < i + k → 0 ≤ s → s ≤ 324 * i → spec_l2Square.l0 k x y s (i : Int) = some (s + sqd (x.drop i) (y.drop i))
  | 0, _, _, _, _, _, _, _, _, _, hk, _, _ => by omega
  | k + 1, i, x, y, s, hx, hy, hl, he, hi, hk, h0, h1 => by
    simp only [spec_l2Square.l0]
    by_cases h : i < x.length
    · have hy' : i < y.length := by omega
      have rx := all_range hx i h
      have ry := all_range hy i hy'
      have rs := sq_le x[i] y[i] (by omega) (by omega)
      rw [if_pos (by omega), if_pos (by omega), if_pos (by omega), rd_nat x i h, rd_nat y i hy', w64_nat (by omega), w64 (x := x[i] - y[i]) (by omega) (by omega), w64 (x := (x[i] - y[i]) * (x[i] - y[i])) (by omega) (by omega), w64 (by omega) (by omega)]
      rw [spec_l2Square_l k (i + 1) x y _ hx hy hl he (by omega) (by omega) (by omega) (by omega), List.drop_eq_getElem_cons h, List.drop_eq_getElem_cons hy']
      simp only [sqd]
      congr 1
      omega
    · rw [if_neg (by omega), List.drop_of_length_le (by omega)]
      simp [sqd]
theorem spec_l2Square_is (k : Nat) (x y : List Int) (hx : x.all (inB (-9) 9) = true) (hy : y.all (inB (-9) 9) = true) (hl : x.length ≤ 4) (he : y.length = x.length) (hk : 4 < k) : spec_l2Square.f k x y = some (sqd x y) := by
  unfold spec_l2Square.f
  have := spec_l2Square_l k 0 x y 0 hx hy hl he (by omega) (by omega) (by omega) (by omega)
  simpa using this
def sqDist (x y : List Int) : Int × Bool := if ptB x && ptB y && decide (x.length = y.length) then (sqd x y, true) else (0, false)
theorem ptB_parts {x : List Int} (h : ptB x = true) : x.all (inB (-9) 9) = true ∧ 1 ≤ x.length ∧ x.length ≤ 4 := by
  unfold ptB at h
  have h2 := Bool.and_eq_true_iff.1 h
  have := inB_iff.1 h2.1
  exact ⟨h2.2, by omega, by omega⟩
theorem spec_SquareDistance_is (k : Nat) (x y : List Int) (hx : x.length ≤ 4611686018427387904) (hy : y.length ≤ 4611686018427387904) (hk : x.length + y.length + 4 < k) : spec_SquareDistance.f k x y = some (sqDist x y) := by
  unfold spec_SquareDistance.f sqDist
  rw [spec_l2Point_is k x hx (by omega), spec_l2Point_is k y hy (by omega)]
  simp only [Option.bind_some]
  by_cases h1 : ptB x = true
  · by_cases h2 : ptB y = true
    · by_cases h3 : x.length = y.length
      · have p := ptB_parts h1
        have q := ptB_parts h2
        rw [if_pos h1, if_pos h2, if_pos (by omega), spec_l2Square_is k x y p.1 q.1 p.2.2 h3.symm (by omega)]
        simp [h1, h2, h3]
      · rw [if_pos h1, if_pos h2, if_neg (by omega)]
        simp [h3]
    · rw [if_pos h1, if_neg h2]
      simp [h2]
  · rw [if_neg h1]
    simp [h1]
theorem impl_within_is (a lo hi : Int) : impl_within.f a lo hi = some (inB lo hi a) := by
  unfold impl_within.f
  exact within_is a lo hi
theorem impl_allWithin_l : ∀ (k i : Nat) (l : List Int) (lo hi : Int), l.length ≤ 4611686018427387904 → i ≤ l.length → l.length < i + k → impl_allWithin.l0 k lo hi l (l.length : Int) (i : Int) = some ((l.drop i).all (inB lo hi))
  | 0, _, _, _, _, _, _, hk => by omega
  | k + 1, i, l, lo, hi, hn, hi', hk => by
    simp only [impl_allWithin.l0]
    by_cases h : i < l.length
    · rw [if_pos (by omega), if_pos (by omega), if_pos (by omega), impl_within_is, rd_nat l i h, w64_nat (by omega), List.drop_eq_getElem_cons h, List.all_cons, impl_allWithin_l k (i + 1) l lo hi hn (by omega) (by omega)]
      simp only [Option.bind_some]
      by_cases e : inB lo hi l[i] = true
      · rw [if_pos e, e]
        simp
      · rw [if_neg e]
        simp [e]
    · rw [if_neg (by omega), List.drop_of_length_le (by omega)]
      simp
theorem impl_allWithin_is (k : Nat) (l : List Int) (lo hi : Int) (hn : l.length ≤ 4611686018427387904) (hk : l.length < k) : impl_allWithin.f k l lo hi = some (l.all (inB lo hi)) := by
  unfold impl_allWithin.f
  have := impl_allWithin_l k 0 l lo hi hn (by omega) (by omega)
  simpa using this
theorem impl_IsPoint_is (k : Nat) (l : List Int) (hn : l.length ≤ 4611686018427387904) (hk : l.length < k) : impl_IsPoint.f k l = some (ptB l) := by
  unfold impl_IsPoint.f ptB
  rw [impl_within_is, impl_allWithin_is k l (-9) 9 hn hk]
  simp only [Option.bind_some]
  cases inB 1 4 (l.length : Int) <;> simp
theorem impl_squares_l : ∀ (k i : Nat) (x y : List Int) (s : Int), x.all (inB (-9) 9) = true → y.all (inB (-9) 9) = true → x.length ≤ 4 → y.length = x.length → i ≤ x.length → x.length < i + k → 0 ≤ s → s ≤ 324 * i → impl_squares.l0 k y s x (x.length : Int) (i : Int) = some (s + sqd (x.drop i) (y.drop i))
  | 0, _, _, _, _, _, _, _, _, _, hk, _, _ => by omega
  | k + 1, i, x, y, s, hx, hy, hl, he, hi, hk, h0, h1 => by
    simp only [impl_squares.l0]
    by_cases h : i < x.length
    · have hy' : i < y.length := by omega
      have rx := all_range hx i h
      have ry := all_range hy i hy'
      have rs := sq_le x[i] y[i] (by omega) (by omega)
      rw [if_pos (by omega), if_pos (by omega), if_pos (by omega), if_pos (by omega), rd_nat x i h, rd_nat y i hy', w64_nat (by omega), w64 (x := x[i] - y[i]) (by omega) (by omega), w64 (x := (x[i] - y[i]) * (x[i] - y[i])) (by omega) (by omega), w64 (by omega) (by omega)]
      rw [impl_squares_l k (i + 1) x y _ hx hy hl he (by omega) (by omega) (by omega) (by omega), List.drop_eq_getElem_cons h, List.drop_eq_getElem_cons hy']
      simp only [sqd]
      congr 1
      omega
    · rw [if_neg (by omega), List.drop_of_length_le (by omega)]
      simp [sqd]
theorem impl_squares_is (k : Nat) (x y : List Int) (hx : x.all (inB (-9) 9) = true) (hy : y.all (inB (-9) 9) = true) (hl : x.length ≤ 4) (he : y.length = x.length) (hk : 4 < k) : impl_squares.f k x y = some (sqd x y) := by
  unfold impl_squares.f
  have := impl_squares_l k 0 x y 0 hx hy hl he (by omega) (by omega) (by omega) (by omega)
  simpa using this
theorem impl_SquareDistance_is (k : Nat) (x y : List Int) (hx : x.length ≤ 4611686018427387904) (hy : y.length ≤ 4611686018427387904) (hk : x.length + y.length + 4 < k) : impl_SquareDistance.f k x y = some (sqDist x y) := by
  unfold impl_SquareDistance.f sqDist
  rw [impl_IsPoint_is k x hx (by omega), impl_IsPoint_is k y hy (by omega)]
  simp only [Option.bind_some]
  by_cases h1 : ptB x = true
  · by_cases h2 : ptB y = true
    · by_cases h3 : x.length = y.length
      · have p := ptB_parts h1
        have q := ptB_parts h2
        rw [if_pos h1, if_pos h2, if_pos (by omega), impl_squares_is k x y p.1 q.1 p.2.2 h3.symm (by omega)]
        simp [h1, h2, h3]
      · rw [if_pos h1, if_pos h2, if_neg (by omega)]
        simp [h3]
    · rw [if_pos h1, if_neg h2]
      simp [h2]
  · rw [if_neg h1]
    simp [h1]
theorem FnExactSquareDistance : laws_FnExactSquareDistance.Pure := by
  intro x y _ _ _ _ _ _
  refine ⟨2097200 + 1, ?_⟩
  unfold laws_FnExactSquareDistance.f
  by_cases h : (x.length : Int) > 1048576
  · rw [if_pos h]
  · by_cases h' : (y.length : Int) > 1048576
    · rw [if_neg h, if_pos h']
    · rw [if_neg h, if_neg h', laws_toIntS_is _ x (by omega) (by omega), laws_toIntS_is _ y (by omega) (by omega)]
      simp only [Option.bind_some]
      rw [spec_SquareDistance_is _ x y (by omega) (by omega) (by omega), impl_SquareDistance_is _ x y (by omega) (by omega) (by omega)]
      simp only [Option.bind_some, if_true, bne_self]
      simp only [laws_FnExactSquareDistance.j0]
      rw [laws_toIntS_is _ x (by omega) (by omega), laws_toIntS_is _ y (by omega) (by omega)]
      simp only [Option.bind_some]
      rw [laws_eqIntS_same _ x (by omega) (by omega), laws_eqIntS_same _ y (by omega) (by omega)]
      simp

end Go.Proofs.Ytdepfcejgbnkdaa.Pure
