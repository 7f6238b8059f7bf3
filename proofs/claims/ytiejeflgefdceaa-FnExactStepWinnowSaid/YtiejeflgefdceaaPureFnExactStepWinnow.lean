/- Proved: the law FnExactStepWinnow answers true for every two lists and every whole number; no condition. -/
import Derived.Test.YtiejeflgefdceaaPFnExactStepWinnowx4
import Derived.Test.YtiejeflgefdceaaBase
set_option linter.unusedVariables false
set_option linter.unusedSimpArgs false
namespace Go.Proofs.Ytiejeflgefdceaa.Pure
open Go.RowKit Go.Proofs.Ytiejeflgefdceaa.PFnExactStepWinnow Go.Proofs.YtiejeflgefdceaaW.PrintWords Go.Proofs.YtiejeflgefdceaaW.PrintLast Go.Proofs.YtiejeflgefdceaaW.PrintMore Go.Proofs.Ytiejeflgefdceaa.Base

theorem laws_toIntS_l : ∀ (k i : Nat) (l acc : List Int), l.length ≤ 4611686018427387904 → acc.length = l.length → i ≤ l.length → l.length < i + k → (∀ j, j < i → acc[j]? = l[j]?) → laws_toIntS.l0 k l acc (i : Int) = some l
  | 0, i, l, acc, _, _, _, hk, _ => by omega
  | k + 1, i, l, acc, hn, hl, hi, hk, hj => by
    simp only [laws_toIntS.l0]
    by_cases h : i < l.length
    · rw [if_pos (by omega), if_pos (by omega), if_pos (by omega), rd_nat l i h, w64_nat (by omega)]
      refine laws_toIntS_l k (i + 1) l _ hn (by simp [hl]) (by omega) (by omega) fun j hj' => ?_
      rw [List.getElem?_set]
      by_cases e : i = j
      · subst e
        simp [h, hl]
      · simp only [Int.toNat_natCast]
        rw [if_neg e]
        exact hj j (by omega)
    · rw [if_neg (by omega)]
      congr 1
      refine List.ext_getElem? fun j => ?_
      by_cases e : j < i
      · exact hj j e
      · rw [List.getElem?_eq_none (by omega), List.getElem?_eq_none (by omega)]
theorem laws_toIntS_is (k : Nat) (l : List Int) (hn : l.length ≤ 35184372088832) (hk : l.length < k) : laws_toIntS.f k l = some l := by
  unfold laws_toIntS.f
  rw [if_pos (by omega), if_pos (by omega)]
  exact laws_toIntS_l k 0 l _ (by omega) (by simp) (by omega) (by omega) fun j hj => by omega
theorem laws_eqIntS_l : ∀ (k i : Nat) (l r : List Int), l.length ≤ 4611686018427387904 → r.length = l.length → i ≤ l.length → l.length < i + k → laws_eqIntS.l0 k l r (i : Int) = some (decide (l.drop i = r.drop i))
  | 0, i, l, r, _, _, _, hk => by omega
  | k + 1, i, l, r, hn, hl, hi, hk => by
    simp only [laws_eqIntS.l0]
    by_cases h : i < l.length
    · rw [if_pos (by omega), if_pos (by omega), if_pos (by omega), rd_nat l i h, rd_nat r i (by omega), w64_nat (by omega), laws_eqIntS_l k (i + 1) l r hn hl (by omega) (by omega), List.drop_eq_getElem_cons h, List.drop_eq_getElem_cons (show i < r.length by omega)]
      by_cases e : l[i] = r[i]'(by omega)
      · rw [if_pos e, e]
        simp only [List.cons.injEq, true_and]
      · rw [if_neg e]
        simp only [List.cons.injEq, e, false_and, decide_false]
    · rw [if_neg (by omega), List.drop_of_length_le (by omega), List.drop_of_length_le (by omega)]
      simp
theorem laws_eqIntS_is (k : Nat) (l r : List Int) (hn : l.length ≤ 4611686018427387904) (hk : l.length < k) : laws_eqIntS.f k l r = some (decide (l = r)) := by
  unfold laws_eqIntS.f
  by_cases h : l.length = r.length
  · rw [if_pos (by omega)]
    have := laws_eqIntS_l k 0 l r hn (by omega) (by omega) (by omega)
    simpa using this
  · rw [if_neg (by omega)]
    have : l ≠ r := fun e => h (by rw [e])
    simp [this]
theorem laws_eqIntS_same (k : Nat) (l : List Int) (hn : l.length ≤ 4611686018427387904) (hk : l.length < k) : laws_eqIntS.f k l l = some true := by
  rw [laws_eqIntS_is k l l hn hk]
  simp
theorem laws_markIntS_l : ∀ (k : Nat) (post pre : List Int) (a : Int), -4611686018427387904 ≤ a → a + post.length ≤ 4611686018427387904 → pre.length + post.length ≤ 4611686018427387904 → post.length < k → laws_markIntS.l0 k (pre ++ post) a (pre.length : Int) = some (a + post.length, pre ++ marks a post.length)
  | 0, _, _, _, _, _, _, hk => by omega
  | k + 1, [], pre, a, _, _, _, _ => by
    simp only [laws_markIntS.l0]
    rw [if_neg (by simp)]
    simp [marks]
  | k + 1, x :: post, pre, a, h1, h2, h3, hk => by
    simp only [laws_markIntS.l0]
    simp only [List.length_cons] at h2 h3 hk
    rw [if_pos (by simp; omega), if_pos (by omega), w64_nat (by omega), w64 (by omega) (by omega)]
    rw [set_mid pre post x a _ (by simp)]
    have := laws_markIntS_l k post (pre ++ [a]) (a + 1) (by omega) (by omega) (by simp; omega) (by omega)
    simp only [List.append_assoc, List.singleton_append, List.length_append, List.length_cons, List.length_nil, Nat.zero_add] at this
    rw [this]
    simp only [List.length_cons, marks]
    congr 2
    omega
theorem laws_markIntS_is (k : Nat) (l : List Int) (a : Int) (h1 : -4611686018427387904 ≤ a) (h2 : a + l.length ≤ 4611686018427387904) (h3 : l.length ≤ 4611686018427387904) (hk : l.length < k) : laws_markIntS.f k l a = some (a + l.length, marks a l.length) := by
  unfold laws_markIntS.f
  exact laws_markIntS_l k l [] a h1 h2 (by simpa using h3) hk
theorem laws_heldIntS_l : ∀ (k n i : Nat) (a b : Int), -4611686018427387904 ≤ a → a + n ≤ 4611686018427387904 → n ≤ 4611686018427387904 → i ≤ n → n < i + k → b = a + i → laws_heldIntS.l0 k (marks a n) b (i : Int) = some (a + n)
  | 0, _, _, _, _, _, _, _, _, hk, _ => by omega
  | k + 1, n, i, a, b, h1, h2, h3, hi, hk, hb => by
    simp only [laws_heldIntS.l0, marks_length]
    by_cases h : i < n
    · rw [if_pos (by omega), if_pos (by omega), rd_nat _ i (by rw [marks_length]; exact h), marks_get, if_pos hb.symm, w64_nat (by omega), w64 (by omega) (by omega)]
      exact laws_heldIntS_l k n (i + 1) a _ h1 h2 h3 (by omega) (by omega) (by omega)
    · rw [if_neg (by omega)]
      congr 1
      omega
theorem laws_heldIntS_is (k n : Nat) (a : Int) (h1 : -4611686018427387904 ≤ a) (h2 : a + n ≤ 4611686018427387904) (h3 : n ≤ 4611686018427387904) (hk : n < k) : laws_heldIntS.f k (marks a n) a = some (a + n) := by
  unfold laws_heldIntS.f
  exact laws_heldIntS_l k n 0 a a h1 h2 h3 (by omega) (by omega) (by omega)
theorem spec_l1In_is (a lo hi : Int) : spec_l1In.f a lo hi = some (inB lo hi a) := by
  unfold spec_l1In.f
  exact within_is a lo hi
theorem spec_l3Shares_l : ∀ (k i : Nat) (l : List Int), l.length ≤ 4611686018427387904 → i ≤ l.length → l.length < i + k → spec_l3Shares.l0 k l (i : Int) = some ((l.drop i).all (inB 0 16) && inB 1 8 l.length)
  | 0, _, _, _, _, hk => by omega
  | k + 1, i, l, hn, hi', hk => by
    simp only [spec_l3Shares.l0]
    by_cases h : i < l.length
    · rw [if_pos (by omega), if_pos (by omega), spec_l1In_is, rd_nat l i h, w64_nat (by omega), List.drop_eq_getElem_cons h, List.all_cons, spec_l3Shares_l k (i + 1) l hn (by omega) (by omega)]
      simp only [Option.bind_some]
      by_cases e : inB 0 16 l[i] = true
      · rw [if_pos e, e]
        simp
      · rw [if_neg e]
        simp [e]
    · rw [if_neg (by omega), List.drop_of_length_le (by omega), spec_l1In_is]
      simp
theorem spec_l3Shares_is (k : Nat) (l : List Int) (hn : l.length ≤ 4611686018427387904) (hk : l.length < k) : spec_l3Shares.f k l = some (shB l) := by
  unfold spec_l3Shares.f shB
  have := spec_l3Shares_l k 0 l hn (by omega) (by omega)
  rw [show ((0 : Nat) : Int) = 0 from rfl] at this
  rw [this, Bool.and_comm]
  simp
theorem spec_l3Row_l : ∀ (k i : Nat) (n : Int) (l : List Int), l.length ≤ 4611686018427387904 → i ≤ l.length → l.length < i + k → spec_l3Row.l0 k n l (i : Int) = some ((l.drop i).all (inB 0 1) && decide ((l.length : Int) = n))
  | 0, _, _, _, _, _, hk => by omega
  | k + 1, i, n, l, hn, hi', hk => by
    simp only [spec_l3Row.l0]
    by_cases h : i < l.length
    · rw [if_pos (by omega), if_pos (by omega), spec_l1In_is, rd_nat l i h, w64_nat (by omega), List.drop_eq_getElem_cons h, List.all_cons, spec_l3Row_l k (i + 1) n l hn (by omega) (by omega)]
      simp only [Option.bind_some]
      by_cases e : inB 0 1 l[i] = true
      · rw [if_pos e, e]
        simp
      · rw [if_neg e]
        simp [e]
    · rw [if_neg (by omega), List.drop_of_length_le (by omega)]
      simp only [List.all_nil, Bool.true_and]
      congr 1
theorem spec_l3Row_is (k : Nat) (n : Int) (l : List Int) (hn : l.length ≤ 4611686018427387904) (hk : l.length < k) : spec_l3Row.f k n l = some (rowB n l) := by
  unfold spec_l3Row.f rowB
  have := spec_l3Row_l k 0 n l hn (by omega) (by omega)
  rw [show ((0 : Nat) : Int) = 0 from rfl] at this
  rw [this, Bool.and_comm]
  simp
theorem spec_l2Dot_l : ∀ (k i : Nat) (x y : List Int) (s : Int), x.length ≤ 4611686018427387904 → x.length ≤ y.length → i ≤ x.length → x.length < i + k → spec_l2Dot.l0 k x y s (i : Int) = some (wdot s (x.drop i) (y.drop i))
  | 0, _, _, _, _, _, _, _, hk => by omega
  | k + 1, i, x, y, s, hn, hl, hi, hk => by
    simp only [spec_l2Dot.l0]
    by_cases h : i < x.length
    · have hy' : i < y.length := by omega
      rw [if_pos (by omega), if_pos (by omega), if_pos (by omega), rd_nat x i h, rd_nat y i hy', w64_nat (by omega)]
      rw [spec_l2Dot_l k (i + 1) x y _ hn hl (by omega) (by omega), List.drop_eq_getElem_cons h, List.drop_eq_getElem_cons hy']
      simp only [wdot]
    · rw [if_neg (by omega), List.drop_of_length_le (by omega)]
      simp [wdot]
theorem spec_l2Dot_is (k : Nat) (x y : List Int) (hn : x.length ≤ 4611686018427387904) (hl : x.length ≤ y.length) (hk : x.length < k) : spec_l2Dot.f k x y = some (wdot 0 x y) := by
  unfold spec_l2Dot.f
  have := spec_l2Dot_l k 0 x y 0 hn hl (by omega) (by omega)
  simpa using this
theorem spec_l1Own_is (l : List Int) (h : l.length < 17592186044416) : spec_l1Own.f l = some l := by
  unfold spec_l1Own.f
  simp only [Option.bind_some]
  rw [if_pos (by simpa using h)]
  simp
theorem spec_l3Turn_l (a : Int) : ∀ (k : Nat) (post rpost pre rpre : List Int), pre.length + post.length ≤ 4611686018427387904 → rpre.length = pre.length → rpost.length = post.length → post.length < k → spec_l3Turn.l0 k (rpre ++ rpost) a (pre ++ post) (pre.length : Int) = some (pre ++ wturn (wrap64 (2 * a)) post rpost, false)
  | 0, _, _, _, _, _, _, _, hk => by omega
  | k + 1, [], [], pre, rpre, _, he, _, _ => by
    simp only [spec_l3Turn.l0]
    rw [if_neg (by simp [he])]
    simp [wturn]
  | k + 1, [], b :: r, pre, rpre, _, _, h, _ => by simp at h
  | k + 1, o :: post, [], pre, rpre, _, _, h, _ => by simp at h
  | k + 1, o :: post, b :: r, pre, rpre, hn, he, h, hk => by
    simp only [spec_l3Turn.l0]
    simp only [List.length_cons] at hn h hk
    rw [if_pos (by simp; omega), if_pos (by omega), rd_mid rpre r b pre.length he.symm, w64_nat (by omega)]
    have e : (((pre ++ [if b = 1 then wrap64 (o * wrap64 (2 * a)) else o]).length : Nat) : Int) = ((pre.length + 1 : Nat) : Int) := by simp
    have ih := spec_l3Turn_l a k post r (pre ++ [if b = 1 then wrap64 (o * wrap64 (2 * a)) else o]) (rpre ++ [b]) (by simp; omega) (by simp [he]) (by omega) (by omega)
    rw [e] at ih
    simp only [List.append_assoc, List.singleton_append] at ih
    simp only [wturn]
    by_cases c : b = 1
    · rw [if_pos c, if_pos (by simp; omega), rd_mid pre post o pre.length rfl, set_mid pre post o _ _ (by simp), Int.mul_comm]
      simp only [c, if_true] at ih ⊢
      exact ih
    · rw [if_neg c]
      simp only [c, if_false] at ih ⊢
      exact ih
def winTurn (sh row : List Int) (a : Int) : List Int × Bool := if (if wdot 0 sh row ≥ (sh.length : Int) then (1 : Int) else 0) = a then (sh, true) else (wturn (wrap64 (2 * a)) sh row, false)
theorem winTurn_length (sh row : List Int) (a : Int) : (winTurn sh row a).1.length = sh.length := by
  unfold winTurn
  by_cases c : (if wdot 0 sh row ≥ (sh.length : Int) then (1 : Int) else 0) = a
  · rw [if_pos c]
  · rw [if_neg c]
    exact wturn_length _ _ _
theorem spec_l3Turn_is (k : Nat) (sh row : List Int) (a : Int) (hn : sh.length ≤ 1048576) (hl : row.length = sh.length) (hk : sh.length + 1 < k) : spec_l3Turn.f k sh row a = some (winTurn sh row a) := by
  obtain ⟨k, rfl⟩ : ∃ m, k = m + 1 := ⟨k - 1, by omega⟩
  have e : ∀ s : Int, spec_l3Turn.j0 (k + 1) sh row a s = some (if s = a then (sh, true) else (wturn (wrap64 (2 * a)) sh row, false)) := by
    intro s
    simp only [spec_l3Turn.j0]
    rw [spec_l1Own_is sh (by omega)]
    simp only [Option.bind_some]
    have := spec_l3Turn_l a k sh row [] [] (by simp; omega) rfl hl (by omega)
    simp only [List.nil_append, List.length_nil] at this
    rw [show (0 : Int) = ((0 : Nat) : Int) from rfl, this]
    by_cases c : s = a
    · rw [if_pos c, if_pos c]
    · rw [if_neg c, if_neg c]
  unfold spec_l3Turn.f winTurn
  rw [spec_l2Dot_is _ sh row (by omega) (by omega) (by omega)]
  simp only [Option.bind_some, e]
  by_cases c : wdot 0 sh row ≥ (sh.length : Int)
  · rw [if_pos c, if_pos c]
  · rw [if_neg c, if_neg c]
def stepW (sh row : List Int) (a : Int) : List Int × Bool × Bool := if shB sh && rowB sh.length row && inB 0 1 a then ((winTurn sh row a).1, (winTurn sh row a).2, true) else ([], false, false)
theorem stepW_length (sh row : List Int) (a : Int) : (stepW sh row a).1.length ≤ sh.length := by
  unfold stepW
  split
  · simp only
    rw [winTurn_length]
    exact Nat.le_refl _
  · simp
theorem spec_StepWinnow_is (k : Nat) (sh row : List Int) (a : Int) (h1 : sh.length ≤ 1048576) (h2 : row.length ≤ 1048576) (hk : sh.length + row.length + 1 < k) : spec_StepWinnow.f k sh row a = some (stepW sh row a) := by
  unfold spec_StepWinnow.f stepW
  rw [spec_l3Shares_is k sh (by omega) (by omega), spec_l3Row_is k _ row (by omega) (by omega), spec_l1In_is]
  simp only [Option.bind_some]
  by_cases c1 : shB sh = true
  · by_cases c2 : rowB sh.length row = true
    · by_cases c3 : inB 0 1 a = true
      · have := rowB_length c2
        rw [if_pos c1, if_pos c2, if_pos c3, spec_l3Turn_is k sh row a (by omega) (by omega) (by omega)]
        simp [c1, c2, c3]
      · rw [if_pos c1, if_pos c2, if_neg c3]
        simp [c3]
    · rw [if_pos c1, if_neg c2]
      simp [c2]
  · rw [if_neg c1]
    simp [c1]
theorem impl_within_is (a lo hi : Int) : impl_within.f a lo hi = some (inB lo hi a) := by
  unfold impl_within.f
  exact within_is a lo hi
theorem impl_allWithin_l : ∀ (k i : Nat) (l : List Int) (lo hi : Int), l.length ≤ 4611686018427387904 → i ≤ l.length → l.length < i + k → impl_allWithin.l0 k lo hi l (l.length : Int) (i : Int) = some ((l.drop i).all (inB lo hi))
  | 0, _, _, _, _, _, _, hk => by omega
  | k + 1, i, l, lo, hi, hn, hi', hk => by
    simp only [impl_allWithin.l0]
    by_cases h : i < l.length
    · rw [if_pos (by omega), if_pos (by omega), if_pos (by omega), impl_within_is, rd_nat l i h, w64_nat (by omega), List.drop_eq_getElem_cons h, List.all_cons, impl_allWithin_l k (i + 1) l lo hi hn (by omega) (by omega)]
      simp only [Option.bind_some]
      by_cases e : inB lo hi l[i] = true
      · rw [if_pos e, e]
        simp
      · rw [if_neg e]
        simp [e]
    · rw [if_neg (by omega), List.drop_of_length_le (by omega)]
      simp
theorem impl_allWithin_is (k : Nat) (l : List Int) (lo hi : Int) (hn : l.length ≤ 4611686018427387904) (hk : l.length < k) : impl_allWithin.f k l lo hi = some (l.all (inB lo hi)) := by
  unfold impl_allWithin.f
  have := impl_allWithin_l k 0 l lo hi hn (by omega) (by omega)
  simpa using this
theorem impl_AreShares_is (k : Nat) (l : List Int) (hn : l.length ≤ 4611686018427387904) (hk : l.length < k) : impl_AreShares.f k l = some (shB l) := by
  unfold impl_AreShares.f shB
  rw [impl_within_is, impl_allWithin_is k l 0 16 hn hk]
  simp only [Option.bind_some]
  cases inB 1 8 (l.length : Int) <;> simp
theorem impl_isRow_is (k : Nat) (l : List Int) (n : Int) (hn : l.length ≤ 4611686018427387904) (hk : l.length < k) : impl_isRow.f k l n = some (rowB n l) := by
  unfold impl_isRow.f rowB
  rw [impl_allWithin_is k l 0 1 hn hk]
  simp only [Option.bind_some]
  by_cases h : (l.length : Int) = n
  · rw [if_pos h]
    simp [h]
  · rw [if_neg h]
    simp [h]
theorem impl_product_l : ∀ (k i : Nat) (x y : List Int) (s : Int), x.length ≤ 4611686018427387904 → x.length ≤ y.length → i ≤ x.length → x.length < i + k → impl_product.l0 k y s x (x.length : Int) (i : Int) = some (wdot s (x.drop i) (y.drop i))
  | 0, _, _, _, _, _, _, _, hk => by omega
  | k + 1, i, x, y, s, hn, hl, hi, hk => by
    simp only [impl_product.l0]
    by_cases h : i < x.length
    · have hy' : i < y.length := by omega
      rw [if_pos (by omega), if_pos (by omega), if_pos (by omega), if_pos (by omega), rd_nat x i h, rd_nat y i hy', w64_nat (by omega)]
      rw [impl_product_l k (i + 1) x y _ hn hl (by omega) (by omega), List.drop_eq_getElem_cons h, List.drop_eq_getElem_cons hy']
      simp only [wdot]
    · rw [if_neg (by omega), List.drop_of_length_le (by omega)]
      simp [wdot]
theorem impl_product_is (k : Nat) (x y : List Int) (hn : x.length ≤ 4611686018427387904) (hl : x.length ≤ y.length) (hk : x.length < k) : impl_product.f k x y = some (wdot 0 x y) := by
  unfold impl_product.f
  have := impl_product_l k 0 x y 0 hn hl (by omega) (by omega)
  simpa using this
theorem impl_copied_is (l : List Int) (h : l.length < 17592186044416) : impl_copied.f l = some l := by
  unfold impl_copied.f
  simp only [Option.bind_some]
  rw [if_pos (by simpa using h)]
  simp
theorem impl_turn_l (a : Int) : ∀ (k : Nat) (post rpost pre rpre : List Int), pre.length + post.length ≤ 4611686018427387904 → rpre.length = pre.length → rpost.length = post.length → post.length < k → impl_turn.l0 k a (pre ++ post) (rpre ++ rpost) ((rpre ++ rpost).length : Int) (pre.length : Int) = some (pre ++ wturn (wrap64 (2 * a)) post rpost, false)
  | 0, _, _, _, _, _, _, _, hk => by omega
  | k + 1, [], [], pre, rpre, _, he, _, _ => by
    simp only [impl_turn.l0]
    rw [if_neg (by simp [he])]
    simp [wturn]
  | k + 1, [], b :: r, pre, rpre, _, _, h, _ => by simp at h
  | k + 1, o :: post, [], pre, rpre, _, _, h, _ => by simp at h
  | k + 1, o :: post, b :: r, pre, rpre, hn, he, h, hk => by
    simp only [impl_turn.l0]
    simp only [List.length_cons] at hn h hk
    rw [if_pos (by simp; omega), if_pos (by omega), if_pos (by simp; omega), rd_mid rpre r b pre.length he.symm, w64_nat (by omega)]
    have e : (((pre ++ [if b = 1 then wrap64 (o * wrap64 (2 * a)) else o]).length : Nat) : Int) = ((pre.length + 1 : Nat) : Int) := by simp
    have ih := impl_turn_l a k post r (pre ++ [if b = 1 then wrap64 (o * wrap64 (2 * a)) else o]) (rpre ++ [b]) (by simp; omega) (by simp [he]) (by omega) (by omega)
    rw [e] at ih
    simp only [List.append_assoc, List.singleton_append] at ih
    simp only [wturn]
    by_cases c : b = 1
    · rw [if_pos c, if_pos (by simp; omega), rd_mid pre post o pre.length rfl, set_mid pre post o _ _ (by simp)]
      simp only [c, if_true] at ih ⊢
      exact ih
    · rw [if_neg c]
      simp only [c, if_false] at ih ⊢
      exact ih
theorem impl_turn_is (k : Nat) (sh row : List Int) (a : Int) (hn : sh.length ≤ 1048576) (hl : row.length = sh.length) (hk : sh.length + 1 < k) : impl_turn.f k sh row a = some (winTurn sh row a) := by
  obtain ⟨k, rfl⟩ : ∃ m, k = m + 1 := ⟨k - 1, by omega⟩
  have e : ∀ s : Int, impl_turn.j0 (k + 1) sh row a s = some (if s = a then (sh, true) else (wturn (wrap64 (2 * a)) sh row, false)) := by
    intro s
    simp only [impl_turn.j0]
    rw [impl_copied_is sh (by omega)]
    simp only [Option.bind_some]
    have := impl_turn_l a k sh row [] [] (by simp; omega) rfl hl (by omega)
    simp only [List.nil_append, List.length_nil] at this
    rw [show (0 : Int) = ((0 : Nat) : Int) from rfl, this]
    by_cases c : s = a
    · rw [if_pos c, if_pos c]
    · rw [if_neg c, if_neg c]
  unfold impl_turn.f winTurn
  rw [impl_product_is _ sh row (by omega) (by omega) (by omega)]
  simp only [Option.bind_some, e]
  by_cases c : wdot 0 sh row ≥ (sh.length : Int)
  · rw [if_pos c, if_pos c]
  · rw [if_neg c, if_neg c]
theorem impl_StepWinnow_is (k : Nat) (sh row : List Int) (a : Int) (h1 : sh.length ≤ 1048576) (h2 : row.length ≤ 1048576) (hk : sh.length + row.length + 1 < k) : impl_StepWinnow.f k sh row a = some (stepW sh row a) := by
  unfold impl_StepWinnow.f stepW
  rw [impl_AreShares_is k sh (by omega) (by omega), impl_isRow_is k row _ (by omega) (by omega), impl_within_is]
  simp only [Option.bind_some]
  by_cases c1 : shB sh = true
  · by_cases c2 : rowB sh.length row = true
    · by_cases c3 : inB 0 1 a = true
      · have := rowB_length c2
        rw [if_pos c1, if_pos c2, if_pos c3, impl_turn_is k sh row a (by omega) (by omega) (by omega)]
        simp [c1, c2, c3]
      · rw [if_pos c1, if_pos c2, if_neg c3]
        simp [c3]
    · rw [if_pos c1, if_neg c2]
      simp [c2]
  · rw [if_neg c1]
    simp [c1]
theorem FnExactStepWinnow : ∀ (l0 : List Int) (l1 : List Int) (a2 : Int), l0.length ≤ maxLen → (∀ x ∈ l0, (Lit.int .i64 x).wf = true) → l1.length ≤ maxLen → (∀ x ∈ l1, (Lit.int .i64 x).wf = true) → (Lit.int .i64 a2).wf = true → ∃ k, laws_FnExactStepWinnow.f k l0 l1 a2 = some true := by
  intro sh row a _ _ _ _ _
  have hl := stepW_length sh row a
  obtain ⟨K, hK⟩ : ∃ K, 3000000 ≤ K := ⟨_, Nat.le_refl _⟩
  refine ⟨K + 1 + 1 + 1, ?_⟩
  unfold laws_FnExactStepWinnow.f
  by_cases h : (sh.length : Int) > 1048576
  · rw [if_pos h]
  · by_cases h2 : (row.length : Int) > 1048576
    · rw [if_neg h, if_pos h2]
    · rw [if_neg h, if_neg h2]
      simp (disch := omega) only [laws_toIntS_is, laws_eqIntS_is, laws_eqIntS_same, laws_markIntS_is, laws_heldIntS_is, spec_l1In_is, spec_l3Shares_is, spec_l3Row_is, spec_l2Dot_is, spec_l1Own_is, spec_l3Turn_is, spec_StepWinnow_is, impl_within_is, impl_allWithin_is, impl_AreShares_is, impl_isRow_is, impl_product_is, impl_copied_is, impl_turn_is, impl_StepWinnow_is, Option.bind_some, bne_self, ltF, gtF, reduceIte, Bool.false_eq_true, if_true, decide_true, Bool.not_true] <;> simp only [laws_FnExactStepWinnow.j0] <;> simp (disch := omega) only [laws_toIntS_is, laws_eqIntS_is, laws_eqIntS_same, laws_markIntS_is, laws_heldIntS_is, spec_l1In_is, spec_l3Shares_is, spec_l3Row_is, spec_l2Dot_is, spec_l1Own_is, spec_l3Turn_is, spec_StepWinnow_is, impl_within_is, impl_allWithin_is, impl_AreShares_is, impl_isRow_is, impl_product_is, impl_copied_is, impl_turn_is, impl_StepWinnow_is, Option.bind_some, bne_self, ltF, gtF, reduceIte, Bool.false_eq_true, if_true, decide_true, Bool.not_true] <;> simp only [laws_FnExactStepWinnow.j1] <;> simp (disch := omega) only [laws_toIntS_is, laws_eqIntS_is, laws_eqIntS_same, laws_markIntS_is, laws_heldIntS_is, spec_l1In_is, spec_l3Shares_is, spec_l3Row_is, spec_l2Dot_is, spec_l1Own_is, spec_l3Turn_is, spec_StepWinnow_is, impl_within_is, impl_allWithin_is, impl_AreShares_is, impl_isRow_is, impl_product_is, impl_copied_is, impl_turn_is, impl_StepWinnow_is, Option.bind_some, bne_self, ltF, gtF, reduceIte, Bool.false_eq_true, if_true, decide_true, Bool.not_true] <;> simp only [laws_FnExactStepWinnow.j2] <;> simp (disch := omega) only [laws_toIntS_is, laws_eqIntS_is, laws_eqIntS_same, laws_markIntS_is, laws_heldIntS_is, spec_l1In_is, spec_l3Shares_is, spec_l3Row_is, spec_l2Dot_is, spec_l1Own_is, spec_l3Turn_is, spec_StepWinnow_is, impl_within_is, impl_allWithin_is, impl_AreShares_is, impl_isRow_is, impl_product_is, impl_copied_is, impl_turn_is, impl_StepWinnow_is, Option.bind_some, bne_self, ltF, gtF, reduceIte, Bool.false_eq_true, if_true, decide_true, Bool.not_true]

end Go.Proofs.Ytiejeflgefdceaa.Pure
