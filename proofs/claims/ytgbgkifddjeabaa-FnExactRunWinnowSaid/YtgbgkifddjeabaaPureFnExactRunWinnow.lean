/- Proved: the law FnExactRunWinnow answers true for every number, rows and answers; no condition. -/
import Derived.Test.YtgbgkifddjeabaaQFnExactRunWinnowx7
import Derived.Test.YtgbgkifddjeabaaBase
set_option linter.unusedVariables false
set_option linter.unusedSimpArgs false
namespace Go.Proofs.Ytgbgkifddjeabaa.Pure
open Go.RowKit Go.Proofs.Ytgbgkifddjeabaa.QFnExactRunWinnow Go.Proofs.YtgbgkifddjeabaaW.PrintWords Go.Proofs.YtgbgkifddjeabaaW.PrintLast Go.Proofs.YtgbgkifddjeabaaW.PrintMore Go.Proofs.Ytgbgkifddjeabaa.Base

theorem laws_szIntS_is (l : List Int) (a : Int) (h0 : 0 ≤ a) (h1 : a ≤ 4611686018427387904) (hl : l.length ≤ 9223372036854775807) : laws_szIntS.f l a = some (if (l.length : Int) ≤ a then a - l.length else -1) := by
  unfold laws_szIntS.f
  rw [w64 (by omega) (by omega)]
  by_cases h : (l.length : Int) ≤ a
  · rw [if_neg (by omega), if_pos h]
  · rw [if_pos (by omega), if_neg h]
theorem laws_szIntSS_l : ∀ (k i : Nat) (x : List (List Int)) (a : Int), 0 ≤ a → a ≤ 1048576 → x.length ≤ 1048576 → (∀ r ∈ x, r.length ≤ 9223372036854775807) → i ≤ x.length → x.length < i + k → ∃ v, laws_szIntSS.l0 k x a (i : Int) = some v ∧ (v < 0 ∨ (0 ≤ v ∧ v ≤ a ∧ ∀ r ∈ x.drop i, r.length ≤ 1048576))
  | 0, _, _, _, _, _, _, _, _, hk => by omega
  | k + 1, i, x, a, h0, h1, hn, hr, hi, hk => by
    simp only [laws_szIntSS.l0]
    by_cases h : i < x.length
    · have e : rd_L1 x (i : Int) = x[i] := by simp [rd_L1, h]
      have hx := hr x[i] (List.getElem_mem h)
      rw [if_pos (by omega), if_pos (by omega), e, laws_szIntS_is x[i] a h0 (by omega) hx]
      simp only [Option.bind_some]
      by_cases c : (x[i].length : Int) ≤ a
      · rw [if_pos c, if_neg (by omega), w64_nat (by omega)]
        obtain ⟨v, hv, hc⟩ := laws_szIntSS_l k (i + 1) x (a - x[i].length) (by omega) (by omega) hn hr (by omega) (by omega)
        refine ⟨v, hv, ?_⟩
        rcases hc with hc | ⟨a1, a2, a3⟩
        · exact .inl hc
        · refine .inr ⟨a1, by omega, fun r hr' => ?_⟩
          rw [List.drop_eq_getElem_cons h] at hr'
          rcases List.mem_cons.1 hr' with rfl | hr'
          · omega
          · exact a3 r hr'
      · rw [if_neg c, if_pos (by omega)]
        exact ⟨-1, rfl, .inl (by omega)⟩
    · rw [if_neg (by omega)]
      refine ⟨a, rfl, .inr ⟨h0, Int.le_refl _, fun r hr' => ?_⟩⟩
      rw [List.drop_of_length_le (by omega)] at hr'
      simp at hr'
theorem laws_szIntSS_tells (k : Nat) (x : List (List Int)) (a : Int) (h0 : 0 ≤ a) (h1 : a ≤ 1048576) (hn : x.length ≤ 9223372036854775807) (hr : ∀ r ∈ x, r.length ≤ 9223372036854775807) (hk : 1048576 < k) : ∃ v, laws_szIntSS.f k x a = some v ∧ (v < 0 ∨ (0 ≤ v ∧ v ≤ a ∧ x.length ≤ 1048576 ∧ ∀ r ∈ x, r.length ≤ 1048576)) := by
  unfold laws_szIntSS.f
  rw [w64 (by omega) (by omega)]
  by_cases c : (x.length : Int) ≤ a
  · rw [if_neg (by omega)]
    obtain ⟨v, hv, hc⟩ := laws_szIntSS_l k 0 x (a - x.length) (by omega) (by omega) (by omega) hr (by omega) (by omega)
    refine ⟨v, hv, ?_⟩
    rcases hc with hc | ⟨a1, a2, a3⟩
    · exact .inl hc
    · exact .inr ⟨a1, by omega, by omega, by simpa using a3⟩
  · rw [if_pos (by omega)]
    exact ⟨-1, rfl, .inl (by omega)⟩
theorem laws_toIntS_l : ∀ (k i : Nat) (l acc : List Int), l.length ≤ 4611686018427387904 → acc.length = l.length → i ≤ l.length → l.length < i + k → (∀ j, j < i → acc[j]? = l[j]?) → laws_toIntS.l0 k l acc (i : Int) = some l
  | 0, i, l, acc, _, _, _, hk, _ => by omega
  | k + 1, i, l, acc, hn, hl, hi, hk, hj => by
    simp only [laws_toIntS.l0]
    by_cases h : i < l.length
    · rw [if_pos (by omega), if_pos (by omega), if_pos (by omega), rd_nat l i h, w64_nat (by omega)]
      refine laws_toIntS_l k (i + 1) l _ hn (by simp [hl]) (by omega) (by omega) fun j hj' => ?_
      rw [List.getElem?_set]
      by_cases e : i = j
      · subst e
        simp [h, hl]
      · simp only [Int.toNat_natCast]
        rw [if_neg e]
        exact hj j (by omega)
    · rw [if_neg (by omega)]
      congr 1
      refine List.ext_getElem? fun j => ?_
      by_cases e : j < i
      · exact hj j e
      · rw [List.getElem?_eq_none (by omega), List.getElem?_eq_none (by omega)]
theorem laws_toIntS_is (k : Nat) (l : List Int) (hn : l.length ≤ 35184372088832) (hk : l.length < k) : laws_toIntS.f k l = some l := by
  unfold laws_toIntS.f
  rw [if_pos (by omega), if_pos (by omega)]
  exact laws_toIntS_l k 0 l _ (by omega) (by simp) (by omega) (by omega) fun j hj => by omega
theorem laws_toIntSS_l : ∀ (k i : Nat) (l acc : List (List Int)), l.length ≤ 1048576 → (∀ r ∈ l, r.length ≤ 1048576) → acc.length = l.length → i ≤ l.length → l.length + 1048576 < i + k → (∀ j, j < i → acc[j]? = l[j]?) → laws_toIntSS.l0 k l acc (i : Int) = some l
  | 0, i, l, acc, _, _, _, _, hk, _ => by omega
  | k + 1, i, l, acc, hn, hr, hl, hi, hk, hj => by
    simp only [laws_toIntSS.l0]
    by_cases h : i < l.length
    · have e : rd_L1 l (i : Int) = l[i] := by simp [rd_L1, h]
      have hx := hr l[i] (List.getElem_mem h)
      rw [if_pos (by omega), if_pos (by omega), e, laws_toIntS_is k l[i] (by omega) (by omega)]
      simp only [Option.bind_some]
      rw [if_pos (by omega), w64_nat (by omega)]
      refine laws_toIntSS_l k (i + 1) l _ hn hr (by simp [hl]) (by omega) (by omega) fun j hj' => ?_
      rw [List.getElem?_set]
      by_cases e : i = j
      · subst e
        simp [h, hl]
      · simp only [Int.toNat_natCast]
        rw [if_neg e]
        exact hj j (by omega)
    · rw [if_neg (by omega)]
      congr 1
      refine List.ext_getElem? fun j => ?_
      by_cases e : j < i
      · exact hj j e
      · rw [List.getElem?_eq_none (by omega), List.getElem?_eq_none (by omega)]
theorem laws_toIntSS_is (k : Nat) (l : List (List Int)) (hn : l.length ≤ 1048576) (hr : ∀ r ∈ l, r.length ≤ 1048576) (hk : 2097152 < k) : laws_toIntSS.f k l = some l := by
  unfold laws_toIntSS.f
  rw [if_pos (by omega), if_pos (by omega)]
  exact laws_toIntSS_l k 0 l _ hn hr (by simp) (by omega) (by omega) fun j hj => by omega
theorem laws_eqIntS_l : ∀ (k i : Nat) (l r : List Int), l.length ≤ 4611686018427387904 → r.length = l.length → i ≤ l.length → l.length < i + k → laws_eqIntS.l0 k l r (i : Int) = some (decide (l.drop i = r.drop i))
  | 0, i, l, r, _, _, _, hk => by omega
  | k + 1, i, l, r, hn, hl, hi, hk => by
    simp only [laws_eqIntS.l0]
    by_cases h : i < l.length
    · rw [if_pos (by omega), if_pos (by omega), if_pos (by omega), rd_nat l i h, rd_nat r i (by omega), w64_nat (by omega), laws_eqIntS_l k (i + 1) l r hn hl (by omega) (by omega), List.drop_eq_getElem_cons h, List.drop_eq_getElem_cons (show i < r.length by omega)]
      by_cases e : l[i] = r[i]'(by omega)
      · rw [if_pos e, e]
        simp only [List.cons.injEq, true_and]
      · rw [if_neg e]
        simp only [List.cons.injEq, e, false_and, decide_false]
    · rw [if_neg (by omega), List.drop_of_length_le (by omega), List.drop_of_length_le (by omega)]
      simp
theorem laws_eqIntS_is (k : Nat) (l r : List Int) (hn : l.length ≤ 4611686018427387904) (hk : l.length < k) : laws_eqIntS.f k l r = some (decide (l = r)) := by
  unfold laws_eqIntS.f
  by_cases h : l.length = r.length
  · rw [if_pos (by omega)]
    have := laws_eqIntS_l k 0 l r hn (by omega) (by omega) (by omega)
    simpa using this
  · rw [if_neg (by omega)]
    have : l ≠ r := fun e => h (by rw [e])
    simp [this]
theorem laws_eqIntS_same (k : Nat) (l : List Int) (hn : l.length ≤ 4611686018427387904) (hk : l.length < k) : laws_eqIntS.f k l l = some true := by
  rw [laws_eqIntS_is k l l hn hk]
  simp
theorem laws_eqIntSS_l : ∀ (k i : Nat) (l : List (List Int)), l.length ≤ 1048576 → (∀ r ∈ l, r.length ≤ 1048576) → i ≤ l.length → l.length + 1048576 < i + k → laws_eqIntSS.l0 k l l (i : Int) = some true
  | 0, i, l, _, _, _, hk => by omega
  | k + 1, i, l, hn, hr, hi, hk => by
    simp only [laws_eqIntSS.l0]
    by_cases h : i < l.length
    · have e : rd_L1 l (i : Int) = l[i] := by simp [rd_L1, h]
      have hx := hr l[i] (List.getElem_mem h)
      rw [if_pos (by omega), if_pos (by omega), if_pos (by omega), e, laws_eqIntS_same k l[i] (by omega) (by omega)]
      simp only [Option.bind_some, if_true]
      rw [w64_nat (by omega)]
      exact laws_eqIntSS_l k (i + 1) l hn hr (by omega) (by omega)
    · rw [if_neg (by omega)]
theorem laws_eqIntSS_same (k : Nat) (l : List (List Int)) (hn : l.length ≤ 1048576) (hr : ∀ r ∈ l, r.length ≤ 1048576) (hk : 2097152 < k) : laws_eqIntSS.f k l l = some true := by
  unfold laws_eqIntSS.f
  rw [if_pos rfl]
  exact laws_eqIntSS_l k 0 l hn hr (by omega) (by omega)
theorem laws_markIntS_l : ∀ (k : Nat) (post pre : List Int) (a : Int), -4611686018427387904 ≤ a → a + post.length ≤ 4611686018427387904 → pre.length + post.length ≤ 4611686018427387904 → post.length < k → laws_markIntS.l0 k (pre ++ post) a (pre.length : Int) = some (a + post.length, pre ++ marks a post.length)
  | 0, _, _, _, _, _, _, hk => by omega
  | k + 1, [], pre, a, _, _, _, _ => by
    simp only [laws_markIntS.l0]
    rw [if_neg (by simp)]
    simp [marks]
  | k + 1, x :: post, pre, a, h1, h2, h3, hk => by
    simp only [laws_markIntS.l0]
    simp only [List.length_cons] at h2 h3 hk
    rw [if_pos (by simp; omega), if_pos (by omega), w64_nat (by omega), w64 (by omega) (by omega)]
    rw [set_mid pre post x a _ (by simp)]
    have := laws_markIntS_l k post (pre ++ [a]) (a + 1) (by omega) (by omega) (by simp; omega) (by omega)
    simp only [List.append_assoc, List.singleton_append, List.length_append, List.length_cons, List.length_nil, Nat.zero_add] at this
    rw [this]
    simp only [List.length_cons, marks]
    congr 2
    omega
theorem laws_markIntS_is (k : Nat) (l : List Int) (a : Int) (h1 : -4611686018427387904 ≤ a) (h2 : a + l.length ≤ 4611686018427387904) (h3 : l.length ≤ 4611686018427387904) (hk : l.length < k) : laws_markIntS.f k l a = some (a + l.length, marks a l.length) := by
  unfold laws_markIntS.f
  exact laws_markIntS_l k l [] a h1 h2 (by simpa using h3) hk
theorem laws_markIntSS_l : ∀ (m k i : Nat) (l : List (List Int)) (a : Int), i + m = l.length → l.length ≤ 1048576 → (∀ r ∈ l, r.length ≤ 1048576) → 0 ≤ a → a + m * 1048576 ≤ 4611686018427387904 → 1048576 + m < k → ∃ v l', laws_markIntSS.l0 k l a (i : Int) = some (v, l') ∧ a ≤ v ∧ v ≤ a + m * 1048576
  | 0, k, i, l, a, hi, hn, hr, ha, hb, hk => by
    obtain ⟨k, rfl⟩ : ∃ q, k = q + 1 := ⟨k - 1, by omega⟩
    rw [laws_markIntSS.l0, if_neg (by omega)]
    exact ⟨a, l, rfl, by omega, by omega⟩
  | m + 1, k, i, l, a, hi, hn, hr, ha, hb, hk => by
    obtain ⟨k, rfl⟩ : ∃ q, k = q + 1 := ⟨k - 1, by omega⟩
    have h : i < l.length := by omega
    have e : rd_L1 l (i : Int) = l[i] := by simp [rd_L1, h]
    have hx := hr l[i] (List.getElem_mem h)
    rw [laws_markIntSS.l0, if_pos (by omega), if_pos (by omega), e, laws_markIntS_is k l[i] a (by omega) (by omega) (by omega) (by omega)]
    simp only [Option.bind_some]
    rw [w64_nat (by omega)]
    obtain ⟨v, l', hv, h1, h2⟩ := laws_markIntSS_l m k (i + 1) (l.set (i : Int).toNat (marks a l[i].length)) (a + l[i].length) (by simp; omega) (by simpa using hn) (fun r hr' => by
      rcases List.mem_or_eq_of_mem_set hr' with h | rfl
      · exact hr r h
      · rw [marks_length]; omega) (by omega) (by omega) (by omega)
    exact ⟨v, l', hv, by omega, by omega⟩
theorem laws_markIntSS_tells (k : Nat) (l : List (List Int)) (hn : l.length ≤ 1048576) (hr : ∀ r ∈ l, r.length ≤ 1048576) (hk : 2097152 < k) : ∃ v l', laws_markIntSS.f k l 1 = some (v, l') ∧ 1 ≤ v ∧ v ≤ 1099511627777 := by
  unfold laws_markIntSS.f
  obtain ⟨v, l', hv, h1, h2⟩ := laws_markIntSS_l l.length k 0 l 1 (by omega) hn hr (by omega) (by omega) (by omega)
  exact ⟨v, l', hv, by omega, by omega⟩
theorem laws_heldIntS_l : ∀ (k n i : Nat) (a b : Int), -4611686018427387904 ≤ a → a + n ≤ 4611686018427387904 → n ≤ 4611686018427387904 → i ≤ n → n < i + k → b = a + i → laws_heldIntS.l0 k (marks a n) b (i : Int) = some (a + n)
  | 0, _, _, _, _, _, _, _, _, hk, _ => by omega
  | k + 1, n, i, a, b, h1, h2, h3, hi, hk, hb => by
    simp only [laws_heldIntS.l0, marks_length]
    by_cases h : i < n
    · rw [if_pos (by omega), if_pos (by omega), rd_nat _ i (by rw [marks_length]; exact h), marks_get, if_pos hb.symm, w64_nat (by omega), w64 (by omega) (by omega)]
      exact laws_heldIntS_l k n (i + 1) a _ h1 h2 h3 (by omega) (by omega) (by omega)
    · rw [if_neg (by omega)]
      congr 1
      omega
theorem laws_heldIntS_is (k n : Nat) (a : Int) (h1 : -4611686018427387904 ≤ a) (h2 : a + n ≤ 4611686018427387904) (h3 : n ≤ 4611686018427387904) (hk : n < k) : laws_heldIntS.f k (marks a n) a = some (a + n) := by
  unfold laws_heldIntS.f
  exact laws_heldIntS_l k n 0 a a h1 h2 h3 (by omega) (by omega) (by omega)
theorem spec_l1In_is (a lo hi : Int) : spec_l1In.f a lo hi = some (inB lo hi a) := by
  unfold spec_l1In.f
  exact within_is a lo hi
theorem spec_l3Row_l : ∀ (k i : Nat) (n : Int) (l : List Int), l.length ≤ 4611686018427387904 → i ≤ l.length → l.length < i + k → spec_l3Row.l0 k n l (i : Int) = some ((l.drop i).all (inB 0 1) && decide ((l.length : Int) = n))
  | 0, _, _, _, _, _, hk => by omega
  | k + 1, i, n, l, hn, hi', hk => by
    simp only [spec_l3Row.l0]
    by_cases h : i < l.length
    · rw [if_pos (by omega), if_pos (by omega), spec_l1In_is, rd_nat l i h, w64_nat (by omega), List.drop_eq_getElem_cons h, List.all_cons, spec_l3Row_l k (i + 1) n l hn (by omega) (by omega)]
      simp only [Option.bind_some]
      by_cases e : inB 0 1 l[i] = true
      · rw [if_pos e, e]
        simp
      · rw [if_neg e]
        simp [e]
    · rw [if_neg (by omega), List.drop_of_length_le (by omega)]
      simp only [List.all_nil, Bool.true_and]
      congr 1
theorem spec_l3Row_is (k : Nat) (n : Int) (l : List Int) (hn : l.length ≤ 4611686018427387904) (hk : l.length < k) : spec_l3Row.f k n l = some (rowB n l) := by
  unfold spec_l3Row.f rowB
  have := spec_l3Row_l k 0 n l hn (by omega) (by omega)
  rw [show ((0 : Nat) : Int) = 0 from rfl] at this
  rw [this, Bool.and_comm]
  simp
/-- rows of one length, and few -/
def rowsB (n : Int) (rows : List (List Int)) : Bool := rows.all (rowB n) && (inB 1 8 n && decide (rows.length ≤ 40))
theorem rowsB_parts {n : Int} {rows : List (List Int)} (h : rowsB n rows = true) : 1 ≤ n ∧ n ≤ 8 ∧ rows.length ≤ 40 ∧ ∀ r ∈ rows, rowB n r = true := by
  unfold rowsB at h
  have h2 := Bool.and_eq_true_iff.1 h
  have h3 := Bool.and_eq_true_iff.1 h2.2
  have := inB_iff.1 h3.1
  exact ⟨this.1, this.2, of_decide_eq_true h3.2, fun r hr => List.all_eq_true.1 h2.1 r hr⟩
theorem spec_l3Rows_l : ∀ (k i : Nat) (n : Int) (rows : List (List Int)), rows.length ≤ 1048576 → (∀ r ∈ rows, r.length ≤ 1048576) → i ≤ rows.length → rows.length + 1048577 < i + k → spec_l3Rows.l0 k n rows (i : Int) = some ((rows.drop i).all (rowB n) && (inB 1 8 n && decide (rows.length ≤ 40)))
  | 0, i, n, rows, _, _, hi, hk => by omega
  | k + 1, i, n, rows, hn, hr, hi, hk => by
    simp only [spec_l3Rows.l0]
    by_cases h : i < rows.length
    · have e : rd_L1 rows (i : Int) = rows[i] := by simp [rd_L1, h]
      have hx := hr rows[i] (List.getElem_mem h)
      rw [if_pos (by omega), if_pos (by omega), e, spec_l3Row_is k n rows[i] (by omega) (by omega), w64_nat (by omega), List.drop_eq_getElem_cons h, List.all_cons, spec_l3Rows_l k (i + 1) n rows hn hr (by omega) (by omega)]
      simp only [Option.bind_some]
      by_cases c : rowB n rows[i] = true
      · rw [if_pos c, c, Bool.true_and]
      · rw [if_neg c]
        simp [c]
    · rw [if_neg (by omega), List.drop_of_length_le (by omega), spec_l1In_is]
      simp only [Option.bind_some, List.all_nil, Bool.true_and]
      by_cases c : inB 1 8 n = true
      · rw [if_pos c, c, Bool.true_and]
        congr 2
        simp only [eq_iff_iff]
        omega
      · rw [if_neg c]
        simp [c]
theorem spec_l3Rows_is (k : Nat) (n : Int) (rows : List (List Int)) (hn : rows.length ≤ 1048576) (hr : ∀ r ∈ rows, r.length ≤ 1048576) (hk : 2097153 < k) : spec_l3Rows.f k n rows = some (rowsB n rows) := by
  unfold spec_l3Rows.f rowsB
  have := spec_l3Rows_l k 0 n rows hn hr (by omega) (by omega)
  simpa using this
theorem spec_l1Own_is (l : List Int) (h : l.length < 17592186044416) : spec_l1Own.f l = some l := by
  unfold spec_l1Own.f
  simp only [Option.bind_some]
  rw [if_pos (by simpa using h)]
  simp
theorem spec_l2Dot_l : ∀ (k i : Nat) (x y : List Int) (s : Int), x.length ≤ 4611686018427387904 → x.length ≤ y.length → i ≤ x.length → x.length < i + k → spec_l2Dot.l0 k x y s (i : Int) = some (wdot s (x.drop i) (y.drop i))
  | 0, _, _, _, _, _, _, _, hk => by omega
  | k + 1, i, x, y, s, hn, hl, hi, hk => by
    simp only [spec_l2Dot.l0]
    by_cases h : i < x.length
    · have hy' : i < y.length := by omega
      rw [if_pos (by omega), if_pos (by omega), if_pos (by omega), rd_nat x i h, rd_nat y i hy', w64_nat (by omega)]
      rw [spec_l2Dot_l k (i + 1) x y _ hn hl (by omega) (by omega), List.drop_eq_getElem_cons h, List.drop_eq_getElem_cons hy']
      simp only [wdot]
    · rw [if_neg (by omega), List.drop_of_length_le (by omega)]
      simp [wdot]
theorem spec_l2Dot_is (k : Nat) (x y : List Int) (hn : x.length ≤ 4611686018427387904) (hl : x.length ≤ y.length) (hk : x.length < k) : spec_l2Dot.f k x y = some (wdot 0 x y) := by
  unfold spec_l2Dot.f
  have := spec_l2Dot_l k 0 x y 0 hn hl (by omega) (by omega)
  simpa using this
theorem spec_l3Turn_l (a : Int) : ∀ (k : Nat) (post rpost pre rpre : List Int), pre.length + post.length ≤ 4611686018427387904 → rpre.length = pre.length → rpost.length = post.length → post.length < k → spec_l3Turn.l0 k (rpre ++ rpost) a (pre ++ post) (pre.length : Int) = some (pre ++ wturn (wrap64 (2 * a)) post rpost, false)
  | 0, _, _, _, _, _, _, _, hk => by omega
  | k + 1, [], [], pre, rpre, _, he, _, _ => by
    simp only [spec_l3Turn.l0]
    rw [if_neg (by simp [he])]
    simp [wturn]
  | k + 1, [], b :: r, pre, rpre, _, _, h, _ => by simp at h
  | k + 1, o :: post, [], pre, rpre, _, _, h, _ => by simp at h
  | k + 1, o :: post, b :: r, pre, rpre, hn, he, h, hk => by
    simp only [spec_l3Turn.l0]
    simp only [List.length_cons] at hn h hk
    rw [if_pos (by simp; omega), if_pos (by omega), rd_mid rpre r b pre.length he.symm, w64_nat (by omega)]
    have e : (((pre ++ [if b = 1 then wrap64 (o * wrap64 (2 * a)) else o]).length : Nat) : Int) = ((pre.length + 1 : Nat) : Int) := by simp
    have ih := spec_l3Turn_l a k post r (pre ++ [if b = 1 then wrap64 (o * wrap64 (2 * a)) else o]) (rpre ++ [b]) (by simp; omega) (by simp [he]) (by omega) (by omega)
    rw [e] at ih
    simp only [List.append_assoc, List.singleton_append] at ih
    simp only [wturn]
    by_cases c : b = 1
    · rw [if_pos c, if_pos (by simp; omega), rd_mid pre post o pre.length rfl, set_mid pre post o _ _ (by simp), Int.mul_comm]
      simp only [c, if_true] at ih ⊢
      exact ih
    · rw [if_neg c]
      simp only [c, if_false] at ih ⊢
      exact ih
def winTurn (sh row : List Int) (a : Int) : List Int × Bool := if (if wdot 0 sh row ≥ (sh.length : Int) then (1 : Int) else 0) = a then (sh, true) else (wturn (wrap64 (2 * a)) sh row, false)
theorem winTurn_length (sh row : List Int) (a : Int) : (winTurn sh row a).1.length = sh.length := by
  unfold winTurn
  by_cases c : (if wdot 0 sh row ≥ (sh.length : Int) then (1 : Int) else 0) = a
  · rw [if_pos c]
  · rw [if_neg c]
    exact wturn_length _ _ _
theorem spec_l3Turn_is (k : Nat) (sh row : List Int) (a : Int) (hn : sh.length ≤ 1048576) (hl : row.length = sh.length) (hk : sh.length + 1 < k) : spec_l3Turn.f k sh row a = some (winTurn sh row a) := by
  obtain ⟨k, rfl⟩ : ∃ m, k = m + 1 := ⟨k - 1, by omega⟩
  have e : ∀ s : Int, spec_l3Turn.j0 (k + 1) sh row a s = some (if s = a then (sh, true) else (wturn (wrap64 (2 * a)) sh row, false)) := by
    intro s
    simp only [spec_l3Turn.j0]
    rw [spec_l1Own_is sh (by omega)]
    simp only [Option.bind_some]
    have := spec_l3Turn_l a k sh row [] [] (by simp; omega) rfl hl (by omega)
    simp only [List.nil_append, List.length_nil] at this
    rw [show (0 : Int) = ((0 : Nat) : Int) from rfl, this]
    by_cases c : s = a
    · rw [if_pos c, if_pos c]
    · rw [if_neg c, if_neg c]
  unfold spec_l3Turn.f winTurn
  rw [spec_l2Dot_is _ sh row (by omega) (by omega) (by omega)]
  simp only [Option.bind_some, e]
  by_cases c : wdot 0 sh row ≥ (sh.length : Int)
  · rw [if_pos c, if_pos c]
  · rw [if_neg c, if_neg c]
/-- one game: the shares and the number of the wrong turns -/
def runL : List Int → Int → List (List Int) → List Int → List Int × Int × Bool
  | sh, c, r :: rs, a :: az => runL (winTurn sh r a).1 (if (winTurn sh r a).2 = true then c else wrap64 (c + 1)) rs az
  | sh, c, _, _ => (sh, c, true)
theorem runL_length : ∀ (rs : List (List Int)) (az sh : List Int) (c : Int), (runL sh c rs az).1.length = sh.length
  | [], _, sh, c => by simp [runL]
  | r :: rs, [], sh, c => by simp [runL]
  | r :: rs, a :: az, sh, c => by
    rw [runL, runL_length rs az, winTurn_length]
def runW (n : Int) (rows : List (List Int)) (ans : List Int) : List Int × Int × Bool := if rowsB n rows && rowB rows.length ans then runL (List.replicate n.toNat 1) 0 rows ans else ([], 0, false)
theorem runW_length (n : Int) (rows : List (List Int)) (ans : List Int) : (runW n rows ans).1.length ≤ 8 := by
  unfold runW
  by_cases c : (rowsB n rows && rowB rows.length ans) = true
  · rw [if_pos c, runL_length, List.length_replicate]
    have := rowsB_parts (Bool.and_eq_true_iff.1 c).1
    omega
  · rw [if_neg c]
    simp
theorem spec_RunWinnow_l1 (N : Nat) (hN : N ≤ 8) (rows : List (List Int)) (ans : List Int) (hrow : rows.length ≤ 40) (hans : ans.length = rows.length) (hr : ∀ r ∈ rows, r.length = N) : ∀ (m k i : Nat) (sh : List Int) (c : Int), i + m = rows.length → sh.length = N → 30 + m * 3 < k → spec_RunWinnow.l1 k rows ans sh c (i : Int) = some (runL sh c (rows.drop i) (ans.drop i))
  | 0, k, i, sh, c, hi, hs, hk => by
    obtain ⟨k, rfl⟩ : ∃ q, k = q + 1 := ⟨k - 1, by omega⟩
    rw [spec_RunWinnow.l1, if_neg (by omega), List.drop_of_length_le (show rows.length ≤ i by omega)]
    simp only [runL]
  | m + 1, k, i, sh, c, hi, hs, hk => by
    obtain ⟨k, rfl⟩ : ∃ q, k = q + 1 := ⟨k - 1, by omega⟩
    have h : i < rows.length := by omega
    have h2 : i < ans.length := by omega
    have e : rd_L1 rows (i : Int) = rows[i] := by simp [rd_L1, h]
    have el := hr rows[i] (List.getElem_mem h)
    have e1 : rows.drop i = rows[i] :: rows.drop (i + 1) := List.drop_eq_getElem_cons h
    have e2 : ans.drop i = ans[i] :: ans.drop (i + 1) := List.drop_eq_getElem_cons h2
    have ih := fun c' => spec_RunWinnow_l1 N hN rows ans hrow hans hr m k (i + 1) (winTurn sh rows[i] ans[i]).1 c' (by omega) (by rw [winTurn_length]; exact hs) (by omega)
    rw [e1, e2, show runL sh c (rows[i] :: rows.drop (i + 1)) (ans[i] :: ans.drop (i + 1)) = runL (winTurn sh rows[i] ans[i]).1 (if (winTurn sh rows[i] ans[i]).2 = true then c else wrap64 (c + 1)) (rows.drop (i + 1)) (ans.drop (i + 1)) from rfl, ← ih]
    rw [spec_RunWinnow.l1, if_pos (by omega), if_pos (by omega), if_pos (by omega), e, rd_nat ans i h2, spec_l3Turn_is k sh rows[i] ans[i] (by omega) (by omega) (by omega), Option.bind_some, w64_nat (by omega)]
    by_cases d : (winTurn sh rows[i] ans[i]).2 = true
    · rw [if_pos d, if_pos d]
    · rw [if_neg d, if_neg d]
theorem spec_RunWinnow_l0 (n : Int) (rows : List (List Int)) (ans : List Int) (h1 : 1 ≤ n) (h8 : n ≤ 8) : ∀ (m k i : Nat) (c : Int), (i : Int) + m = n → spec_RunWinnow.l0 (k + m + 1) n rows ans (List.replicate i 1) c (i : Int) = spec_RunWinnow.l1 k rows ans (List.replicate n.toNat 1) c 0
  | 0, k, i, c, hi => by
    rw [Nat.add_zero, spec_RunWinnow.l0, if_neg (by omega), show n.toNat = i by omega]
  | m + 1, k, i, c, hi => by
    rw [show k + (m + 1) + 1 = (k + m + 1) + 1 by omega, spec_RunWinnow.l0, if_pos (by omega), if_pos (by simp; omega), w64_nat (by omega), ← List.replicate_succ', spec_RunWinnow_l0 n rows ans h1 h8 m k (i + 1) c (by omega)]
theorem spec_RunWinnow_is (k : Nat) (n : Int) (rows : List (List Int)) (ans : List Int) (hn : rows.length ≤ 1048576) (hr : ∀ r ∈ rows, r.length ≤ 1048576) (hm : ans.length ≤ 1048576) (hk : 2097200 < k) : spec_RunWinnow.f k n rows ans = some (runW n rows ans) := by
  obtain ⟨k, rfl⟩ : ∃ q, k = q + 1 := ⟨k - 1, by omega⟩
  have e0 : spec_RunWinnow.j0 (k + 1) n rows ans true = some ([], 0, false) := by simp [spec_RunWinnow.j0]
  unfold spec_RunWinnow.f runW
  rw [spec_l3Rows_is (k + 1) n rows hn hr (by omega), spec_l3Row_is (k + 1) _ ans (by omega) (by omega)]
  simp only [Option.bind_some]
  by_cases c1 : rowsB n rows = true
  · rw [if_pos c1, c1, Bool.true_and]
    by_cases c2 : rowB rows.length ans = true
    · rw [c2, if_pos rfl]
      obtain ⟨b1, b8, b40, br⟩ := rowsB_parts c1
      have ea := rowB_length c2
      have l0 := spec_RunWinnow_l0 n rows ans b1 b8 n.toNat (k - n.toNat - 1) 0 0 (by omega)
      rw [show k - n.toNat - 1 + n.toNat + 1 = k by omega] at l0
      have l1 := spec_RunWinnow_l1 n.toNat (by omega) rows ans b40 (by omega) (fun r q => by have := rowB_length (br r q); omega) rows.length (k - n.toNat - 1) 0 (List.replicate n.toNat 1) 0 (by omega) (by simp) (by omega)
      rw [List.drop_zero, List.drop_zero] at l1
      rw [spec_RunWinnow.j0, if_neg (by simp)]
      exact l0.trans l1
    · rw [Bool.eq_false_iff.2 c2, Bool.not_false, e0, if_neg (by simp)]
  · rw [if_neg c1, e0, if_neg (by simp [c1])]
theorem impl_within_is (a lo hi : Int) : impl_within.f a lo hi = some (inB lo hi a) := by
  unfold impl_within.f
  exact within_is a lo hi
theorem impl_allWithin_l : ∀ (k i : Nat) (l : List Int) (lo hi : Int), l.length ≤ 4611686018427387904 → i ≤ l.length → l.length < i + k → impl_allWithin.l0 k lo hi l (l.length : Int) (i : Int) = some ((l.drop i).all (inB lo hi))
  | 0, _, _, _, _, _, _, hk => by omega
  | k + 1, i, l, lo, hi, hn, hi', hk => by
    simp only [impl_allWithin.l0]
    by_cases h : i < l.length
    · rw [if_pos (by omega), if_pos (by omega), if_pos (by omega), impl_within_is, rd_nat l i h, w64_nat (by omega), List.drop_eq_getElem_cons h, List.all_cons, impl_allWithin_l k (i + 1) l lo hi hn (by omega) (by omega)]
      simp only [Option.bind_some]
      by_cases e : inB lo hi l[i] = true
      · rw [if_pos e, e]
        simp
      · rw [if_neg e]
        simp [e]
    · rw [if_neg (by omega), List.drop_of_length_le (by omega)]
      simp
theorem impl_allWithin_is (k : Nat) (l : List Int) (lo hi : Int) (hn : l.length ≤ 4611686018427387904) (hk : l.length < k) : impl_allWithin.f k l lo hi = some (l.all (inB lo hi)) := by
  unfold impl_allWithin.f
  have := impl_allWithin_l k 0 l lo hi hn (by omega) (by omega)
  simpa using this
theorem impl_isRow_is (k : Nat) (l : List Int) (n : Int) (hn : l.length ≤ 4611686018427387904) (hk : l.length < k) : impl_isRow.f k l n = some (rowB n l) := by
  unfold impl_isRow.f rowB
  rw [impl_allWithin_is k l 0 1 hn hk]
  simp only [Option.bind_some]
  by_cases h : (l.length : Int) = n
  · rw [if_pos h]
    simp [h]
  · rw [if_neg h]
    simp [h]
theorem impl_areRows_l : ∀ (k i : Nat) (n : Int) (rows : List (List Int)), rows.length ≤ 1048576 → (∀ r ∈ rows, r.length ≤ 1048576) → i ≤ rows.length → rows.length + 1048577 < i + k → impl_areRows.l0 k rows n rows (rows.length : Int) (i : Int) = some ((rows.drop i).all (rowB n) && (inB 1 8 n && decide (rows.length ≤ 40)))
  | 0, i, n, rows, _, _, hi, hk => by omega
  | k + 1, i, n, rows, hn, hr, hi, hk => by
    simp only [impl_areRows.l0]
    by_cases h : i < rows.length
    · have e : rd_L1 rows (i : Int) = rows[i] := by simp [rd_L1, h]
      have hx := hr rows[i] (List.getElem_mem h)
      rw [if_pos (by omega), if_pos (by omega), if_pos (by omega), e, impl_isRow_is k rows[i] n (by omega) (by omega), w64_nat (by omega), List.drop_eq_getElem_cons h, List.all_cons, impl_areRows_l k (i + 1) n rows hn hr (by omega) (by omega)]
      simp only [Option.bind_some]
      by_cases c : rowB n rows[i] = true
      · rw [if_pos c, c, Bool.true_and]
      · rw [if_neg c]
        simp [c]
    · rw [if_neg (by omega), List.drop_of_length_le (by omega), impl_within_is]
      simp only [Option.bind_some, List.all_nil, Bool.true_and]
      by_cases c : inB 1 8 n = true
      · rw [if_pos c, c, Bool.true_and]
        congr 2
        simp only [eq_iff_iff]
        omega
      · rw [if_neg c]
        simp [c]
theorem impl_areRows_is (k : Nat) (n : Int) (rows : List (List Int)) (hn : rows.length ≤ 1048576) (hr : ∀ r ∈ rows, r.length ≤ 1048576) (hk : 2097153 < k) : impl_areRows.f k rows n = some (rowsB n rows) := by
  unfold impl_areRows.f rowsB
  have := impl_areRows_l k 0 n rows hn hr (by omega) (by omega)
  simpa using this
theorem impl_product_l : ∀ (k i : Nat) (x y : List Int) (s : Int), x.length ≤ 4611686018427387904 → x.length ≤ y.length → i ≤ x.length → x.length < i + k → impl_product.l0 k y s x (x.length : Int) (i : Int) = some (wdot s (x.drop i) (y.drop i))
  | 0, _, _, _, _, _, _, _, hk => by omega
  | k + 1, i, x, y, s, hn, hl, hi, hk => by
    simp only [impl_product.l0]
    by_cases h : i < x.length
    · have hy' : i < y.length := by omega
      rw [if_pos (by omega), if_pos (by omega), if_pos (by omega), if_pos (by omega), rd_nat x i h, rd_nat y i hy', w64_nat (by omega)]
      rw [impl_product_l k (i + 1) x y _ hn hl (by omega) (by omega), List.drop_eq_getElem_cons h, List.drop_eq_getElem_cons hy']
      simp only [wdot]
    · rw [if_neg (by omega), List.drop_of_length_le (by omega)]
      simp [wdot]
theorem impl_product_is (k : Nat) (x y : List Int) (hn : x.length ≤ 4611686018427387904) (hl : x.length ≤ y.length) (hk : x.length < k) : impl_product.f k x y = some (wdot 0 x y) := by
  unfold impl_product.f
  have := impl_product_l k 0 x y 0 hn hl (by omega) (by omega)
  simpa using this
theorem impl_copied_is (l : List Int) (h : l.length < 17592186044416) : impl_copied.f l = some l := by
  unfold impl_copied.f
  simp only [Option.bind_some]
  rw [if_pos (by simpa using h)]
  simp
theorem impl_turn_l (a : Int) : ∀ (k : Nat) (post rpost pre rpre : List Int), pre.length + post.length ≤ 4611686018427387904 → rpre.length = pre.length → rpost.length = post.length → post.length < k → impl_turn.l0 k a (pre ++ post) (rpre ++ rpost) ((rpre ++ rpost).length : Int) (pre.length : Int) = some (pre ++ wturn (wrap64 (2 * a)) post rpost, false)
  | 0, _, _, _, _, _, _, _, hk => by omega
  | k + 1, [], [], pre, rpre, _, he, _, _ => by
    simp only [impl_turn.l0]
    rw [if_neg (by simp [he])]
    simp [wturn]
  | k + 1, [], b :: r, pre, rpre, _, _, h, _ => by simp at h
  | k + 1, o :: post, [], pre, rpre, _, _, h, _ => by simp at h
  | k + 1, o :: post, b :: r, pre, rpre, hn, he, h, hk => by
    simp only [impl_turn.l0]
    simp only [List.length_cons] at hn h hk
    rw [if_pos (by simp; omega), if_pos (by omega), if_pos (by simp; omega), rd_mid rpre r b pre.length he.symm, w64_nat (by omega)]
    have e : (((pre ++ [if b = 1 then wrap64 (o * wrap64 (2 * a)) else o]).length : Nat) : Int) = ((pre.length + 1 : Nat) : Int) := by simp
    have ih := impl_turn_l a k post r (pre ++ [if b = 1 then wrap64 (o * wrap64 (2 * a)) else o]) (rpre ++ [b]) (by simp; omega) (by simp [he]) (by omega) (by omega)
    rw [e] at ih
    simp only [List.append_assoc, List.singleton_append] at ih
    simp only [wturn]
    by_cases c : b = 1
    · rw [if_pos c, if_pos (by simp; omega), rd_mid pre post o pre.length rfl, set_mid pre post o _ _ (by simp)]
      simp only [c, if_true] at ih ⊢
      exact ih
    · rw [if_neg c]
      simp only [c, if_false] at ih ⊢
      exact ih
theorem impl_turn_is (k : Nat) (sh row : List Int) (a : Int) (hn : sh.length ≤ 1048576) (hl : row.length = sh.length) (hk : sh.length + 1 < k) : impl_turn.f k sh row a = some (winTurn sh row a) := by
  obtain ⟨k, rfl⟩ : ∃ m, k = m + 1 := ⟨k - 1, by omega⟩
  have e : ∀ s : Int, impl_turn.j0 (k + 1) sh row a s = some (if s = a then (sh, true) else (wturn (wrap64 (2 * a)) sh row, false)) := by
    intro s
    simp only [impl_turn.j0]
    rw [impl_copied_is sh (by omega)]
    simp only [Option.bind_some]
    have := impl_turn_l a k sh row [] [] (by simp; omega) rfl hl (by omega)
    simp only [List.nil_append, List.length_nil] at this
    rw [show (0 : Int) = ((0 : Nat) : Int) from rfl, this]
    by_cases c : s = a
    · rw [if_pos c, if_pos c]
    · rw [if_neg c, if_neg c]
  unfold impl_turn.f winTurn
  rw [impl_product_is _ sh row (by omega) (by omega) (by omega)]
  simp only [Option.bind_some, e]
  by_cases c : wdot 0 sh row ≥ (sh.length : Int)
  · rw [if_pos c, if_pos c]
  · rw [if_neg c, if_neg c]
theorem impl_RunWinnow_l1 (N : Nat) (hN : N ≤ 8) (rows : List (List Int)) (ans : List Int) (hrow : rows.length ≤ 40) (hans : ans.length = rows.length) (hr : ∀ r ∈ rows, r.length = N) : ∀ (m k i : Nat) (sh : List Int) (c : Int), i + m = rows.length → sh.length = N → 30 + m * 3 < k → impl_RunWinnow.l1 k ans sh c rows (rows.length : Int) (i : Int) = some (runL sh c (rows.drop i) (ans.drop i))
  | 0, k, i, sh, c, hi, hs, hk => by
    obtain ⟨k, rfl⟩ : ∃ q, k = q + 1 := ⟨k - 1, by omega⟩
    rw [impl_RunWinnow.l1, if_neg (by omega), List.drop_of_length_le (show rows.length ≤ i by omega)]
    simp only [runL]
  | m + 1, k, i, sh, c, hi, hs, hk => by
    obtain ⟨k, rfl⟩ : ∃ q, k = q + 1 := ⟨k - 1, by omega⟩
    have h : i < rows.length := by omega
    have h2 : i < ans.length := by omega
    have e : rd_L1 rows (i : Int) = rows[i] := by simp [rd_L1, h]
    have el := hr rows[i] (List.getElem_mem h)
    have e1 : rows.drop i = rows[i] :: rows.drop (i + 1) := List.drop_eq_getElem_cons h
    have e2 : ans.drop i = ans[i] :: ans.drop (i + 1) := List.drop_eq_getElem_cons h2
    have ih := fun c' => impl_RunWinnow_l1 N hN rows ans hrow hans hr m k (i + 1) (winTurn sh rows[i] ans[i]).1 c' (by omega) (by rw [winTurn_length]; exact hs) (by omega)
    rw [e1, e2, show runL sh c (rows[i] :: rows.drop (i + 1)) (ans[i] :: ans.drop (i + 1)) = runL (winTurn sh rows[i] ans[i]).1 (if (winTurn sh rows[i] ans[i]).2 = true then c else wrap64 (c + 1)) (rows.drop (i + 1)) (ans.drop (i + 1)) from rfl, ← ih]
    rw [impl_RunWinnow.l1, if_pos (by omega), if_pos (by omega), if_pos (by omega), if_pos (by omega), e, rd_nat ans i h2, impl_turn_is k sh rows[i] ans[i] (by omega) (by omega) (by omega), Option.bind_some, w64_nat (by omega)]
    by_cases d : (winTurn sh rows[i] ans[i]).2 = true
    · rw [if_pos d, if_pos d]
    · rw [if_neg d, if_neg d]
theorem impl_RunWinnow_l0 (n : Int) (rows : List (List Int)) (ans : List Int) (h1 : 1 ≤ n) (h8 : n ≤ 8) : ∀ (m k i : Nat) (c : Int), (i : Int) + m = n → impl_RunWinnow.l0 (k + m + 1) rows ans (List.replicate i 1) c n (i : Int) = impl_RunWinnow.l1 k ans (List.replicate n.toNat 1) c rows (rows.length : Int) 0
  | 0, k, i, c, hi => by
    rw [Nat.add_zero, impl_RunWinnow.l0, if_neg (by omega), show n.toNat = i by omega]
  | m + 1, k, i, c, hi => by
    rw [show k + (m + 1) + 1 = (k + m + 1) + 1 by omega, impl_RunWinnow.l0, if_pos (by omega), if_pos (by simp; omega), w64_nat (by omega), ← List.replicate_succ', impl_RunWinnow_l0 n rows ans h1 h8 m k (i + 1) c (by omega)]
theorem impl_RunWinnow_is (k : Nat) (n : Int) (rows : List (List Int)) (ans : List Int) (hn : rows.length ≤ 1048576) (hr : ∀ r ∈ rows, r.length ≤ 1048576) (hm : ans.length ≤ 1048576) (hk : 2097200 < k) : impl_RunWinnow.f k n rows ans = some (runW n rows ans) := by
  obtain ⟨k, rfl⟩ : ∃ q, k = q + 1 := ⟨k - 1, by omega⟩
  have e0 : impl_RunWinnow.j0 (k + 1) n rows ans true = some ([], 0, false) := by simp [impl_RunWinnow.j0]
  unfold impl_RunWinnow.f runW
  rw [impl_areRows_is (k + 1) n rows hn hr (by omega), impl_isRow_is (k + 1) ans _ (by omega) (by omega)]
  simp only [Option.bind_some]
  by_cases c1 : rowsB n rows = true
  · rw [if_pos c1, c1, Bool.true_and]
    by_cases c2 : rowB rows.length ans = true
    · rw [c2, if_pos rfl]
      obtain ⟨b1, b8, b40, br⟩ := rowsB_parts c1
      have ea := rowB_length c2
      have l0 := impl_RunWinnow_l0 n rows ans b1 b8 n.toNat (k - n.toNat - 1) 0 0 (by omega)
      rw [show k - n.toNat - 1 + n.toNat + 1 = k by omega] at l0
      have l1 := impl_RunWinnow_l1 n.toNat (by omega) rows ans b40 (by omega) (fun r q => by have := rowB_length (br r q); omega) rows.length (k - n.toNat - 1) 0 (List.replicate n.toNat 1) 0 (by omega) (by simp) (by omega)
      rw [List.drop_zero, List.drop_zero] at l1
      rw [impl_RunWinnow.j0, if_neg (by simp)]
      exact l0.trans l1
    · rw [Bool.eq_false_iff.2 c2, Bool.not_false, e0, if_neg (by simp)]
  · rw [if_neg c1, e0, if_neg (by simp [c1])]
theorem FnExactRunWinnow : ∀ (a0 : Int) (l1 : List (List Int)) (l2 : List Int), (Lit.int .i64 a0).wf = true → l1.length ≤ maxLen → (∀ r ∈ l1, r.length ≤ maxLen ∧ ∀ x ∈ r, (Lit.int .i64 x).wf = true) → l2.length ≤ maxLen → (∀ x ∈ l2, (Lit.int .i64 x).wf = true) → ∃ k, laws_FnExactRunWinnow.f k a0 l1 l2 = some true := by
  intro a l m _ hl hr hm _
  unfold maxLen at hl hr hm
  obtain ⟨K, hK⟩ : ∃ K, 200000000 ≤ K := ⟨_, Nat.le_refl _⟩
  refine ⟨K + 1 + 1 + 1, ?_⟩
  unfold laws_FnExactRunWinnow.f
  by_cases g : (m.length : Int) > 1048576
  · rw [if_pos g]
  · rw [if_neg g]
    obtain ⟨v, hv, hc⟩ := laws_szIntSS_tells (K + 1 + 1 + 1) l 1048576 (by omega) (by omega) (by omega) (fun r h => by have := (hr r h).1; omega) (by omega)
    rw [hv]
    simp only [Option.bind_some]
    rcases hc with hc | ⟨a1, a2, a3, a4⟩
    · rw [if_pos hc]
    · have hw := runW_length a l m
      have a5 : m.length ≤ 1048576 := by omega
      obtain ⟨w, l', hmk, b1, b2⟩ := laws_markIntSS_tells (K + 1 + 1) l a3 a4 (by omega)
      rw [if_neg (by omega), laws_toIntSS_is _ l a3 a4 (by omega)]
      simp only [Option.bind_some]
      rw [laws_toIntS_is _ m (by omega) (by omega)]
      simp only [Option.bind_some]
      rw [spec_RunWinnow_is _ a l m a3 a4 a5 (by omega), impl_RunWinnow_is _ a l m a3 a4 a5 (by omega)]
      simp only [Option.bind_some, bne_self]
      rw [laws_eqIntS_same _ _ (by omega) (by omega)]
      simp only [Option.bind_some, if_true, laws_FnExactRunWinnow.j0]
      rw [if_neg (by simp), laws_toIntSS_is _ l a3 a4 (by omega)]
      simp only [Option.bind_some]
      rw [laws_eqIntSS_same _ l a3 a4 (by omega)]
      simp only [Option.bind_some, if_true]
      rw [laws_toIntS_is _ m (by omega) (by omega)]
      simp only [Option.bind_some]
      rw [laws_eqIntS_same _ m (by omega) (by omega)]
      simp only [Option.bind_some, if_true]
      rw [hmk]
      simp only [Option.bind_some]
      rw [laws_markIntS_is _ m w (by omega) (by omega) (by omega) (by omega)]
      simp only [Option.bind_some, bne_self]
      rw [if_neg (by omega), laws_eqIntS_same _ _ (by omega) (by omega)]
      simp only [Option.bind_some, if_true, laws_FnExactRunWinnow.j1]
      rw [if_neg (by simp), laws_markIntS_is _ _ 1 (by omega) (by omega) (by omega) (by omega)]
      simp only [Option.bind_some]
      rw [laws_heldIntS_is _ _ 1 (by omega) (by omega) (by omega) (by omega)]
      simp only [Option.bind_some]
      rw [if_neg (by omega), laws_toIntSS_is _ l a3 a4 (by omega)]
      simp only [Option.bind_some, if_true]
      rw [laws_toIntS_is _ m (by omega) (by omega)]
      simp only [Option.bind_some]
      rw [impl_RunWinnow_is _ a l m a3 a4 a5 (by omega)]
      simp only [Option.bind_some, bne_self]
      rw [laws_eqIntS_same _ _ (by omega) (by omega)]
      simp only [Option.bind_some, if_true, laws_FnExactRunWinnow.j2]
      rw [if_neg (by simp), laws_heldIntS_is _ _ 1 (by omega) (by omega) (by omega) (by omega)]
      simp only [Option.bind_some]
      rw [if_neg (by omega)]
      simp

end Go.Proofs.Ytgbgkifddjeabaa.Pure
