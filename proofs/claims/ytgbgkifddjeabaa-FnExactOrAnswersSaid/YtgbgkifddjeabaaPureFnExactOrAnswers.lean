/- Proved: the law FnExactOrAnswers answers true for every number, rows and list; no condition. -/
import Derived.Test.YtgbgkifddjeabaaQFnExactOrAnswersx5
import Derived.Test.YtgbgkifddjeabaaBase
set_option linter.unusedVariables false
set_option linter.unusedSimpArgs false
namespace Go.Proofs.Ytgbgkifddjeabaa.Pure
open Go.RowKit Go.Proofs.Ytgbgkifddjeabaa.QFnExactOrAnswers Go.Proofs.YtgbgkifddjeabaaW.PrintWords Go.Proofs.YtgbgkifddjeabaaW.PrintLast Go.Proofs.YtgbgkifddjeabaaW.PrintMore Go.Proofs.Ytgbgkifddjeabaa.Base

theorem laws_szIntS_is (l : List Int) (a : Int) (h0 : 0 ≤ a) (h1 : a ≤ 4611686018427387904) (hl : l.length ≤ 9223372036854775807) : laws_szIntS.f l a = some (if (l.length : Int) ≤ a then a - l.length else -1) := by
  unfold laws_szIntS.f
  rw [w64 (by omega) (by omega)]
  by_cases h : (l.length : Int) ≤ a
  · rw [if_neg (by omega), if_pos h]
  · rw [if_pos (by omega), if_neg h]
theorem laws_szIntSS_l : ∀ (k i : Nat) (x : List (List Int)) (a : Int), 0 ≤ a → a ≤ 1048576 → x.length ≤ 1048576 → (∀ r ∈ x, r.length ≤ 9223372036854775807) → i ≤ x.length → x.length < i + k → ∃ v, laws_szIntSS.l0 k x a (i : Int) = some v ∧ (v < 0 ∨ (0 ≤ v ∧ v ≤ a ∧ ∀ r ∈ x.drop i, r.length ≤ 1048576))
  | 0, _, _, _, _, _, _, _, _, hk => by omega
  | k + 1, i, x, a, h0, h1, hn, hr, hi, hk => by
    simp only [laws_szIntSS.l0]
    by_cases h : i < x.length
    · have e : rd_L1 x (i : Int) = x[i] := by simp [rd_L1, h]
      have hx := hr x[i] (List.getElem_mem h)
      rw [if_pos (by omega), if_pos (by omega), e, laws_szIntS_is x[i] a h0 (by omega) hx]
      simp only [Option.bind_some]
      by_cases c : (x[i].length : Int) ≤ a
      · rw [if_pos c, if_neg (by omega), w64_nat (by omega)]
        obtain ⟨v, hv, hc⟩ := laws_szIntSS_l k (i + 1) x (a - x[i].length) (by omega) (by omega) hn hr (by omega) (by omega)
        refine ⟨v, hv, ?_⟩
        rcases hc with hc | ⟨a1, a2, a3⟩
        · exact .inl hc
        · refine .inr ⟨a1, by omega, fun r hr' => ?_⟩
          rw [List.drop_eq_getElem_cons h] at hr'
          rcases List.mem_cons.1 hr' with rfl | hr'
          · omega
          · exact a3 r hr'
      · rw [if_neg c, if_pos (by omega)]
        exact ⟨-1, rfl, .inl (by omega)⟩
    · rw [if_neg (by omega)]
      refine ⟨a, rfl, .inr ⟨h0, Int.le_refl _, fun r hr' => ?_⟩⟩
      rw [List.drop_of_length_le (by omega)] at hr'
      simp at hr'
theorem laws_szIntSS_tells (k : Nat) (x : List (List Int)) (a : Int) (h0 : 0 ≤ a) (h1 : a ≤ 1048576) (hn : x.length ≤ 9223372036854775807) (hr : ∀ r ∈ x, r.length ≤ 9223372036854775807) (hk : 1048576 < k) : ∃ v, laws_szIntSS.f k x a = some v ∧ (v < 0 ∨ (0 ≤ v ∧ v ≤ a ∧ x.length ≤ 1048576 ∧ ∀ r ∈ x, r.length ≤ 1048576)) := by
  unfold laws_szIntSS.f
  rw [w64 (by omega) (by omega)]
  by_cases c : (x.length : Int) ≤ a
  · rw [if_neg (by omega)]
    obtain ⟨v, hv, hc⟩ := laws_szIntSS_l k 0 x (a - x.length) (by omega) (by omega) (by omega) hr (by omega) (by omega)
    refine ⟨v, hv, ?_⟩
    rcases hc with hc | ⟨a1, a2, a3⟩
    · exact .inl hc
    · exact .inr ⟨a1, by omega, by omega, by simpa using a3⟩
  · rw [if_pos (by omega)]
    exact ⟨-1, rfl, .inl (by omega)⟩
theorem spec_l1In_is (a lo hi : Int) : spec_l1In.f a lo hi = some (inB lo hi a) := by
  unfold spec_l1In.f
  exact within_is a lo hi
theorem spec_l3Row_l : ∀ (k i : Nat) (n : Int) (l : List Int), l.length ≤ 4611686018427387904 → i ≤ l.length → l.length < i + k → spec_l3Row.l0 k n l (i : Int) = some ((l.drop i).all (inB 0 1) && decide ((l.length : Int) = n))
  | 0, _, _, _, _, _, hk => by omega
  | k + 1, i, n, l, hn, hi', hk => by
    simp only [spec_l3Row.l0]
    by_cases h : i < l.length
    · rw [if_pos (by omega), if_pos (by omega), spec_l1In_is, rd_nat l i h, w64_nat (by omega), List.drop_eq_getElem_cons h, List.all_cons, spec_l3Row_l k (i + 1) n l hn (by omega) (by omega)]
      simp only [Option.bind_some]
      by_cases e : inB 0 1 l[i] = true
      · rw [if_pos e, e]
        simp
      · rw [if_neg e]
        simp [e]
    · rw [if_neg (by omega), List.drop_of_length_le (by omega)]
      simp only [List.all_nil, Bool.true_and]
      congr 1
theorem spec_l3Row_is (k : Nat) (n : Int) (l : List Int) (hn : l.length ≤ 4611686018427387904) (hk : l.length < k) : spec_l3Row.f k n l = some (rowB n l) := by
  unfold spec_l3Row.f rowB
  have := spec_l3Row_l k 0 n l hn (by omega) (by omega)
  rw [show ((0 : Nat) : Int) = 0 from rfl] at this
  rw [this, Bool.and_comm]
  simp
/-- rows of one length, and few -/
def rowsB (n : Int) (rows : List (List Int)) : Bool := rows.all (rowB n) && (inB 1 8 n && decide (rows.length ≤ 40))
theorem rowsB_parts {n : Int} {rows : List (List Int)} (h : rowsB n rows = true) : 1 ≤ n ∧ n ≤ 8 ∧ rows.length ≤ 40 ∧ ∀ r ∈ rows, rowB n r = true := by
  unfold rowsB at h
  have h2 := Bool.and_eq_true_iff.1 h
  have h3 := Bool.and_eq_true_iff.1 h2.2
  have := inB_iff.1 h3.1
  exact ⟨this.1, this.2, of_decide_eq_true h3.2, fun r hr => List.all_eq_true.1 h2.1 r hr⟩
theorem spec_l3Rows_l : ∀ (k i : Nat) (n : Int) (rows : List (List Int)), rows.length ≤ 1048576 → (∀ r ∈ rows, r.length ≤ 1048576) → i ≤ rows.length → rows.length + 1048577 < i + k → spec_l3Rows.l0 k n rows (i : Int) = some ((rows.drop i).all (rowB n) && (inB 1 8 n && decide (rows.length ≤ 40)))
  | 0, i, n, rows, _, _, hi, hk => by omega
  | k + 1, i, n, rows, hn, hr, hi, hk => by
    simp only [spec_l3Rows.l0]
    by_cases h : i < rows.length
    · have e : rd_L1 rows (i : Int) = rows[i] := by simp [rd_L1, h]
      have hx := hr rows[i] (List.getElem_mem h)
      rw [if_pos (by omega), if_pos (by omega), e, spec_l3Row_is k n rows[i] (by omega) (by omega), w64_nat (by omega), List.drop_eq_getElem_cons h, List.all_cons, spec_l3Rows_l k (i + 1) n rows hn hr (by omega) (by omega)]
      simp only [Option.bind_some]
      by_cases c : rowB n rows[i] = true
      · rw [if_pos c, c, Bool.true_and]
      · rw [if_neg c]
        simp [c]
    · rw [if_neg (by omega), List.drop_of_length_le (by omega), spec_l1In_is]
      simp only [Option.bind_some, List.all_nil, Bool.true_and]
      by_cases c : inB 1 8 n = true
      · rw [if_pos c, c, Bool.true_and]
        congr 2
        simp only [eq_iff_iff]
        omega
      · rw [if_neg c]
        simp [c]
theorem spec_l3Rows_is (k : Nat) (n : Int) (rows : List (List Int)) (hn : rows.length ≤ 1048576) (hr : ∀ r ∈ rows, r.length ≤ 1048576) (hk : 2097153 < k) : spec_l3Rows.f k n rows = some (rowsB n rows) := by
  unfold spec_l3Rows.f rowsB
  have := spec_l3Rows_l k 0 n rows hn hr (by omega) (by omega)
  simpa using this
/-- each number is less than the next -/
def upB : List Int → Bool
  | x :: y :: r => decide (x < y) && upB (y :: r)
  | _ => true
theorem w64_pred {i : Nat} (h : 1 ≤ i) (h2 : i ≤ 4611686018427387904) : wrap64 ((i : Int) - 1) = ((i - 1 : Nat) : Int) := by
  rw [w64 (by omega) (by omega)]
  omega
theorem upB_drop (l : List Int) (j : Nat) (h : j + 1 < l.length) : upB (l.drop j) = (decide (l[j] < l[j + 1]) && upB (l.drop (j + 1))) := by
  rw [List.drop_eq_getElem_cons (show j < l.length by omega), List.drop_eq_getElem_cons h, upB]
theorem upB_step (l : List Int) (i : Nat) (h1 : 1 ≤ i) (h : i < l.length) : upB (l.drop (i - 1)) = (decide (l[i - 1] < l[i]) && upB (l.drop i)) := by
  obtain ⟨j, rfl⟩ : ∃ j, i = j + 1 := ⟨i - 1, by omega⟩
  exact upB_drop l j h
theorem upB_end (l : List Int) (j : Nat) (h : l.length ≤ j + 1) : upB (l.drop j) = true := by
  by_cases c : j < l.length
  · rw [List.drop_eq_getElem_cons c, List.drop_of_length_le (by omega)]
    rfl
  · rw [List.drop_of_length_le (by omega)]
    rfl
theorem spec_l1Rising_l (lo hi : Int) (l : List Int) (hn : l.length ≤ 1048576) : ∀ (k i : Nat), i ≤ l.length → l.length < i + k → spec_l1Rising.l0 k l lo hi (i : Int) = some ((l.drop i).all (inB lo hi) && upB (l.drop (i - 1)))
  | 0, i, _, hk => by omega
  | k + 1, i, hi', hk => by
    simp only [spec_l1Rising.l0]
    by_cases h : i < l.length
    · rw [if_pos (by omega), if_pos (by omega), spec_l1In_is, rd_nat l i h, w64_nat (by omega), spec_l1Rising_l lo hi l hn k (i + 1) (by omega) (by omega), List.drop_eq_getElem_cons h, List.all_cons, show i + 1 - 1 = i by omega]
      simp only [Option.bind_some]
      by_cases c : inB lo hi l[i] = true
      · rw [if_pos c, c, Bool.true_and]
        by_cases z : i = 0
        · subst z
          rw [if_neg (by omega)]
        · rw [if_pos (by omega), w64_pred (by omega) (by omega), if_pos (by omega), if_pos (by omega), rd_nat l (i - 1) (by omega), upB_step l i (by omega) h]
          by_cases d : l[i - 1] ≥ l[i]
          · rw [if_pos d, decide_eq_false (by omega)]
            simp
          · rw [if_neg d, decide_eq_true (show l[i - 1] < l[i] by omega), Bool.true_and]
      · rw [if_neg c]
        simp [c]
    · rw [if_neg (by omega), List.drop_of_length_le (by omega), upB_end l (i - 1) (by omega)]
      rfl
theorem spec_l1Rising_is (k : Nat) (l : List Int) (lo hi : Int) (hn : l.length ≤ 1048576) (hk : 1048577 < k) : spec_l1Rising.f k l lo hi = some (l.all (inB lo hi) && upB l) := by
  unfold spec_l1Rising.f
  have := spec_l1Rising_l lo hi l hn k 0 (by omega) (by omega)
  simpa using this
theorem spec_l1Most_is (a b : Int) : spec_l1Most.f a b = some (max a b) := by
  unfold spec_l1Most.f
  by_cases h : a > b
  · rw [if_pos h]
    congr 1
    omega
  · rw [if_neg h]
    congr 1
    omega
/-- the greatest number of the row at the places told -/
def orV (row : List Int) : Int → List Int → Int
  | a, [] => a
  | a, s :: ss => orV row (max a (rd row s)) ss
def orA (n : Int) (rows : List (List Int)) (set : List Int) : List Int × Bool := if rowsB n rows && (set.all (inB 0 (wrap64 (n - 1))) && upB set) then (rows.map fun row => orV row 0 set, true) else ([], false)
theorem spec_OrAnswers_l1 (rows : List (List Int)) (set acc : List Int) (i : Nat) (hi : i < rows.length) (hrow : rows.length ≤ 40) (hset : set.length ≤ 1048576) (hacc : acc.length ≤ 40) (hs : ∀ s ∈ set, 0 ≤ s ∧ s < ((rd_L1 rows (i : Int)).length : Int)) : ∀ (m k j : Nat) (o : Int), j + m = set.length → spec_OrAnswers.l1 (k + m + 1) rows set acc (i : Int) o (j : Int) = spec_OrAnswers.l0 k rows set (acc ++ [orV (rd_L1 rows (i : Int)) o (set.drop j)]) ((i + 1 : Nat) : Int)
  | 0, k, j, o, hj => by
    rw [Nat.add_zero, spec_OrAnswers.l1, if_neg (by omega), if_pos (by omega), w64_nat (by omega), List.drop_of_length_le (by omega), orV]
  | m + 1, k, j, o, hj => by
    have h : j < set.length := by omega
    obtain ⟨s1, s2⟩ := hs set[j] (List.getElem_mem h)
    have ih := spec_OrAnswers_l1 rows set acc i hi hrow hset hacc hs m k (j + 1) (max o (rd (rd_L1 rows (i : Int)) set[j])) (by omega)
    have e : set.drop j = set[j] :: set.drop (j + 1) := List.drop_eq_getElem_cons h
    rw [e, show orV (rd_L1 rows (i : Int)) o (set[j] :: set.drop (j + 1)) = orV (rd_L1 rows (i : Int)) (max o (rd (rd_L1 rows (i : Int)) set[j])) (set.drop (j + 1)) from rfl, ← ih]
    rw [show k + (m + 1) + 1 = (k + m + 1) + 1 by omega, spec_OrAnswers.l1, if_pos (by omega), if_pos (by omega), if_pos (by omega), if_pos (by omega), rd_nat set j h]
    rw [if_pos s1, if_pos s2, spec_l1Most_is, Option.bind_some, w64_nat (by omega)]
theorem spec_OrAnswers_l0 (rows : List (List Int)) (set : List Int) (hrow : rows.length ≤ 40) (hset : set.length ≤ 8) (hs : ∀ r ∈ rows, ∀ s ∈ set, 0 ≤ s ∧ s < (r.length : Int)) : ∀ (m k i : Nat) (acc : List Int), i + m = rows.length → acc.length = i → 10 + m * 20 < k → spec_OrAnswers.l0 k rows set acc (i : Int) = some (acc ++ (rows.drop i).map (fun row => orV row 0 set), true)
  | 0, k, i, acc, hi, ha, hk => by
    obtain ⟨k, rfl⟩ : ∃ q, k = q + 1 := ⟨k - 1, by omega⟩
    rw [spec_OrAnswers.l0, if_neg (by omega), List.drop_of_length_le (by omega)]
    simp
  | m + 1, k, i, acc, hi, ha, hk => by
    obtain ⟨k, rfl⟩ : ∃ q, k = q + 1 := ⟨k - 1, by omega⟩
    have h : i < rows.length := by omega
    have e : rd_L1 rows (i : Int) = rows[i] := by simp [rd_L1, h]
    have l1 := spec_OrAnswers_l1 rows set acc i h hrow (by omega) (by omega) (fun s q => by rw [e]; exact hs _ (List.getElem_mem h) s q) set.length (k - set.length - 1) 0 0 (by omega)
    rw [show k - set.length - 1 + set.length + 1 = k by omega, show ((0 : Nat) : Int) = 0 from rfl, List.drop_zero] at l1
    rw [spec_OrAnswers.l0, if_pos (by omega), l1, spec_OrAnswers_l0 rows set hrow hset hs m (k - set.length - 1) (i + 1) _ (by omega) (by simp [ha]) (by omega), e, List.drop_eq_getElem_cons h]
    simp only [List.map_cons, List.append_assoc, List.singleton_append]
theorem orA_length (n : Int) (rows : List (List Int)) (set : List Int) : (orA n rows set).1.length ≤ rows.length := by
  unfold orA
  split <;> simp
theorem orA_set {n : Int} {rows : List (List Int)} {set : List Int} (c1 : rowsB n rows = true) (c2 : set.all (inB 0 (wrap64 (n - 1))) = true) : ∀ r ∈ rows, ∀ s ∈ set, 0 ≤ s ∧ s < (r.length : Int) := by
  intro r hr s hs
  obtain ⟨a1, a2, _, a4⟩ := rowsB_parts c1
  have h1 := rowB_length (a4 r hr)
  have h2 := inB_iff.1 (List.all_eq_true.1 c2 s hs)
  rw [w64 (by omega) (by omega)] at h2
  omega
theorem upB_least : ∀ (l : List Int), upB l = true → ∀ z ∈ l, l.headD 0 ≤ z
  | [], _, z, h => by simp at h
  | [x], _, z, h => by simp at h; simp [h]
  | x :: y :: r, h, z, hz => by
    rw [upB, Bool.and_eq_true_iff] at h
    have lt := of_decide_eq_true h.1
    rcases List.mem_cons.1 hz with rfl | hz
    · simp
    · have := upB_least (y :: r) h.2 z hz
      simp only [List.headD_cons] at this ⊢
      omega
theorem upB_length (hi : Int) : ∀ (l : List Int) (lo : Int), l.all (inB lo hi) = true → upB l = true → lo ≤ hi + 1 → (l.length : Int) ≤ hi + 1 - lo
  | [], lo, _, _, h => by simp; omega
  | [x], lo, h1, _, _ => by
    have := inB_iff.1 (List.all_eq_true.1 h1 x (by simp))
    simp
    omega
  | x :: y :: r, lo, h1, h2, h3 => by
    have a := inB_iff.1 (List.all_eq_true.1 h1 x (by simp))
    rw [upB, Bool.and_eq_true_iff] at h2
    have lt := of_decide_eq_true h2.1
    have h4 : (y :: r).all (inB (lo + 1) hi) = true := by
      refine List.all_eq_true.2 fun z hz => inB_iff.2 ?_
      have b := inB_iff.1 (List.all_eq_true.1 h1 z (List.mem_cons_of_mem _ hz))
      have c := upB_least (y :: r) h2.2 z hz
      simp only [List.headD_cons] at c
      omega
    have ih := upB_length hi (y :: r) (lo + 1) h4 h2.2 (by omega)
    simp only [List.length_cons] at ih ⊢
    omega
theorem up_length {n : Int} {rows : List (List Int)} {set : List Int} (c1 : rowsB n rows = true) (c2 : set.all (inB 0 (wrap64 (n - 1))) = true) (c3 : upB set = true) : set.length ≤ 8 := by
  obtain ⟨a1, a2, _, _⟩ := rowsB_parts c1
  rw [w64 (by omega) (by omega)] at c2
  have := upB_length (n - 1) set 0 c2 c3 (by omega)
  omega
theorem spec_OrAnswers_is (k : Nat) (n : Int) (rows : List (List Int)) (set : List Int) (hn : rows.length ≤ 1048576) (hr : ∀ r ∈ rows, r.length ≤ 1048576) (hm : set.length ≤ 1048576) (hk : 100000000 < k) : spec_OrAnswers.f k n rows set = some (orA n rows set) := by
  obtain ⟨k, rfl⟩ : ∃ q, k = q + 1 := ⟨k - 1, by omega⟩
  unfold spec_OrAnswers.f orA
  rw [Option.bind_some, spec_l3Rows_is (k + 1) n rows hn hr (by omega), spec_l1Rising_is (k + 1) set 0 _ hm (by omega)]
  simp only [Option.bind_some, spec_OrAnswers.j0]
  by_cases c1 : rowsB n rows = true
  · rw [if_pos c1, c1, Bool.true_and]
    by_cases c2 : (set.all (inB 0 (wrap64 (n - 1))) && upB set) = true
    · rw [c2, if_neg (by simp), if_pos rfl]
      have c3 := Bool.and_eq_true_iff.1 c2
      obtain ⟨_, _, a3, _⟩ := rowsB_parts c1
      have := spec_OrAnswers_l0 rows set a3 (up_length c1 c3.1 c3.2) (orA_set c1 c3.1) rows.length k 0 [] (by omega) rfl (by omega)
      simpa using this
    · rw [Bool.eq_false_iff.2 c2, if_pos (by rfl), if_neg (by simp)]
  · rw [if_neg c1, if_pos trivial, if_neg (by simp [c1])]
theorem laws_toIntS_l : ∀ (k i : Nat) (l acc : List Int), l.length ≤ 4611686018427387904 → acc.length = l.length → i ≤ l.length → l.length < i + k → (∀ j, j < i → acc[j]? = l[j]?) → laws_toIntS.l0 k l acc (i : Int) = some l
  | 0, i, l, acc, _, _, _, hk, _ => by omega
  | k + 1, i, l, acc, hn, hl, hi, hk, hj => by
    simp only [laws_toIntS.l0]
    by_cases h : i < l.length
    · rw [if_pos (by omega), if_pos (by omega), if_pos (by omega), rd_nat l i h, w64_nat (by omega)]
      refine laws_toIntS_l k (i + 1) l _ hn (by simp [hl]) (by omega) (by omega) fun j hj' => ?_
      rw [List.getElem?_set]
      by_cases e : i = j
      · subst e
        simp [h, hl]
      · simp only [Int.toNat_natCast]
        rw [if_neg e]
        exact hj j (by omega)
    · rw [if_neg (by omega)]
      congr 1
      refine List.ext_getElem? fun j => ?_
      by_cases e : j < i
      · exact hj j e
      · rw [List.getElem?_eq_none (by omega), List.getElem?_eq_none (by omega)]
theorem laws_toIntS_is (k : Nat) (l : List Int) (hn : l.length ≤ 35184372088832) (hk : l.length < k) : laws_toIntS.f k l = some l := by
  unfold laws_toIntS.f
  rw [if_pos (by omega), if_pos (by omega)]
  exact laws_toIntS_l k 0 l _ (by omega) (by simp) (by omega) (by omega) fun j hj => by omega
theorem laws_toIntSS_l : ∀ (k i : Nat) (l acc : List (List Int)), l.length ≤ 1048576 → (∀ r ∈ l, r.length ≤ 1048576) → acc.length = l.length → i ≤ l.length → l.length + 1048576 < i + k → (∀ j, j < i → acc[j]? = l[j]?) → laws_toIntSS.l0 k l acc (i : Int) = some l
  | 0, i, l, acc, _, _, _, _, hk, _ => by omega
  | k + 1, i, l, acc, hn, hr, hl, hi, hk, hj => by
    simp only [laws_toIntSS.l0]
    by_cases h : i < l.length
    · have e : rd_L1 l (i : Int) = l[i] := by simp [rd_L1, h]
      have hx := hr l[i] (List.getElem_mem h)
      rw [if_pos (by omega), if_pos (by omega), e, laws_toIntS_is k l[i] (by omega) (by omega)]
      simp only [Option.bind_some]
      rw [if_pos (by omega), w64_nat (by omega)]
      refine laws_toIntSS_l k (i + 1) l _ hn hr (by simp [hl]) (by omega) (by omega) fun j hj' => ?_
      rw [List.getElem?_set]
      by_cases e : i = j
      · subst e
        simp [h, hl]
      · simp only [Int.toNat_natCast]
        rw [if_neg e]
        exact hj j (by omega)
    · rw [if_neg (by omega)]
      congr 1
      refine List.ext_getElem? fun j => ?_
      by_cases e : j < i
      · exact hj j e
      · rw [List.getElem?_eq_none (by omega), List.getElem?_eq_none (by omega)]
theorem laws_toIntSS_is (k : Nat) (l : List (List Int)) (hn : l.length ≤ 1048576) (hr : ∀ r ∈ l, r.length ≤ 1048576) (hk : 2097152 < k) : laws_toIntSS.f k l = some l := by
  unfold laws_toIntSS.f
  rw [if_pos (by omega), if_pos (by omega)]
  exact laws_toIntSS_l k 0 l _ hn hr (by simp) (by omega) (by omega) fun j hj => by omega
theorem impl_within_is (a lo hi : Int) : impl_within.f a lo hi = some (inB lo hi a) := by
  unfold impl_within.f
  exact within_is a lo hi
theorem impl_allWithin_l : ∀ (k i : Nat) (l : List Int) (lo hi : Int), l.length ≤ 4611686018427387904 → i ≤ l.length → l.length < i + k → impl_allWithin.l0 k lo hi l (l.length : Int) (i : Int) = some ((l.drop i).all (inB lo hi))
  | 0, _, _, _, _, _, _, hk => by omega
  | k + 1, i, l, lo, hi, hn, hi', hk => by
    simp only [impl_allWithin.l0]
    by_cases h : i < l.length
    · rw [if_pos (by omega), if_pos (by omega), if_pos (by omega), impl_within_is, rd_nat l i h, w64_nat (by omega), List.drop_eq_getElem_cons h, List.all_cons, impl_allWithin_l k (i + 1) l lo hi hn (by omega) (by omega)]
      simp only [Option.bind_some]
      by_cases e : inB lo hi l[i] = true
      · rw [if_pos e, e]
        simp
      · rw [if_neg e]
        simp [e]
    · rw [if_neg (by omega), List.drop_of_length_le (by omega)]
      simp
theorem impl_allWithin_is (k : Nat) (l : List Int) (lo hi : Int) (hn : l.length ≤ 4611686018427387904) (hk : l.length < k) : impl_allWithin.f k l lo hi = some (l.all (inB lo hi)) := by
  unfold impl_allWithin.f
  have := impl_allWithin_l k 0 l lo hi hn (by omega) (by omega)
  simpa using this
theorem impl_isRow_is (k : Nat) (l : List Int) (n : Int) (hn : l.length ≤ 4611686018427387904) (hk : l.length < k) : impl_isRow.f k l n = some (rowB n l) := by
  unfold impl_isRow.f rowB
  rw [impl_allWithin_is k l 0 1 hn hk]
  simp only [Option.bind_some]
  by_cases h : (l.length : Int) = n
  · rw [if_pos h]
    simp [h]
  · rw [if_neg h]
    simp [h]
theorem impl_areRows_l : ∀ (k i : Nat) (n : Int) (rows : List (List Int)), rows.length ≤ 1048576 → (∀ r ∈ rows, r.length ≤ 1048576) → i ≤ rows.length → rows.length + 1048577 < i + k → impl_areRows.l0 k rows n rows (rows.length : Int) (i : Int) = some ((rows.drop i).all (rowB n) && (inB 1 8 n && decide (rows.length ≤ 40)))
  | 0, i, n, rows, _, _, hi, hk => by omega
  | k + 1, i, n, rows, hn, hr, hi, hk => by
    simp only [impl_areRows.l0]
    by_cases h : i < rows.length
    · have e : rd_L1 rows (i : Int) = rows[i] := by simp [rd_L1, h]
      have hx := hr rows[i] (List.getElem_mem h)
      rw [if_pos (by omega), if_pos (by omega), if_pos (by omega), e, impl_isRow_is k rows[i] n (by omega) (by omega), w64_nat (by omega), List.drop_eq_getElem_cons h, List.all_cons, impl_areRows_l k (i + 1) n rows hn hr (by omega) (by omega)]
      simp only [Option.bind_some]
      by_cases c : rowB n rows[i] = true
      · rw [if_pos c, c, Bool.true_and]
      · rw [if_neg c]
        simp [c]
    · rw [if_neg (by omega), List.drop_of_length_le (by omega), impl_within_is]
      simp only [Option.bind_some, List.all_nil, Bool.true_and]
      by_cases c : inB 1 8 n = true
      · rw [if_pos c, c, Bool.true_and]
        congr 2
        simp only [eq_iff_iff]
        omega
      · rw [if_neg c]
        simp [c]
theorem impl_areRows_is (k : Nat) (n : Int) (rows : List (List Int)) (hn : rows.length ≤ 1048576) (hr : ∀ r ∈ rows, r.length ≤ 1048576) (hk : 2097153 < k) : impl_areRows.f k rows n = some (rowsB n rows) := by
  unfold impl_areRows.f rowsB
  have := impl_areRows_l k 0 n rows hn hr (by omega) (by omega)
  simpa using this
theorem impl_rising_l (l : List Int) (hn : l.length ≤ 1048576) : ∀ (k i : Nat), 1 ≤ i → i ≤ l.length + 1 → l.length + 1 < i + k → impl_rising.l0 k l (i : Int) = some (upB (l.drop (i - 1)))
  | 0, i, _, _, hk => by omega
  | k + 1, i, h1, hi', hk => by
    simp only [impl_rising.l0]
    by_cases h : i < l.length
    · rw [if_pos (by omega), w64_pred (by omega) (by omega), if_pos (by omega), if_pos (by omega), if_pos (by omega), rd_nat l (i - 1) (by omega), rd_nat l i h, w64_nat (by omega), impl_rising_l l hn k (i + 1) (by omega) (by omega) (by omega), upB_step l i (by omega) h, show i + 1 - 1 = i by omega]
      by_cases d : l[i - 1] ≥ l[i]
      · rw [if_pos d, decide_eq_false (by omega)]
        simp
      · rw [if_neg d, decide_eq_true (show l[i - 1] < l[i] by omega), Bool.true_and]
    · rw [if_neg (by omega), upB_end l (i - 1) (by omega)]
theorem impl_rising_is (k : Nat) (l : List Int) (hn : l.length ≤ 1048576) (hk : 1048577 < k) : impl_rising.f k l = some (upB l) := by
  unfold impl_rising.f
  have := impl_rising_l l hn k 1 (by omega) (by omega) (by omega)
  simpa using this
theorem or_max (a b : Int) (ha : a = 0 ∨ a = 1) (hb : b = 0 ∨ b = 1) : Go.bits .or .i64 a b = max a b ∧ (max a b = 0 ∨ max a b = 1) := by
  rcases ha with rfl | rfl <;> rcases hb with rfl | rfl <;> decide +kernel
theorem impl_OrAnswers_l1 (rows : List (List Int)) (set acc row : List Int) (i : Nat) (hi : i < rows.length) (hrow : rows.length ≤ 40) (hset : set.length ≤ 1048576) (hacc : acc.length ≤ 40) (hs : ∀ s ∈ set, 0 ≤ s ∧ s < (row.length : Int)) (hb : row.all (inB 0 1) = true) : ∀ (m k j : Nat) (o : Int), (o = 0 ∨ o = 1) → j + m = set.length → impl_OrAnswers.l1 (k + m + 1) set acc row o rows (rows.length : Int) (i : Int) set (set.length : Int) (j : Int) = impl_OrAnswers.l0 k set (acc ++ [orV row o (set.drop j)]) rows (rows.length : Int) ((i + 1 : Nat) : Int)
  | 0, k, j, o, ho, hj => by
    rw [Nat.add_zero, impl_OrAnswers.l1, if_neg (by omega), if_pos (by omega), w64_nat (by omega), List.drop_of_length_le (by omega), orV]
  | m + 1, k, j, o, ho, hj => by
    have h : j < set.length := by omega
    obtain ⟨s1, s2⟩ := hs set[j] (List.getElem_mem h)
    have hx : rd row set[j] = 0 ∨ rd row set[j] = 1 := by
      obtain ⟨t, ht⟩ : ∃ t : Nat, set[j] = (t : Int) := ⟨set[j].toNat, by omega⟩
      rw [ht, rd_nat row t (by omega)]
      have := all_range hb t (by omega)
      omega
    obtain ⟨q1, q2⟩ := or_max o _ ho hx
    have ih := impl_OrAnswers_l1 rows set acc row i hi hrow hset hacc hs hb m k (j + 1) (max o (rd row set[j])) q2 (by omega)
    have e : set.drop j = set[j] :: set.drop (j + 1) := List.drop_eq_getElem_cons h
    rw [e, show orV row o (set[j] :: set.drop (j + 1)) = orV row (max o (rd row set[j])) (set.drop (j + 1)) from rfl, ← ih]
    rw [show k + (m + 1) + 1 = (k + m + 1) + 1 by omega, impl_OrAnswers.l1, if_pos (by omega), if_pos (by omega), if_pos (by omega), rd_nat set j h]
    rw [if_pos s1, if_pos s2, q1, w64_nat (by omega)]
theorem impl_OrAnswers_l0 (rows : List (List Int)) (set : List Int) (hrow : rows.length ≤ 40) (hset : set.length ≤ 8) (hs : ∀ r ∈ rows, ∀ s ∈ set, 0 ≤ s ∧ s < (r.length : Int)) (hb : ∀ r ∈ rows, r.all (inB 0 1) = true) : ∀ (m k i : Nat) (acc : List Int), i + m = rows.length → acc.length = i → 10 + m * 20 < k → impl_OrAnswers.l0 k set acc rows (rows.length : Int) (i : Int) = some (acc ++ (rows.drop i).map (fun row => orV row 0 set), true)
  | 0, k, i, acc, hi, ha, hk => by
    obtain ⟨k, rfl⟩ : ∃ q, k = q + 1 := ⟨k - 1, by omega⟩
    rw [impl_OrAnswers.l0, if_neg (by omega), List.drop_of_length_le (by omega)]
    simp
  | m + 1, k, i, acc, hi, ha, hk => by
    obtain ⟨k, rfl⟩ : ∃ q, k = q + 1 := ⟨k - 1, by omega⟩
    have h : i < rows.length := by omega
    have e : rd_L1 rows (i : Int) = rows[i] := by simp [rd_L1, h]
    have l1 := impl_OrAnswers_l1 rows set acc rows[i] i h hrow (by omega) (by omega) (hs _ (List.getElem_mem h)) (hb _ (List.getElem_mem h)) set.length (k - set.length - 1) 0 0 (.inl rfl) (by omega)
    rw [show k - set.length - 1 + set.length + 1 = k by omega, show ((0 : Nat) : Int) = 0 from rfl, List.drop_zero] at l1
    rw [impl_OrAnswers.l0, if_pos (by omega), if_pos (by omega), if_pos (by omega), e, l1, impl_OrAnswers_l0 rows set hrow hset hs hb m (k - set.length - 1) (i + 1) _ (by omega) (by simp [ha]) (by omega), List.drop_eq_getElem_cons h]
    simp only [List.map_cons, List.append_assoc, List.singleton_append]
theorem impl_OrAnswers_is (k : Nat) (n : Int) (rows : List (List Int)) (set : List Int) (hn : rows.length ≤ 1048576) (hr : ∀ r ∈ rows, r.length ≤ 1048576) (hm : set.length ≤ 1048576) (hk : 100000000 < k) : impl_OrAnswers.f k n rows set = some (orA n rows set) := by
  obtain ⟨k, rfl⟩ : ∃ q, k = q + 1 := ⟨k - 1, by omega⟩
  unfold impl_OrAnswers.f orA
  rw [impl_areRows_is (k + 1) n rows hn hr (by omega), impl_rising_is (k + 1) set hm (by omega), impl_allWithin_is (k + 1) set 0 _ (by omega) (by omega)]
  simp only [Option.bind_some, impl_OrAnswers.j0]
  by_cases c1 : rowsB n rows = true
  · rw [if_pos c1, c1, Bool.true_and]
    by_cases c3 : upB set = true
    · rw [if_pos c3, c3, Bool.and_true]
      by_cases c2 : set.all (inB 0 (wrap64 (n - 1))) = true
      · rw [c2, if_neg (by simp), if_pos rfl]
        obtain ⟨_, _, a3, a4⟩ := rowsB_parts c1
        have := impl_OrAnswers_l0 rows set a3 (up_length c1 c2 c3) (orA_set c1 c2) (fun r hr' => by have := a4 r hr'; unfold rowB at this; exact (Bool.and_eq_true_iff.1 this).2) rows.length k 0 [] (by omega) rfl (by omega)
        simpa using this
      · rw [Bool.eq_false_iff.2 c2, if_pos (by rfl), if_neg (by simp)]
    · rw [if_neg c3, if_pos trivial, if_neg (by simp [c3])]
  · rw [if_neg c1, if_pos trivial, if_neg (by simp [c1])]
theorem laws_eqIntS_l : ∀ (k i : Nat) (l r : List Int), l.length ≤ 4611686018427387904 → r.length = l.length → i ≤ l.length → l.length < i + k → laws_eqIntS.l0 k l r (i : Int) = some (decide (l.drop i = r.drop i))
  | 0, i, l, r, _, _, _, hk => by omega
  | k + 1, i, l, r, hn, hl, hi, hk => by
    simp only [laws_eqIntS.l0]
    by_cases h : i < l.length
    · rw [if_pos (by omega), if_pos (by omega), if_pos (by omega), rd_nat l i h, rd_nat r i (by omega), w64_nat (by omega), laws_eqIntS_l k (i + 1) l r hn hl (by omega) (by omega), List.drop_eq_getElem_cons h, List.drop_eq_getElem_cons (show i < r.length by omega)]
      by_cases e : l[i] = r[i]'(by omega)
      · rw [if_pos e, e]
        simp only [List.cons.injEq, true_and]
      · rw [if_neg e]
        simp only [List.cons.injEq, e, false_and, decide_false]
    · rw [if_neg (by omega), List.drop_of_length_le (by omega), List.drop_of_length_le (by omega)]
      simp
theorem laws_eqIntS_is (k : Nat) (l r : List Int) (hn : l.length ≤ 4611686018427387904) (hk : l.length < k) : laws_eqIntS.f k l r = some (decide (l = r)) := by
  unfold laws_eqIntS.f
  by_cases h : l.length = r.length
  · rw [if_pos (by omega)]
    have := laws_eqIntS_l k 0 l r hn (by omega) (by omega) (by omega)
    simpa using this
  · rw [if_neg (by omega)]
    have : l ≠ r := fun e => h (by rw [e])
    simp [this]
theorem laws_eqIntS_same (k : Nat) (l : List Int) (hn : l.length ≤ 4611686018427387904) (hk : l.length < k) : laws_eqIntS.f k l l = some true := by
  rw [laws_eqIntS_is k l l hn hk]
  simp
theorem laws_eqIntSS_l : ∀ (k i : Nat) (l : List (List Int)), l.length ≤ 1048576 → (∀ r ∈ l, r.length ≤ 1048576) → i ≤ l.length → l.length + 1048576 < i + k → laws_eqIntSS.l0 k l l (i : Int) = some true
  | 0, i, l, _, _, _, hk => by omega
  | k + 1, i, l, hn, hr, hi, hk => by
    simp only [laws_eqIntSS.l0]
    by_cases h : i < l.length
    · have e : rd_L1 l (i : Int) = l[i] := by simp [rd_L1, h]
      have hx := hr l[i] (List.getElem_mem h)
      rw [if_pos (by omega), if_pos (by omega), if_pos (by omega), e, laws_eqIntS_same k l[i] (by omega) (by omega)]
      simp only [Option.bind_some, if_true]
      rw [w64_nat (by omega)]
      exact laws_eqIntSS_l k (i + 1) l hn hr (by omega) (by omega)
    · rw [if_neg (by omega)]
theorem laws_eqIntSS_same (k : Nat) (l : List (List Int)) (hn : l.length ≤ 1048576) (hr : ∀ r ∈ l, r.length ≤ 1048576) (hk : 2097152 < k) : laws_eqIntSS.f k l l = some true := by
  unfold laws_eqIntSS.f
  rw [if_pos rfl]
  exact laws_eqIntSS_l k 0 l hn hr (by omega) (by omega)
theorem laws_markIntS_l : ∀ (k : Nat) (post pre : List Int) (a : Int), -4611686018427387904 ≤ a → a + post.length ≤ 4611686018427387904 → pre.length + post.length ≤ 4611686018427387904 → post.length < k → laws_markIntS.l0 k (pre ++ post) a (pre.length : Int) = some (a + post.length, pre ++ marks a post.length)
  | 0, _, _, _, _, _, _, hk => by omega
  | k + 1, [], pre, a, _, _, _, _ => by
    simp only [laws_markIntS.l0]
    rw [if_neg (by simp)]
    simp [marks]
  | k + 1, x :: post, pre, a, h1, h2, h3, hk => by
    simp only [laws_markIntS.l0]
    simp only [List.length_cons] at h2 h3 hk
    rw [if_pos (by simp; omega), if_pos (by omega), w64_nat (by omega), w64 (by omega) (by omega)]
    rw [set_mid pre post x a _ (by simp)]
    have := laws_markIntS_l k post (pre ++ [a]) (a + 1) (by omega) (by omega) (by simp; omega) (by omega)
    simp only [List.append_assoc, List.singleton_append, List.length_append, List.length_cons, List.length_nil, Nat.zero_add] at this
    rw [this]
    simp only [List.length_cons, marks]
    congr 2
    omega
theorem laws_markIntS_is (k : Nat) (l : List Int) (a : Int) (h1 : -4611686018427387904 ≤ a) (h2 : a + l.length ≤ 4611686018427387904) (h3 : l.length ≤ 4611686018427387904) (hk : l.length < k) : laws_markIntS.f k l a = some (a + l.length, marks a l.length) := by
  unfold laws_markIntS.f
  exact laws_markIntS_l k l [] a h1 h2 (by simpa using h3) hk
theorem laws_markIntSS_l : ∀ (m k i : Nat) (l : List (List Int)) (a : Int), i + m = l.length → l.length ≤ 1048576 → (∀ r ∈ l, r.length ≤ 1048576) → 0 ≤ a → a + m * 1048576 ≤ 4611686018427387904 → 1048576 + m < k → ∃ v l', laws_markIntSS.l0 k l a (i : Int) = some (v, l') ∧ a ≤ v ∧ v ≤ a + m * 1048576
  | 0, k, i, l, a, hi, hn, hr, ha, hb, hk => by
    obtain ⟨k, rfl⟩ : ∃ q, k = q + 1 := ⟨k - 1, by omega⟩
    rw [laws_markIntSS.l0, if_neg (by omega)]
    exact ⟨a, l, rfl, by omega, by omega⟩
  | m + 1, k, i, l, a, hi, hn, hr, ha, hb, hk => by
    obtain ⟨k, rfl⟩ : ∃ q, k = q + 1 := ⟨k - 1, by omega⟩
    have h : i < l.length := by omega
    have e : rd_L1 l (i : Int) = l[i] := by simp [rd_L1, h]
    have hx := hr l[i] (List.getElem_mem h)
    rw [laws_markIntSS.l0, if_pos (by omega), if_pos (by omega), e, laws_markIntS_is k l[i] a (by omega) (by omega) (by omega) (by omega)]
    simp only [Option.bind_some]
    rw [w64_nat (by omega)]
    obtain ⟨v, l', hv, h1, h2⟩ := laws_markIntSS_l m k (i + 1) (l.set (i : Int).toNat (marks a l[i].length)) (a + l[i].length) (by simp; omega) (by simpa using hn) (fun r hr' => by
      rcases List.mem_or_eq_of_mem_set hr' with h | rfl
      · exact hr r h
      · rw [marks_length]; omega) (by omega) (by omega) (by omega)
    exact ⟨v, l', hv, by omega, by omega⟩
theorem laws_markIntSS_tells (k : Nat) (l : List (List Int)) (hn : l.length ≤ 1048576) (hr : ∀ r ∈ l, r.length ≤ 1048576) (hk : 2097152 < k) : ∃ v l', laws_markIntSS.f k l 1 = some (v, l') ∧ 1 ≤ v ∧ v ≤ 1099511627777 := by
  unfold laws_markIntSS.f
  obtain ⟨v, l', hv, h1, h2⟩ := laws_markIntSS_l l.length k 0 l 1 (by omega) hn hr (by omega) (by omega) (by omega)
  exact ⟨v, l', hv, by omega, by omega⟩
theorem laws_heldIntS_l : ∀ (k n i : Nat) (a b : Int), -4611686018427387904 ≤ a → a + n ≤ 4611686018427387904 → n ≤ 4611686018427387904 → i ≤ n → n < i + k → b = a + i → laws_heldIntS.l0 k (marks a n) b (i : Int) = some (a + n)
  | 0, _, _, _, _, _, _, _, _, hk, _ => by omega
  | k + 1, n, i, a, b, h1, h2, h3, hi, hk, hb => by
    simp only [laws_heldIntS.l0, marks_length]
    by_cases h : i < n
    · rw [if_pos (by omega), if_pos (by omega), rd_nat _ i (by rw [marks_length]; exact h), marks_get, if_pos hb.symm, w64_nat (by omega), w64 (by omega) (by omega)]
      exact laws_heldIntS_l k n (i + 1) a _ h1 h2 h3 (by omega) (by omega) (by omega)
    · rw [if_neg (by omega)]
      congr 1
      omega
theorem laws_heldIntS_is (k n : Nat) (a : Int) (h1 : -4611686018427387904 ≤ a) (h2 : a + n ≤ 4611686018427387904) (h3 : n ≤ 4611686018427387904) (hk : n < k) : laws_heldIntS.f k (marks a n) a = some (a + n) := by
  unfold laws_heldIntS.f
  exact laws_heldIntS_l k n 0 a a h1 h2 h3 (by omega) (by omega) (by omega)
theorem FnExactOrAnswers : ∀ (a0 : Int) (l1 : List (List Int)) (l2 : List Int), (Lit.int .i64 a0).wf = true → l1.length ≤ maxLen → (∀ r ∈ l1, r.length ≤ maxLen ∧ ∀ x ∈ r, (Lit.int .i64 x).wf = true) → l2.length ≤ maxLen → (∀ x ∈ l2, (Lit.int .i64 x).wf = true) → ∃ k, laws_FnExactOrAnswers.f k a0 l1 l2 = some true := by
  intro a l m _ hl hr hm _
  unfold maxLen at hl hr hm
  obtain ⟨K, hK⟩ : ∃ K, 200000000 ≤ K := ⟨_, Nat.le_refl _⟩
  refine ⟨K + 1 + 1 + 1, ?_⟩
  unfold laws_FnExactOrAnswers.f
  by_cases g : (m.length : Int) > 1048576
  · rw [if_pos g]
  · rw [if_neg g]
    obtain ⟨v, hv, hc⟩ := laws_szIntSS_tells (K + 1 + 1 + 1) l 1048576 (by omega) (by omega) (by omega) (fun r h => by have := (hr r h).1; omega) (by omega)
    rw [hv]
    simp only [Option.bind_some]
    rcases hc with hc | ⟨a1, a2, a3, a4⟩
    · rw [if_pos hc]
    · have hw := orA_length a l m
      have a5 : m.length ≤ 1048576 := by omega
      obtain ⟨w, l', hmk, b1, b2⟩ := laws_markIntSS_tells (K + 1 + 1) l a3 a4 (by omega)
      rw [if_neg (by omega), laws_toIntSS_is _ l a3 a4 (by omega)]
      simp only [Option.bind_some]
      rw [laws_toIntS_is _ m (by omega) (by omega)]
      simp only [Option.bind_some]
      rw [spec_OrAnswers_is _ a l m a3 a4 a5 (by omega), impl_OrAnswers_is _ a l m a3 a4 a5 (by omega)]
      simp only [Option.bind_some, bne_self]
      rw [laws_eqIntS_same _ _ (by omega) (by omega)]
      simp only [Option.bind_some, if_true, laws_FnExactOrAnswers.j0]
      rw [if_neg (by simp), laws_toIntSS_is _ l a3 a4 (by omega)]
      simp only [Option.bind_some]
      rw [laws_eqIntSS_same _ l a3 a4 (by omega)]
      simp only [Option.bind_some, if_true]
      rw [laws_toIntS_is _ m (by omega) (by omega)]
      simp only [Option.bind_some]
      rw [laws_eqIntS_same _ m (by omega) (by omega)]
      simp only [Option.bind_some, if_true]
      rw [hmk]
      simp only [Option.bind_some]
      rw [laws_markIntS_is _ m w (by omega) (by omega) (by omega) (by omega)]
      simp only [Option.bind_some, bne_self]
      rw [if_neg (by omega), laws_eqIntS_same _ _ (by omega) (by omega)]
      simp only [Option.bind_some, if_true, laws_FnExactOrAnswers.j1]
      rw [if_neg (by simp), laws_markIntS_is _ _ 1 (by omega) (by omega) (by omega) (by omega)]
      simp only [Option.bind_some]
      rw [laws_heldIntS_is _ _ 1 (by omega) (by omega) (by omega) (by omega)]
      simp only [Option.bind_some]
      rw [if_neg (by omega), laws_toIntSS_is _ l a3 a4 (by omega)]
      simp only [Option.bind_some, if_true]
      rw [laws_toIntS_is _ m (by omega) (by omega)]
      simp only [Option.bind_some]
      rw [impl_OrAnswers_is _ a l m a3 a4 a5 (by omega)]
      simp only [Option.bind_some, bne_self]
      rw [laws_eqIntS_same _ _ (by omega) (by omega)]
      simp only [Option.bind_some, if_true, laws_FnExactOrAnswers.j2]
      rw [if_neg (by simp), laws_heldIntS_is _ _ 1 (by omega) (by omega) (by omega) (by omega)]
      simp only [Option.bind_some]
      rw [if_neg (by omega)]
      simp

end Go.Proofs.Ytgbgkifddjeabaa.Pure
