/- Proved: the law FnExactPlaneOfCounts answers true for every sample and counts; no condition. -/
import Derived.Test.YtgbgkifddjeabaaQFnExactPlaneOfCountsx8
import Derived.Test.YtgbgkifddjeabaaBase
set_option linter.unusedVariables false
set_option linter.unusedSimpArgs false
namespace Go.Proofs.Ytgbgkifddjeabaa.Pure
open Go.RowKit Go.Proofs.Ytgbgkifddjeabaa.QFnExactPlaneOfCounts Go.Proofs.YtgbgkifddjeabaaW.PrintWords Go.Proofs.YtgbgkifddjeabaaW.PrintLast Go.Proofs.YtgbgkifddjeabaaW.PrintMore Go.Proofs.Ytgbgkifddjeabaa.Base

theorem laws_toIntS_l : ∀ (k i : Nat) (l acc : List Int), l.length ≤ 4611686018427387904 → acc.length = l.length → i ≤ l.length → l.length < i + k → (∀ j, j < i → acc[j]? = l[j]?) → laws_toIntS.l0 k l acc (i : Int) = some l
  | 0, i, l, acc, _, _, _, hk, _ => by omega
  | k + 1, i, l, acc, hn, hl, hi, hk, hj => by
    simp only [laws_toIntS.l0]
    by_cases h : i < l.length
    · rw [if_pos (by omega), if_pos (by omega), if_pos (by omega), rd_nat l i h, w64_nat (by omega)]
      refine laws_toIntS_l k (i + 1) l _ hn (by simp [hl]) (by omega) (by omega) fun j hj' => ?_
      rw [List.getElem?_set]
      by_cases e : i = j
      · subst e
        simp [h, hl]
      · simp only [Int.toNat_natCast]
        rw [if_neg e]
        exact hj j (by omega)
    · rw [if_neg (by omega)]
      congr 1
      refine List.ext_getElem? fun j => ?_
      by_cases e : j < i
      · exact hj j e
      · rw [List.getElem?_eq_none (by omega), List.getElem?_eq_none (by omega)]
theorem laws_toIntS_is (k : Nat) (l : List Int) (hn : l.length ≤ 35184372088832) (hk : l.length < k) : laws_toIntS.f k l = some l := by
  unfold laws_toIntS.f
  rw [if_pos (by omega), if_pos (by omega)]
  exact laws_toIntS_l k 0 l _ (by omega) (by simp) (by omega) (by omega) fun j hj => by omega
theorem laws_eqIntS_l : ∀ (k i : Nat) (l r : List Int), l.length ≤ 4611686018427387904 → r.length = l.length → i ≤ l.length → l.length < i + k → laws_eqIntS.l0 k l r (i : Int) = some (decide (l.drop i = r.drop i))
  | 0, i, l, r, _, _, _, hk => by omega
  | k + 1, i, l, r, hn, hl, hi, hk => by
    simp only [laws_eqIntS.l0]
    by_cases h : i < l.length
    · rw [if_pos (by omega), if_pos (by omega), if_pos (by omega), rd_nat l i h, rd_nat r i (by omega), w64_nat (by omega), laws_eqIntS_l k (i + 1) l r hn hl (by omega) (by omega), List.drop_eq_getElem_cons h, List.drop_eq_getElem_cons (show i < r.length by omega)]
      by_cases e : l[i] = r[i]'(by omega)
      · rw [if_pos e, e]
        simp only [List.cons.injEq, true_and]
      · rw [if_neg e]
        simp only [List.cons.injEq, e, false_and, decide_false]
    · rw [if_neg (by omega), List.drop_of_length_le (by omega), List.drop_of_length_le (by omega)]
      simp
theorem laws_eqIntS_is (k : Nat) (l r : List Int) (hn : l.length ≤ 4611686018427387904) (hk : l.length < k) : laws_eqIntS.f k l r = some (decide (l = r)) := by
  unfold laws_eqIntS.f
  by_cases h : l.length = r.length
  · rw [if_pos (by omega)]
    have := laws_eqIntS_l k 0 l r hn (by omega) (by omega) (by omega)
    simpa using this
  · rw [if_neg (by omega)]
    have : l ≠ r := fun e => h (by rw [e])
    simp [this]
theorem laws_eqIntS_same (k : Nat) (l : List Int) (hn : l.length ≤ 4611686018427387904) (hk : l.length < k) : laws_eqIntS.f k l l = some true := by
  rw [laws_eqIntS_is k l l hn hk]
  simp
theorem laws_markIntS_l : ∀ (k : Nat) (post pre : List Int) (a : Int), -4611686018427387904 ≤ a → a + post.length ≤ 4611686018427387904 → pre.length + post.length ≤ 4611686018427387904 → post.length < k → laws_markIntS.l0 k (pre ++ post) a (pre.length : Int) = some (a + post.length, pre ++ marks a post.length)
  | 0, _, _, _, _, _, _, hk => by omega
  | k + 1, [], pre, a, _, _, _, _ => by
    simp only [laws_markIntS.l0]
    rw [if_neg (by simp)]
    simp [marks]
  | k + 1, x :: post, pre, a, h1, h2, h3, hk => by
    simp only [laws_markIntS.l0]
    simp only [List.length_cons] at h2 h3 hk
    rw [if_pos (by simp; omega), if_pos (by omega), w64_nat (by omega), w64 (by omega) (by omega)]
    rw [set_mid pre post x a _ (by simp)]
    have := laws_markIntS_l k post (pre ++ [a]) (a + 1) (by omega) (by omega) (by simp; omega) (by omega)
    simp only [List.append_assoc, List.singleton_append, List.length_append, List.length_cons, List.length_nil, Nat.zero_add] at this
    rw [this]
    simp only [List.length_cons, marks]
    congr 2
    omega
theorem laws_markIntS_is (k : Nat) (l : List Int) (a : Int) (h1 : -4611686018427387904 ≤ a) (h2 : a + l.length ≤ 4611686018427387904) (h3 : l.length ≤ 4611686018427387904) (hk : l.length < k) : laws_markIntS.f k l a = some (a + l.length, marks a l.length) := by
  unfold laws_markIntS.f
  exact laws_markIntS_l k l [] a h1 h2 (by simpa using h3) hk
theorem laws_szIntS_is (l : List Int) (a : Int) (h0 : 0 ≤ a) (h1 : a ≤ 4611686018427387904) (hl : l.length ≤ 9223372036854775807) : laws_szIntS.f l a = some (if (l.length : Int) ≤ a then a - l.length else -1) := by
  unfold laws_szIntS.f
  rw [w64 (by omega) (by omega)]
  by_cases h : (l.length : Int) ≤ a
  · rw [if_neg (by omega), if_pos h]
  · rw [if_pos (by omega), if_neg h]
theorem laws_szIntSS_l : ∀ (k i : Nat) (x : List (List Int)) (a : Int), 0 ≤ a → a ≤ 1048576 → x.length ≤ 1048576 → (∀ r ∈ x, r.length ≤ 9223372036854775807) → i ≤ x.length → x.length < i + k → ∃ v, laws_szIntSS.l0 k x a (i : Int) = some v ∧ (v < 0 ∨ (0 ≤ v ∧ v ≤ a ∧ ∀ r ∈ x.drop i, r.length ≤ 1048576))
  | 0, _, _, _, _, _, _, _, _, hk => by omega
  | k + 1, i, x, a, h0, h1, hn, hr, hi, hk => by
    simp only [laws_szIntSS.l0]
    by_cases h : i < x.length
    · have e : rd_L1 x (i : Int) = x[i] := by simp [rd_L1, h]
      have hx := hr x[i] (List.getElem_mem h)
      rw [if_pos (by omega), if_pos (by omega), e, laws_szIntS_is x[i] a h0 (by omega) hx]
      simp only [Option.bind_some]
      by_cases c : (x[i].length : Int) ≤ a
      · rw [if_pos c, if_neg (by omega), w64_nat (by omega)]
        obtain ⟨v, hv, hc⟩ := laws_szIntSS_l k (i + 1) x (a - x[i].length) (by omega) (by omega) hn hr (by omega) (by omega)
        refine ⟨v, hv, ?_⟩
        rcases hc with hc | ⟨a1, a2, a3⟩
        · exact .inl hc
        · refine .inr ⟨a1, by omega, fun r hr' => ?_⟩
          rw [List.drop_eq_getElem_cons h] at hr'
          rcases List.mem_cons.1 hr' with rfl | hr'
          · omega
          · exact a3 r hr'
      · rw [if_neg c, if_pos (by omega)]
        exact ⟨-1, rfl, .inl (by omega)⟩
    · rw [if_neg (by omega)]
      refine ⟨a, rfl, .inr ⟨h0, Int.le_refl _, fun r hr' => ?_⟩⟩
      rw [List.drop_of_length_le (by omega)] at hr'
      simp at hr'
theorem laws_szIntSS_tells (k : Nat) (x : List (List Int)) (a : Int) (h0 : 0 ≤ a) (h1 : a ≤ 1048576) (hn : x.length ≤ 9223372036854775807) (hr : ∀ r ∈ x, r.length ≤ 9223372036854775807) (hk : 1048576 < k) : ∃ v, laws_szIntSS.f k x a = some v ∧ (v < 0 ∨ (0 ≤ v ∧ v ≤ a ∧ x.length ≤ 1048576 ∧ ∀ r ∈ x, r.length ≤ 1048576)) := by
  unfold laws_szIntSS.f
  rw [w64 (by omega) (by omega)]
  by_cases c : (x.length : Int) ≤ a
  · rw [if_neg (by omega)]
    obtain ⟨v, hv, hc⟩ := laws_szIntSS_l k 0 x (a - x.length) (by omega) (by omega) (by omega) hr (by omega) (by omega)
    refine ⟨v, hv, ?_⟩
    rcases hc with hc | ⟨a1, a2, a3⟩
    · exact .inl hc
    · exact .inr ⟨a1, by omega, by omega, by simpa using a3⟩
  · rw [if_pos (by omega)]
    exact ⟨-1, rfl, .inl (by omega)⟩
theorem laws_szSample_tells (k : Nat) (x : List (List Int)) (m : List Int) (a : Int) (h0 : 0 ≤ a) (h1 : a ≤ 1048576) (hn : x.length ≤ 9223372036854775807) (hr : ∀ r ∈ x, r.length ≤ 9223372036854775807) (hm : m.length ≤ 9223372036854775807) (hk : 1048576 < k) : ∃ v, laws_szSample.f k x m a = some v ∧ (v < 0 ∨ (0 ≤ v ∧ v ≤ a ∧ x.length ≤ 1048576 ∧ (∀ r ∈ x, r.length ≤ 1048576) ∧ m.length ≤ 1048576)) := by
  unfold laws_szSample.f
  obtain ⟨v, hv, hc⟩ := laws_szIntSS_tells k x a h0 h1 hn hr hk
  rw [hv]
  simp only [Option.bind_some]
  rcases hc with hc | ⟨a1, a2, a3, a4⟩
  · rw [if_pos hc]
    exact ⟨-1, rfl, .inl (by omega)⟩
  · rw [if_neg (by omega), laws_szIntS_is m v a1 (by omega) hm]
    simp only [Option.bind_some]
    by_cases c : (m.length : Int) ≤ v
    · rw [if_pos c, if_neg (by omega)]
      exact ⟨_, rfl, .inr ⟨by omega, by omega, a3, a4, by omega⟩⟩
    · rw [if_neg c, if_pos (by omega)]
      exact ⟨-1, rfl, .inl (by omega)⟩
theorem laws_toIntSS_l : ∀ (k i : Nat) (l acc : List (List Int)), l.length ≤ 1048576 → (∀ r ∈ l, r.length ≤ 1048576) → acc.length = l.length → i ≤ l.length → l.length + 1048576 < i + k → (∀ j, j < i → acc[j]? = l[j]?) → laws_toIntSS.l0 k l acc (i : Int) = some l
  | 0, i, l, acc, _, _, _, _, hk, _ => by omega
  | k + 1, i, l, acc, hn, hr, hl, hi, hk, hj => by
    simp only [laws_toIntSS.l0]
    by_cases h : i < l.length
    · have e : rd_L1 l (i : Int) = l[i] := by simp [rd_L1, h]
      have hx := hr l[i] (List.getElem_mem h)
      rw [if_pos (by omega), if_pos (by omega), e, laws_toIntS_is k l[i] (by omega) (by omega)]
      simp only [Option.bind_some]
      rw [if_pos (by omega), w64_nat (by omega)]
      refine laws_toIntSS_l k (i + 1) l _ hn hr (by simp [hl]) (by omega) (by omega) fun j hj' => ?_
      rw [List.getElem?_set]
      by_cases e : i = j
      · subst e
        simp [h, hl]
      · simp only [Int.toNat_natCast]
        rw [if_neg e]
        exact hj j (by omega)
    · rw [if_neg (by omega)]
      congr 1
      refine List.ext_getElem? fun j => ?_
      by_cases e : j < i
      · exact hj j e
      · rw [List.getElem?_eq_none (by omega), List.getElem?_eq_none (by omega)]
theorem laws_toIntSS_is (k : Nat) (l : List (List Int)) (hn : l.length ≤ 1048576) (hr : ∀ r ∈ l, r.length ≤ 1048576) (hk : 2097152 < k) : laws_toIntSS.f k l = some l := by
  unfold laws_toIntSS.f
  rw [if_pos (by omega), if_pos (by omega)]
  exact laws_toIntSS_l k 0 l _ hn hr (by simp) (by omega) (by omega) fun j hj => by omega
theorem laws_toSample_is (k : Nat) (l : List (List Int)) (m : List Int) (hn : l.length ≤ 1048576) (hr : ∀ r ∈ l, r.length ≤ 1048576) (hm : m.length ≤ 1048576) (hk : 2097152 < k) : laws_toSample.f k l m = some (l, m) := by
  unfold laws_toSample.f
  rw [laws_toIntSS_is k l hn hr hk, Option.bind_some, laws_toIntS_is k m (by omega) (by omega)]
  rfl
theorem laws_eqIntSS_l : ∀ (k i : Nat) (l : List (List Int)), l.length ≤ 1048576 → (∀ r ∈ l, r.length ≤ 1048576) → i ≤ l.length → l.length + 1048576 < i + k → laws_eqIntSS.l0 k l l (i : Int) = some true
  | 0, i, l, _, _, _, hk => by omega
  | k + 1, i, l, hn, hr, hi, hk => by
    simp only [laws_eqIntSS.l0]
    by_cases h : i < l.length
    · have e : rd_L1 l (i : Int) = l[i] := by simp [rd_L1, h]
      have hx := hr l[i] (List.getElem_mem h)
      rw [if_pos (by omega), if_pos (by omega), if_pos (by omega), e, laws_eqIntS_same k l[i] (by omega) (by omega)]
      simp only [Option.bind_some, if_true]
      rw [w64_nat (by omega)]
      exact laws_eqIntSS_l k (i + 1) l hn hr (by omega) (by omega)
    · rw [if_neg (by omega)]
theorem laws_eqIntSS_same (k : Nat) (l : List (List Int)) (hn : l.length ≤ 1048576) (hr : ∀ r ∈ l, r.length ≤ 1048576) (hk : 2097152 < k) : laws_eqIntSS.f k l l = some true := by
  unfold laws_eqIntSS.f
  rw [if_pos rfl]
  exact laws_eqIntSS_l k 0 l hn hr (by omega) (by omega)
theorem laws_eqSample_same (k : Nat) (l : List (List Int)) (m : List Int) (hn : l.length ≤ 1048576) (hr : ∀ r ∈ l, r.length ≤ 1048576) (hm : m.length ≤ 1048576) (hk : 2097152 < k) : laws_eqSample.f k l m l m = some true := by
  unfold laws_eqSample.f
  rw [laws_eqIntSS_same k l hn hr hk, laws_eqIntS_same k m (by omega) (by omega)]
  rfl
theorem laws_markIntSS_l : ∀ (m k i : Nat) (l : List (List Int)) (a : Int), i + m = l.length → l.length ≤ 1048576 → (∀ r ∈ l, r.length ≤ 1048576) → 0 ≤ a → a + m * 1048576 ≤ 4611686018427387904 → 1048576 + m < k → ∃ v l', laws_markIntSS.l0 k l a (i : Int) = some (v, l') ∧ a ≤ v ∧ v ≤ a + m * 1048576
  | 0, k, i, l, a, hi, hn, hr, ha, hb, hk => by
    obtain ⟨k, rfl⟩ : ∃ q, k = q + 1 := ⟨k - 1, by omega⟩
    rw [laws_markIntSS.l0, if_neg (by omega)]
    exact ⟨a, l, rfl, by omega, by omega⟩
  | m + 1, k, i, l, a, hi, hn, hr, ha, hb, hk => by
    obtain ⟨k, rfl⟩ : ∃ q, k = q + 1 := ⟨k - 1, by omega⟩
    have h : i < l.length := by omega
    have e : rd_L1 l (i : Int) = l[i] := by simp [rd_L1, h]
    have hx := hr l[i] (List.getElem_mem h)
    rw [laws_markIntSS.l0, if_pos (by omega), if_pos (by omega), e, laws_markIntS_is k l[i] a (by omega) (by omega) (by omega) (by omega)]
    simp only [Option.bind_some]
    rw [w64_nat (by omega)]
    obtain ⟨v, l', hv, h1, h2⟩ := laws_markIntSS_l m k (i + 1) (l.set (i : Int).toNat (marks a l[i].length)) (a + l[i].length) (by simp; omega) (by simpa using hn) (fun r hr' => by
      rcases List.mem_or_eq_of_mem_set hr' with h | rfl
      · exact hr r h
      · rw [marks_length]; omega) (by omega) (by omega) (by omega)
    exact ⟨v, l', hv, by omega, by omega⟩
theorem laws_markIntSS_tells (k : Nat) (l : List (List Int)) (hn : l.length ≤ 1048576) (hr : ∀ r ∈ l, r.length ≤ 1048576) (hk : 2097152 < k) : ∃ v l', laws_markIntSS.f k l 1 = some (v, l') ∧ 1 ≤ v ∧ v ≤ 1099511627777 := by
  unfold laws_markIntSS.f
  obtain ⟨v, l', hv, h1, h2⟩ := laws_markIntSS_l l.length k 0 l 1 (by omega) hn hr (by omega) (by omega) (by omega)
  exact ⟨v, l', hv, by omega, by omega⟩
theorem laws_markSample_tells (k : Nat) (l : List (List Int)) (m : List Int) (hn : l.length ≤ 1048576) (hr : ∀ r ∈ l, r.length ≤ 1048576) (hm : m.length ≤ 1048576) (hk : 2097152 < k) : ∃ v l' m', laws_markSample.f k l m 1 = some (v, l', m') ∧ 1 ≤ v ∧ v ≤ 1099512676353 := by
  unfold laws_markSample.f
  obtain ⟨v, l', hv, h1, h2⟩ := laws_markIntSS_tells k l hn hr hk
  rw [hv, Option.bind_some, laws_markIntS_is k m v (by omega) (by omega) (by omega) (by omega)]
  exact ⟨_, _, _, rfl, by omega, by omega⟩
theorem laws_eqPlane_same (k : Nat) (ws : List Int) (b : Int) (hn : ws.length ≤ 4611686018427387904) (hk : ws.length < k) : laws_eqPlane.f k ws b ws b = some true := by
  unfold laws_eqPlane.f
  rw [laws_eqIntS_same k ws hn hk]
  simp
theorem spec_l2Labels_l : ∀ (k i : Nat) (l : List Int), l.length ≤ 4611686018427387904 → i ≤ l.length → l.length < i + k → spec_l2Labels.l0 k l (i : Int) = some ((l.drop i).all lbB)
  | 0, _, _, _, _, hk => by omega
  | k + 1, i, l, hn, hi', hk => by
    simp only [spec_l2Labels.l0]
    by_cases h : i < l.length
    · rw [if_pos (by omega), if_pos (by omega), rd_nat l i h, w64_nat (by omega), List.drop_eq_getElem_cons h, List.all_cons, spec_l2Labels_l k (i + 1) l hn (by omega) (by omega)]
      by_cases e1 : l[i] = 1
      · rw [if_pos e1]
        simp [lbB, e1]
      · by_cases e2 : l[i] = -1
        · rw [if_neg e1, if_pos e2]
          simp [lbB, e2]
        · rw [if_neg e1, if_neg e2]
          simp [lbB, e1, e2]
    · rw [if_neg (by omega), List.drop_of_length_le (by omega)]
      simp
theorem spec_l2Labels_is (k : Nat) (l : List Int) (hn : l.length ≤ 4611686018427387904) (hk : l.length < k) : spec_l2Labels.f k l = some (l.all lbB) := by
  unfold spec_l2Labels.f
  have := spec_l2Labels_l k 0 l hn (by omega) (by omega)
  simpa using this
theorem spec_l1In_is (a lo hi : Int) : spec_l1In.f a lo hi = some (inB lo hi a) := by
  unfold spec_l1In.f
  exact within_is a lo hi
theorem spec_l2Numbers_l : ∀ (k i : Nat) (l : List Int) (m : Int), -4611686018427387904 ≤ m → m ≤ 4611686018427387904 → l.length ≤ 4611686018427387904 → i ≤ l.length → l.length < i + k → spec_l2Numbers.l0 k l m (i : Int) = some ((l.drop i).all (inB (-m) m))
  | 0, _, _, _, _, _, _, _, hk => by omega
  | k + 1, i, l, m, h1, h2, hn, hi, hk => by
    simp only [spec_l2Numbers.l0]
    by_cases h : i < l.length
    · rw [if_pos (by omega), if_pos (by omega), spec_l1In_is, rd_nat l i h, w64_nat (by omega), w64 (by omega) (by omega), List.drop_eq_getElem_cons h, List.all_cons, spec_l2Numbers_l k (i + 1) l m h1 h2 hn (by omega) (by omega)]
      simp only [Option.bind_some]
      by_cases e : inB (-m) m l[i] = true
      · rw [if_pos e, e]
        simp
      · rw [if_neg e]
        simp [e]
    · rw [if_neg (by omega), List.drop_of_length_le (by omega)]
      simp
theorem spec_l2Numbers_is (k : Nat) (l : List Int) (m : Int) (h1 : -4611686018427387904 ≤ m) (h2 : m ≤ 4611686018427387904) (hn : l.length ≤ 4611686018427387904) (hk : l.length < k) : spec_l2Numbers.f k l m = some (l.all (inB (-m) m)) := by
  unfold spec_l2Numbers.f
  have := spec_l2Numbers_l k 0 l m h1 h2 hn (by omega) (by omega)
  simpa using this
theorem spec_l2Point_is (k : Nat) (l : List Int) (hn : l.length ≤ 4611686018427387904) (hk : l.length < k) : spec_l2Point.f k l = some (ptB l) := by
  unfold spec_l2Point.f ptB
  rw [spec_l1In_is, spec_l2Numbers_is k l 9 (by omega) (by omega) hn hk]
  simp only [Option.bind_some]
  cases inB 1 4 (l.length : Int) <;> simp
theorem spec_l2Sample_l (k0 : Nat) (hk0 : 1048576 < k0) : ∀ (k i : Nat) (l : List (List Int)) (m : List Int), l.length ≤ 16 → (∀ r ∈ l, r.length ≤ 1048576) → i ≤ l.length → l.length < i + k → spec_l2Sample.l0 (k + k0) (i : Int) l m = some ((l.drop i).all fun x => ptB x && decide (x.length = (l.headD []).length))
  | 0, i, l, m, _, _, _, hk => by omega
  | k + 1, i, l, m, hn, hr, hi, hk => by
    rw [show k + 1 + k0 = (k + k0) + 1 by omega]
    simp only [spec_l2Sample.l0]
    by_cases h : i < l.length
    · have e : rd_L1 l (i : Int) = l[i] := by simp [rd_L1, h]
      have e0 : rd_L1 l 0 = l.headD [] := by cases l <;> simp [rd_L1]
      have hx := hr l[i] (List.getElem_mem h)
      rw [if_pos (by omega), if_pos (by omega), e, spec_l2Point_is (k + k0) l[i] (by omega) (by omega), e0]
      simp only [Option.bind_some]
      rw [List.drop_eq_getElem_cons h, List.all_cons]
      by_cases c1 : ptB l[i] = true
      · rw [if_pos c1, if_pos (by omega), c1, Bool.true_and]
        by_cases c2 : l[i].length = (l.headD []).length
        · rw [if_pos (by omega), w64_nat (by omega), spec_l2Sample_l k0 hk0 k (i + 1) l m hn hr (by omega) (by omega)]
          simp [c2]
        · rw [if_neg (by omega)]
          simp only [c2, decide_false, Bool.false_and, Bool.and_false]
      · rw [if_neg c1]
        simp [c1]
    · rw [if_neg (by omega), List.drop_of_length_le (by omega)]
      simp
theorem spec_l2Sample_is (k : Nat) (l : List (List Int)) (m : List Int) (hr : ∀ r ∈ l, r.length ≤ 1048576) (hm : m.length ≤ 1048576) (hk : 1048600 < k) : spec_l2Sample.f k l m = some (smB l m) := by
  obtain ⟨k, rfl⟩ : ∃ q, k = q + 1 := ⟨k - 1, by omega⟩
  unfold spec_l2Sample.f smB
  by_cases c1 : l.length ≤ 16
  · rw [if_neg (by omega)]
    by_cases c2 : m.length = l.length
    · rw [if_pos (by omega), spec_l2Labels_is _ m (by omega) (by omega)]
      simp only [Option.bind_some, spec_l2Sample.j0]
      have := spec_l2Sample_l (k - 17) (by omega) 17 0 l m c1 hr (by omega) (by omega)
      rw [show 17 + (k - 17) = k by omega] at this
      rw [show ((0 : Nat) : Int) = 0 from rfl] at this
      rw [this]
      cases e : m.all lbB
      · simp
      · simp [c1, c2]
    · rw [if_neg (by omega)]
      simp [spec_l2Sample.j0, c2]
  · rw [if_pos (by omega)]
    simp [spec_l2Sample.j0, c1]
theorem spec_l2Plane_is (k : Nat) (ws : List Int) (b : Int) (hn : ws.length ≤ 4611686018427387904) (hk : ws.length < k) : spec_l2Plane.f k ws b = some (plB ws b) := by
  unfold spec_l2Plane.f plB
  rw [spec_l1In_is, spec_l2Numbers_is k ws 99 (by omega) (by omega) hn hk, spec_l1In_is]
  simp only [Option.bind_some]
  cases inB 1 4 (ws.length : Int) <;> cases ws.all (inB (-99) 99) <;> simp
theorem rd_mid_nat (pre post : List Int) (x : Int) : rd (pre ++ x :: post) ((pre.length : Nat) : Int) = x := rd_mid pre post x _ rfl
/-- the plane of counts, point by point -/
def pcL : List (List Int) → List Int → List Int → List Int → Int → List Int × Int
  | p :: ps, l :: ls, c :: cs, acc, b => pcL ps ls cs (wadd (wrap64 (c * l)) acc p) (wrap64 (b - wrap64 (c * l)))
  | _, _, _, acc, b => (acc, b)
theorem pcL_length {d : Nat} : ∀ (ps : List (List Int)) (ls cs acc : List Int) (b : Int), (∀ p ∈ ps, p.length = d) → acc.length = d → (pcL ps ls cs acc b).1.length = d
  | [], ls, cs, acc, b, _, h => by simp [pcL, h]
  | p :: ps, [], cs, acc, b, _, h => by simp [pcL, h]
  | p :: ps, l :: ls, [], acc, b, _, h => by simp [pcL, h]
  | p :: ps, l :: ls, c :: cs, acc, b, hp, h => by
    have := hp p (by simp)
    rw [pcL, pcL_length ps ls cs _ _ (fun z hz => hp z (List.mem_cons_of_mem _ hz)) (by rw [wadd_length _ _ _ (by omega)]; exact h)]
theorem spec_PlaneOfCounts_l1 (cs : List Int) (ps : List (List Int)) (ls : List Int) (b : Int) (i : Nat) (hi : i < ps.length) (hl : i < ls.length) (hc : i < cs.length) : ∀ (ppost : List Int) (k : Nat) (ppre pre post : List Int), rd_L1 ps (i : Int) = ppre ++ ppost → pre.length = ppre.length → post.length = ppost.length → pre.length + post.length ≤ 1000 → spec_PlaneOfCounts.l1 (k + ppost.length + 1) cs (i : Int) (ppre.length : Int) ps ls (pre ++ post) b = spec_PlaneOfCounts.l0 k cs (wrap64 ((i : Int) + 1)) ps ls (pre ++ wadd (wrap64 (rd cs i * rd ls i)) post ppost) (wrap64 (b - wrap64 (rd cs i * rd ls i)))
  | [], k, ppre, pre, post, he, h1, h2, h3 => by
    have : post = [] := List.length_eq_zero_iff.1 h2
    subst this
    rw [List.length_nil, Nat.add_zero, spec_PlaneOfCounts.l1, if_neg (by simp; omega), if_pos (by omega), if_pos (by omega), if_pos (by omega)]
    simp [wadd]
  | x :: ppost, k, ppre, pre, [], he, h1, h2, h3 => by simp at h2
  | x :: ppost, k, ppre, pre, y :: post, he, h1, h2, h3 => by
    simp only [List.length_cons] at h2 h3
    rw [show k + (x :: ppost).length + 1 = (k + ppost.length + 1) + 1 by simp; omega, spec_PlaneOfCounts.l1, if_pos (by simp; omega), if_pos (by omega), if_pos (by omega), if_pos (by omega), if_pos (by omega), if_pos (by omega), he, if_pos (by simp; omega), w64_nat (by omega), rd_mid_nat, ← h1, rd_mid_nat, set_mid pre post y _ _ (by simp)]
    have ih := spec_PlaneOfCounts_l1 cs ps ls b i hi hl hc ppost k (ppre ++ [x]) (pre ++ [wrap64 (y + wrap64 (wrap64 (rd cs i * rd ls i) * x))]) post (by rw [he]; simp) (by simp [h1]) (by omega) (by simp; omega)
    simp only [List.append_assoc, List.singleton_append, List.length_append, List.length_cons, List.length_nil, Nat.zero_add] at ih
    rw [← h1] at ih
    rw [ih]
    simp [wadd]
theorem spec_PlaneOfCounts_l0 (cs : List Int) (ps : List (List Int)) (ls : List Int) (hs : smB ps ls = true) (hl : cs.length = ps.length) : ∀ (m k i : Nat) (acc : List Int) (b : Int), i + m = ps.length → acc.length = (ps.headD []).length → acc.length ≤ 4 → 20 + m * 20 < k → spec_PlaneOfCounts.l0 k cs (i : Int) ps ls acc b = some (if (cs.drop i).all (inB 0 999) then (if plB (pcL (ps.drop i) (ls.drop i) (cs.drop i) acc b).1 (pcL (ps.drop i) (ls.drop i) (cs.drop i) acc b).2 then ((pcL (ps.drop i) (ls.drop i) (cs.drop i) acc b).1, (pcL (ps.drop i) (ls.drop i) (cs.drop i) acc b).2, true) else ([], 0, false)) else ([], 0, false))
  | 0, k, i, acc, b, hi, ha, h4, hk => by
    obtain ⟨k, rfl⟩ : ∃ z, k = z + 1 := ⟨k - 1, by omega⟩
    rw [spec_PlaneOfCounts.l0, if_neg (by omega), List.drop_of_length_le (show ps.length ≤ i by omega), List.drop_of_length_le (show cs.length ≤ i by omega), spec_l2Plane_is k acc b (by omega) (by omega)]
    rw [Option.bind_some]
    by_cases c : plB acc b = true <;> simp [c, pcL]
  | m + 1, k, i, acc, b, hi, ha, h4, hk => by
    obtain ⟨h16, hlen, _, hrow⟩ := smB_parts hs
    obtain ⟨k, rfl⟩ : ∃ z, k = z + 1 := ⟨k - 1, by omega⟩
    have i1 : i < ps.length := by omega
    have i2 : i < ls.length := by omega
    have i3 : i < cs.length := by omega
    have e : rd_L1 ps (i : Int) = ps[i] := by simp [rd_L1, i1]
    obtain ⟨q1, q2⟩ := hrow ps[i] (List.getElem_mem i1)
    have q3 := (ptB_parts q1).2.2
    rw [spec_PlaneOfCounts.l0, if_pos (by omega), if_pos (by omega), spec_l1In_is, Option.bind_some, rd_nat cs i i3, List.drop_eq_getElem_cons i1, List.drop_eq_getElem_cons i2, List.drop_eq_getElem_cons i3, List.all_cons]
    by_cases c : inB 0 999 cs[i] = true
    · rw [if_pos c, c, Bool.true_and]
      have l1 := spec_PlaneOfCounts_l1 cs ps ls b i i1 i2 i3 ps[i] (k - ps[i].length - 1) [] [] acc (by rw [e]; rfl) rfl (by omega) (by simp; omega)
      rw [show k - ps[i].length - 1 + ps[i].length + 1 = k by omega] at l1
      simp only [List.length_nil, List.nil_append, rd_nat cs i i3, rd_nat ls i i2] at l1
      rw [show ((0 : Nat) : Int) = 0 from rfl] at l1
      rw [l1, w64_nat (by omega), spec_PlaneOfCounts_l0 cs ps ls hs hl m _ (i + 1) _ _ (by omega) (by rw [wadd_length _ _ _ (by omega)]; exact ha) (by rw [wadd_length _ _ _ (by omega)]; exact h4) (by omega)]
      rw [pcL]
    · rw [if_neg c]
      simp [c]
def pcR (ps : List (List Int)) (ls cs : List Int) : List Int × Int × Bool := if smB ps ls && decide (0 < ps.length) && decide (cs.length = ps.length) && cs.all (inB 0 999) then (if plB (pcL ps ls cs (List.replicate (ps.headD []).length 0) 0).1 (pcL ps ls cs (List.replicate (ps.headD []).length 0) 0).2 then ((pcL ps ls cs (List.replicate (ps.headD []).length 0) 0).1, (pcL ps ls cs (List.replicate (ps.headD []).length 0) 0).2, true) else ([], 0, false)) else ([], 0, false)
theorem pcR_length (ps : List (List Int)) (ls cs : List Int) : (pcR ps ls cs).1.length ≤ 4 := by
  unfold pcR
  split
  · split
    · rename_i h
      exact (plB_parts h).2.2.1
    · simp
  · simp
theorem spec_PlaneOfCounts_is (k : Nat) (ps : List (List Int)) (ls cs : List Int) (hr : ∀ r ∈ ps, r.length ≤ 1048576) (hm : ls.length ≤ 1048576) (hc : cs.length ≤ 1048576) (hk : 1048610 < k) : spec_PlaneOfCounts.f k ps ls cs = some (pcR ps ls cs) := by
  obtain ⟨k, rfl⟩ : ∃ q, k = q + 1 := ⟨k - 1, by omega⟩
  have e0 : spec_PlaneOfCounts.j0 (k + 1) cs true ps ls = some ([], 0, false) := by simp [spec_PlaneOfCounts.j0]
  unfold spec_PlaneOfCounts.f pcR
  rw [spec_l2Sample_is (k + 1) ps ls hr hm (by omega), Option.bind_some]
  by_cases c1 : smB ps ls = true
  · rw [if_pos c1, c1, Bool.true_and]
    by_cases c2 : ps.length = 0
    · rw [if_pos (by omega), e0, if_neg (by simp [c2])]
    · rw [if_neg (by omega)]
      by_cases c3 : cs.length = ps.length
      · rw [show ((cs.length : Int) != (ps.length : Int)) = false by simp [c3], decide_eq_true (show 0 < ps.length by omega), decide_eq_true c3, Bool.true_and, Bool.true_and]
        obtain ⟨h16, hlen, _, hrow⟩ := smB_parts c1
        have e1 : rd_L1 ps 0 = ps.headD [] := by cases ps <;> simp [rd_L1]
        have q : (ps.headD []).length ≤ 4 := by
          cases ps with
          | nil => simp at c2
          | cons x t => have := ptB_parts (hrow x (by simp)).1; simp; omega
        have l0 := spec_PlaneOfCounts_l0 cs ps ls c1 c3 ps.length k 0 (List.replicate (ps.headD []).length 0) 0 (by omega) (by simp) (by simpa using q) (by omega)
        rw [spec_PlaneOfCounts.j0, if_neg (by simp), if_pos (by omega), e1, if_pos (by omega), if_pos (by omega)]
        simp only [Int.toNat_natCast]
        rw [show (0 : Int) = ((0 : Nat) : Int) from rfl]
        simpa using l0
      · rw [show ((cs.length : Int) != (ps.length : Int)) = true by simp; omega, e0, if_neg (by simp [c3])]
  · rw [if_neg c1, e0, if_neg (by simp [c1])]
theorem impl_within_is (a lo hi : Int) : impl_within.f a lo hi = some (inB lo hi a) := by
  unfold impl_within.f
  exact within_is a lo hi
theorem impl_allWithin_l : ∀ (k i : Nat) (l : List Int) (lo hi : Int), l.length ≤ 4611686018427387904 → i ≤ l.length → l.length < i + k → impl_allWithin.l0 k lo hi l (l.length : Int) (i : Int) = some ((l.drop i).all (inB lo hi))
  | 0, _, _, _, _, _, _, hk => by omega
  | k + 1, i, l, lo, hi, hn, hi', hk => by
    simp only [impl_allWithin.l0]
    by_cases h : i < l.length
    · rw [if_pos (by omega), if_pos (by omega), if_pos (by omega), impl_within_is, rd_nat l i h, w64_nat (by omega), List.drop_eq_getElem_cons h, List.all_cons, impl_allWithin_l k (i + 1) l lo hi hn (by omega) (by omega)]
      simp only [Option.bind_some]
      by_cases e : inB lo hi l[i] = true
      · rw [if_pos e, e]
        simp
      · rw [if_neg e]
        simp [e]
    · rw [if_neg (by omega), List.drop_of_length_le (by omega)]
      simp
theorem impl_allWithin_is (k : Nat) (l : List Int) (lo hi : Int) (hn : l.length ≤ 4611686018427387904) (hk : l.length < k) : impl_allWithin.f k l lo hi = some (l.all (inB lo hi)) := by
  unfold impl_allWithin.f
  have := impl_allWithin_l k 0 l lo hi hn (by omega) (by omega)
  simpa using this
theorem impl_isLabel_is (a : Int) : impl_isLabel.f a = some (lbB a) := by
  unfold impl_isLabel.f lbB
  by_cases e1 : a = 1
  · rw [if_pos e1]
    simp [e1]
  · rw [if_neg e1]
    congr 1
    by_cases e2 : a = -1
    · simp [e2]
    · simp [e1, e2]
theorem impl_IsPoint_is (k : Nat) (l : List Int) (hn : l.length ≤ 4611686018427387904) (hk : l.length < k) : impl_IsPoint.f k l = some (ptB l) := by
  unfold impl_IsPoint.f ptB
  rw [impl_within_is, impl_allWithin_is k l (-9) 9 hn hk]
  simp only [Option.bind_some]
  cases inB 1 4 (l.length : Int) <;> simp
theorem impl_IsSample_l (k0 : Nat) (hk0 : 1048576 < k0) : ∀ (k i : Nat) (l : List (List Int)) (m : List Int), l.length ≤ 16 → m.length = l.length → (∀ r ∈ l, r.length ≤ 1048576) → i ≤ l.length → l.length < i + k → impl_IsSample.l0 (k + k0) l (l.length : Int) (i : Int) l m = some ((m.drop i).all lbB && (l.drop i).all fun x => ptB x && decide (x.length = (l.headD []).length))
  | 0, i, l, m, _, _, _, _, hk => by omega
  | k + 1, i, l, m, hn, hm, hr, hi, hk => by
    rw [show k + 1 + k0 = (k + k0) + 1 by omega]
    simp only [impl_IsSample.l0]
    by_cases h : i < l.length
    · have h' : i < m.length := by omega
      have e : rd_L1 l (i : Int) = l[i] := by simp [rd_L1, h]
      have e0 : rd_L1 l 0 = l.headD [] := by cases l <;> simp [rd_L1]
      have hx := hr l[i] (List.getElem_mem h)
      rw [if_pos (by omega), if_pos (by omega), if_pos (by omega), e, impl_IsPoint_is (k + k0) l[i] (by omega) (by omega), e0]
      simp only [Option.bind_some]
      rw [List.drop_eq_getElem_cons h, List.all_cons, List.drop_eq_getElem_cons h', List.all_cons]
      by_cases c1 : ptB l[i] = true
      · rw [if_pos c1, if_pos (by omega), c1, Bool.true_and]
        by_cases c2 : l[i].length = (l.headD []).length
        · rw [if_pos (by omega), if_pos (by omega), impl_isLabel_is, rd_nat m i h', w64_nat (by omega), impl_IsSample_l k0 hk0 k (i + 1) l m hn hm hr (by omega) (by omega)]
          simp only [Option.bind_some]
          by_cases c3 : lbB m[i] = true
          · rw [if_pos c3, c3]
            simp [c2]
          · rw [if_neg c3]
            simp [c3]
        · rw [if_neg (by omega)]
          simp only [c2, decide_false, Bool.false_and, Bool.and_false]
      · rw [if_neg c1]
        simp [c1]
    · rw [if_neg (by omega), List.drop_of_length_le (by omega), List.drop_of_length_le (by omega)]
      simp
theorem impl_IsSample_is (k : Nat) (l : List (List Int)) (m : List Int) (hr : ∀ r ∈ l, r.length ≤ 1048576) (hm : m.length ≤ 1048576) (hk : 1048600 < k) : impl_IsSample.f k l m = some (smB l m) := by
  obtain ⟨k, rfl⟩ : ∃ q, k = q + 1 := ⟨k - 1, by omega⟩
  unfold impl_IsSample.f smB
  by_cases c1 : l.length ≤ 16
  · rw [if_neg (by omega)]
    simp only [impl_IsSample.j0]
    by_cases c2 : m.length = l.length
    · rw [if_neg (by simp [c2])]
      have := impl_IsSample_l (k - 17) (by omega) 17 0 l m c1 c2 hr (by omega) (by omega)
      rw [show 17 + (k - 17) = k by omega] at this
      rw [show ((0 : Nat) : Int) = 0 from rfl] at this
      rw [this]
      simp [c1, c2]
    · rw [if_pos (by simp; omega)]
      simp [c2]
  · rw [if_pos (by omega)]
    simp [impl_IsSample.j0, c1]
theorem impl_IsPlane_is (k : Nat) (ws : List Int) (b : Int) (hn : ws.length ≤ 4611686018427387904) (hk : ws.length < k) : impl_IsPlane.f k ws b = some (plB ws b) := by
  unfold impl_IsPlane.f plB
  rw [impl_within_is, impl_allWithin_is k ws (-99) 99 hn hk, impl_within_is]
  simp only [Option.bind_some]
  cases inB 1 4 (ws.length : Int) <;> cases ws.all (inB (-99) 99) <;> simp
theorem impl_PlaneOfCounts_l1 (cs : List Int) (ps : List (List Int)) (P : List (List Int)) (L : List Int) (n b : Int) (i : Nat) : ∀ (ppost : List Int) (k : Nat) (ppre pre post : List Int) (row : List Int), row = ppre ++ ppost → pre.length = ppre.length → post.length = ppost.length → pre.length + post.length ≤ 1000 → impl_PlaneOfCounts.l1 (k + ppost.length + 1) cs n ps (ps.length : Int) (i : Int) row (row.length : Int) (ppre.length : Int) P L (pre ++ post) b = impl_PlaneOfCounts.l0 k cs ps (ps.length : Int) (wrap64 ((i : Int) + 1)) P L (pre ++ wadd n post ppost) (wrap64 (b - n))
  | [], k, ppre, pre, post, row, he, h1, h2, h3 => by
    have : post = [] := List.length_eq_zero_iff.1 h2
    subst this
    rw [List.length_nil, Nat.add_zero, impl_PlaneOfCounts.l1, if_neg (by rw [he]; simp)]
    simp [wadd]
  | x :: ppost, k, ppre, pre, [], row, he, h1, h2, h3 => by simp at h2
  | x :: ppost, k, ppre, pre, y :: post, row, he, h1, h2, h3 => by
    simp only [List.length_cons] at h2 h3
    have hrl : row.length = ppre.length + (ppost.length + 1) := by rw [he]; simp
    have er : rd row ((ppre.length : Nat) : Int) = x := by rw [he]; exact rd_mid_nat _ _ _
    rw [show k + (x :: ppost).length + 1 = (k + ppost.length + 1) + 1 by simp; omega, impl_PlaneOfCounts.l1, if_pos (by omega), if_pos (by omega), if_pos (by omega), if_pos (by simp; omega), er, w64_nat (by omega), ← h1, rd_mid_nat, set_mid pre post y _ _ (by simp)]
    have ih := impl_PlaneOfCounts_l1 cs ps P L n b i ppost k (ppre ++ [x]) (pre ++ [wrap64 (y + wrap64 (n * x))]) post row (by rw [he]; simp) (by simp [h1]) (by omega) (by simp; omega)
    simp only [List.append_assoc, List.singleton_append, List.length_append, List.length_cons, List.length_nil, Nat.zero_add] at ih
    rw [← h1] at ih
    rw [ih]
    simp [wadd]
theorem impl_PlaneOfCounts_l0 (cs : List Int) (ps : List (List Int)) (ls : List Int) (hs : smB ps ls = true) (hl : cs.length = ps.length) : ∀ (m k i : Nat) (acc : List Int) (b : Int), i + m = ps.length → acc.length = (ps.headD []).length → acc.length ≤ 4 → 20 + m * 20 < k → impl_PlaneOfCounts.l0 k cs ps (ps.length : Int) (i : Int) ps ls acc b = some (if plB (pcL (ps.drop i) (ls.drop i) (cs.drop i) acc b).1 (pcL (ps.drop i) (ls.drop i) (cs.drop i) acc b).2 then ((pcL (ps.drop i) (ls.drop i) (cs.drop i) acc b).1, (pcL (ps.drop i) (ls.drop i) (cs.drop i) acc b).2, true) else ([], 0, false))
  | 0, k, i, acc, b, hi, ha, h4, hk => by
    obtain ⟨k, rfl⟩ : ∃ z, k = z + 1 := ⟨k - 1, by omega⟩
    rw [impl_PlaneOfCounts.l0, if_neg (by omega), List.drop_of_length_le (show ps.length ≤ i by omega), impl_IsPlane_is k acc b (by omega) (by omega)]
    rw [Option.bind_some]
    by_cases c : plB acc b = true <;> simp [c, pcL]
  | m + 1, k, i, acc, b, hi, ha, h4, hk => by
    obtain ⟨h16, hlen, _, hrow⟩ := smB_parts hs
    obtain ⟨k, rfl⟩ : ∃ z, k = z + 1 := ⟨k - 1, by omega⟩
    have i1 : i < ps.length := by omega
    have i2 : i < ls.length := by omega
    have i3 : i < cs.length := by omega
    have e : rd_L1 ps (i : Int) = ps[i] := by simp [rd_L1, i1]
    obtain ⟨q1, q2⟩ := hrow ps[i] (List.getElem_mem i1)
    have q3 := (ptB_parts q1).2.2
    have l1 := impl_PlaneOfCounts_l1 cs ps ps ls (wrap64 (cs[i] * ls[i])) b i ps[i] (k - ps[i].length - 1) [] [] acc ps[i] rfl rfl (by omega) (by simp; omega)
    rw [show k - ps[i].length - 1 + ps[i].length + 1 = k by omega] at l1
    simp only [List.length_nil, List.nil_append] at l1
    rw [show ((0 : Nat) : Int) = 0 from rfl] at l1
    rw [impl_PlaneOfCounts.l0, if_pos (by omega), if_pos (by omega), if_pos (by omega), if_pos (by omega), if_pos (by omega), rd_nat cs i i3, rd_nat ls i i2, e, Int.mul_comm ls[i] cs[i], l1, w64_nat (by omega), impl_PlaneOfCounts_l0 cs ps ls hs hl m _ (i + 1) _ _ (by omega) (by rw [wadd_length _ _ _ (by omega)]; exact ha) (by rw [wadd_length _ _ _ (by omega)]; exact h4) (by omega), List.drop_eq_getElem_cons i1, List.drop_eq_getElem_cons i2, List.drop_eq_getElem_cons i3, pcL]
theorem impl_PlaneOfCounts_is (k : Nat) (ps : List (List Int)) (ls cs : List Int) (hr : ∀ r ∈ ps, r.length ≤ 1048576) (hm : ls.length ≤ 1048576) (hc : cs.length ≤ 1048576) (hk : 1048610 < k) : impl_PlaneOfCounts.f k ps ls cs = some (pcR ps ls cs) := by
  obtain ⟨k, rfl⟩ : ∃ q, k = q + 1 := ⟨k - 1, by omega⟩
  have e0 : impl_PlaneOfCounts.j0 (k + 1) cs true ps ls = some ([], 0, false) := by simp [impl_PlaneOfCounts.j0]
  unfold impl_PlaneOfCounts.f pcR
  rw [impl_IsSample_is (k + 1) ps ls hr hm (by omega), Option.bind_some]
  by_cases c1 : smB ps ls = true
  · rw [if_pos c1, c1, Bool.true_and]
    by_cases c2 : ps.length = 0
    · rw [if_pos (by omega), e0, if_neg (by simp [c2])]
    · rw [if_neg (by omega)]
      by_cases c3 : cs.length = ps.length
      · rw [if_pos (by omega), impl_allWithin_is (k + 1) cs 0 999 (by omega) (by omega), Option.bind_some, decide_eq_true (show 0 < ps.length by omega), decide_eq_true c3, Bool.true_and, Bool.true_and]
        by_cases c4 : cs.all (inB 0 999) = true
        · rw [if_pos c4, c4, Bool.not_true]
          obtain ⟨h16, hlen, _, hrow⟩ := smB_parts c1
          have e1 : rd_L1 ps 0 = ps.headD [] := by cases ps <;> simp [rd_L1]
          have q : (ps.headD []).length ≤ 4 := by
            cases ps with
            | nil => simp at c2
            | cons x t => have := ptB_parts (hrow x (by simp)).1; simp; omega
          have l0 := impl_PlaneOfCounts_l0 cs ps ls c1 c3 ps.length k 0 (List.replicate (ps.headD []).length 0) 0 (by omega) (by simp) (by simpa using q) (by omega)
          rw [impl_PlaneOfCounts.j0, if_neg (by simp), if_pos (by omega), e1, if_pos (by omega), if_pos (by omega)]
          simp only [Int.toNat_natCast]
          rw [show (0 : Int) = ((0 : Nat) : Int) from rfl]
          simpa using l0
        · rw [if_neg c4, Bool.eq_false_iff.2 c4, Bool.not_false, e0]
      · rw [if_neg (by omega), e0, if_neg (by simp [c3])]
  · rw [if_neg c1, e0, if_neg (by simp [c1])]
theorem laws_markPlane_is (k : Nat) (l : List Int) (b a : Int) (h1 : -4611686018427387904 ≤ a) (h2 : a + l.length ≤ 4611686018427387904) (h3 : l.length ≤ 4611686018427387904) (hk : l.length < k) : laws_markPlane.f k l b a = some (a + l.length, marks a l.length) := by
  unfold laws_markPlane.f
  rw [laws_markIntS_is k l a h1 h2 h3 hk]
  rfl
theorem laws_heldIntS_l : ∀ (k n i : Nat) (a b : Int), -4611686018427387904 ≤ a → a + n ≤ 4611686018427387904 → n ≤ 4611686018427387904 → i ≤ n → n < i + k → b = a + i → laws_heldIntS.l0 k (marks a n) b (i : Int) = some (a + n)
  | 0, _, _, _, _, _, _, _, _, hk, _ => by omega
  | k + 1, n, i, a, b, h1, h2, h3, hi, hk, hb => by
    simp only [laws_heldIntS.l0, marks_length]
    by_cases h : i < n
    · rw [if_pos (by omega), if_pos (by omega), rd_nat _ i (by rw [marks_length]; exact h), marks_get, if_pos hb.symm, w64_nat (by omega), w64 (by omega) (by omega)]
      exact laws_heldIntS_l k n (i + 1) a _ h1 h2 h3 (by omega) (by omega) (by omega)
    · rw [if_neg (by omega)]
      congr 1
      omega
theorem laws_heldIntS_is (k n : Nat) (a : Int) (h1 : -4611686018427387904 ≤ a) (h2 : a + n ≤ 4611686018427387904) (h3 : n ≤ 4611686018427387904) (hk : n < k) : laws_heldIntS.f k (marks a n) a = some (a + n) := by
  unfold laws_heldIntS.f
  exact laws_heldIntS_l k n 0 a a h1 h2 h3 (by omega) (by omega) (by omega)
theorem laws_heldPlane_is (k n : Nat) (b a : Int) (h0 : 0 ≤ a) (h2 : a + n ≤ 4611686018427387904) (h3 : n ≤ 4611686018427387904) (hk : n < k) : laws_heldPlane.f k (marks a n) b a = some (a + n) := by
  unfold laws_heldPlane.f
  rw [laws_heldIntS_is k n a (by omega) h2 h3 hk]
  simp only [Option.bind_some]
  rw [if_neg (by omega)]
theorem FnExactPlaneOfCounts : ∀ (l0 : List (List Int)) (m0 : List Int) (l1 : List Int), l0.length ≤ maxLen → (∀ r ∈ l0, r.length ≤ maxLen ∧ ∀ x ∈ r, (Lit.int .i64 x).wf = true) → m0.length ≤ maxLen → (∀ x ∈ m0, (Lit.int .i64 x).wf = true) → l1.length ≤ maxLen → (∀ x ∈ l1, (Lit.int .i64 x).wf = true) → ∃ k, laws_FnExactPlaneOfCounts.f k l0 m0 l1 = some true := by
  intro l m cs hl hr hm _ hw _
  unfold maxLen at hl hr hm hw
  obtain ⟨K, hK⟩ : ∃ K, 3000000 ≤ K := ⟨_, Nat.le_refl _⟩
  refine ⟨K + 1 + 1 + 1, ?_⟩
  unfold laws_FnExactPlaneOfCounts.f
  by_cases g : (cs.length : Int) > 1048576
  · rw [if_pos g]
  · rw [if_neg g]
    obtain ⟨v, hv, hc⟩ := laws_szSample_tells (K + 1 + 1 + 1) l m 1048576 (by omega) (by omega) (by omega) (fun r h => by have := (hr r h).1; omega) (by omega) (by omega)
    rw [hv]
    simp only [Option.bind_some]
    rcases hc with hc | ⟨a1, a2, a3, a4, a5⟩
    · rw [if_pos hc]
    · have hq := pcR_length l m cs
      have a6 : cs.length ≤ 1048576 := by omega
      obtain ⟨w, l', m', hmk, b1, b2⟩ := laws_markSample_tells (K + 1 + 1) l m a3 a4 a5 (by omega)
      rw [if_neg (by omega), laws_toSample_is _ l m a3 a4 a5 (by omega)]
      simp only [Option.bind_some]
      rw [laws_toIntS_is _ cs (by omega) (by omega)]
      simp only [Option.bind_some]
      rw [spec_PlaneOfCounts_is _ l m cs a4 a5 a6 (by omega), impl_PlaneOfCounts_is _ l m cs a4 a5 a6 (by omega)]
      simp only [Option.bind_some, bne_self]
      rw [laws_eqPlane_same _ _ _ (by omega) (by omega)]
      simp only [Option.bind_some, if_true, laws_FnExactPlaneOfCounts.j0]
      rw [if_neg (by simp), laws_toSample_is _ l m a3 a4 a5 (by omega)]
      simp only [Option.bind_some]
      rw [laws_eqSample_same _ l m a3 a4 a5 (by omega)]
      simp only [Option.bind_some, if_true]
      rw [laws_toIntS_is _ cs (by omega) (by omega)]
      simp only [Option.bind_some]
      rw [laws_eqIntS_same _ cs (by omega) (by omega)]
      simp only [Option.bind_some, if_true]
      rw [hmk]
      simp only [Option.bind_some]
      rw [laws_markIntS_is _ cs w (by omega) (by omega) (by omega) (by omega)]
      simp only [Option.bind_some, bne_self]
      rw [if_neg (by omega), laws_eqPlane_same _ _ _ (by omega) (by omega)]
      simp only [Option.bind_some, if_true, laws_FnExactPlaneOfCounts.j1]
      rw [if_neg (by simp), laws_markPlane_is _ _ _ 1 (by omega) (by omega) (by omega) (by omega)]
      simp only [Option.bind_some]
      rw [laws_heldPlane_is _ _ _ 1 (by omega) (by omega) (by omega) (by omega)]
      simp only [Option.bind_some]
      rw [if_neg (by omega), laws_toSample_is _ l m a3 a4 a5 (by omega)]
      simp only [Option.bind_some, if_true]
      rw [laws_toIntS_is _ cs (by omega) (by omega)]
      simp only [Option.bind_some]
      rw [impl_PlaneOfCounts_is _ l m cs a4 a5 a6 (by omega)]
      simp only [Option.bind_some, bne_self]
      rw [laws_eqPlane_same _ _ _ (by omega) (by omega)]
      simp only [Option.bind_some, if_true, laws_FnExactPlaneOfCounts.j2]
      rw [if_neg (by simp), laws_heldPlane_is _ _ _ 1 (by omega) (by omega) (by omega) (by omega)]
      simp only [Option.bind_some]
      rw [if_neg (by omega)]
      simp

end Go.Proofs.Ytgbgkifddjeabaa.Pure
