/- Proved: the law FnExactSidesOf answers true for every sample and plane; no condition. -/
import Derived.Test.YtgbgkifddjeabaaQFnExactSidesOfx9
import Derived.Test.YtgbgkifddjeabaaBase
set_option linter.unusedVariables false
set_option linter.unusedSimpArgs false
namespace Go.Proofs.Ytgbgkifddjeabaa.Pure
open Go.RowKit Go.Proofs.Ytgbgkifddjeabaa.QFnExactSidesOf Go.Proofs.YtgbgkifddjeabaaW.PrintWords Go.Proofs.YtgbgkifddjeabaaW.PrintLast Go.Proofs.YtgbgkifddjeabaaW.PrintMore Go.Proofs.Ytgbgkifddjeabaa.Base

theorem laws_eqIntS_l : ∀ (k i : Nat) (l r : List Int), l.length ≤ 4611686018427387904 → r.length = l.length → i ≤ l.length → l.length < i + k → laws_eqIntS.l0 k l r (i : Int) = some (decide (l.drop i = r.drop i))
  | 0, i, l, r, _, _, _, hk => by omega
  | k + 1, i, l, r, hn, hl, hi, hk => by
    simp only [laws_eqIntS.l0]
    by_cases h : i < l.length
    · rw [if_pos (by omega), if_pos (by omega), if_pos (by omega), rd_nat l i h, rd_nat r i (by omega), w64_nat (by omega), laws_eqIntS_l k (i + 1) l r hn hl (by omega) (by omega), List.drop_eq_getElem_cons h, List.drop_eq_getElem_cons (show i < r.length by omega)]
      by_cases e : l[i] = r[i]'(by omega)
      · rw [if_pos e, e]
        simp only [List.cons.injEq, true_and]
      · rw [if_neg e]
        simp only [List.cons.injEq, e, false_and, decide_false]
    · rw [if_neg (by omega), List.drop_of_length_le (by omega), List.drop_of_length_le (by omega)]
      simp
theorem laws_eqIntS_is (k : Nat) (l r : List Int) (hn : l.length ≤ 4611686018427387904) (hk : l.length < k) : laws_eqIntS.f k l r = some (decide (l = r)) := by
  unfold laws_eqIntS.f
  by_cases h : l.length = r.length
  · rw [if_pos (by omega)]
    have := laws_eqIntS_l k 0 l r hn (by omega) (by omega) (by omega)
    simpa using this
  · rw [if_neg (by omega)]
    have : l ≠ r := fun e => h (by rw [e])
    simp [this]
theorem laws_eqIntS_same (k : Nat) (l : List Int) (hn : l.length ≤ 4611686018427387904) (hk : l.length < k) : laws_eqIntS.f k l l = some true := by
  rw [laws_eqIntS_is k l l hn hk]
  simp
theorem laws_markIntS_l : ∀ (k : Nat) (post pre : List Int) (a : Int), -4611686018427387904 ≤ a → a + post.length ≤ 4611686018427387904 → pre.length + post.length ≤ 4611686018427387904 → post.length < k → laws_markIntS.l0 k (pre ++ post) a (pre.length : Int) = some (a + post.length, pre ++ marks a post.length)
  | 0, _, _, _, _, _, _, hk => by omega
  | k + 1, [], pre, a, _, _, _, _ => by
    simp only [laws_markIntS.l0]
    rw [if_neg (by simp)]
    simp [marks]
  | k + 1, x :: post, pre, a, h1, h2, h3, hk => by
    simp only [laws_markIntS.l0]
    simp only [List.length_cons] at h2 h3 hk
    rw [if_pos (by simp; omega), if_pos (by omega), w64_nat (by omega), w64 (by omega) (by omega)]
    rw [set_mid pre post x a _ (by simp)]
    have := laws_markIntS_l k post (pre ++ [a]) (a + 1) (by omega) (by omega) (by simp; omega) (by omega)
    simp only [List.append_assoc, List.singleton_append, List.length_append, List.length_cons, List.length_nil, Nat.zero_add] at this
    rw [this]
    simp only [List.length_cons, marks]
    congr 2
    omega
theorem laws_markIntS_is (k : Nat) (l : List Int) (a : Int) (h1 : -4611686018427387904 ≤ a) (h2 : a + l.length ≤ 4611686018427387904) (h3 : l.length ≤ 4611686018427387904) (hk : l.length < k) : laws_markIntS.f k l a = some (a + l.length, marks a l.length) := by
  unfold laws_markIntS.f
  exact laws_markIntS_l k l [] a h1 h2 (by simpa using h3) hk
theorem laws_heldIntS_l : ∀ (k n i : Nat) (a b : Int), -4611686018427387904 ≤ a → a + n ≤ 4611686018427387904 → n ≤ 4611686018427387904 → i ≤ n → n < i + k → b = a + i → laws_heldIntS.l0 k (marks a n) b (i : Int) = some (a + n)
  | 0, _, _, _, _, _, _, _, _, hk, _ => by omega
  | k + 1, n, i, a, b, h1, h2, h3, hi, hk, hb => by
    simp only [laws_heldIntS.l0, marks_length]
    by_cases h : i < n
    · rw [if_pos (by omega), if_pos (by omega), rd_nat _ i (by rw [marks_length]; exact h), marks_get, if_pos hb.symm, w64_nat (by omega), w64 (by omega) (by omega)]
      exact laws_heldIntS_l k n (i + 1) a _ h1 h2 h3 (by omega) (by omega) (by omega)
    · rw [if_neg (by omega)]
      congr 1
      omega
theorem laws_heldIntS_is (k n : Nat) (a : Int) (h1 : -4611686018427387904 ≤ a) (h2 : a + n ≤ 4611686018427387904) (h3 : n ≤ 4611686018427387904) (hk : n < k) : laws_heldIntS.f k (marks a n) a = some (a + n) := by
  unfold laws_heldIntS.f
  exact laws_heldIntS_l k n 0 a a h1 h2 h3 (by omega) (by omega) (by omega)
theorem laws_szIntS_is (l : List Int) (a : Int) (h0 : 0 ≤ a) (h1 : a ≤ 4611686018427387904) (hl : l.length ≤ 9223372036854775807) : laws_szIntS.f l a = some (if (l.length : Int) ≤ a then a - l.length else -1) := by
  unfold laws_szIntS.f
  rw [w64 (by omega) (by omega)]
  by_cases h : (l.length : Int) ≤ a
  · rw [if_neg (by omega), if_pos h]
  · rw [if_pos (by omega), if_neg h]
theorem laws_szIntSS_l : ∀ (k i : Nat) (x : List (List Int)) (a : Int), 0 ≤ a → a ≤ 1048576 → x.length ≤ 1048576 → (∀ r ∈ x, r.length ≤ 9223372036854775807) → i ≤ x.length → x.length < i + k → ∃ v, laws_szIntSS.l0 k x a (i : Int) = some v ∧ (v < 0 ∨ (0 ≤ v ∧ v ≤ a ∧ ∀ r ∈ x.drop i, r.length ≤ 1048576))
  | 0, _, _, _, _, _, _, _, _, hk => by omega
  | k + 1, i, x, a, h0, h1, hn, hr, hi, hk => by
    simp only [laws_szIntSS.l0]
    by_cases h : i < x.length
    · have e : rd_L1 x (i : Int) = x[i] := by simp [rd_L1, h]
      have hx := hr x[i] (List.getElem_mem h)
      rw [if_pos (by omega), if_pos (by omega), e, laws_szIntS_is x[i] a h0 (by omega) hx]
      simp only [Option.bind_some]
      by_cases c : (x[i].length : Int) ≤ a
      · rw [if_pos c, if_neg (by omega), w64_nat (by omega)]
        obtain ⟨v, hv, hc⟩ := laws_szIntSS_l k (i + 1) x (a - x[i].length) (by omega) (by omega) hn hr (by omega) (by omega)
        refine ⟨v, hv, ?_⟩
        rcases hc with hc | ⟨a1, a2, a3⟩
        · exact .inl hc
        · refine .inr ⟨a1, by omega, fun r hr' => ?_⟩
          rw [List.drop_eq_getElem_cons h] at hr'
          rcases List.mem_cons.1 hr' with rfl | hr'
          · omega
          · exact a3 r hr'
      · rw [if_neg c, if_pos (by omega)]
        exact ⟨-1, rfl, .inl (by omega)⟩
    · rw [if_neg (by omega)]
      refine ⟨a, rfl, .inr ⟨h0, Int.le_refl _, fun r hr' => ?_⟩⟩
      rw [List.drop_of_length_le (by omega)] at hr'
      simp at hr'
theorem laws_szIntSS_tells (k : Nat) (x : List (List Int)) (a : Int) (h0 : 0 ≤ a) (h1 : a ≤ 1048576) (hn : x.length ≤ 9223372036854775807) (hr : ∀ r ∈ x, r.length ≤ 9223372036854775807) (hk : 1048576 < k) : ∃ v, laws_szIntSS.f k x a = some v ∧ (v < 0 ∨ (0 ≤ v ∧ v ≤ a ∧ x.length ≤ 1048576 ∧ ∀ r ∈ x, r.length ≤ 1048576)) := by
  unfold laws_szIntSS.f
  rw [w64 (by omega) (by omega)]
  by_cases c : (x.length : Int) ≤ a
  · rw [if_neg (by omega)]
    obtain ⟨v, hv, hc⟩ := laws_szIntSS_l k 0 x (a - x.length) (by omega) (by omega) (by omega) hr (by omega) (by omega)
    refine ⟨v, hv, ?_⟩
    rcases hc with hc | ⟨a1, a2, a3⟩
    · exact .inl hc
    · exact .inr ⟨a1, by omega, by omega, by simpa using a3⟩
  · rw [if_pos (by omega)]
    exact ⟨-1, rfl, .inl (by omega)⟩
theorem laws_szSample_tells (k : Nat) (x : List (List Int)) (m : List Int) (a : Int) (h0 : 0 ≤ a) (h1 : a ≤ 1048576) (hn : x.length ≤ 9223372036854775807) (hr : ∀ r ∈ x, r.length ≤ 9223372036854775807) (hm : m.length ≤ 9223372036854775807) (hk : 1048576 < k) : ∃ v, laws_szSample.f k x m a = some v ∧ (v < 0 ∨ (0 ≤ v ∧ v ≤ a ∧ x.length ≤ 1048576 ∧ (∀ r ∈ x, r.length ≤ 1048576) ∧ m.length ≤ 1048576)) := by
  unfold laws_szSample.f
  obtain ⟨v, hv, hc⟩ := laws_szIntSS_tells k x a h0 h1 hn hr hk
  rw [hv]
  simp only [Option.bind_some]
  rcases hc with hc | ⟨a1, a2, a3, a4⟩
  · rw [if_pos hc]
    exact ⟨-1, rfl, .inl (by omega)⟩
  · rw [if_neg (by omega), laws_szIntS_is m v a1 (by omega) hm]
    simp only [Option.bind_some]
    by_cases c : (m.length : Int) ≤ v
    · rw [if_pos c, if_neg (by omega)]
      exact ⟨_, rfl, .inr ⟨by omega, by omega, a3, a4, by omega⟩⟩
    · rw [if_neg c, if_pos (by omega)]
      exact ⟨-1, rfl, .inl (by omega)⟩
theorem laws_toIntS_l : ∀ (k i : Nat) (l acc : List Int), l.length ≤ 4611686018427387904 → acc.length = l.length → i ≤ l.length → l.length < i + k → (∀ j, j < i → acc[j]? = l[j]?) → laws_toIntS.l0 k l acc (i : Int) = some l
  | 0, i, l, acc, _, _, _, hk, _ => by omega
  | k + 1, i, l, acc, hn, hl, hi, hk, hj => by
    simp only [laws_toIntS.l0]
    by_cases h : i < l.length
    · rw [if_pos (by omega), if_pos (by omega), if_pos (by omega), rd_nat l i h, w64_nat (by omega)]
      refine laws_toIntS_l k (i + 1) l _ hn (by simp [hl]) (by omega) (by omega) fun j hj' => ?_
      rw [List.getElem?_set]
      by_cases e : i = j
      · subst e
        simp [h, hl]
      · simp only [Int.toNat_natCast]
        rw [if_neg e]
        exact hj j (by omega)
    · rw [if_neg (by omega)]
      congr 1
      refine List.ext_getElem? fun j => ?_
      by_cases e : j < i
      · exact hj j e
      · rw [List.getElem?_eq_none (by omega), List.getElem?_eq_none (by omega)]
theorem laws_toIntS_is (k : Nat) (l : List Int) (hn : l.length ≤ 35184372088832) (hk : l.length < k) : laws_toIntS.f k l = some l := by
  unfold laws_toIntS.f
  rw [if_pos (by omega), if_pos (by omega)]
  exact laws_toIntS_l k 0 l _ (by omega) (by simp) (by omega) (by omega) fun j hj => by omega
theorem laws_toIntSS_l : ∀ (k i : Nat) (l acc : List (List Int)), l.length ≤ 1048576 → (∀ r ∈ l, r.length ≤ 1048576) → acc.length = l.length → i ≤ l.length → l.length + 1048576 < i + k → (∀ j, j < i → acc[j]? = l[j]?) → laws_toIntSS.l0 k l acc (i : Int) = some l
  | 0, i, l, acc, _, _, _, _, hk, _ => by omega
  | k + 1, i, l, acc, hn, hr, hl, hi, hk, hj => by
    simp only [laws_toIntSS.l0]
    by_cases h : i < l.length
    · have e : rd_L1 l (i : Int) = l[i] := by simp [rd_L1, h]
      have hx := hr l[i] (List.getElem_mem h)
      rw [if_pos (by omega), if_pos (by omega), e, laws_toIntS_is k l[i] (by omega) (by omega)]
      simp only [Option.bind_some]
      rw [if_pos (by omega), w64_nat (by omega)]
      refine laws_toIntSS_l k (i + 1) l _ hn hr (by simp [hl]) (by omega) (by omega) fun j hj' => ?_
      rw [List.getElem?_set]
      by_cases e : i = j
      · subst e
        simp [h, hl]
      · simp only [Int.toNat_natCast]
        rw [if_neg e]
        exact hj j (by omega)
    · rw [if_neg (by omega)]
      congr 1
      refine List.ext_getElem? fun j => ?_
      by_cases e : j < i
      · exact hj j e
      · rw [List.getElem?_eq_none (by omega), List.getElem?_eq_none (by omega)]
theorem laws_toIntSS_is (k : Nat) (l : List (List Int)) (hn : l.length ≤ 1048576) (hr : ∀ r ∈ l, r.length ≤ 1048576) (hk : 2097152 < k) : laws_toIntSS.f k l = some l := by
  unfold laws_toIntSS.f
  rw [if_pos (by omega), if_pos (by omega)]
  exact laws_toIntSS_l k 0 l _ hn hr (by simp) (by omega) (by omega) fun j hj => by omega
theorem laws_toSample_is (k : Nat) (l : List (List Int)) (m : List Int) (hn : l.length ≤ 1048576) (hr : ∀ r ∈ l, r.length ≤ 1048576) (hm : m.length ≤ 1048576) (hk : 2097152 < k) : laws_toSample.f k l m = some (l, m) := by
  unfold laws_toSample.f
  rw [laws_toIntSS_is k l hn hr hk, Option.bind_some, laws_toIntS_is k m (by omega) (by omega)]
  rfl
theorem laws_eqIntSS_l : ∀ (k i : Nat) (l : List (List Int)), l.length ≤ 1048576 → (∀ r ∈ l, r.length ≤ 1048576) → i ≤ l.length → l.length + 1048576 < i + k → laws_eqIntSS.l0 k l l (i : Int) = some true
  | 0, i, l, _, _, _, hk => by omega
  | k + 1, i, l, hn, hr, hi, hk => by
    simp only [laws_eqIntSS.l0]
    by_cases h : i < l.length
    · have e : rd_L1 l (i : Int) = l[i] := by simp [rd_L1, h]
      have hx := hr l[i] (List.getElem_mem h)
      rw [if_pos (by omega), if_pos (by omega), if_pos (by omega), e, laws_eqIntS_same k l[i] (by omega) (by omega)]
      simp only [Option.bind_some, if_true]
      rw [w64_nat (by omega)]
      exact laws_eqIntSS_l k (i + 1) l hn hr (by omega) (by omega)
    · rw [if_neg (by omega)]
theorem laws_eqIntSS_same (k : Nat) (l : List (List Int)) (hn : l.length ≤ 1048576) (hr : ∀ r ∈ l, r.length ≤ 1048576) (hk : 2097152 < k) : laws_eqIntSS.f k l l = some true := by
  unfold laws_eqIntSS.f
  rw [if_pos rfl]
  exact laws_eqIntSS_l k 0 l hn hr (by omega) (by omega)
theorem laws_eqSample_same (k : Nat) (l : List (List Int)) (m : List Int) (hn : l.length ≤ 1048576) (hr : ∀ r ∈ l, r.length ≤ 1048576) (hm : m.length ≤ 1048576) (hk : 2097152 < k) : laws_eqSample.f k l m l m = some true := by
  unfold laws_eqSample.f
  rw [laws_eqIntSS_same k l hn hr hk, laws_eqIntS_same k m (by omega) (by omega)]
  rfl
theorem laws_markIntSS_l : ∀ (m k i : Nat) (l : List (List Int)) (a : Int), i + m = l.length → l.length ≤ 1048576 → (∀ r ∈ l, r.length ≤ 1048576) → 0 ≤ a → a + m * 1048576 ≤ 4611686018427387904 → 1048576 + m < k → ∃ v l', laws_markIntSS.l0 k l a (i : Int) = some (v, l') ∧ a ≤ v ∧ v ≤ a + m * 1048576
  | 0, k, i, l, a, hi, hn, hr, ha, hb, hk => by
    obtain ⟨k, rfl⟩ : ∃ q, k = q + 1 := ⟨k - 1, by omega⟩
    rw [laws_markIntSS.l0, if_neg (by omega)]
    exact ⟨a, l, rfl, by omega, by omega⟩
  | m + 1, k, i, l, a, hi, hn, hr, ha, hb, hk => by
    obtain ⟨k, rfl⟩ : ∃ q, k = q + 1 := ⟨k - 1, by omega⟩
    have h : i < l.length := by omega
    have e : rd_L1 l (i : Int) = l[i] := by simp [rd_L1, h]
    have hx := hr l[i] (List.getElem_mem h)
    rw [laws_markIntSS.l0, if_pos (by omega), if_pos (by omega), e, laws_markIntS_is k l[i] a (by omega) (by omega) (by omega) (by omega)]
    simp only [Option.bind_some]
    rw [w64_nat (by omega)]
    obtain ⟨v, l', hv, h1, h2⟩ := laws_markIntSS_l m k (i + 1) (l.set (i : Int).toNat (marks a l[i].length)) (a + l[i].length) (by simp; omega) (by simpa using hn) (fun r hr' => by
      rcases List.mem_or_eq_of_mem_set hr' with h | rfl
      · exact hr r h
      · rw [marks_length]; omega) (by omega) (by omega) (by omega)
    exact ⟨v, l', hv, by omega, by omega⟩
theorem laws_markIntSS_tells (k : Nat) (l : List (List Int)) (hn : l.length ≤ 1048576) (hr : ∀ r ∈ l, r.length ≤ 1048576) (hk : 2097152 < k) : ∃ v l', laws_markIntSS.f k l 1 = some (v, l') ∧ 1 ≤ v ∧ v ≤ 1099511627777 := by
  unfold laws_markIntSS.f
  obtain ⟨v, l', hv, h1, h2⟩ := laws_markIntSS_l l.length k 0 l 1 (by omega) hn hr (by omega) (by omega) (by omega)
  exact ⟨v, l', hv, by omega, by omega⟩
theorem laws_markSample_tells (k : Nat) (l : List (List Int)) (m : List Int) (hn : l.length ≤ 1048576) (hr : ∀ r ∈ l, r.length ≤ 1048576) (hm : m.length ≤ 1048576) (hk : 2097152 < k) : ∃ v l' m', laws_markSample.f k l m 1 = some (v, l', m') ∧ 1 ≤ v ∧ v ≤ 1099512676353 := by
  unfold laws_markSample.f
  obtain ⟨v, l', hv, h1, h2⟩ := laws_markIntSS_tells k l hn hr hk
  rw [hv, Option.bind_some, laws_markIntS_is k m v (by omega) (by omega) (by omega) (by omega)]
  exact ⟨_, _, _, rfl, by omega, by omega⟩
theorem laws_szPlane_is (ws : List Int) (b a : Int) (h0 : 0 ≤ a) (h1 : a ≤ 4611686018427387904) (hl : ws.length ≤ 9223372036854775807) : laws_szPlane.f ws b a = some (if (ws.length : Int) ≤ a then a - ws.length else -1) := by
  unfold laws_szPlane.f
  rw [laws_szIntS_is ws a h0 h1 hl]
  simp only [Option.bind_some]
  by_cases h : (ws.length : Int) ≤ a
  · rw [if_pos h, if_neg (by omega)]
  · rw [if_neg h, if_pos (by omega)]
theorem laws_toPlane_is (k : Nat) (ws : List Int) (b : Int) (hn : ws.length ≤ 35184372088832) (hk : ws.length < k) : laws_toPlane.f k ws b = some (ws, b) := by
  unfold laws_toPlane.f
  rw [laws_toIntS_is k ws hn hk]
  simp only [Option.bind_some]
theorem laws_eqPlane_same (k : Nat) (ws : List Int) (b : Int) (hn : ws.length ≤ 4611686018427387904) (hk : ws.length < k) : laws_eqPlane.f k ws b ws b = some true := by
  unfold laws_eqPlane.f
  rw [laws_eqIntS_same k ws hn hk]
  simp
theorem laws_markPlane_is (k : Nat) (l : List Int) (b a : Int) (h1 : -4611686018427387904 ≤ a) (h2 : a + l.length ≤ 4611686018427387904) (h3 : l.length ≤ 4611686018427387904) (hk : l.length < k) : laws_markPlane.f k l b a = some (a + l.length, marks a l.length) := by
  unfold laws_markPlane.f
  rw [laws_markIntS_is k l a h1 h2 h3 hk]
  rfl
theorem spec_l2Labels_l : ∀ (k i : Nat) (l : List Int), l.length ≤ 4611686018427387904 → i ≤ l.length → l.length < i + k → spec_l2Labels.l0 k l (i : Int) = some ((l.drop i).all lbB)
  | 0, _, _, _, _, hk => by omega
  | k + 1, i, l, hn, hi', hk => by
    simp only [spec_l2Labels.l0]
    by_cases h : i < l.length
    · rw [if_pos (by omega), if_pos (by omega), rd_nat l i h, w64_nat (by omega), List.drop_eq_getElem_cons h, List.all_cons, spec_l2Labels_l k (i + 1) l hn (by omega) (by omega)]
      by_cases e1 : l[i] = 1
      · rw [if_pos e1]
        simp [lbB, e1]
      · by_cases e2 : l[i] = -1
        · rw [if_neg e1, if_pos e2]
          simp [lbB, e2]
        · rw [if_neg e1, if_neg e2]
          simp [lbB, e1, e2]
    · rw [if_neg (by omega), List.drop_of_length_le (by omega)]
      simp
theorem spec_l2Labels_is (k : Nat) (l : List Int) (hn : l.length ≤ 4611686018427387904) (hk : l.length < k) : spec_l2Labels.f k l = some (l.all lbB) := by
  unfold spec_l2Labels.f
  have := spec_l2Labels_l k 0 l hn (by omega) (by omega)
  simpa using this
theorem spec_l1In_is (a lo hi : Int) : spec_l1In.f a lo hi = some (inB lo hi a) := by
  unfold spec_l1In.f
  exact within_is a lo hi
theorem spec_l2Numbers_l : ∀ (k i : Nat) (l : List Int) (m : Int), -4611686018427387904 ≤ m → m ≤ 4611686018427387904 → l.length ≤ 4611686018427387904 → i ≤ l.length → l.length < i + k → spec_l2Numbers.l0 k l m (i : Int) = some ((l.drop i).all (inB (-m) m))
  | 0, _, _, _, _, _, _, _, hk => by omega
  | k + 1, i, l, m, h1, h2, hn, hi, hk => by
    simp only [spec_l2Numbers.l0]
    by_cases h : i < l.length
    · rw [if_pos (by omega), if_pos (by omega), spec_l1In_is, rd_nat l i h, w64_nat (by omega), w64 (by omega) (by omega), List.drop_eq_getElem_cons h, List.all_cons, spec_l2Numbers_l k (i + 1) l m h1 h2 hn (by omega) (by omega)]
      simp only [Option.bind_some]
      by_cases e : inB (-m) m l[i] = true
      · rw [if_pos e, e]
        simp
      · rw [if_neg e]
        simp [e]
    · rw [if_neg (by omega), List.drop_of_length_le (by omega)]
      simp
theorem spec_l2Numbers_is (k : Nat) (l : List Int) (m : Int) (h1 : -4611686018427387904 ≤ m) (h2 : m ≤ 4611686018427387904) (hn : l.length ≤ 4611686018427387904) (hk : l.length < k) : spec_l2Numbers.f k l m = some (l.all (inB (-m) m)) := by
  unfold spec_l2Numbers.f
  have := spec_l2Numbers_l k 0 l m h1 h2 hn (by omega) (by omega)
  simpa using this
theorem spec_l2Point_is (k : Nat) (l : List Int) (hn : l.length ≤ 4611686018427387904) (hk : l.length < k) : spec_l2Point.f k l = some (ptB l) := by
  unfold spec_l2Point.f ptB
  rw [spec_l1In_is, spec_l2Numbers_is k l 9 (by omega) (by omega) hn hk]
  simp only [Option.bind_some]
  cases inB 1 4 (l.length : Int) <;> simp
theorem spec_l2Sample_l (k0 : Nat) (hk0 : 1048576 < k0) : ∀ (k i : Nat) (l : List (List Int)) (m : List Int), l.length ≤ 16 → (∀ r ∈ l, r.length ≤ 1048576) → i ≤ l.length → l.length < i + k → spec_l2Sample.l0 (k + k0) (i : Int) l m = some ((l.drop i).all fun x => ptB x && decide (x.length = (l.headD []).length))
  | 0, i, l, m, _, _, _, hk => by omega
  | k + 1, i, l, m, hn, hr, hi, hk => by
    rw [show k + 1 + k0 = (k + k0) + 1 by omega]
    simp only [spec_l2Sample.l0]
    by_cases h : i < l.length
    · have e : rd_L1 l (i : Int) = l[i] := by simp [rd_L1, h]
      have e0 : rd_L1 l 0 = l.headD [] := by cases l <;> simp [rd_L1]
      have hx := hr l[i] (List.getElem_mem h)
      rw [if_pos (by omega), if_pos (by omega), e, spec_l2Point_is (k + k0) l[i] (by omega) (by omega), e0]
      simp only [Option.bind_some]
      rw [List.drop_eq_getElem_cons h, List.all_cons]
      by_cases c1 : ptB l[i] = true
      · rw [if_pos c1, if_pos (by omega), c1, Bool.true_and]
        by_cases c2 : l[i].length = (l.headD []).length
        · rw [if_pos (by omega), w64_nat (by omega), spec_l2Sample_l k0 hk0 k (i + 1) l m hn hr (by omega) (by omega)]
          simp [c2]
        · rw [if_neg (by omega)]
          simp only [c2, decide_false, Bool.false_and, Bool.and_false]
      · rw [if_neg c1]
        simp [c1]
    · rw [if_neg (by omega), List.drop_of_length_le (by omega)]
      simp
theorem spec_l2Sample_is (k : Nat) (l : List (List Int)) (m : List Int) (hr : ∀ r ∈ l, r.length ≤ 1048576) (hm : m.length ≤ 1048576) (hk : 1048600 < k) : spec_l2Sample.f k l m = some (smB l m) := by
  obtain ⟨k, rfl⟩ : ∃ q, k = q + 1 := ⟨k - 1, by omega⟩
  unfold spec_l2Sample.f smB
  by_cases c1 : l.length ≤ 16
  · rw [if_neg (by omega)]
    by_cases c2 : m.length = l.length
    · rw [if_pos (by omega), spec_l2Labels_is _ m (by omega) (by omega)]
      simp only [Option.bind_some, spec_l2Sample.j0]
      have := spec_l2Sample_l (k - 17) (by omega) 17 0 l m c1 hr (by omega) (by omega)
      rw [show 17 + (k - 17) = k by omega] at this
      rw [show ((0 : Nat) : Int) = 0 from rfl] at this
      rw [this]
      cases e : m.all lbB
      · simp
      · simp [c1, c2]
    · rw [if_neg (by omega)]
      simp [spec_l2Sample.j0, c2]
  · rw [if_pos (by omega)]
    simp [spec_l2Sample.j0, c1]
theorem spec_l2Plane_is (k : Nat) (ws : List Int) (b : Int) (hn : ws.length ≤ 4611686018427387904) (hk : ws.length < k) : spec_l2Plane.f k ws b = some (plB ws b) := by
  unfold spec_l2Plane.f plB
  rw [spec_l1In_is, spec_l2Numbers_is k ws 99 (by omega) (by omega) hn hk, spec_l1In_is]
  simp only [Option.bind_some]
  cases inB 1 4 (ws.length : Int) <;> cases ws.all (inB (-99) 99) <;> simp
theorem spec_l2Both_is (k : Nat) (ps : List (List Int)) (ls ws : List Int) (b : Int) (hr : ∀ r ∈ ps, r.length ≤ 1048576) (hm : ls.length ≤ 1048576) (hw : ws.length ≤ 1048576) (hk : 1048600 < k) : spec_l2Both.f k ps ls ws b = some (suitsB ps ls ws b) := by
  unfold spec_l2Both.f suitsB
  rw [spec_l2Sample_is k ps ls hr hm hk, spec_l2Plane_is k ws b (by omega) (by omega)]
  simp only [Option.bind_some]
  have e0 : rd_L1 ps 0 = ps.headD [] := by cases ps <;> simp [rd_L1]
  cases c1 : smB ps ls
  · simp
  · cases c2 : plB ws b
    · simp
    · rw [if_pos rfl, if_pos rfl]
      by_cases c3 : ps.length = 0
      · rw [if_pos (by omega)]
        simp [c3]
      · rw [if_neg (by omega), if_pos (by omega), e0]
        congr 1
        by_cases c4 : (ps.headD []).length = ws.length
        · simp only [c4, beq_self_eq_true, decide_true, Bool.or_true, Bool.and_true]
        · have : ¬ (((ps.headD []).length : Int) = (ws.length : Int)) := by omega
          simp only [c3, c4, decide_false, Bool.or_false, Bool.and_false, Bool.or_self]
          exact beq_eq_false_iff_ne.2 this
theorem spec_l2Dot_l : ∀ (k i : Nat) (x y : List Int) (s : Int), x.length ≤ 4611686018427387904 → x.length ≤ y.length → i ≤ x.length → x.length < i + k → spec_l2Dot.l0 k x y s (i : Int) = some (wdot s (x.drop i) (y.drop i))
  | 0, _, _, _, _, _, _, _, hk => by omega
  | k + 1, i, x, y, s, hn, hl, hi, hk => by
    simp only [spec_l2Dot.l0]
    by_cases h : i < x.length
    · have hy' : i < y.length := by omega
      rw [if_pos (by omega), if_pos (by omega), if_pos (by omega), rd_nat x i h, rd_nat y i hy', w64_nat (by omega)]
      rw [spec_l2Dot_l k (i + 1) x y _ hn hl (by omega) (by omega), List.drop_eq_getElem_cons h, List.drop_eq_getElem_cons hy']
      simp only [wdot]
    · rw [if_neg (by omega), List.drop_of_length_le (by omega)]
      simp [wdot]
theorem spec_l2Dot_is (k : Nat) (x y : List Int) (hn : x.length ≤ 4611686018427387904) (hl : x.length ≤ y.length) (hk : x.length < k) : spec_l2Dot.f k x y = some (wdot 0 x y) := by
  unfold spec_l2Dot.f
  have := spec_l2Dot_l k 0 x y 0 hn hl (by omega) (by omega)
  simpa using this
def sideI (ws : List Int) (b : Int) (x : List Int) : Int := if wdot 0 ws x ≥ b then 1 else -1
theorem spec_l2Side_is (k : Nat) (ws : List Int) (b : Int) (x : List Int) (h1 : ws.length ≤ 4611686018427387904) (hl : ws.length ≤ x.length) (hk : ws.length < k) : spec_l2Side.f k ws b x = some (sideI ws b x) := by
  unfold spec_l2Side.f sideI
  rw [spec_l2Dot_is k ws x h1 hl hk]
  simp only [Option.bind_some]
  split <;> rfl
theorem spec_l2Sides_l (ps : List (List Int)) (ls ws : List Int) (b : Int) (hp : ps.length ≤ 16) (hw : ws.length ≤ 4) (hd : ∀ x ∈ ps, x.length = ws.length) : ∀ (m k i : Nat) (acc : List Int), i + m = ps.length → acc.length = i → 10 + m < k → spec_l2Sides.l0 k acc (i : Int) ps ls ws b = some (acc ++ (ps.drop i).map (sideI ws b))
  | 0, k, i, acc, hi, ha, hk => by
    obtain ⟨k, rfl⟩ : ∃ q, k = q + 1 := ⟨k - 1, by omega⟩
    rw [spec_l2Sides.l0, if_neg (by omega), List.drop_of_length_le (by omega)]
    simp
  | m + 1, k, i, acc, hi, ha, hk => by
    obtain ⟨k, rfl⟩ : ∃ q, k = q + 1 := ⟨k - 1, by omega⟩
    have h : i < ps.length := by omega
    have e : rd_L1 ps (i : Int) = ps[i] := by simp [rd_L1, h]
    have hx := hd ps[i] (List.getElem_mem h)
    rw [spec_l2Sides.l0, if_pos (by omega), if_pos (by omega), e, spec_l2Side_is k ws b ps[i] (by omega) (by omega) (by omega), Option.bind_some, if_pos (by omega), w64_nat (by omega), spec_l2Sides_l ps ls ws b hp hw hd m k (i + 1) _ (by omega) (by simp [ha]) (by omega), List.drop_eq_getElem_cons h]
    simp only [List.map_cons, List.append_assoc, List.singleton_append]
def sidesR (ps : List (List Int)) (ls ws : List Int) (b : Int) : List Int × Bool := if suitsB ps ls ws b then (ps.map (sideI ws b), true) else ([], false)
theorem sidesR_length (ps : List (List Int)) (ls ws : List Int) (b : Int) : (sidesR ps ls ws b).1.length ≤ ps.length := by
  unfold sidesR
  split <;> simp
theorem spec_SidesOf_is (k : Nat) (ps : List (List Int)) (ls ws : List Int) (b : Int) (hr : ∀ r ∈ ps, r.length ≤ 1048576) (hm : ls.length ≤ 1048576) (hw : ws.length ≤ 1048576) (hk : 1048600 < k) : spec_SidesOf.f k ps ls ws b = some (sidesR ps ls ws b) := by
  unfold spec_SidesOf.f sidesR
  rw [spec_l2Both_is k ps ls ws b hr hm hw hk, Option.bind_some]
  by_cases c : suitsB ps ls ws b = true
  · rw [if_pos c, if_pos c]
    obtain ⟨c1, c2, c3⟩ := suitsB_parts c
    have := spec_l2Sides_l ps ls ws b (smB_parts c1).1 (plB_parts c2).2.2.1 c3 ps.length k 0 [] (by omega) rfl (by have := (smB_parts c1).1; omega)
    unfold spec_l2Sides.f
    rw [show (0 : Int) = ((0 : Nat) : Int) from rfl, this]
    simp
  · rw [if_neg c, if_neg c]
theorem impl_isLabel_is (a : Int) : impl_isLabel.f a = some (lbB a) := by
  unfold impl_isLabel.f lbB
  by_cases e1 : a = 1
  · rw [if_pos e1]
    simp [e1]
  · rw [if_neg e1]
    congr 1
    by_cases e2 : a = -1
    · simp [e2]
    · simp [e1, e2]
theorem impl_within_is (a lo hi : Int) : impl_within.f a lo hi = some (inB lo hi a) := by
  unfold impl_within.f
  exact within_is a lo hi
theorem impl_allWithin_l : ∀ (k i : Nat) (l : List Int) (lo hi : Int), l.length ≤ 4611686018427387904 → i ≤ l.length → l.length < i + k → impl_allWithin.l0 k lo hi l (l.length : Int) (i : Int) = some ((l.drop i).all (inB lo hi))
  | 0, _, _, _, _, _, _, hk => by omega
  | k + 1, i, l, lo, hi, hn, hi', hk => by
    simp only [impl_allWithin.l0]
    by_cases h : i < l.length
    · rw [if_pos (by omega), if_pos (by omega), if_pos (by omega), impl_within_is, rd_nat l i h, w64_nat (by omega), List.drop_eq_getElem_cons h, List.all_cons, impl_allWithin_l k (i + 1) l lo hi hn (by omega) (by omega)]
      simp only [Option.bind_some]
      by_cases e : inB lo hi l[i] = true
      · rw [if_pos e, e]
        simp
      · rw [if_neg e]
        simp [e]
    · rw [if_neg (by omega), List.drop_of_length_le (by omega)]
      simp
theorem impl_allWithin_is (k : Nat) (l : List Int) (lo hi : Int) (hn : l.length ≤ 4611686018427387904) (hk : l.length < k) : impl_allWithin.f k l lo hi = some (l.all (inB lo hi)) := by
  unfold impl_allWithin.f
  have := impl_allWithin_l k 0 l lo hi hn (by omega) (by omega)
  simpa using this
theorem impl_IsPoint_is (k : Nat) (l : List Int) (hn : l.length ≤ 4611686018427387904) (hk : l.length < k) : impl_IsPoint.f k l = some (ptB l) := by
  unfold impl_IsPoint.f ptB
  rw [impl_within_is, impl_allWithin_is k l (-9) 9 hn hk]
  simp only [Option.bind_some]
  cases inB 1 4 (l.length : Int) <;> simp
theorem impl_IsSample_l (k0 : Nat) (hk0 : 1048576 < k0) : ∀ (k i : Nat) (l : List (List Int)) (m : List Int), l.length ≤ 16 → m.length = l.length → (∀ r ∈ l, r.length ≤ 1048576) → i ≤ l.length → l.length < i + k → impl_IsSample.l0 (k + k0) l (l.length : Int) (i : Int) l m = some ((m.drop i).all lbB && (l.drop i).all fun x => ptB x && decide (x.length = (l.headD []).length))
  | 0, i, l, m, _, _, _, _, hk => by omega
  | k + 1, i, l, m, hn, hm, hr, hi, hk => by
    rw [show k + 1 + k0 = (k + k0) + 1 by omega]
    simp only [impl_IsSample.l0]
    by_cases h : i < l.length
    · have h' : i < m.length := by omega
      have e : rd_L1 l (i : Int) = l[i] := by simp [rd_L1, h]
      have e0 : rd_L1 l 0 = l.headD [] := by cases l <;> simp [rd_L1]
      have hx := hr l[i] (List.getElem_mem h)
      rw [if_pos (by omega), if_pos (by omega), if_pos (by omega), e, impl_IsPoint_is (k + k0) l[i] (by omega) (by omega), e0]
      simp only [Option.bind_some]
      rw [List.drop_eq_getElem_cons h, List.all_cons, List.drop_eq_getElem_cons h', List.all_cons]
      by_cases c1 : ptB l[i] = true
      · rw [if_pos c1, if_pos (by omega), c1, Bool.true_and]
        by_cases c2 : l[i].length = (l.headD []).length
        · rw [if_pos (by omega), if_pos (by omega), impl_isLabel_is, rd_nat m i h', w64_nat (by omega), impl_IsSample_l k0 hk0 k (i + 1) l m hn hm hr (by omega) (by omega)]
          simp only [Option.bind_some]
          by_cases c3 : lbB m[i] = true
          · rw [if_pos c3, c3]
            simp [c2]
          · rw [if_neg c3]
            simp [c3]
        · rw [if_neg (by omega)]
          simp only [c2, decide_false, Bool.false_and, Bool.and_false]
      · rw [if_neg c1]
        simp [c1]
    · rw [if_neg (by omega), List.drop_of_length_le (by omega), List.drop_of_length_le (by omega)]
      simp
theorem impl_IsSample_is (k : Nat) (l : List (List Int)) (m : List Int) (hr : ∀ r ∈ l, r.length ≤ 1048576) (hm : m.length ≤ 1048576) (hk : 1048600 < k) : impl_IsSample.f k l m = some (smB l m) := by
  obtain ⟨k, rfl⟩ : ∃ q, k = q + 1 := ⟨k - 1, by omega⟩
  unfold impl_IsSample.f smB
  by_cases c1 : l.length ≤ 16
  · rw [if_neg (by omega)]
    simp only [impl_IsSample.j0]
    by_cases c2 : m.length = l.length
    · rw [if_neg (by simp [c2])]
      have := impl_IsSample_l (k - 17) (by omega) 17 0 l m c1 c2 hr (by omega) (by omega)
      rw [show 17 + (k - 17) = k by omega] at this
      rw [show ((0 : Nat) : Int) = 0 from rfl] at this
      rw [this]
      simp [c1, c2]
    · rw [if_pos (by simp; omega)]
      simp [c2]
  · rw [if_pos (by omega)]
    simp [impl_IsSample.j0, c1]
theorem impl_IsPlane_is (k : Nat) (ws : List Int) (b : Int) (hn : ws.length ≤ 4611686018427387904) (hk : ws.length < k) : impl_IsPlane.f k ws b = some (plB ws b) := by
  unfold impl_IsPlane.f plB
  rw [impl_within_is, impl_allWithin_is k ws (-99) 99 hn hk, impl_within_is]
  simp only [Option.bind_some]
  cases inB 1 4 (ws.length : Int) <;> cases ws.all (inB (-99) 99) <;> simp
theorem impl_suits_is (k : Nat) (ps : List (List Int)) (ls ws : List Int) (b : Int) (hr : ∀ r ∈ ps, r.length ≤ 1048576) (hm : ls.length ≤ 1048576) (hw : ws.length ≤ 1048576) (hk : 1048600 < k) : impl_suits.f k ps ls ws b = some (suitsB ps ls ws b) := by
  unfold impl_suits.f suitsB
  rw [impl_IsSample_is k ps ls hr hm hk, impl_IsPlane_is k ws b (by omega) (by omega)]
  simp only [Option.bind_some]
  have e0 : rd_L1 ps 0 = ps.headD [] := by cases ps <;> simp [rd_L1]
  cases c1 : smB ps ls
  · simp
  · cases c2 : plB ws b
    · simp
    · rw [if_pos rfl, if_pos rfl]
      by_cases c3 : ps.length = 0
      · rw [if_pos (by omega)]
        simp [c3]
      · rw [if_neg (by omega), if_pos (by omega), e0]
        congr 1
        by_cases c4 : (ps.headD []).length = ws.length
        · simp only [c4, beq_self_eq_true, decide_true, Bool.or_true, Bool.and_true]
        · have : ¬ (((ps.headD []).length : Int) = (ws.length : Int)) := by omega
          simp only [c3, c4, decide_false, Bool.or_false, Bool.and_false, Bool.or_self]
          exact beq_eq_false_iff_ne.2 this
theorem impl_product_l : ∀ (k i : Nat) (x y : List Int) (s : Int), x.length ≤ 4611686018427387904 → x.length ≤ y.length → i ≤ x.length → x.length < i + k → impl_product.l0 k y s x (x.length : Int) (i : Int) = some (wdot s (x.drop i) (y.drop i))
  | 0, _, _, _, _, _, _, _, hk => by omega
  | k + 1, i, x, y, s, hn, hl, hi, hk => by
    simp only [impl_product.l0]
    by_cases h : i < x.length
    · have hy' : i < y.length := by omega
      rw [if_pos (by omega), if_pos (by omega), if_pos (by omega), if_pos (by omega), rd_nat x i h, rd_nat y i hy', w64_nat (by omega)]
      rw [impl_product_l k (i + 1) x y _ hn hl (by omega) (by omega), List.drop_eq_getElem_cons h, List.drop_eq_getElem_cons hy']
      simp only [wdot]
    · rw [if_neg (by omega), List.drop_of_length_le (by omega)]
      simp [wdot]
theorem impl_product_is (k : Nat) (x y : List Int) (hn : x.length ≤ 4611686018427387904) (hl : x.length ≤ y.length) (hk : x.length < k) : impl_product.f k x y = some (wdot 0 x y) := by
  unfold impl_product.f
  have := impl_product_l k 0 x y 0 hn hl (by omega) (by omega)
  simpa using this
theorem impl_Plane_side_is (k : Nat) (ws : List Int) (b : Int) (x : List Int) (h1 : ws.length ≤ 4611686018427387904) (hl : ws.length ≤ x.length) (hk : ws.length < k) : impl_Plane_side.f k ws b x = some (sideI ws b x) := by
  unfold impl_Plane_side.f sideI
  rw [impl_product_is k ws x h1 hl hk]
  simp only [Option.bind_some]
  split <;> rfl
theorem impl_SidesOf_l (ps : List (List Int)) (ws : List Int) (b : Int) (hp : ps.length ≤ 16) (hw : ws.length ≤ 4) (hd : ∀ x ∈ ps, x.length = ws.length) : ∀ (m k i : Nat) (acc : List Int), i + m = ps.length → acc.length = i → 10 + m < k → impl_SidesOf.l0 k acc ps (ps.length : Int) (i : Int) ws b = some (acc ++ (ps.drop i).map (sideI ws b), true)
  | 0, k, i, acc, hi, ha, hk => by
    obtain ⟨k, rfl⟩ : ∃ q, k = q + 1 := ⟨k - 1, by omega⟩
    rw [impl_SidesOf.l0, if_neg (by omega), List.drop_of_length_le (by omega)]
    simp
  | m + 1, k, i, acc, hi, ha, hk => by
    obtain ⟨k, rfl⟩ : ∃ q, k = q + 1 := ⟨k - 1, by omega⟩
    have h : i < ps.length := by omega
    have e : rd_L1 ps (i : Int) = ps[i] := by simp [rd_L1, h]
    have hx := hd ps[i] (List.getElem_mem h)
    rw [impl_SidesOf.l0, if_pos (by omega), if_pos (by omega), if_pos (by omega), e, impl_Plane_side_is k ws b ps[i] (by omega) (by omega) (by omega), Option.bind_some, if_pos (by omega), w64_nat (by omega), impl_SidesOf_l ps ws b hp hw hd m k (i + 1) _ (by omega) (by simp [ha]) (by omega), List.drop_eq_getElem_cons h]
    simp only [List.map_cons, List.append_assoc, List.singleton_append]
theorem impl_SidesOf_is (k : Nat) (ps : List (List Int)) (ls ws : List Int) (b : Int) (hr : ∀ r ∈ ps, r.length ≤ 1048576) (hm : ls.length ≤ 1048576) (hw : ws.length ≤ 1048576) (hk : 1048600 < k) : impl_SidesOf.f k ps ls ws b = some (sidesR ps ls ws b) := by
  unfold impl_SidesOf.f sidesR
  rw [impl_suits_is k ps ls ws b hr hm hw hk, Option.bind_some]
  by_cases c : suitsB ps ls ws b = true
  · rw [if_pos c, if_pos c]
    obtain ⟨c1, c2, c3⟩ := suitsB_parts c
    have := impl_SidesOf_l ps ws b (smB_parts c1).1 (plB_parts c2).2.2.1 c3 ps.length k 0 [] (by omega) rfl (by have := (smB_parts c1).1; omega)
    rw [show (0 : Int) = ((0 : Nat) : Int) from rfl, this]
    simp
  · rw [if_neg c, if_neg c]
theorem FnExactSidesOf : ∀ (l0 : List (List Int)) (m0 : List Int) (l1 : List Int) (b1 : Int), l0.length ≤ maxLen → (∀ r ∈ l0, r.length ≤ maxLen ∧ ∀ x ∈ r, (Lit.int .i64 x).wf = true) → m0.length ≤ maxLen → (∀ x ∈ m0, (Lit.int .i64 x).wf = true) → l1.length ≤ maxLen → (∀ x ∈ l1, (Lit.int .i64 x).wf = true) → (Lit.int .i64 b1).wf = true → ∃ k, laws_FnExactSidesOf.f k l0 m0 l1 b1 = some true := by
  intro l m ws b hl hr hm _ hw _ _
  unfold maxLen at hl hr hm hw
  obtain ⟨K, hK⟩ : ∃ K, 3000000 ≤ K := ⟨_, Nat.le_refl _⟩
  refine ⟨K + 1 + 1 + 1, ?_⟩
  unfold laws_FnExactSidesOf.f
  obtain ⟨v, hv, hc⟩ := laws_szSample_tells (K + 1 + 1 + 1) l m 1048576 (by omega) (by omega) (by omega) (fun r h => by have := (hr r h).1; omega) (by omega) (by omega)
  rw [hv]
  simp only [Option.bind_some]
  rcases hc with hc | ⟨a1, a2, a3, a4, a5⟩
  · rw [if_pos hc]
  · rw [if_neg (by omega), laws_szPlane_is ws b v a1 (by omega) (by omega)]
    simp only [Option.bind_some]
    by_cases g : (ws.length : Int) ≤ v
    · have hq := sidesR_length l m ws b
      have a6 : ws.length ≤ 1048576 := by omega
      obtain ⟨w, l', m', hmk, b1, b2⟩ := laws_markSample_tells (K + 1 + 1) l m a3 a4 a5 (by omega)
      rw [if_pos g, if_neg (by omega), laws_toSample_is _ l m a3 a4 a5 (by omega), laws_toPlane_is _ ws b (by omega) (by omega)]
      simp only [Option.bind_some]
      rw [spec_SidesOf_is _ l m ws b a4 a5 (by omega) (by omega), impl_SidesOf_is _ l m ws b a4 a5 (by omega) (by omega)]
      simp only [Option.bind_some, bne_self]
      rw [laws_eqIntS_same _ _ (by omega) (by omega)]
      simp only [Option.bind_some, if_true, laws_FnExactSidesOf.j0]
      rw [if_neg (by simp), laws_toSample_is _ l m a3 a4 a5 (by omega)]
      simp only [Option.bind_some]
      rw [laws_eqSample_same _ l m a3 a4 a5 (by omega)]
      simp only [Option.bind_some, if_true]
      rw [laws_toPlane_is _ ws b (by omega) (by omega)]
      simp only [Option.bind_some]
      rw [laws_eqPlane_same _ ws b (by omega) (by omega)]
      simp only [Option.bind_some, if_true]
      rw [hmk]
      simp only [Option.bind_some]
      rw [laws_markPlane_is _ ws b w (by omega) (by omega) (by omega) (by omega)]
      simp only [Option.bind_some, bne_self]
      rw [if_neg (by omega), laws_eqIntS_same _ _ (by omega) (by omega)]
      simp only [Option.bind_some, if_true, laws_FnExactSidesOf.j1]
      rw [if_neg (by simp), laws_markIntS_is _ _ 1 (by omega) (by omega) (by omega) (by omega)]
      simp only [Option.bind_some]
      rw [laws_heldIntS_is _ _ 1 (by omega) (by omega) (by omega) (by omega)]
      simp only [Option.bind_some]
      rw [if_neg (by omega), laws_toSample_is _ l m a3 a4 a5 (by omega)]
      simp only [Option.bind_some, if_true]
      rw [laws_toPlane_is _ ws b (by omega) (by omega)]
      simp only [Option.bind_some]
      rw [impl_SidesOf_is _ l m ws b a4 a5 (by omega) (by omega)]
      simp only [Option.bind_some, bne_self]
      rw [laws_eqIntS_same _ _ (by omega) (by omega)]
      simp only [Option.bind_some, if_true, laws_FnExactSidesOf.j2]
      rw [if_neg (by simp), laws_heldIntS_is _ _ 1 (by omega) (by omega) (by omega) (by omega)]
      simp only [Option.bind_some]
      rw [if_neg (by omega)]
      simp
    · rw [if_neg g, if_pos (by omega)]

end Go.Proofs.Ytgbgkifddjeabaa.Pure
