/- Proved: the law FnExactIsCertificate answers true for every sample and list of numbers; no condition. -/
import Derived.Test.YtgbgkifddjeabaaQFnExactIsCertificatex8
import Derived.Test.YtgbgkifddjeabaaBase
set_option linter.unusedVariables false
set_option linter.unusedSimpArgs false
namespace Go.Proofs.Ytgbgkifddjeabaa.Pure
open Go.RowKit Go.Proofs.Ytgbgkifddjeabaa.QFnExactIsCertificate Go.Proofs.YtgbgkifddjeabaaW.PrintWords Go.Proofs.YtgbgkifddjeabaaW.PrintLast Go.Proofs.YtgbgkifddjeabaaW.PrintMore Go.Proofs.Ytgbgkifddjeabaa.Base

theorem laws_toIntS_l : ∀ (k i : Nat) (l acc : List Int), l.length ≤ 4611686018427387904 → acc.length = l.length → i ≤ l.length → l.length < i + k → (∀ j, j < i → acc[j]? = l[j]?) → laws_toIntS.l0 k l acc (i : Int) = some l
  | 0, i, l, acc, _, _, _, hk, _ => by omega
  | k + 1, i, l, acc, hn, hl, hi, hk, hj => by
    simp only [laws_toIntS.l0]
    by_cases h : i < l.length
    · rw [if_pos (by omega), if_pos (by omega), if_pos (by omega), rd_nat l i h, w64_nat (by omega)]
      refine laws_toIntS_l k (i + 1) l _ hn (by simp [hl]) (by omega) (by omega) fun j hj' => ?_
      rw [List.getElem?_set]
      by_cases e : i = j
      · subst e
        simp [h, hl]
      · simp only [Int.toNat_natCast]
        rw [if_neg e]
        exact hj j (by omega)
    · rw [if_neg (by omega)]
      congr 1
      refine List.ext_getElem? fun j => ?_
      by_cases e : j < i
      · exact hj j e
      · rw [List.getElem?_eq_none (by omega), List.getElem?_eq_none (by omega)]
theorem laws_toIntS_is (k : Nat) (l : List Int) (hn : l.length ≤ 35184372088832) (hk : l.length < k) : laws_toIntS.f k l = some l := by
  unfold laws_toIntS.f
  rw [if_pos (by omega), if_pos (by omega)]
  exact laws_toIntS_l k 0 l _ (by omega) (by simp) (by omega) (by omega) fun j hj => by omega
theorem laws_eqIntS_l : ∀ (k i : Nat) (l r : List Int), l.length ≤ 4611686018427387904 → r.length = l.length → i ≤ l.length → l.length < i + k → laws_eqIntS.l0 k l r (i : Int) = some (decide (l.drop i = r.drop i))
  | 0, i, l, r, _, _, _, hk => by omega
  | k + 1, i, l, r, hn, hl, hi, hk => by
    simp only [laws_eqIntS.l0]
    by_cases h : i < l.length
    · rw [if_pos (by omega), if_pos (by omega), if_pos (by omega), rd_nat l i h, rd_nat r i (by omega), w64_nat (by omega), laws_eqIntS_l k (i + 1) l r hn hl (by omega) (by omega), List.drop_eq_getElem_cons h, List.drop_eq_getElem_cons (show i < r.length by omega)]
      by_cases e : l[i] = r[i]'(by omega)
      · rw [if_pos e, e]
        simp only [List.cons.injEq, true_and]
      · rw [if_neg e]
        simp only [List.cons.injEq, e, false_and, decide_false]
    · rw [if_neg (by omega), List.drop_of_length_le (by omega), List.drop_of_length_le (by omega)]
      simp
theorem laws_eqIntS_is (k : Nat) (l r : List Int) (hn : l.length ≤ 4611686018427387904) (hk : l.length < k) : laws_eqIntS.f k l r = some (decide (l = r)) := by
  unfold laws_eqIntS.f
  by_cases h : l.length = r.length
  · rw [if_pos (by omega)]
    have := laws_eqIntS_l k 0 l r hn (by omega) (by omega) (by omega)
    simpa using this
  · rw [if_neg (by omega)]
    have : l ≠ r := fun e => h (by rw [e])
    simp [this]
theorem laws_eqIntS_same (k : Nat) (l : List Int) (hn : l.length ≤ 4611686018427387904) (hk : l.length < k) : laws_eqIntS.f k l l = some true := by
  rw [laws_eqIntS_is k l l hn hk]
  simp
theorem laws_szIntS_is (l : List Int) (a : Int) (h0 : 0 ≤ a) (h1 : a ≤ 4611686018427387904) (hl : l.length ≤ 9223372036854775807) : laws_szIntS.f l a = some (if (l.length : Int) ≤ a then a - l.length else -1) := by
  unfold laws_szIntS.f
  rw [w64 (by omega) (by omega)]
  by_cases h : (l.length : Int) ≤ a
  · rw [if_neg (by omega), if_pos h]
  · rw [if_pos (by omega), if_neg h]
theorem laws_szIntSS_l : ∀ (k i : Nat) (x : List (List Int)) (a : Int), 0 ≤ a → a ≤ 1048576 → x.length ≤ 1048576 → (∀ r ∈ x, r.length ≤ 9223372036854775807) → i ≤ x.length → x.length < i + k → ∃ v, laws_szIntSS.l0 k x a (i : Int) = some v ∧ (v < 0 ∨ (0 ≤ v ∧ v ≤ a ∧ ∀ r ∈ x.drop i, r.length ≤ 1048576))
  | 0, _, _, _, _, _, _, _, _, hk => by omega
  | k + 1, i, x, a, h0, h1, hn, hr, hi, hk => by
    simp only [laws_szIntSS.l0]
    by_cases h : i < x.length
    · have e : rd_L1 x (i : Int) = x[i] := by simp [rd_L1, h]
      have hx := hr x[i] (List.getElem_mem h)
      rw [if_pos (by omega), if_pos (by omega), e, laws_szIntS_is x[i] a h0 (by omega) hx]
      simp only [Option.bind_some]
      by_cases c : (x[i].length : Int) ≤ a
      · rw [if_pos c, if_neg (by omega), w64_nat (by omega)]
        obtain ⟨v, hv, hc⟩ := laws_szIntSS_l k (i + 1) x (a - x[i].length) (by omega) (by omega) hn hr (by omega) (by omega)
        refine ⟨v, hv, ?_⟩
        rcases hc with hc | ⟨a1, a2, a3⟩
        · exact .inl hc
        · refine .inr ⟨a1, by omega, fun r hr' => ?_⟩
          rw [List.drop_eq_getElem_cons h] at hr'
          rcases List.mem_cons.1 hr' with rfl | hr'
          · omega
          · exact a3 r hr'
      · rw [if_neg c, if_pos (by omega)]
        exact ⟨-1, rfl, .inl (by omega)⟩
    · rw [if_neg (by omega)]
      refine ⟨a, rfl, .inr ⟨h0, Int.le_refl _, fun r hr' => ?_⟩⟩
      rw [List.drop_of_length_le (by omega)] at hr'
      simp at hr'
theorem laws_szIntSS_tells (k : Nat) (x : List (List Int)) (a : Int) (h0 : 0 ≤ a) (h1 : a ≤ 1048576) (hn : x.length ≤ 9223372036854775807) (hr : ∀ r ∈ x, r.length ≤ 9223372036854775807) (hk : 1048576 < k) : ∃ v, laws_szIntSS.f k x a = some v ∧ (v < 0 ∨ (0 ≤ v ∧ v ≤ a ∧ x.length ≤ 1048576 ∧ ∀ r ∈ x, r.length ≤ 1048576)) := by
  unfold laws_szIntSS.f
  rw [w64 (by omega) (by omega)]
  by_cases c : (x.length : Int) ≤ a
  · rw [if_neg (by omega)]
    obtain ⟨v, hv, hc⟩ := laws_szIntSS_l k 0 x (a - x.length) (by omega) (by omega) (by omega) hr (by omega) (by omega)
    refine ⟨v, hv, ?_⟩
    rcases hc with hc | ⟨a1, a2, a3⟩
    · exact .inl hc
    · exact .inr ⟨a1, by omega, by omega, by simpa using a3⟩
  · rw [if_pos (by omega)]
    exact ⟨-1, rfl, .inl (by omega)⟩
theorem laws_szSample_tells (k : Nat) (x : List (List Int)) (m : List Int) (a : Int) (h0 : 0 ≤ a) (h1 : a ≤ 1048576) (hn : x.length ≤ 9223372036854775807) (hr : ∀ r ∈ x, r.length ≤ 9223372036854775807) (hm : m.length ≤ 9223372036854775807) (hk : 1048576 < k) : ∃ v, laws_szSample.f k x m a = some v ∧ (v < 0 ∨ (0 ≤ v ∧ v ≤ a ∧ x.length ≤ 1048576 ∧ (∀ r ∈ x, r.length ≤ 1048576) ∧ m.length ≤ 1048576)) := by
  unfold laws_szSample.f
  obtain ⟨v, hv, hc⟩ := laws_szIntSS_tells k x a h0 h1 hn hr hk
  rw [hv]
  simp only [Option.bind_some]
  rcases hc with hc | ⟨a1, a2, a3, a4⟩
  · rw [if_pos hc]
    exact ⟨-1, rfl, .inl (by omega)⟩
  · rw [if_neg (by omega), laws_szIntS_is m v a1 (by omega) hm]
    simp only [Option.bind_some]
    by_cases c : (m.length : Int) ≤ v
    · rw [if_pos c, if_neg (by omega)]
      exact ⟨_, rfl, .inr ⟨by omega, by omega, a3, a4, by omega⟩⟩
    · rw [if_neg c, if_pos (by omega)]
      exact ⟨-1, rfl, .inl (by omega)⟩
theorem laws_toIntSS_l : ∀ (k i : Nat) (l acc : List (List Int)), l.length ≤ 1048576 → (∀ r ∈ l, r.length ≤ 1048576) → acc.length = l.length → i ≤ l.length → l.length + 1048576 < i + k → (∀ j, j < i → acc[j]? = l[j]?) → laws_toIntSS.l0 k l acc (i : Int) = some l
  | 0, i, l, acc, _, _, _, _, hk, _ => by omega
  | k + 1, i, l, acc, hn, hr, hl, hi, hk, hj => by
    simp only [laws_toIntSS.l0]
    by_cases h : i < l.length
    · have e : rd_L1 l (i : Int) = l[i] := by simp [rd_L1, h]
      have hx := hr l[i] (List.getElem_mem h)
      rw [if_pos (by omega), if_pos (by omega), e, laws_toIntS_is k l[i] (by omega) (by omega)]
      simp only [Option.bind_some]
      rw [if_pos (by omega), w64_nat (by omega)]
      refine laws_toIntSS_l k (i + 1) l _ hn hr (by simp [hl]) (by omega) (by omega) fun j hj' => ?_
      rw [List.getElem?_set]
      by_cases e : i = j
      · subst e
        simp [h, hl]
      · simp only [Int.toNat_natCast]
        rw [if_neg e]
        exact hj j (by omega)
    · rw [if_neg (by omega)]
      congr 1
      refine List.ext_getElem? fun j => ?_
      by_cases e : j < i
      · exact hj j e
      · rw [List.getElem?_eq_none (by omega), List.getElem?_eq_none (by omega)]
theorem laws_toIntSS_is (k : Nat) (l : List (List Int)) (hn : l.length ≤ 1048576) (hr : ∀ r ∈ l, r.length ≤ 1048576) (hk : 2097152 < k) : laws_toIntSS.f k l = some l := by
  unfold laws_toIntSS.f
  rw [if_pos (by omega), if_pos (by omega)]
  exact laws_toIntSS_l k 0 l _ hn hr (by simp) (by omega) (by omega) fun j hj => by omega
theorem laws_toSample_is (k : Nat) (l : List (List Int)) (m : List Int) (hn : l.length ≤ 1048576) (hr : ∀ r ∈ l, r.length ≤ 1048576) (hm : m.length ≤ 1048576) (hk : 2097152 < k) : laws_toSample.f k l m = some (l, m) := by
  unfold laws_toSample.f
  rw [laws_toIntSS_is k l hn hr hk, Option.bind_some, laws_toIntS_is k m (by omega) (by omega)]
  rfl
theorem laws_eqIntSS_l : ∀ (k i : Nat) (l : List (List Int)), l.length ≤ 1048576 → (∀ r ∈ l, r.length ≤ 1048576) → i ≤ l.length → l.length + 1048576 < i + k → laws_eqIntSS.l0 k l l (i : Int) = some true
  | 0, i, l, _, _, _, hk => by omega
  | k + 1, i, l, hn, hr, hi, hk => by
    simp only [laws_eqIntSS.l0]
    by_cases h : i < l.length
    · have e : rd_L1 l (i : Int) = l[i] := by simp [rd_L1, h]
      have hx := hr l[i] (List.getElem_mem h)
      rw [if_pos (by omega), if_pos (by omega), if_pos (by omega), e, laws_eqIntS_same k l[i] (by omega) (by omega)]
      simp only [Option.bind_some, if_true]
      rw [w64_nat (by omega)]
      exact laws_eqIntSS_l k (i + 1) l hn hr (by omega) (by omega)
    · rw [if_neg (by omega)]
theorem laws_eqIntSS_same (k : Nat) (l : List (List Int)) (hn : l.length ≤ 1048576) (hr : ∀ r ∈ l, r.length ≤ 1048576) (hk : 2097152 < k) : laws_eqIntSS.f k l l = some true := by
  unfold laws_eqIntSS.f
  rw [if_pos rfl]
  exact laws_eqIntSS_l k 0 l hn hr (by omega) (by omega)
theorem laws_eqSample_same (k : Nat) (l : List (List Int)) (m : List Int) (hn : l.length ≤ 1048576) (hr : ∀ r ∈ l, r.length ≤ 1048576) (hm : m.length ≤ 1048576) (hk : 2097152 < k) : laws_eqSample.f k l m l m = some true := by
  unfold laws_eqSample.f
  rw [laws_eqIntSS_same k l hn hr hk, laws_eqIntS_same k m (by omega) (by omega)]
  rfl
theorem spec_l2Labels_l : ∀ (k i : Nat) (l : List Int), l.length ≤ 4611686018427387904 → i ≤ l.length → l.length < i + k → spec_l2Labels.l0 k l (i : Int) = some ((l.drop i).all lbB)
  | 0, _, _, _, _, hk => by omega
  | k + 1, i, l, hn, hi', hk => by
    simp only [spec_l2Labels.l0]
    by_cases h : i < l.length
    · rw [if_pos (by omega), if_pos (by omega), rd_nat l i h, w64_nat (by omega), List.drop_eq_getElem_cons h, List.all_cons, spec_l2Labels_l k (i + 1) l hn (by omega) (by omega)]
      by_cases e1 : l[i] = 1
      · rw [if_pos e1]
        simp [lbB, e1]
      · by_cases e2 : l[i] = -1
        · rw [if_neg e1, if_pos e2]
          simp [lbB, e2]
        · rw [if_neg e1, if_neg e2]
          simp [lbB, e1, e2]
    · rw [if_neg (by omega), List.drop_of_length_le (by omega)]
      simp
theorem spec_l2Labels_is (k : Nat) (l : List Int) (hn : l.length ≤ 4611686018427387904) (hk : l.length < k) : spec_l2Labels.f k l = some (l.all lbB) := by
  unfold spec_l2Labels.f
  have := spec_l2Labels_l k 0 l hn (by omega) (by omega)
  simpa using this
theorem spec_l1In_is (a lo hi : Int) : spec_l1In.f a lo hi = some (inB lo hi a) := by
  unfold spec_l1In.f
  exact within_is a lo hi
theorem spec_l2Numbers_l : ∀ (k i : Nat) (l : List Int) (m : Int), -4611686018427387904 ≤ m → m ≤ 4611686018427387904 → l.length ≤ 4611686018427387904 → i ≤ l.length → l.length < i + k → spec_l2Numbers.l0 k l m (i : Int) = some ((l.drop i).all (inB (-m) m))
  | 0, _, _, _, _, _, _, _, hk => by omega
  | k + 1, i, l, m, h1, h2, hn, hi, hk => by
    simp only [spec_l2Numbers.l0]
    by_cases h : i < l.length
    · rw [if_pos (by omega), if_pos (by omega), spec_l1In_is, rd_nat l i h, w64_nat (by omega), w64 (by omega) (by omega), List.drop_eq_getElem_cons h, List.all_cons, spec_l2Numbers_l k (i + 1) l m h1 h2 hn (by omega) (by omega)]
      simp only [Option.bind_some]
      by_cases e : inB (-m) m l[i] = true
      · rw [if_pos e, e]
        simp
      · rw [if_neg e]
        simp [e]
    · rw [if_neg (by omega), List.drop_of_length_le (by omega)]
      simp
theorem spec_l2Numbers_is (k : Nat) (l : List Int) (m : Int) (h1 : -4611686018427387904 ≤ m) (h2 : m ≤ 4611686018427387904) (hn : l.length ≤ 4611686018427387904) (hk : l.length < k) : spec_l2Numbers.f k l m = some (l.all (inB (-m) m)) := by
  unfold spec_l2Numbers.f
  have := spec_l2Numbers_l k 0 l m h1 h2 hn (by omega) (by omega)
  simpa using this
theorem spec_l2Point_is (k : Nat) (l : List Int) (hn : l.length ≤ 4611686018427387904) (hk : l.length < k) : spec_l2Point.f k l = some (ptB l) := by
  unfold spec_l2Point.f ptB
  rw [spec_l1In_is, spec_l2Numbers_is k l 9 (by omega) (by omega) hn hk]
  simp only [Option.bind_some]
  cases inB 1 4 (l.length : Int) <;> simp
theorem spec_l2Sample_l (k0 : Nat) (hk0 : 1048576 < k0) : ∀ (k i : Nat) (l : List (List Int)) (m : List Int), l.length ≤ 16 → (∀ r ∈ l, r.length ≤ 1048576) → i ≤ l.length → l.length < i + k → spec_l2Sample.l0 (k + k0) (i : Int) l m = some ((l.drop i).all fun x => ptB x && decide (x.length = (l.headD []).length))
  | 0, i, l, m, _, _, _, hk => by omega
  | k + 1, i, l, m, hn, hr, hi, hk => by
    rw [show k + 1 + k0 = (k + k0) + 1 by omega]
    simp only [spec_l2Sample.l0]
    by_cases h : i < l.length
    · have e : rd_L1 l (i : Int) = l[i] := by simp [rd_L1, h]
      have e0 : rd_L1 l 0 = l.headD [] := by cases l <;> simp [rd_L1]
      have hx := hr l[i] (List.getElem_mem h)
      rw [if_pos (by omega), if_pos (by omega), e, spec_l2Point_is (k + k0) l[i] (by omega) (by omega), e0]
      simp only [Option.bind_some]
      rw [List.drop_eq_getElem_cons h, List.all_cons]
      by_cases c1 : ptB l[i] = true
      · rw [if_pos c1, if_pos (by omega), c1, Bool.true_and]
        by_cases c2 : l[i].length = (l.headD []).length
        · rw [if_pos (by omega), w64_nat (by omega), spec_l2Sample_l k0 hk0 k (i + 1) l m hn hr (by omega) (by omega)]
          simp [c2]
        · rw [if_neg (by omega)]
          simp only [c2, decide_false, Bool.false_and, Bool.and_false]
      · rw [if_neg c1]
        simp [c1]
    · rw [if_neg (by omega), List.drop_of_length_le (by omega)]
      simp
theorem spec_l2Sample_is (k : Nat) (l : List (List Int)) (m : List Int) (hr : ∀ r ∈ l, r.length ≤ 1048576) (hm : m.length ≤ 1048576) (hk : 1048600 < k) : spec_l2Sample.f k l m = some (smB l m) := by
  obtain ⟨k, rfl⟩ : ∃ q, k = q + 1 := ⟨k - 1, by omega⟩
  unfold spec_l2Sample.f smB
  by_cases c1 : l.length ≤ 16
  · rw [if_neg (by omega)]
    by_cases c2 : m.length = l.length
    · rw [if_pos (by omega), spec_l2Labels_is _ m (by omega) (by omega)]
      simp only [Option.bind_some, spec_l2Sample.j0]
      have := spec_l2Sample_l (k - 17) (by omega) 17 0 l m c1 hr (by omega) (by omega)
      rw [show 17 + (k - 17) = k by omega] at this
      rw [show ((0 : Nat) : Int) = 0 from rfl] at this
      rw [this]
      cases e : m.all lbB
      · simp
      · simp [c1, c2]
    · rw [if_neg (by omega)]
      simp [spec_l2Sample.j0, c2]
  · rw [if_pos (by omega)]
    simp [spec_l2Sample.j0, c1]
theorem spec_l1Most_is (a b : Int) : spec_l1Most.f a b = some (max a b) := by
  unfold spec_l1Most.f
  by_cases h : a > b
  · rw [if_pos h]
    congr 1
    omega
  · rw [if_neg h]
    congr 1
    omega
theorem spec_l1Same_l : ∀ (k i : Nat) (l r : List Int), l.length ≤ 4611686018427387904 → r.length = l.length → i ≤ l.length → l.length < i + k → spec_l1Same.l0 k l r (i : Int) = some (decide (l.drop i = r.drop i))
  | 0, i, l, r, _, _, _, hk => by omega
  | k + 1, i, l, r, hn, hl, hi, hk => by
    simp only [spec_l1Same.l0]
    by_cases h : i < l.length
    · rw [if_pos (by omega), if_pos (by omega), if_pos (by omega), rd_nat l i h, rd_nat r i (by omega), w64_nat (by omega), spec_l1Same_l k (i + 1) l r hn hl (by omega) (by omega), List.drop_eq_getElem_cons h, List.drop_eq_getElem_cons (show i < r.length by omega)]
      by_cases e : l[i] = r[i]'(by omega)
      · rw [if_pos e, e]
        simp only [List.cons.injEq, true_and]
      · rw [if_neg e]
        simp only [List.cons.injEq, e, false_and, decide_false]
    · rw [if_neg (by omega), List.drop_of_length_le (by omega), List.drop_of_length_le (by omega)]
      simp
theorem spec_l1Same_is (k : Nat) (l r : List Int) (hn : l.length ≤ 4611686018427387904) (hk : l.length < k) : spec_l1Same.f k l r = some (decide (l = r)) := by
  unfold spec_l1Same.f
  by_cases h : l.length = r.length
  · rw [if_pos (by omega)]
    have := spec_l1Same_l k 0 l r hn (by omega) (by omega) (by omega)
    simpa using this
  · rw [if_neg (by omega)]
    have : l ≠ r := fun e => h (by rw [e])
    simp [this]
theorem rd_mid_nat (pre post : List Int) (x : Int) : rd (pre ++ x :: post) ((pre.length : Nat) : Int) = x := rd_mid pre post x _ rfl
/-- inner loop: the columns behind the first -/
theorem spec_l4Sums_l1 (lst : List Int) (a : Int) (ps : List (List Int)) (ls : List Int) (i : Nat) (hi : i < ps.length) (hl : i < lst.length) : ∀ (ppost : List Int) (k : Nat) (ppre pre post : List Int), rd_L1 ps (i : Int) = ppre ++ ppost → pre.length = ppre.length + 1 → post.length = ppost.length → pre.length + post.length ≤ 1000 → spec_l4Sums.l1 (k + ppost.length + 1) lst a (pre ++ post) (i : Int) (ppre.length : Int) ps ls = spec_l4Sums.l0 k lst a (pre ++ wadd (rd lst i) post ppost) (wrap64 ((i : Int) + 1)) ps ls
  | [], k, ppre, pre, post, he, h1, h2, h3 => by
    have : post = [] := List.length_eq_zero_iff.1 h2
    subst this
    rw [List.length_nil, Nat.add_zero, spec_l4Sums.l1, if_pos (by omega), if_pos (by omega), he, if_neg (by simp)]
    simp [wadd]
  | x :: ppost, k, ppre, pre, [], he, h1, h2, h3 => by simp at h2
  | x :: ppost, k, ppre, pre, y :: post, he, h1, h2, h3 => by
    simp only [List.length_cons] at h2 h3
    have e : ((ppre.length : Nat) : Int) + 1 = ((pre.length : Nat) : Int) := by omega
    rw [show k + (x :: ppost).length + 1 = (k + ppost.length + 1) + 1 by simp; omega, spec_l4Sums.l1, if_pos (by omega), if_pos (by omega), he, if_pos (by simp; omega), e, w64 (x := ((pre.length : Nat) : Int)) (by omega) (by omega), if_pos (by omega), if_pos (by simp; omega), if_pos (by omega), if_pos (by omega), rd_mid_nat, rd_mid_nat, set_mid pre post y _ _ (by simp)]
    have ih := spec_l4Sums_l1 lst a ps ls i hi hl ppost k (ppre ++ [x]) (pre ++ [wrap64 (y + wrap64 (rd lst i * x))]) post (by rw [he]; simp) (by simp [h1]) (by omega) (by simp; omega)
    simp only [List.append_assoc, List.singleton_append, List.length_append, List.length_cons, List.length_nil, Nat.zero_add] at ih
    rw [← h1] at ih
    rw [ih]
    simp [wadd]
theorem spec_l4Sums_l0 (lst : List Int) (a : Int) (ps : List (List Int)) (ls : List Int) (hs : smB ps ls = true) (hl : lst.length = ps.length) (hb : lst.all (inB 0 1000000000) = true) : ∀ (m k i : Nat) (acc : List Int), i + m = ps.length → acc.length = (ps.headD []).length + 1 → 20 + m * 20 < k → spec_l4Sums.l0 k lst a acc (i : Int) ps ls = some (sumsS a (ps.drop i) (ls.drop i) (lst.drop i) acc)
  | 0, k, i, acc, hi, ha, hk => by
    obtain ⟨k, rfl⟩ : ∃ z, k = z + 1 := ⟨k - 1, by omega⟩
    rw [spec_l4Sums.l0, if_neg (by omega), List.drop_of_length_le (by omega)]
    simp [sumsS]
  | m + 1, k, i, acc, hi, ha, hk => by
    obtain ⟨h16, hlen, _, hrow⟩ := smB_parts hs
    obtain ⟨k, rfl⟩ : ∃ z, k = z + 1 := ⟨k - 1, by omega⟩
    have i1 : i < ps.length := by omega
    have i2 : i < ls.length := by omega
    have i3 : i < lst.length := by omega
    have e : rd_L1 ps (i : Int) = ps[i] := by simp [rd_L1, i1]
    obtain ⟨q1, q2⟩ := hrow ps[i] (List.getElem_mem i1)
    have q3 := (ptB_parts q1).2.2
    have qn := all_range hb i i3
    rw [spec_l4Sums.l0, if_pos (by omega), if_pos (by omega), if_pos (by omega), rd_nat ls i i2, List.drop_eq_getElem_cons i1, List.drop_eq_getElem_cons i2, List.drop_eq_getElem_cons i3]
    simp only [sumsS]
    by_cases c : ls[i] = a
    · rw [if_pos c, if_pos c]
      cases acc with
      | nil => simp at ha
      | cons h t =>
        simp only [List.length_cons] at ha
        rw [if_pos (by simp), if_pos (by omega), rd_nat lst i i3]
        have l1 := spec_l4Sums_l1 lst a ps ls i i1 i3 ps[i] (k - ps[i].length - 1) [] [wrap64 (h + lst[i])] t (by rw [e]; rfl) rfl (by omega) (by simp; omega)
        rw [show k - ps[i].length - 1 + ps[i].length + 1 = k by omega] at l1
        simp only [List.length_nil, List.singleton_append, rd_nat lst i i3] at l1
        rw [show ((0 : Nat) : Int) = 0 from rfl] at l1
        have e0 : rd (h :: t) 0 = h := rd_nat (h :: t) 0 (by simp)
        have e1 : (h :: t).set (0 : Int).toNat (wrap64 (rd (h :: t) 0 + lst[i])) = wrap64 (h + lst[i]) :: t := by rw [e0]; rfl
        rw [e1, l1, w64_nat (by omega), spec_l4Sums_l0 lst a ps ls hs hl hb m _ (i + 1) _ (by omega) (by rw [List.length_cons, wadd_length _ t ps[i] (by omega)]; omega) (by omega)]
        simp only [wadd]
        rw [Int.mul_one, w64 (x := lst[i]) (by omega) (by omega)]
    · rw [if_neg c, if_neg c, w64_nat (by omega), spec_l4Sums_l0 lst a ps ls hs hl hb m k (i + 1) acc (by omega) ha (by omega)]
theorem spec_l4Sums_is (k : Nat) (ps : List (List Int)) (ls lst : List Int) (a : Int) (hs : smB ps ls = true) (hl : lst.length = ps.length) (hb : lst.all (inB 0 1000000000) = true) (hp : 0 < ps.length) (hk : 500 < k) : spec_l4Sums.f k ps ls lst a = some (sumsS a ps ls lst (List.replicate ((ps.headD []).length + 1) 0)) := by
  obtain ⟨h16, hlen, _, hrow⟩ := smB_parts hs
  have e0 : rd_L1 ps 0 = ps.headD [] := by cases ps <;> simp [rd_L1]
  have q : (ps.headD []).length ≤ 4 := by
    cases ps with
    | nil => simp at hp
    | cons x t => have := ptB_parts (hrow x (by simp)).1; simp; omega
  unfold spec_l4Sums.f
  rw [if_pos (by omega), e0, w64 (by omega) (by omega), if_pos (by omega), if_pos (by omega)]
  have e1 : (((ps.headD []).length : Int) + 1).toNat = (ps.headD []).length + 1 := by omega
  rw [e1]
  have := spec_l4Sums_l0 lst a ps ls hs hl hb ps.length k 0 (List.replicate ((ps.headD []).length + 1) 0) (by omega) (by simp) (by omega)
  exact this
def certB (ps : List (List Int)) (ls lst : List Int) : Bool := decide (lst.length = ps.length) && (lst.all (inB 0 1000000000) && (!decide (lst.sum = 0) && decide (sumsS 1 ps ls lst (List.replicate ((ps.headD []).length + 1) 0) = sumsS (-1) ps ls lst (List.replicate ((ps.headD []).length + 1) 0))))
theorem spec_l4Certificate_end (k : Nat) (ps : List (List Int)) (ls lst : List Int) (most : Int) (hs : smB ps ls = true) (hb : lst.all (inB 0 1000000000) = true) (hm : 0 ≤ most ∧ (most = 0 ↔ ∀ x ∈ lst, x = 0)) (hk : 510 < k) : spec_l4Certificate.l0 k lst most (lst.length : Int) ps ls = some (certB ps ls lst) := by
  obtain ⟨k, rfl⟩ : ∃ z, k = z + 1 := ⟨k - 1, by omega⟩
  obtain ⟨h16, hlen, _, hrow⟩ := smB_parts hs
  have z := sum_zero_iff lst hb
  unfold certB
  rw [spec_l4Certificate.l0, if_neg (by omega), hb]
  by_cases c : lst.length = ps.length
  · rw [if_pos (by omega)]
    by_cases c2 : lst.sum = 0
    · have : most = 0 := hm.2.2 (z.2.1 c2)
      rw [if_neg (by omega)]
      simp [c2]
    · have c3 : ¬ most = 0 := fun e => c2 (z.2.2 (hm.2.1 e))
      have hp : 0 < ps.length := by
        cases lst with
        | nil => simp at c2
        | cons x t => simp at c; omega
      have hd : ∀ p ∈ ps, p.length = (ps.headD []).length := fun p hp => (hrow p hp).2
      have q4 : (ps.headD []).length ≤ 4 := by
        cases ps with
        | nil => simp at hp
        | cons x t => have := ptB_parts (hrow x (by simp)).1; simp; omega
      have l1 := sumsS_length 1 ps ls lst (List.replicate ((ps.headD []).length + 1) 0) hd (by simp)
      rw [if_pos (by omega), spec_l4Sums_is k ps ls lst 1 hs c hb hp (by omega), spec_l4Sums_is k ps ls lst (-1) hs c hb hp (by omega)]
      simp only [Option.bind_some]
      rw [spec_l1Same_is k _ _ (by omega) (by omega)]
      simp [c, c2]
  · rw [if_neg (by omega)]
    simp [c]
theorem spec_l4Certificate_l (ps : List (List Int)) (ls lst : List Int) (hs : smB ps ls = true) (hn : lst.length ≤ 1048576) : ∀ (m k i : Nat) (most : Int), i + m = lst.length → 600 < k → 0 ≤ most → (∀ j, j < i → inB 0 1000000000 (lst.getD j 0) = true) → (most = 0 ↔ ∀ j, j < i → lst.getD j 0 = 0) → spec_l4Certificate.l0 (k + m) lst most (i : Int) ps ls = some (if (lst.drop i).all (inB 0 1000000000) then certB ps ls lst else false)
  | 0, k, i, most, hi, hk, h0, hp, hz => by
    obtain rfl : i = lst.length := by omega
    have hall : lst.all (inB 0 1000000000) = true := List.all_eq_true.2 fun x hx => by
      obtain ⟨j, hj, rfl⟩ := List.mem_iff_getElem.1 hx
      have := hp j hj
      simpa [hj] using this
    rw [Nat.add_zero, spec_l4Certificate_end k ps ls lst most hs hall ⟨h0, hz.trans ⟨fun q x hx => by
      obtain ⟨j, hj, rfl⟩ := List.mem_iff_getElem.1 hx
      have := q j hj
      simpa [hj] using this, fun q j hj => by
      have := q lst[j] (List.getElem_mem hj)
      simpa [hj] using this⟩⟩ (by omega)]
    simp
  | m + 1, k, i, most, hi, hk, h0, hp, hz => by
    have h : i < lst.length := by omega
    rw [show k + (m + 1) = (k + m) + 1 by omega, spec_l4Certificate.l0, if_pos (by omega), if_pos (by omega), spec_l1In_is, rd_nat lst i h, w64_nat (by omega), List.drop_eq_getElem_cons h, List.all_cons]
    simp only [Option.bind_some]
    by_cases c : inB 0 1000000000 lst[i] = true
    · have q := inB_iff.1 c
      rw [if_pos c, spec_l1Most_is]
      simp only [Option.bind_some]
      rw [spec_l4Certificate_l ps ls lst hs hn m k (i + 1) _ (by omega) hk (by omega) (fun j hj => by
        by_cases e : j = i
        · subst e
          simpa [h] using c
        · exact hp j (by omega)) ⟨fun e j hj => by
          by_cases e2 : j = i
          · subst e2
            simp [h]
            omega
          · exact hz.1 (by omega) j (by omega), fun e => by
          have e1 := hz.2 fun j hj => e j (by omega)
          have e2 := e i (by omega)
          simp [h] at e2
          omega⟩]
      simp [c]
    · rw [if_neg c]
      simp [c]
theorem spec_l4Certificate_is (k : Nat) (ps : List (List Int)) (ls lst : List Int) (hs : smB ps ls = true) (hn : lst.length ≤ 1048576) (hk : 1050000 < k) : spec_l4Certificate.f k ps ls lst = some (certB ps ls lst) := by
  unfold spec_l4Certificate.f
  have := spec_l4Certificate_l ps ls lst hs hn lst.length (k - lst.length) 0 0 (by omega) (by omega) (by omega) (fun j hj => by omega) ⟨fun _ j hj => by omega, fun _ => rfl⟩
  rw [show k - lst.length + lst.length = k by omega, List.drop_zero] at this
  rw [show ((0 : Nat) : Int) = 0 from rfl] at this
  rw [this]
  congr 1
  by_cases c : lst.all (inB 0 1000000000) = true
  · rw [if_pos c]
  · rw [if_neg c]
    unfold certB
    simp [c]
def isCert (ps : List (List Int)) (ls lst : List Int) : Bool × Bool := if smB ps ls then (certB ps ls lst, true) else (false, false)
theorem spec_IsCertificate_is (k : Nat) (ps : List (List Int)) (ls lst : List Int) (hr : ∀ r ∈ ps, r.length ≤ 1048576) (hm : ls.length ≤ 1048576) (hn : lst.length ≤ 1048576) (hk : 1050000 < k) : spec_IsCertificate.f k ps ls lst = some (isCert ps ls lst) := by
  unfold spec_IsCertificate.f isCert
  rw [spec_l2Sample_is k ps ls hr hm (by omega)]
  simp only [Option.bind_some]
  by_cases c : smB ps ls = true
  · rw [if_pos c, if_pos c, spec_l4Certificate_is k ps ls lst c hn hk]
    rfl
  · rw [if_neg c, if_neg c]
theorem impl_isLabel_is (a : Int) : impl_isLabel.f a = some (lbB a) := by
  unfold impl_isLabel.f lbB
  by_cases e1 : a = 1
  · rw [if_pos e1]
    simp [e1]
  · rw [if_neg e1]
    congr 1
    by_cases e2 : a = -1
    · simp [e2]
    · simp [e1, e2]
theorem impl_within_is (a lo hi : Int) : impl_within.f a lo hi = some (inB lo hi a) := by
  unfold impl_within.f
  exact within_is a lo hi
theorem impl_allWithin_l : ∀ (k i : Nat) (l : List Int) (lo hi : Int), l.length ≤ 4611686018427387904 → i ≤ l.length → l.length < i + k → impl_allWithin.l0 k lo hi l (l.length : Int) (i : Int) = some ((l.drop i).all (inB lo hi))
  | 0, _, _, _, _, _, _, hk => by omega
  | k + 1, i, l, lo, hi, hn, hi', hk => by
    simp only [impl_allWithin.l0]
    by_cases h : i < l.length
    · rw [if_pos (by omega), if_pos (by omega), if_pos (by omega), impl_within_is, rd_nat l i h, w64_nat (by omega), List.drop_eq_getElem_cons h, List.all_cons, impl_allWithin_l k (i + 1) l lo hi hn (by omega) (by omega)]
      simp only [Option.bind_some]
      by_cases e : inB lo hi l[i] = true
      · rw [if_pos e, e]
        simp
      · rw [if_neg e]
        simp [e]
    · rw [if_neg (by omega), List.drop_of_length_le (by omega)]
      simp
theorem impl_allWithin_is (k : Nat) (l : List Int) (lo hi : Int) (hn : l.length ≤ 4611686018427387904) (hk : l.length < k) : impl_allWithin.f k l lo hi = some (l.all (inB lo hi)) := by
  unfold impl_allWithin.f
  have := impl_allWithin_l k 0 l lo hi hn (by omega) (by omega)
  simpa using this
theorem impl_IsPoint_is (k : Nat) (l : List Int) (hn : l.length ≤ 4611686018427387904) (hk : l.length < k) : impl_IsPoint.f k l = some (ptB l) := by
  unfold impl_IsPoint.f ptB
  rw [impl_within_is, impl_allWithin_is k l (-9) 9 hn hk]
  simp only [Option.bind_some]
  cases inB 1 4 (l.length : Int) <;> simp
theorem impl_IsSample_l (k0 : Nat) (hk0 : 1048576 < k0) : ∀ (k i : Nat) (l : List (List Int)) (m : List Int), l.length ≤ 16 → m.length = l.length → (∀ r ∈ l, r.length ≤ 1048576) → i ≤ l.length → l.length < i + k → impl_IsSample.l0 (k + k0) l (l.length : Int) (i : Int) l m = some ((m.drop i).all lbB && (l.drop i).all fun x => ptB x && decide (x.length = (l.headD []).length))
  | 0, i, l, m, _, _, _, _, hk => by omega
  | k + 1, i, l, m, hn, hm, hr, hi, hk => by
    rw [show k + 1 + k0 = (k + k0) + 1 by omega]
    simp only [impl_IsSample.l0]
    by_cases h : i < l.length
    · have h' : i < m.length := by omega
      have e : rd_L1 l (i : Int) = l[i] := by simp [rd_L1, h]
      have e0 : rd_L1 l 0 = l.headD [] := by cases l <;> simp [rd_L1]
      have hx := hr l[i] (List.getElem_mem h)
      rw [if_pos (by omega), if_pos (by omega), if_pos (by omega), e, impl_IsPoint_is (k + k0) l[i] (by omega) (by omega), e0]
      simp only [Option.bind_some]
      rw [List.drop_eq_getElem_cons h, List.all_cons, List.drop_eq_getElem_cons h', List.all_cons]
      by_cases c1 : ptB l[i] = true
      · rw [if_pos c1, if_pos (by omega), c1, Bool.true_and]
        by_cases c2 : l[i].length = (l.headD []).length
        · rw [if_pos (by omega), if_pos (by omega), impl_isLabel_is, rd_nat m i h', w64_nat (by omega), impl_IsSample_l k0 hk0 k (i + 1) l m hn hm hr (by omega) (by omega)]
          simp only [Option.bind_some]
          by_cases c3 : lbB m[i] = true
          · rw [if_pos c3, c3]
            simp [c2]
          · rw [if_neg c3]
            simp [c3]
        · rw [if_neg (by omega)]
          simp only [c2, decide_false, Bool.false_and, Bool.and_false]
      · rw [if_neg c1]
        simp [c1]
    · rw [if_neg (by omega), List.drop_of_length_le (by omega), List.drop_of_length_le (by omega)]
      simp
theorem impl_IsSample_is (k : Nat) (l : List (List Int)) (m : List Int) (hr : ∀ r ∈ l, r.length ≤ 1048576) (hm : m.length ≤ 1048576) (hk : 1048600 < k) : impl_IsSample.f k l m = some (smB l m) := by
  obtain ⟨k, rfl⟩ : ∃ q, k = q + 1 := ⟨k - 1, by omega⟩
  unfold impl_IsSample.f smB
  by_cases c1 : l.length ≤ 16
  · rw [if_neg (by omega)]
    simp only [impl_IsSample.j0]
    by_cases c2 : m.length = l.length
    · rw [if_neg (by simp [c2])]
      have := impl_IsSample_l (k - 17) (by omega) 17 0 l m c1 c2 hr (by omega) (by omega)
      rw [show 17 + (k - 17) = k by omega] at this
      rw [show ((0 : Nat) : Int) = 0 from rfl] at this
      rw [this]
      simp [c1, c2]
    · rw [if_pos (by simp; omega)]
      simp [c2]
  · rw [if_pos (by omega)]
    simp [impl_IsSample.j0, c1]
theorem impl_total_l (l : List Int) (hn : l.length ≤ 16) (hb : l.all (inB 0 1000000000) = true) : ∀ (k i : Nat) (s : Int), i ≤ l.length → l.length < i + k → 0 ≤ s → s ≤ 1000000000 * i → impl_total.l0 k s l (l.length : Int) (i : Int) = some (s + (l.drop i).sum)
  | 0, _, _, _, hk, _, _ => by omega
  | k + 1, i, s, hi, hk, h0, h1 => by
    simp only [impl_total.l0]
    by_cases h : i < l.length
    · have q := all_range hb i h
      rw [if_pos (by omega), if_pos (by omega), if_pos (by omega), rd_nat l i h, w64_nat (by omega), w64 (by omega) (by omega), impl_total_l l hn hb k (i + 1) _ (by omega) (by omega) (by omega) (by omega), List.drop_eq_getElem_cons h, List.sum_cons]
      congr 1
      omega
    · rw [if_neg (by omega), List.drop_of_length_le (by omega)]
      simp
theorem impl_total_is (k : Nat) (l : List Int) (hn : l.length ≤ 16) (hb : l.all (inB 0 1000000000) = true) (hk : 20 < k) : impl_total.f k l = some l.sum := by
  unfold impl_total.f
  have := impl_total_l l hn hb k 0 0 (by omega) (by omega) (by omega) (by omega)
  simpa using this
theorem impl_Sample_signed_l (ps : List (List Int)) (ls : List Int) (i : Nat) (hi : i < ls.length) (p : List Int) (hp : p.length ≤ 4) : ∀ (k j : Nat) (acc : List Int), acc.length = j + 1 → j ≤ p.length → p.length < j + k → impl_Sample_signed.l0 k (i : Int) acc p (p.length : Int) (j : Int) ps ls = some (acc ++ (p.drop j).map fun x => wrap64 (x * rd ls i))
  | 0, _, _, _, _, hk => by omega
  | k + 1, j, acc, ha, hj, hk => by
    simp only [impl_Sample_signed.l0]
    by_cases h : j < p.length
    · rw [if_pos (by omega), if_pos (by omega), if_pos (by omega), if_pos (by omega), if_pos (by omega), if_pos (by omega), rd_nat p j h, w64_nat (by omega), impl_Sample_signed_l ps ls i hi p hp k (j + 1) _ (by simp [ha]) (by omega) (by omega), List.drop_eq_getElem_cons h]
      simp only [List.map_cons, List.append_assoc, List.singleton_append]
    · rw [if_neg (by omega), List.drop_of_length_le (by omega)]
      simp
theorem impl_Sample_signed_is (k : Nat) (ps : List (List Int)) (ls : List Int) (i : Nat) (hs : smB ps ls = true) (hi : i < ps.length) (hk : 10 < k) : impl_Sample_signed.f k ps ls (i : Int) = some (signedL (rd ls i) (rd_L1 ps i)) := by
  obtain ⟨h16, hlen, _, hrow⟩ := smB_parts hs
  have e : rd_L1 ps (i : Int) = ps[i] := by simp [rd_L1, hi]
  have q := ptB_parts (hrow ps[i] (List.getElem_mem hi)).1
  unfold impl_Sample_signed.f signedL
  rw [if_pos (by omega), if_pos (by omega), if_pos (by omega), e]
  have := impl_Sample_signed_l ps ls i (by omega) ps[i] q.2.2 k 0 [rd ls i] rfl (by omega) (by omega)
  rw [show ((0 : Nat) : Int) = 0 from rfl] at this
  rw [this]
  simp
theorem impl_Sample_summed_l1 (lst : List Int) (ps : List (List Int)) (ls : List Int) (n x13 : Int) (i : Nat) (hi : i ≠ 0) (sg : List Int) : ∀ (spost : List Int) (k : Nat) (spre pre post : List Int), sg = spre ++ spost → pre.length = spre.length → post.length = spost.length → pre.length + post.length ≤ 1000 → impl_Sample_summed.l1 (k + spost.length + 1) (pre ++ post) (i : Int) n lst (lst.length : Int) x13 sg (sg.length : Int) (spre.length : Int) ps ls = impl_Sample_summed.l0 k (pre ++ wadd n post spost) lst (lst.length : Int) (wrap64 (x13 + 1)) ps ls
  | [], k, spre, pre, post, he, h1, h2, h3 => by
    have : post = [] := List.length_eq_zero_iff.1 h2
    subst this
    rw [List.length_nil, Nat.add_zero, impl_Sample_summed.l1, if_neg (by rw [he]; simp)]
    simp [wadd]
  | x :: spost, k, spre, pre, [], he, h1, h2, h3 => by simp at h2
  | x :: spost, k, spre, pre, y :: post, he, h1, h2, h3 => by
    simp only [List.length_cons] at h2 h3
    have rs : rd sg (spre.length : Int) = x := by rw [he]; exact rd_mid_nat _ _ _
    rw [show k + (x :: spost).length + 1 = (k + spost.length + 1) + 1 by simp; omega, impl_Sample_summed.l1, if_pos (by rw [he]; simp; omega), if_pos (by omega), if_pos (by rw [he]; simp; omega), if_neg (by omega), rs, ← h1, if_pos (by simp; omega), rd_mid_nat, set_mid pre post y _ _ (by simp), w64_nat (by omega)]
    have ih := impl_Sample_summed_l1 lst ps ls n x13 i hi sg spost k (spre ++ [x]) (pre ++ [wrap64 (y + wrap64 (n * x))]) post (by rw [he]; simp) (by simp [h1]) (by omega) (by simp; omega)
    simp only [List.append_assoc, List.singleton_append, List.length_append, List.length_cons, List.length_nil, Nat.zero_add] at ih
    rw [← h1] at ih
    rw [ih]
    simp [wadd]
theorem impl_Sample_summed_l1z (lst : List Int) (ps : List (List Int)) (ls : List Int) (n x13 : Int) (sg : List Int) : ∀ (spost : List Int) (k : Nat) (spre pre : List Int), sg = spre ++ spost → pre.length = spre.length → pre.length + spost.length ≤ 1000 → impl_Sample_summed.l1 (k + spost.length + 1) pre 0 n lst (lst.length : Int) x13 sg (sg.length : Int) (spre.length : Int) ps ls = impl_Sample_summed.l0 k (pre ++ wadd n (List.replicate spost.length 0) spost) lst (lst.length : Int) (wrap64 (x13 + 1)) ps ls
  | [], k, spre, pre, he, h1, h3 => by
    rw [List.length_nil, Nat.add_zero, impl_Sample_summed.l1, if_neg (by rw [he]; simp)]
    simp [wadd]
  | x :: spost, k, spre, pre, he, h1, h3 => by
    simp only [List.length_cons] at h3
    have rs : rd sg (spre.length : Int) = x := by rw [he]; exact rd_mid_nat _ _ _
    rw [show k + (x :: spost).length + 1 = (k + spost.length + 1) + 1 by simp; omega, impl_Sample_summed.l1, if_pos (by rw [he]; simp; omega), if_pos (by omega), if_pos (by rw [he]; simp; omega), if_pos rfl, if_pos (by omega)]
    simp only [Option.bind_some]
    rw [rs, ← h1, if_pos (by simp; omega), rd_mid_nat, set_mid pre [] 0 _ _ (by simp), w64_nat (by omega)]
    have ih := impl_Sample_summed_l1z lst ps ls n x13 sg spost k (spre ++ [x]) (pre ++ [wrap64 (0 + wrap64 (n * x))]) (by rw [he]; simp) (by simp [h1]) (by simp; omega)
    simp only [List.length_append, List.length_cons, List.length_nil, Nat.zero_add] at ih
    rw [← h1] at ih
    rw [ih]
    simp [wadd, List.replicate_succ]
theorem impl_Sample_summed_l0 (lst : List Int) (ps : List (List Int)) (ls : List Int) (hs : smB ps ls = true) (hl : lst.length = ps.length) : ∀ (m k i : Nat) (acc : List Int), i + m = ps.length → 0 < i → acc.length = (ps.headD []).length + 1 → 20 + m * 20 < k → impl_Sample_summed.l0 k acc lst (lst.length : Int) (i : Int) ps ls = some (sumsI (ps.drop i) (ls.drop i) (lst.drop i) acc)
  | 0, k, i, acc, hi, h0, ha, hk => by
    obtain ⟨k, rfl⟩ : ∃ z, k = z + 1 := ⟨k - 1, by omega⟩
    rw [impl_Sample_summed.l0, if_neg (by omega), List.drop_of_length_le (by omega)]
    simp [sumsI]
  | m + 1, k, i, acc, hi, h0, ha, hk => by
    obtain ⟨h16, hlen, _, hrow⟩ := smB_parts hs
    obtain ⟨k, rfl⟩ : ∃ z, k = z + 1 := ⟨k - 1, by omega⟩
    have i1 : i < ps.length := by omega
    have i2 : i < ls.length := by omega
    have i3 : i < lst.length := by omega
    have e : rd_L1 ps (i : Int) = ps[i] := by simp [rd_L1, i1]
    obtain ⟨q1, q2⟩ := hrow ps[i] (List.getElem_mem i1)
    have q3 := (ptB_parts q1).2.2
    have sl : (signedL ls[i] ps[i]).length = (ps.headD []).length + 1 := by simp [signedL, q2]
    rw [impl_Sample_summed.l0, if_pos (by omega), if_pos (by omega), if_pos (by omega), impl_Sample_signed_is k ps ls i hs i1 (by omega), rd_nat ls i i2, e, rd_nat lst i i3]
    simp only [Option.bind_some]
    have l1 := impl_Sample_summed_l1 lst ps ls lst[i] (i : Int) i (by omega) (signedL ls[i] ps[i]) (signedL ls[i] ps[i]) (k - (signedL ls[i] ps[i]).length - 1) [] [] acc rfl rfl (by omega) (by simp; omega)
    rw [show k - (signedL ls[i] ps[i]).length - 1 + (signedL ls[i] ps[i]).length + 1 = k by omega] at l1
    simp only [List.length_nil, List.nil_append] at l1
    rw [show ((0 : Nat) : Int) = 0 from rfl] at l1
    rw [l1, w64_nat (by omega), impl_Sample_summed_l0 lst ps ls hs hl m _ (i + 1) _ (by omega) (by omega) (by rw [wadd_length _ _ _ (by omega)]; exact ha) (by omega), List.drop_eq_getElem_cons i1, List.drop_eq_getElem_cons i2, List.drop_eq_getElem_cons i3]
    simp only [sumsI]
theorem impl_Sample_summed_is (k : Nat) (ps : List (List Int)) (ls lst : List Int) (hs : smB ps ls = true) (hl : lst.length = ps.length) (hp : 0 < ps.length) (hk : 500 < k) : impl_Sample_summed.f k ps ls lst = some (sumsI ps ls lst (List.replicate ((ps.headD []).length + 1) 0)) := by
  obtain ⟨h16, hlen, _, hrow⟩ := smB_parts hs
  obtain ⟨k, rfl⟩ : ∃ z, k = z + 1 := ⟨k - 1, by omega⟩
  unfold impl_Sample_summed.f
  have e : rd_L1 ps ((0 : Nat) : Int) = ps[0] := by simp [rd_L1, hp]
  have e' : ps.headD [] = ps[0] := by cases ps with
    | nil => simp at hp
    | cons a t => rfl
  have i2 : 0 < ls.length := by omega
  have i3 : 0 < lst.length := by omega
  obtain ⟨q1, q2⟩ := hrow ps[0] (List.getElem_mem hp)
  have q3 := (ptB_parts q1).2.2
  have sg := impl_Sample_signed_is k ps ls 0 hs hp (by omega)
  rw [rd_nat ls 0 i2, e] at sg
  have sl : (signedL ls[0] ps[0]).length = ps[0].length + 1 := by simp [signedL]
  have n0 := rd_nat lst 0 i3
  rw [show ((0 : Nat) : Int) = 0 from rfl] at sg n0
  rw [impl_Sample_summed.l0, if_pos (by omega), if_pos (by omega), if_pos (by omega), sg, n0]
  simp only [Option.bind_some]
  have l1 := impl_Sample_summed_l1z lst ps ls lst[0] 0 (signedL ls[0] ps[0]) (signedL ls[0] ps[0]) (k - (signedL ls[0] ps[0]).length - 1) [] [] rfl rfl (by simp; omega)
  rw [show k - (signedL ls[0] ps[0]).length - 1 + (signedL ls[0] ps[0]).length + 1 = k by omega] at l1
  simp only [List.length_nil, List.nil_append] at l1
  rw [show ((0 : Nat) : Int) = 0 from rfl] at l1
  rw [l1, show wrap64 (0 + 1) = ((1 : Nat) : Int) by unfold wrap64; omega, impl_Sample_summed_l0 lst ps ls hs hl (ps.length - 1) _ 1 _ (by omega) (by omega) (by rw [wadd_length _ _ _ (by simp), List.length_replicate, sl, e']) (by omega), e', sl]
  have d1 := List.drop_eq_getElem_cons hp
  have d2 := List.drop_eq_getElem_cons i2
  have d3 := List.drop_eq_getElem_cons i3
  rw [List.drop_zero] at d1 d2 d3
  rw [show sumsI ps ls lst (List.replicate (ps[0].length + 1) 0) = sumsI (ps[0] :: ps.drop 1) (ls[0] :: ls.drop 1) (lst[0] :: lst.drop 1) (List.replicate (ps[0].length + 1) 0) from by rw [← d1, ← d2, ← d3]]
  simp only [sumsI]
theorem impl_Sample_isCertificate_l : ∀ (k i : Nat) (l : List Int), l.length ≤ 1000 → i ≤ l.length → l.length < i + k → impl_Sample_isCertificate.l0 k l (l.length : Int) (i : Int) = some ((l.drop i).all fun x => decide (x = 0))
  | 0, _, _, _, _, hk => by omega
  | k + 1, i, l, hn, hi', hk => by
    simp only [impl_Sample_isCertificate.l0]
    by_cases h : i < l.length
    · rw [if_pos (by omega), if_pos (by omega), if_pos (by omega), rd_nat l i h, w64_nat (by omega), List.drop_eq_getElem_cons h, List.all_cons, impl_Sample_isCertificate_l k (i + 1) l hn (by omega) (by omega)]
      by_cases e : l[i] = 0
      · rw [if_pos e]
        simp [e]
      · rw [if_neg e]
        simp [e]
    · rw [if_neg (by omega), List.drop_of_length_le (by omega)]
      simp
theorem sumsI_length {d : Nat} : ∀ (ps : List (List Int)) (ls ns acc : List Int), (∀ p ∈ ps, p.length = d) → acc.length = d + 1 → (sumsI ps ls ns acc).length = d + 1
  | [], ls, ns, acc, _, h => by simp [sumsI, h]
  | p :: ps, [], ns, acc, _, h => by simp [sumsI, h]
  | p :: ps, l :: ls, [], acc, _, h => by simp [sumsI, h]
  | p :: ps, l :: ls, n :: ns, acc, hp, h => by
    simp only [sumsI]
    refine sumsI_length ps ls ns _ (fun z hz => hp z (List.mem_cons_of_mem _ hz)) ?_
    have := hp p (by simp)
    rw [wadd_length _ _ _ (by simp [h, signedL, this])]
    exact h
theorem impl_Sample_isCertificate_is (k : Nat) (ps : List (List Int)) (ls lst : List Int) (hs : smB ps ls = true) (hn : lst.length ≤ 1048576) (hk : 1050000 < k) : impl_Sample_isCertificate.f k ps ls lst = some (certB ps ls lst) := by
  obtain ⟨k, rfl⟩ : ∃ z, k = z + 1 := ⟨k - 1, by omega⟩
  obtain ⟨h16, hlen, hlab, hrow⟩ := smB_parts hs
  unfold impl_Sample_isCertificate.f certB
  by_cases c : lst.length = ps.length
  · rw [if_pos (by omega), impl_allWithin_is _ lst 0 1000000000 (by omega) (by omega)]
    simp only [Option.bind_some]
    by_cases hb : lst.all (inB 0 1000000000) = true
    · rw [if_pos hb, impl_total_is _ lst (by omega) hb (by omega)]
      simp only [Option.bind_some, impl_Sample_isCertificate.j0]
      by_cases c2 : lst.sum = 0
      · rw [if_pos (by simp [c2])]
        simp [c2]
      · have hp : 0 < ps.length := by
          cases lst with
          | nil => simp at c2
          | cons x t => simp at c; omega
        have hd : ∀ p ∈ ps, p.length = (ps.headD []).length := fun p hp => (hrow p hp).2
        have q4 : (ps.headD []).length ≤ 4 := by
          cases ps with
          | nil => simp at hp
          | cons x t => have := ptB_parts (hrow x (by simp)).1; simp; omega
        have l1 := sumsI_length ps ls lst (List.replicate ((ps.headD []).length + 1) 0) hd (by simp)
        have df := sums_diff (d := (ps.headD []).length) ps ls lst 0 (List.replicate ((ps.headD []).length + 1) 0) (List.replicate ((ps.headD []).length + 1) 0) (List.replicate ((ps.headD []).length + 1) 0) (by omega) (by omega) hlen c (fun p hp => hrow p hp) hlab hb (by simp) (diffR_zero _ _ (by omega)) (by simp) (by simp)
        rw [if_neg (by simp [c2]), impl_Sample_summed_is k ps ls lst hs c hp (by omega)]
        simp only [Option.bind_some]
        have l0 := impl_Sample_isCertificate_l k 0 (sumsI ps ls lst (List.replicate ((ps.headD []).length + 1) 0)) (by omega) (by omega) (by omega)
        rw [show ((0 : Nat) : Int) = 0 from rfl, List.drop_zero] at l0
        rw [l0, diffR_same df]
        simp [c, hb, c2]
    · rw [if_neg hb]
      simp [impl_Sample_isCertificate.j0, hb]
  · rw [if_neg (by omega)]
    simp [impl_Sample_isCertificate.j0, c]
theorem impl_IsCertificate_is (k : Nat) (ps : List (List Int)) (ls lst : List Int) (hr : ∀ r ∈ ps, r.length ≤ 1048576) (hm : ls.length ≤ 1048576) (hn : lst.length ≤ 1048576) (hk : 1050000 < k) : impl_IsCertificate.f k ps ls lst = some (isCert ps ls lst) := by
  unfold impl_IsCertificate.f isCert
  rw [impl_IsSample_is k ps ls hr hm (by omega)]
  simp only [Option.bind_some]
  by_cases c : smB ps ls = true
  · rw [if_pos c, if_pos c, impl_Sample_isCertificate_is k ps ls lst c hn hk]
    rfl
  · rw [if_neg c, if_neg c]
theorem FnExactIsCertificate : ∀ (l0 : List (List Int)) (m0 : List Int) (l1 : List Int), l0.length ≤ maxLen → (∀ r ∈ l0, r.length ≤ maxLen ∧ ∀ x ∈ r, (Lit.int .i64 x).wf = true) → m0.length ≤ maxLen → (∀ x ∈ m0, (Lit.int .i64 x).wf = true) → l1.length ≤ maxLen → (∀ x ∈ l1, (Lit.int .i64 x).wf = true) → ∃ k, laws_FnExactIsCertificate.f k l0 m0 l1 = some true := by
  intro l m ws hl hr hm _ hw _
  unfold maxLen at hl hr hm hw
  obtain ⟨K, hK⟩ : ∃ K, 3000000 ≤ K := ⟨_, Nat.le_refl _⟩
  refine ⟨K + 1 + 1 + 1, ?_⟩
  unfold laws_FnExactIsCertificate.f
  by_cases g : (ws.length : Int) > 1048576
  · rw [if_pos g]
  · rw [if_neg g]
    obtain ⟨v, hv, hc⟩ := laws_szSample_tells (K + 1 + 1 + 1) l m 1048576 (by omega) (by omega) (by omega) (fun r h => by have := (hr r h).1; omega) (by omega) (by omega)
    rw [hv]
    simp only [Option.bind_some]
    rcases hc with hc | ⟨a1, a2, a3, a4, a5⟩
    · rw [if_pos hc]
    · rw [if_neg (by omega), laws_toSample_is _ l m a3 a4 a5 (by omega), laws_toIntS_is _ ws (by omega) (by omega)]
      simp only [Option.bind_some]
      rw [spec_IsCertificate_is _ l m ws a4 a5 (by omega) (by omega), impl_IsCertificate_is _ l m ws a4 a5 (by omega) (by omega)]
      simp only [Option.bind_some, if_true, bne_self, laws_FnExactIsCertificate.j0]
      rw [laws_toSample_is _ l m a3 a4 a5 (by omega), laws_toIntS_is _ ws (by omega) (by omega)]
      simp only [Option.bind_some]
      rw [laws_eqSample_same _ l m a3 a4 a5 (by omega), laws_eqIntS_same _ ws (by omega) (by omega)]
      simp

end Go.Proofs.Ytgbgkifddjeabaa.Pure
