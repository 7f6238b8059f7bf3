/- Proved: the law FnExactNearestPair answers true for every sample; no condition. -/
import Derived.Test.YtgbgkifddjeabaaQFnExactNearestPairx5
import Derived.Test.YtgbgkifddjeabaaBase
set_option linter.unusedVariables false
set_option linter.unusedSimpArgs false
namespace Go.Proofs.Ytgbgkifddjeabaa.Pure
open Go.RowKit Go.Proofs.Ytgbgkifddjeabaa.QFnExactNearestPair Go.Proofs.YtgbgkifddjeabaaW.PrintWords Go.Proofs.YtgbgkifddjeabaaW.PrintLast Go.Proofs.YtgbgkifddjeabaaW.PrintMore Go.Proofs.Ytgbgkifddjeabaa.Base

theorem laws_szIntS_is (l : List Int) (a : Int) (h0 : 0 ≤ a) (h1 : a ≤ 4611686018427387904) (hl : l.length ≤ 9223372036854775807) : laws_szIntS.f l a = some (if (l.length : Int) ≤ a then a - l.length else -1) := by
  unfold laws_szIntS.f
  rw [w64 (by omega) (by omega)]
  by_cases h : (l.length : Int) ≤ a
  · rw [if_neg (by omega), if_pos h]
  · rw [if_pos (by omega), if_neg h]
theorem laws_szIntSS_l : ∀ (k i : Nat) (x : List (List Int)) (a : Int), 0 ≤ a → a ≤ 1048576 → x.length ≤ 1048576 → (∀ r ∈ x, r.length ≤ 9223372036854775807) → i ≤ x.length → x.length < i + k → ∃ v, laws_szIntSS.l0 k x a (i : Int) = some v ∧ (v < 0 ∨ (0 ≤ v ∧ v ≤ a ∧ ∀ r ∈ x.drop i, r.length ≤ 1048576))
  | 0, _, _, _, _, _, _, _, _, hk => by omega
  | k + 1, i, x, a, h0, h1, hn, hr, hi, hk => by
    simp only [laws_szIntSS.l0]
    by_cases h : i < x.length
    · have e : rd_L1 x (i : Int) = x[i] := by simp [rd_L1, h]
      have hx := hr x[i] (List.getElem_mem h)
      rw [if_pos (by omega), if_pos (by omega), e, laws_szIntS_is x[i] a h0 (by omega) hx]
      simp only [Option.bind_some]
      by_cases c : (x[i].length : Int) ≤ a
      · rw [if_pos c, if_neg (by omega), w64_nat (by omega)]
        obtain ⟨v, hv, hc⟩ := laws_szIntSS_l k (i + 1) x (a - x[i].length) (by omega) (by omega) hn hr (by omega) (by omega)
        refine ⟨v, hv, ?_⟩
        rcases hc with hc | ⟨a1, a2, a3⟩
        · exact .inl hc
        · refine .inr ⟨a1, by omega, fun r hr' => ?_⟩
          rw [List.drop_eq_getElem_cons h] at hr'
          rcases List.mem_cons.1 hr' with rfl | hr'
          · omega
          · exact a3 r hr'
      · rw [if_neg c, if_pos (by omega)]
        exact ⟨-1, rfl, .inl (by omega)⟩
    · rw [if_neg (by omega)]
      refine ⟨a, rfl, .inr ⟨h0, Int.le_refl _, fun r hr' => ?_⟩⟩
      rw [List.drop_of_length_le (by omega)] at hr'
      simp at hr'
theorem laws_szIntSS_tells (k : Nat) (x : List (List Int)) (a : Int) (h0 : 0 ≤ a) (h1 : a ≤ 1048576) (hn : x.length ≤ 9223372036854775807) (hr : ∀ r ∈ x, r.length ≤ 9223372036854775807) (hk : 1048576 < k) : ∃ v, laws_szIntSS.f k x a = some v ∧ (v < 0 ∨ (0 ≤ v ∧ v ≤ a ∧ x.length ≤ 1048576 ∧ ∀ r ∈ x, r.length ≤ 1048576)) := by
  unfold laws_szIntSS.f
  rw [w64 (by omega) (by omega)]
  by_cases c : (x.length : Int) ≤ a
  · rw [if_neg (by omega)]
    obtain ⟨v, hv, hc⟩ := laws_szIntSS_l k 0 x (a - x.length) (by omega) (by omega) (by omega) hr (by omega) (by omega)
    refine ⟨v, hv, ?_⟩
    rcases hc with hc | ⟨a1, a2, a3⟩
    · exact .inl hc
    · exact .inr ⟨a1, by omega, by omega, by simpa using a3⟩
  · rw [if_pos (by omega)]
    exact ⟨-1, rfl, .inl (by omega)⟩
theorem laws_szSample_tells (k : Nat) (x : List (List Int)) (m : List Int) (a : Int) (h0 : 0 ≤ a) (h1 : a ≤ 1048576) (hn : x.length ≤ 9223372036854775807) (hr : ∀ r ∈ x, r.length ≤ 9223372036854775807) (hm : m.length ≤ 9223372036854775807) (hk : 1048576 < k) : ∃ v, laws_szSample.f k x m a = some v ∧ (v < 0 ∨ (0 ≤ v ∧ v ≤ a ∧ x.length ≤ 1048576 ∧ (∀ r ∈ x, r.length ≤ 1048576) ∧ m.length ≤ 1048576)) := by
  unfold laws_szSample.f
  obtain ⟨v, hv, hc⟩ := laws_szIntSS_tells k x a h0 h1 hn hr hk
  rw [hv]
  simp only [Option.bind_some]
  rcases hc with hc | ⟨a1, a2, a3, a4⟩
  · rw [if_pos hc]
    exact ⟨-1, rfl, .inl (by omega)⟩
  · rw [if_neg (by omega), laws_szIntS_is m v a1 (by omega) hm]
    simp only [Option.bind_some]
    by_cases c : (m.length : Int) ≤ v
    · rw [if_pos c, if_neg (by omega)]
      exact ⟨_, rfl, .inr ⟨by omega, by omega, a3, a4, by omega⟩⟩
    · rw [if_neg c, if_pos (by omega)]
      exact ⟨-1, rfl, .inl (by omega)⟩
theorem laws_toIntS_l : ∀ (k i : Nat) (l acc : List Int), l.length ≤ 4611686018427387904 → acc.length = l.length → i ≤ l.length → l.length < i + k → (∀ j, j < i → acc[j]? = l[j]?) → laws_toIntS.l0 k l acc (i : Int) = some l
  | 0, i, l, acc, _, _, _, hk, _ => by omega
  | k + 1, i, l, acc, hn, hl, hi, hk, hj => by
    simp only [laws_toIntS.l0]
    by_cases h : i < l.length
    · rw [if_pos (by omega), if_pos (by omega), if_pos (by omega), rd_nat l i h, w64_nat (by omega)]
      refine laws_toIntS_l k (i + 1) l _ hn (by simp [hl]) (by omega) (by omega) fun j hj' => ?_
      rw [List.getElem?_set]
      by_cases e : i = j
      · subst e
        simp [h, hl]
      · simp only [Int.toNat_natCast]
        rw [if_neg e]
        exact hj j (by omega)
    · rw [if_neg (by omega)]
      congr 1
      refine List.ext_getElem? fun j => ?_
      by_cases e : j < i
      · exact hj j e
      · rw [List.getElem?_eq_none (by omega), List.getElem?_eq_none (by omega)]
theorem laws_toIntS_is (k : Nat) (l : List Int) (hn : l.length ≤ 35184372088832) (hk : l.length < k) : laws_toIntS.f k l = some l := by
  unfold laws_toIntS.f
  rw [if_pos (by omega), if_pos (by omega)]
  exact laws_toIntS_l k 0 l _ (by omega) (by simp) (by omega) (by omega) fun j hj => by omega
theorem laws_toIntSS_l : ∀ (k i : Nat) (l acc : List (List Int)), l.length ≤ 1048576 → (∀ r ∈ l, r.length ≤ 1048576) → acc.length = l.length → i ≤ l.length → l.length + 1048576 < i + k → (∀ j, j < i → acc[j]? = l[j]?) → laws_toIntSS.l0 k l acc (i : Int) = some l
  | 0, i, l, acc, _, _, _, _, hk, _ => by omega
  | k + 1, i, l, acc, hn, hr, hl, hi, hk, hj => by
    simp only [laws_toIntSS.l0]
    by_cases h : i < l.length
    · have e : rd_L1 l (i : Int) = l[i] := by simp [rd_L1, h]
      have hx := hr l[i] (List.getElem_mem h)
      rw [if_pos (by omega), if_pos (by omega), e, laws_toIntS_is k l[i] (by omega) (by omega)]
      simp only [Option.bind_some]
      rw [if_pos (by omega), w64_nat (by omega)]
      refine laws_toIntSS_l k (i + 1) l _ hn hr (by simp [hl]) (by omega) (by omega) fun j hj' => ?_
      rw [List.getElem?_set]
      by_cases e : i = j
      · subst e
        simp [h, hl]
      · simp only [Int.toNat_natCast]
        rw [if_neg e]
        exact hj j (by omega)
    · rw [if_neg (by omega)]
      congr 1
      refine List.ext_getElem? fun j => ?_
      by_cases e : j < i
      · exact hj j e
      · rw [List.getElem?_eq_none (by omega), List.getElem?_eq_none (by omega)]
theorem laws_toIntSS_is (k : Nat) (l : List (List Int)) (hn : l.length ≤ 1048576) (hr : ∀ r ∈ l, r.length ≤ 1048576) (hk : 2097152 < k) : laws_toIntSS.f k l = some l := by
  unfold laws_toIntSS.f
  rw [if_pos (by omega), if_pos (by omega)]
  exact laws_toIntSS_l k 0 l _ hn hr (by simp) (by omega) (by omega) fun j hj => by omega
theorem laws_toSample_is (k : Nat) (l : List (List Int)) (m : List Int) (hn : l.length ≤ 1048576) (hr : ∀ r ∈ l, r.length ≤ 1048576) (hm : m.length ≤ 1048576) (hk : 2097152 < k) : laws_toSample.f k l m = some (l, m) := by
  unfold laws_toSample.f
  rw [laws_toIntSS_is k l hn hr hk, Option.bind_some, laws_toIntS_is k m (by omega) (by omega)]
  rfl
theorem laws_eqIntS_l : ∀ (k i : Nat) (l r : List Int), l.length ≤ 4611686018427387904 → r.length = l.length → i ≤ l.length → l.length < i + k → laws_eqIntS.l0 k l r (i : Int) = some (decide (l.drop i = r.drop i))
  | 0, i, l, r, _, _, _, hk => by omega
  | k + 1, i, l, r, hn, hl, hi, hk => by
    simp only [laws_eqIntS.l0]
    by_cases h : i < l.length
    · rw [if_pos (by omega), if_pos (by omega), if_pos (by omega), rd_nat l i h, rd_nat r i (by omega), w64_nat (by omega), laws_eqIntS_l k (i + 1) l r hn hl (by omega) (by omega), List.drop_eq_getElem_cons h, List.drop_eq_getElem_cons (show i < r.length by omega)]
      by_cases e : l[i] = r[i]'(by omega)
      · rw [if_pos e, e]
        simp only [List.cons.injEq, true_and]
      · rw [if_neg e]
        simp only [List.cons.injEq, e, false_and, decide_false]
    · rw [if_neg (by omega), List.drop_of_length_le (by omega), List.drop_of_length_le (by omega)]
      simp
theorem laws_eqIntS_is (k : Nat) (l r : List Int) (hn : l.length ≤ 4611686018427387904) (hk : l.length < k) : laws_eqIntS.f k l r = some (decide (l = r)) := by
  unfold laws_eqIntS.f
  by_cases h : l.length = r.length
  · rw [if_pos (by omega)]
    have := laws_eqIntS_l k 0 l r hn (by omega) (by omega) (by omega)
    simpa using this
  · rw [if_neg (by omega)]
    have : l ≠ r := fun e => h (by rw [e])
    simp [this]
theorem laws_eqIntS_same (k : Nat) (l : List Int) (hn : l.length ≤ 4611686018427387904) (hk : l.length < k) : laws_eqIntS.f k l l = some true := by
  rw [laws_eqIntS_is k l l hn hk]
  simp
theorem laws_eqIntSS_l : ∀ (k i : Nat) (l : List (List Int)), l.length ≤ 1048576 → (∀ r ∈ l, r.length ≤ 1048576) → i ≤ l.length → l.length + 1048576 < i + k → laws_eqIntSS.l0 k l l (i : Int) = some true
  | 0, i, l, _, _, _, hk => by omega
  | k + 1, i, l, hn, hr, hi, hk => by
    simp only [laws_eqIntSS.l0]
    by_cases h : i < l.length
    · have e : rd_L1 l (i : Int) = l[i] := by simp [rd_L1, h]
      have hx := hr l[i] (List.getElem_mem h)
      rw [if_pos (by omega), if_pos (by omega), if_pos (by omega), e, laws_eqIntS_same k l[i] (by omega) (by omega)]
      simp only [Option.bind_some, if_true]
      rw [w64_nat (by omega)]
      exact laws_eqIntSS_l k (i + 1) l hn hr (by omega) (by omega)
    · rw [if_neg (by omega)]
theorem laws_eqIntSS_same (k : Nat) (l : List (List Int)) (hn : l.length ≤ 1048576) (hr : ∀ r ∈ l, r.length ≤ 1048576) (hk : 2097152 < k) : laws_eqIntSS.f k l l = some true := by
  unfold laws_eqIntSS.f
  rw [if_pos rfl]
  exact laws_eqIntSS_l k 0 l hn hr (by omega) (by omega)
theorem laws_eqSample_same (k : Nat) (l : List (List Int)) (m : List Int) (hn : l.length ≤ 1048576) (hr : ∀ r ∈ l, r.length ≤ 1048576) (hm : m.length ≤ 1048576) (hk : 2097152 < k) : laws_eqSample.f k l m l m = some true := by
  unfold laws_eqSample.f
  rw [laws_eqIntSS_same k l hn hr hk, laws_eqIntS_same k m (by omega) (by omega)]
  rfl
theorem spec_l2Labels_l : ∀ (k i : Nat) (l : List Int), l.length ≤ 4611686018427387904 → i ≤ l.length → l.length < i + k → spec_l2Labels.l0 k l (i : Int) = some ((l.drop i).all lbB)
  | 0, _, _, _, _, hk => by omega
  | k + 1, i, l, hn, hi', hk => by
    simp only [spec_l2Labels.l0]
    by_cases h : i < l.length
    · rw [if_pos (by omega), if_pos (by omega), rd_nat l i h, w64_nat (by omega), List.drop_eq_getElem_cons h, List.all_cons, spec_l2Labels_l k (i + 1) l hn (by omega) (by omega)]
      by_cases e1 : l[i] = 1
      · rw [if_pos e1]
        simp [lbB, e1]
      · by_cases e2 : l[i] = -1
        · rw [if_neg e1, if_pos e2]
          simp [lbB, e2]
        · rw [if_neg e1, if_neg e2]
          simp [lbB, e1, e2]
    · rw [if_neg (by omega), List.drop_of_length_le (by omega)]
      simp
theorem spec_l2Labels_is (k : Nat) (l : List Int) (hn : l.length ≤ 4611686018427387904) (hk : l.length < k) : spec_l2Labels.f k l = some (l.all lbB) := by
  unfold spec_l2Labels.f
  have := spec_l2Labels_l k 0 l hn (by omega) (by omega)
  simpa using this
theorem spec_l1In_is (a lo hi : Int) : spec_l1In.f a lo hi = some (inB lo hi a) := by
  unfold spec_l1In.f
  exact within_is a lo hi
theorem spec_l2Numbers_l : ∀ (k i : Nat) (l : List Int) (m : Int), -4611686018427387904 ≤ m → m ≤ 4611686018427387904 → l.length ≤ 4611686018427387904 → i ≤ l.length → l.length < i + k → spec_l2Numbers.l0 k l m (i : Int) = some ((l.drop i).all (inB (-m) m))
  | 0, _, _, _, _, _, _, _, hk => by omega
  | k + 1, i, l, m, h1, h2, hn, hi, hk => by
    simp only [spec_l2Numbers.l0]
    by_cases h : i < l.length
    · rw [if_pos (by omega), if_pos (by omega), spec_l1In_is, rd_nat l i h, w64_nat (by omega), w64 (by omega) (by omega), List.drop_eq_getElem_cons h, List.all_cons, spec_l2Numbers_l k (i + 1) l m h1 h2 hn (by omega) (by omega)]
      simp only [Option.bind_some]
      by_cases e : inB (-m) m l[i] = true
      · rw [if_pos e, e]
        simp
      · rw [if_neg e]
        simp [e]
    · rw [if_neg (by omega), List.drop_of_length_le (by omega)]
      simp
theorem spec_l2Numbers_is (k : Nat) (l : List Int) (m : Int) (h1 : -4611686018427387904 ≤ m) (h2 : m ≤ 4611686018427387904) (hn : l.length ≤ 4611686018427387904) (hk : l.length < k) : spec_l2Numbers.f k l m = some (l.all (inB (-m) m)) := by
  unfold spec_l2Numbers.f
  have := spec_l2Numbers_l k 0 l m h1 h2 hn (by omega) (by omega)
  simpa using this
theorem spec_l2Point_is (k : Nat) (l : List Int) (hn : l.length ≤ 4611686018427387904) (hk : l.length < k) : spec_l2Point.f k l = some (ptB l) := by
  unfold spec_l2Point.f ptB
  rw [spec_l1In_is, spec_l2Numbers_is k l 9 (by omega) (by omega) hn hk]
  simp only [Option.bind_some]
  cases inB 1 4 (l.length : Int) <;> simp
theorem spec_l2Sample_l (k0 : Nat) (hk0 : 1048576 < k0) : ∀ (k i : Nat) (l : List (List Int)) (m : List Int), l.length ≤ 16 → (∀ r ∈ l, r.length ≤ 1048576) → i ≤ l.length → l.length < i + k → spec_l2Sample.l0 (k + k0) (i : Int) l m = some ((l.drop i).all fun x => ptB x && decide (x.length = (l.headD []).length))
  | 0, i, l, m, _, _, _, hk => by omega
  | k + 1, i, l, m, hn, hr, hi, hk => by
    rw [show k + 1 + k0 = (k + k0) + 1 by omega]
    simp only [spec_l2Sample.l0]
    by_cases h : i < l.length
    · have e : rd_L1 l (i : Int) = l[i] := by simp [rd_L1, h]
      have e0 : rd_L1 l 0 = l.headD [] := by cases l <;> simp [rd_L1]
      have hx := hr l[i] (List.getElem_mem h)
      rw [if_pos (by omega), if_pos (by omega), e, spec_l2Point_is (k + k0) l[i] (by omega) (by omega), e0]
      simp only [Option.bind_some]
      rw [List.drop_eq_getElem_cons h, List.all_cons]
      by_cases c1 : ptB l[i] = true
      · rw [if_pos c1, if_pos (by omega), c1, Bool.true_and]
        by_cases c2 : l[i].length = (l.headD []).length
        · rw [if_pos (by omega), w64_nat (by omega), spec_l2Sample_l k0 hk0 k (i + 1) l m hn hr (by omega) (by omega)]
          simp [c2]
        · rw [if_neg (by omega)]
          simp only [c2, decide_false, Bool.false_and, Bool.and_false]
      · rw [if_neg c1]
        simp [c1]
    · rw [if_neg (by omega), List.drop_of_length_le (by omega)]
      simp
theorem spec_l2Sample_is (k : Nat) (l : List (List Int)) (m : List Int) (hr : ∀ r ∈ l, r.length ≤ 1048576) (hm : m.length ≤ 1048576) (hk : 1048600 < k) : spec_l2Sample.f k l m = some (smB l m) := by
  obtain ⟨k, rfl⟩ : ∃ q, k = q + 1 := ⟨k - 1, by omega⟩
  unfold spec_l2Sample.f smB
  by_cases c1 : l.length ≤ 16
  · rw [if_neg (by omega)]
    by_cases c2 : m.length = l.length
    · rw [if_pos (by omega), spec_l2Labels_is _ m (by omega) (by omega)]
      simp only [Option.bind_some, spec_l2Sample.j0]
      have := spec_l2Sample_l (k - 17) (by omega) 17 0 l m c1 hr (by omega) (by omega)
      rw [show 17 + (k - 17) = k by omega] at this
      rw [show ((0 : Nat) : Int) = 0 from rfl] at this
      rw [this]
      cases e : m.all lbB
      · simp
      · simp [c1, c2]
    · rw [if_neg (by omega)]
      simp [spec_l2Sample.j0, c2]
  · rw [if_pos (by omega)]
    simp [spec_l2Sample.j0, c1]
theorem spec_l1Has_l : ∀ (k i : Nat) (l : List Int) (a : Int), l.length ≤ 4611686018427387904 → i ≤ l.length → l.length < i + k → spec_l1Has.l0 k l a (i : Int) = some ((l.drop i).any fun x => decide (x = a))
  | 0, _, _, _, _, _, hk => by omega
  | k + 1, i, l, a, hn, hi', hk => by
    simp only [spec_l1Has.l0]
    by_cases h : i < l.length
    · rw [if_pos (by omega), if_pos (by omega), rd_nat l i h, w64_nat (by omega), List.drop_eq_getElem_cons h, List.any_cons, spec_l1Has_l k (i + 1) l a hn (by omega) (by omega)]
      by_cases e : l[i] = a
      · rw [if_pos e]
        simp [e]
      · rw [if_neg e]
        simp [e]
    · rw [if_neg (by omega), List.drop_of_length_le (by omega)]
      simp
theorem spec_l1Has_is (k : Nat) (l : List Int) (a : Int) (hn : l.length ≤ 4611686018427387904) (hk : l.length < k) : spec_l1Has.f k l a = some (l.any fun x => decide (x = a)) := by
  unfold spec_l1Has.f
  have := spec_l1Has_l k 0 l a hn (by omega) (by omega)
  simpa using this
theorem spec_l4Mixed_is (k : Nat) (ps : List (List Int)) (ls : List Int) (hr : ∀ r ∈ ps, r.length ≤ 1048576) (hm : ls.length ≤ 1048576) (hk : 1048600 < k) : spec_l4Mixed.f k ps ls = some (mixB ps ls) := by
  unfold spec_l4Mixed.f mixB
  rw [spec_l2Sample_is k ps ls hr hm hk, spec_l1Has_is k ls 1 (by omega) (by omega), spec_l1Has_is k ls (-1) (by omega) (by omega)]
  simp only [Option.bind_some]
  cases smB ps ls <;> cases (ls.any fun x => decide (x = 1)) <;> simp
theorem spec_l2Square_l : ∀ (k i : Nat) (x y : List Int) (s : Int), x.all (inB (-9) 9) = true → y.all (inB (-9) 9) = true → x.length ≤ 4 → y.length = x.length → i ≤ x.length → x.length < i + k → 0 ≤ s → s ≤ 324 * i → spec_l2Square.l0 k x y s (i : Int) = some (s + sqd (x.drop i) (y.drop i))
  | 0, _, _, _, _, _, _, _, _, _, hk, _, _ => by omega
  | k + 1, i, x, y, s, hx, hy, hl, he, hi, hk, h0, h1 => by
    simp only [spec_l2Square.l0]
    by_cases h : i < x.length
    · have hy' : i < y.length := by omega
      have rx := all_range hx i h
      have ry := all_range hy i hy'
      have rs := sq_le x[i] y[i] (by omega) (by omega)
      rw [if_pos (by omega), if_pos (by omega), if_pos (by omega), rd_nat x i h, rd_nat y i hy', w64_nat (by omega), w64 (x := x[i] - y[i]) (by omega) (by omega), w64 (x := (x[i] - y[i]) * (x[i] - y[i])) (by omega) (by omega), w64 (by omega) (by omega)]
      rw [spec_l2Square_l k (i + 1) x y _ hx hy hl he (by omega) (by omega) (by omega) (by omega), List.drop_eq_getElem_cons h, List.drop_eq_getElem_cons hy']
      simp only [sqd]
      congr 1
      omega
    · rw [if_neg (by omega), List.drop_of_length_le (by omega)]
      simp [sqd]
theorem spec_l2Square_is (k : Nat) (x y : List Int) (hx : x.all (inB (-9) 9) = true) (hy : y.all (inB (-9) 9) = true) (hl : x.length ≤ 4) (he : y.length = x.length) (hk : 4 < k) : spec_l2Square.f k x y = some (sqd x y) := by
  unfold spec_l2Square.f
  have := spec_l2Square_l k 0 x y 0 hx hy hl he (by omega) (by omega) (by omega) (by omega)
  simpa using this
/-- the step of the search at one pair, as the reference makes it -/
def nearS (ps : List (List Int)) (i : Int) : List Int → Int × Int × Int → Int × Int × Int
  | [], s => s
  | j :: js, s => nearS ps i js (if s.1 < 0 ∨ sqd (rd_L1 ps i) (rd_L1 ps j) < s.2.2 then (i, j, sqd (rd_L1 ps i) (rd_L1 ps j)) else s)
def nearSS (ps : List (List Int)) (js : List Int) : List Int → Int × Int × Int → Int × Int × Int
  | [], s => s
  | i :: is, s => nearSS ps js is (nearS ps i js s)
def nearOf (ps : List (List Int)) (ls : List Int) : Int × Int × Int × Bool := if mixB ps ls then ((nearSS ps (idxs (-1) ls 0) (idxs 1 ls 0) (-1, -1, 0)).1, (nearSS ps (idxs (-1) ls 0) (idxs 1 ls 0) (-1, -1, 0)).2.1, (nearSS ps (idxs (-1) ls 0) (idxs 1 ls 0) (-1, -1, 0)).2.2, true) else (0, 0, 0, false)
theorem smB_rowN {ps : List (List Int)} {ls : List Int} (h : smB ps ls = true) (i : Nat) (hi : i < ps.length) : (rd_L1 ps (i : Int)).all (inB (-9) 9) = true ∧ (rd_L1 ps (i : Int)).length = (ps.headD []).length ∧ (rd_L1 ps (i : Int)).length ≤ 4 := by
  have e : rd_L1 ps (i : Int) = ps[i] := by simp [rd_L1, hi]
  obtain ⟨a, b⟩ := (smB_parts h).2.2.2 ps[i] (List.getElem_mem hi)
  rw [e]
  exact ⟨(ptB_parts a).1, b, (ptB_parts a).2.2⟩
theorem spec_NearestPair_l1 (ps : List (List Int)) (ls : List Int) (h : smB ps ls = true) (i : Nat) (hi : i < ps.length) : ∀ (m k j : Nat) (s : Int × Int × Int), j + m = ps.length → 10 ≤ k → spec_NearestPair.l1 (k + 2 * m + 1) s.1 s.2.1 s.2.2 (i : Int) (j : Int) ps ls = spec_NearestPair.l0 k (if rd ls i = 1 then nearS ps i (idxs (-1) (ls.drop j) j) s else s).1 (if rd ls i = 1 then nearS ps i (idxs (-1) (ls.drop j) j) s else s).2.1 (if rd ls i = 1 then nearS ps i (idxs (-1) (ls.drop j) j) s else s).2.2 ((i + 1 : Nat) : Int) ps ls
  | 0, k, j, s, hj, hk => by
    obtain ⟨h16, hlen, _, _⟩ := smB_parts h
    rw [spec_NearestPair.l1, if_neg (by omega), w64_nat (by omega), List.drop_of_length_le (by omega)]
    simp only [idxs, nearS]
    split <;> rfl
  | m + 1, k, j, s, hj, hk => by
    obtain ⟨h16, hlen, _, _⟩ := smB_parts h
    have hjl : j < ls.length := by omega
    obtain ⟨a1, a2, a3⟩ := smB_rowN h i hi
    obtain ⟨b1, b2, b3⟩ := smB_rowN h j (by omega)
    have ih := fun s => spec_NearestPair_l1 ps ls h i hi m k (j + 1) s (by omega) hk
    rw [show k + 2 * (m + 1) + 1 = (k + 2 * m + 1) + 1 + 1 by omega, spec_NearestPair.l1, if_pos (by omega), if_pos (by omega), if_pos (by omega)]
    have dj : ls.drop j = ls[j] :: ls.drop (j + 1) := List.drop_eq_getElem_cons hjl
    have rj : rd ls (j : Int) = ls[j] := rd_nat ls j hjl
    by_cases c : rd ls i = 1
    · rw [if_pos c, if_pos (by omega), if_pos (by omega), spec_NearestPair.j2, w64_nat (by omega)]
      simp only [if_pos c] at ih ⊢
      by_cases c2 : rd ls j = -1
      · rw [if_neg (by simp [c2]), if_pos (by omega), if_pos (by omega), if_pos (by omega), if_pos (by omega), spec_l2Square_is _ _ _ a1 b1 a3 (by omega) (by omega)]
        simp only [Option.bind_some]
        rw [dj]
        have e : idxs (-1) (ls[j] :: ls.drop (j + 1)) j = (j : Int) :: idxs (-1) (ls.drop (j + 1)) (j + 1) := by
          simp only [idxs]
          rw [if_pos (by rw [← rj]; exact c2)]
        rw [e]
        simp only [nearS]
        have q := ih ((i : Int), (j : Int), sqd (rd_L1 ps i) (rd_L1 ps j))
        have q2 := ih s
        simp only at q q2
        by_cases c3 : s.1 < 0
        · rw [if_pos c3, if_pos (Or.inl c3), q]
        · by_cases c4 : sqd (rd_L1 ps i) (rd_L1 ps j) < s.2.2
          · rw [if_neg c3, if_pos c4, if_pos (Or.inr c4), q]
          · rw [if_neg c3, if_neg c4, if_neg (fun z => z.elim c3 c4), q2]
      · rw [if_pos (by simp [c2]), ih s, dj]
        have e : idxs (-1) (ls[j] :: ls.drop (j + 1)) j = idxs (-1) (ls.drop (j + 1)) (j + 1) := by
          simp only [idxs]
          rw [if_neg (by rw [← rj]; exact c2)]
        rw [e]
    · rw [if_neg c, spec_NearestPair.j2, if_pos rfl, w64_nat (by omega), ih s, if_neg c, if_neg c]
theorem spec_NearestPair_l0 (ps : List (List Int)) (ls : List Int) (h : smB ps ls = true) : ∀ (m k i : Nat) (s : Int × Int × Int), i + m = ps.length → 20 + m * 60 < k → spec_NearestPair.l0 k s.1 s.2.1 s.2.2 (i : Int) ps ls = some ((nearSS ps (idxs (-1) ls 0) (idxs 1 (ls.drop i) i) s).1, (nearSS ps (idxs (-1) ls 0) (idxs 1 (ls.drop i) i) s).2.1, (nearSS ps (idxs (-1) ls 0) (idxs 1 (ls.drop i) i) s).2.2, true)
  | 0, k, i, s, hi, hk => by
    obtain ⟨h16, hlen, _, _⟩ := smB_parts h
    obtain ⟨k, rfl⟩ : ∃ q, k = q + 1 := ⟨k - 1, by omega⟩
    rw [spec_NearestPair.l0, if_neg (by omega), List.drop_of_length_le (by omega)]
    rfl
  | m + 1, k, i, s, hi, hk => by
    obtain ⟨h16, hlen, _, _⟩ := smB_parts h
    obtain ⟨k, rfl⟩ : ∃ q, k = q + 1 := ⟨k - 1, by omega⟩
    have hil : i < ls.length := by omega
    rw [spec_NearestPair.l0, if_pos (by omega)]
    have l1 := spec_NearestPair_l1 ps ls h i (by omega) ps.length (k - 2 * ps.length - 1) 0 s (by omega) (by omega)
    rw [show k - 2 * ps.length - 1 + 2 * ps.length + 1 = k by omega, List.drop_zero] at l1
    rw [show ((0 : Nat) : Int) = 0 from rfl] at l1
    rw [l1, spec_NearestPair_l0 ps ls h m _ (i + 1) _ (by omega) (by omega), List.drop_eq_getElem_cons hil]
    have ri : rd ls (i : Int) = ls[i] := rd_nat ls i hil
    by_cases c : ls[i] = 1
    · have e : idxs 1 (ls[i] :: ls.drop (i + 1)) i = (i : Int) :: idxs 1 (ls.drop (i + 1)) (i + 1) := by
        simp only [idxs]
        rw [if_pos c]
      rw [e, if_pos (by rw [ri]; exact c)]
      rfl
    · have e : idxs 1 (ls[i] :: ls.drop (i + 1)) i = idxs 1 (ls.drop (i + 1)) (i + 1) := by
        simp only [idxs]
        rw [if_neg c]
      rw [e, if_neg (by rw [ri]; exact c)]
theorem spec_NearestPair_is (k : Nat) (ps : List (List Int)) (ls : List Int) (hr : ∀ r ∈ ps, r.length ≤ 1048576) (hm : ls.length ≤ 1048576) (hk : 1048600 < k) : spec_NearestPair.f k ps ls = some (nearOf ps ls) := by
  unfold spec_NearestPair.f nearOf
  rw [spec_l4Mixed_is k ps ls hr hm hk]
  simp only [Option.bind_some]
  by_cases c : mixB ps ls = true
  · have q := (mixB_parts c).1
    have := (smB_parts q).1
    rw [if_pos c, if_pos c]
    exact spec_NearestPair_l0 ps ls q ps.length k 0 (-1, -1, 0) (by omega) (by omega)
  · rw [if_neg c, if_neg c]
theorem impl_Sample_with_l (ps : List (List Int)) (a : Int) (ls : List Int) (hn : ls.length ≤ 1048576) : ∀ (k i : Nat) (acc : List Int), acc.length ≤ i → i ≤ ls.length → ls.length < i + k → impl_Sample_with.l0 k a acc ls (ls.length : Int) (i : Int) = some (acc ++ idxs a (ls.drop i) i)
  | 0, _, _, _, _, hk => by omega
  | k + 1, i, acc, ha, hi, hk => by
    simp only [impl_Sample_with.l0]
    by_cases h : i < ls.length
    · rw [if_pos (by omega), if_pos (by omega), if_pos (by omega), rd_nat ls i h, w64_nat (by omega), List.drop_eq_getElem_cons h]
      simp only [idxs]
      by_cases e : ls[i] = a
      · rw [if_pos e, if_pos (by omega), if_pos e, impl_Sample_with_l ps a ls hn k (i + 1) _ (by simp; omega) (by omega) (by omega)]
        simp
      · rw [if_neg e, if_neg e, impl_Sample_with_l ps a ls hn k (i + 1) _ (by omega) (by omega) (by omega)]
    · rw [if_neg (by omega), List.drop_of_length_le (by omega)]
      simp [idxs]
theorem impl_Sample_with_is (k : Nat) (ps : List (List Int)) (ls : List Int) (a : Int) (hn : ls.length ≤ 1048576) (hk : ls.length < k) : impl_Sample_with.f k ps ls a = some (idxs a ls 0) := by
  unfold impl_Sample_with.f
  have := impl_Sample_with_l ps a ls hn k 0 [] (by simp) (by omega) (by omega)
  simpa using this
theorem impl_isLabel_is (a : Int) : impl_isLabel.f a = some (lbB a) := by
  unfold impl_isLabel.f lbB
  by_cases e1 : a = 1
  · rw [if_pos e1]
    simp [e1]
  · rw [if_neg e1]
    congr 1
    by_cases e2 : a = -1
    · simp [e2]
    · simp [e1, e2]
theorem impl_within_is (a lo hi : Int) : impl_within.f a lo hi = some (inB lo hi a) := by
  unfold impl_within.f
  exact within_is a lo hi
theorem impl_allWithin_l : ∀ (k i : Nat) (l : List Int) (lo hi : Int), l.length ≤ 4611686018427387904 → i ≤ l.length → l.length < i + k → impl_allWithin.l0 k lo hi l (l.length : Int) (i : Int) = some ((l.drop i).all (inB lo hi))
  | 0, _, _, _, _, _, _, hk => by omega
  | k + 1, i, l, lo, hi, hn, hi', hk => by
    simp only [impl_allWithin.l0]
    by_cases h : i < l.length
    · rw [if_pos (by omega), if_pos (by omega), if_pos (by omega), impl_within_is, rd_nat l i h, w64_nat (by omega), List.drop_eq_getElem_cons h, List.all_cons, impl_allWithin_l k (i + 1) l lo hi hn (by omega) (by omega)]
      simp only [Option.bind_some]
      by_cases e : inB lo hi l[i] = true
      · rw [if_pos e, e]
        simp
      · rw [if_neg e]
        simp [e]
    · rw [if_neg (by omega), List.drop_of_length_le (by omega)]
      simp
theorem impl_allWithin_is (k : Nat) (l : List Int) (lo hi : Int) (hn : l.length ≤ 4611686018427387904) (hk : l.length < k) : impl_allWithin.f k l lo hi = some (l.all (inB lo hi)) := by
  unfold impl_allWithin.f
  have := impl_allWithin_l k 0 l lo hi hn (by omega) (by omega)
  simpa using this
theorem impl_IsPoint_is (k : Nat) (l : List Int) (hn : l.length ≤ 4611686018427387904) (hk : l.length < k) : impl_IsPoint.f k l = some (ptB l) := by
  unfold impl_IsPoint.f ptB
  rw [impl_within_is, impl_allWithin_is k l (-9) 9 hn hk]
  simp only [Option.bind_some]
  cases inB 1 4 (l.length : Int) <;> simp
theorem impl_IsSample_l (k0 : Nat) (hk0 : 1048576 < k0) : ∀ (k i : Nat) (l : List (List Int)) (m : List Int), l.length ≤ 16 → m.length = l.length → (∀ r ∈ l, r.length ≤ 1048576) → i ≤ l.length → l.length < i + k → impl_IsSample.l0 (k + k0) l (l.length : Int) (i : Int) l m = some ((m.drop i).all lbB && (l.drop i).all fun x => ptB x && decide (x.length = (l.headD []).length))
  | 0, i, l, m, _, _, _, _, hk => by omega
  | k + 1, i, l, m, hn, hm, hr, hi, hk => by
    rw [show k + 1 + k0 = (k + k0) + 1 by omega]
    simp only [impl_IsSample.l0]
    by_cases h : i < l.length
    · have h' : i < m.length := by omega
      have e : rd_L1 l (i : Int) = l[i] := by simp [rd_L1, h]
      have e0 : rd_L1 l 0 = l.headD [] := by cases l <;> simp [rd_L1]
      have hx := hr l[i] (List.getElem_mem h)
      rw [if_pos (by omega), if_pos (by omega), if_pos (by omega), e, impl_IsPoint_is (k + k0) l[i] (by omega) (by omega), e0]
      simp only [Option.bind_some]
      rw [List.drop_eq_getElem_cons h, List.all_cons, List.drop_eq_getElem_cons h', List.all_cons]
      by_cases c1 : ptB l[i] = true
      · rw [if_pos c1, if_pos (by omega), c1, Bool.true_and]
        by_cases c2 : l[i].length = (l.headD []).length
        · rw [if_pos (by omega), if_pos (by omega), impl_isLabel_is, rd_nat m i h', w64_nat (by omega), impl_IsSample_l k0 hk0 k (i + 1) l m hn hm hr (by omega) (by omega)]
          simp only [Option.bind_some]
          by_cases c3 : lbB m[i] = true
          · rw [if_pos c3, c3]
            simp [c2]
          · rw [if_neg c3]
            simp [c3]
        · rw [if_neg (by omega)]
          simp only [c2, decide_false, Bool.false_and, Bool.and_false]
      · rw [if_neg c1]
        simp [c1]
    · rw [if_neg (by omega), List.drop_of_length_le (by omega), List.drop_of_length_le (by omega)]
      simp
theorem impl_IsSample_is (k : Nat) (l : List (List Int)) (m : List Int) (hr : ∀ r ∈ l, r.length ≤ 1048576) (hm : m.length ≤ 1048576) (hk : 1048600 < k) : impl_IsSample.f k l m = some (smB l m) := by
  obtain ⟨k, rfl⟩ : ∃ q, k = q + 1 := ⟨k - 1, by omega⟩
  unfold impl_IsSample.f smB
  by_cases c1 : l.length ≤ 16
  · rw [if_neg (by omega)]
    simp only [impl_IsSample.j0]
    by_cases c2 : m.length = l.length
    · rw [if_neg (by simp [c2])]
      have := impl_IsSample_l (k - 17) (by omega) 17 0 l m c1 c2 hr (by omega) (by omega)
      rw [show 17 + (k - 17) = k by omega] at this
      rw [show ((0 : Nat) : Int) = 0 from rfl] at this
      rw [this]
      simp [c1, c2]
    · rw [if_pos (by simp; omega)]
      simp [c2]
  · rw [if_pos (by omega)]
    simp [impl_IsSample.j0, c1]
theorem impl_isMixed_is (k : Nat) (ps : List (List Int)) (ls : List Int) (hr : ∀ r ∈ ps, r.length ≤ 1048576) (hm : ls.length ≤ 1048576) (hk : 1048600 < k) : impl_isMixed.f k ps ls = some (mixB ps ls) := by
  unfold impl_isMixed.f mixB
  rw [impl_IsSample_is k ps ls hr hm hk, impl_Sample_with_is k ps ls 1 hm (by omega), impl_Sample_with_is k ps ls (-1) hm (by omega)]
  simp only [Option.bind_some]
  rw [← idxs_any 1 ls 0, ← idxs_any (-1) ls 0]
  by_cases c : smB ps ls = true
  · rw [if_pos c, c]
    by_cases c2 : ((idxs 1 ls 0).length : Int) > 0
    · rw [if_pos c2]
      simp only [c2, decide_true, Bool.true_and]
    · rw [if_neg c2]
      simp only [c2, decide_false, Bool.true_and, Bool.false_and]
  · rw [if_neg c]
    simp [c]
theorem impl_squares_l : ∀ (k i : Nat) (x y : List Int) (s : Int), x.all (inB (-9) 9) = true → y.all (inB (-9) 9) = true → x.length ≤ 4 → y.length = x.length → i ≤ x.length → x.length < i + k → 0 ≤ s → s ≤ 324 * i → impl_squares.l0 k y s x (x.length : Int) (i : Int) = some (s + sqd (x.drop i) (y.drop i))
  | 0, _, _, _, _, _, _, _, _, _, hk, _, _ => by omega
  | k + 1, i, x, y, s, hx, hy, hl, he, hi, hk, h0, h1 => by
    simp only [impl_squares.l0]
    by_cases h : i < x.length
    · have hy' : i < y.length := by omega
      have rx := all_range hx i h
      have ry := all_range hy i hy'
      have rs := sq_le x[i] y[i] (by omega) (by omega)
      rw [if_pos (by omega), if_pos (by omega), if_pos (by omega), if_pos (by omega), rd_nat x i h, rd_nat y i hy', w64_nat (by omega), w64 (x := x[i] - y[i]) (by omega) (by omega), w64 (x := (x[i] - y[i]) * (x[i] - y[i])) (by omega) (by omega), w64 (by omega) (by omega)]
      rw [impl_squares_l k (i + 1) x y _ hx hy hl he (by omega) (by omega) (by omega) (by omega), List.drop_eq_getElem_cons h, List.drop_eq_getElem_cons hy']
      simp only [sqd]
      congr 1
      omega
    · rw [if_neg (by omega), List.drop_of_length_le (by omega)]
      simp [sqd]
theorem impl_squares_is (k : Nat) (x y : List Int) (hx : x.all (inB (-9) 9) = true) (hy : y.all (inB (-9) 9) = true) (hl : x.length ≤ 4) (he : y.length = x.length) (hk : 4 < k) : impl_squares.f k x y = some (sqd x y) := by
  unfold impl_squares.f
  have := impl_squares_l k 0 x y 0 hx hy hl he (by omega) (by omega) (by omega) (by omega)
  simpa using this
def nearI (ps : List (List Int)) (i : Int) : List Int → Int × Int × Int → Int × Int × Int
  | [], s => s
  | j :: js, s => nearI ps i js (if sqd (rd_L1 ps i) (rd_L1 ps j) < s.2.2 then (i, j, sqd (rd_L1 ps i) (rd_L1 ps j)) else s)
def nearII (ps : List (List Int)) (js : List Int) : List Int → Int × Int × Int → Int × Int × Int
  | [], s => s
  | i :: is, s => nearII ps js is (nearI ps i js s)
/-- the two searches stand alike: nothing yet, or the same pair -/
def alikeN (s t : Int × Int × Int) : Prop := (s.1 < 0 ∧ t.2.2 = 1000000000) ∨ (s = t ∧ 0 ≤ s.1)
theorem sqd_small {x y : List Int} (hx : x.all (inB (-9) 9) = true) (hy : y.all (inB (-9) 9) = true) (h4 : x.length ≤ 4) : sqd x y < 1000000000 := by
  have key : ∀ (x y : List Int) (n : Nat), x.length ≤ n → x.all (inB (-9) 9) = true → y.all (inB (-9) 9) = true → sqd x y ≤ 324 * n := by
    intro x
    induction x with
    | nil => intro y n _ _ _; simp only [sqd]; omega
    | cons a x ih =>
      intro y n hn hx hy
      cases y with
      | nil => simp only [sqd]; omega
      | cons b y =>
        simp only [List.all_cons, Bool.and_eq_true] at hx hy
        simp only [List.length_cons] at hn
        have := ih y (n - 1) (by omega) hx.2 hy.2
        have q := sq_le a b (inB_iff.1 hx.1) (inB_iff.1 hy.1)
        simp only [sqd]
        omega
  have := key x y 4 h4 hx hy
  omega
theorem nearI_alike (ps : List (List Int)) (ls : List Int) (h : smB ps ls = true) (i : Nat) (hi : i < ps.length) : ∀ (js : List Int) (s t : Int × Int × Int), (∀ j ∈ js, ∃ n : Nat, j = n ∧ n < ps.length) → alikeN s t → alikeN (nearS ps i js s) (nearI ps i js t) ∧ (js ≠ [] → 0 ≤ (nearS ps i js s).1) ∧ (0 ≤ s.1 → 0 ≤ (nearS ps i js s).1)
  | [], s, t, _, ha => ⟨ha, fun q => absurd rfl q, fun q => q⟩
  | j :: js, s, t, hj, ha => by
    obtain ⟨n, rfl, hn⟩ := hj j (by simp)
    obtain ⟨a1, a2, a3⟩ := smB_rowN h i hi
    obtain ⟨b1, b2, b3⟩ := smB_rowN h n hn
    have small := sqd_small a1 b1 a3
    have hj' := fun x hx => hj x (List.mem_cons_of_mem _ hx)
    simp only [nearS, nearI]
    rcases ha with ⟨h1, h2⟩ | ⟨h1, h2⟩
    · rw [if_pos (Or.inl h1), if_pos (by omega)]
      obtain ⟨q1, q2, q3⟩ := nearI_alike ps ls h i hi js ((i : Int), (n : Int), sqd (rd_L1 ps i) (rd_L1 ps n)) _ hj' (.inr ⟨rfl, by simp⟩)
      exact ⟨q1, fun _ => q3 (by simp), fun _ => q3 (by simp)⟩
    · subst h1
      by_cases c : sqd (rd_L1 ps i) (rd_L1 ps n) < s.2.2
      · rw [if_pos (Or.inr c), if_pos c]
        obtain ⟨q1, q2, q3⟩ := nearI_alike ps ls h i hi js ((i : Int), (n : Int), sqd (rd_L1 ps i) (rd_L1 ps n)) _ hj' (.inr ⟨rfl, by simp⟩)
        exact ⟨q1, fun _ => q3 (by simp), fun _ => q3 (by simp)⟩
      · rw [if_neg (fun z => z.elim (by omega) c), if_neg c]
        obtain ⟨q1, q2, q3⟩ := nearI_alike ps ls h i hi js s s hj' (.inr ⟨rfl, h2⟩)
        exact ⟨q1, fun _ => q3 h2, fun _ => q3 h2⟩
theorem nearII_alike (ps : List (List Int)) (ls : List Int) (h : smB ps ls = true) (js : List Int) (hj : ∀ j ∈ js, ∃ n : Nat, j = n ∧ n < ps.length) (hne : js ≠ []) : ∀ (is : List Int) (s t : Int × Int × Int), (∀ j ∈ is, ∃ n : Nat, j = n ∧ n < ps.length) → alikeN s t → alikeN (nearSS ps js is s) (nearII ps js is t) ∧ (is ≠ [] → 0 ≤ (nearSS ps js is s).1) ∧ (0 ≤ s.1 → 0 ≤ (nearSS ps js is s).1)
  | [], s, t, _, ha => ⟨ha, fun q => absurd rfl q, fun q => q⟩
  | i :: is, s, t, hi, ha => by
    obtain ⟨n, rfl, hn⟩ := hi i (by simp)
    obtain ⟨p1, p2, p3⟩ := nearI_alike ps ls h n hn js s t hj ha
    obtain ⟨q1, q2, q3⟩ := nearII_alike ps ls h js hj hne is _ _ (fun x hx => hi x (List.mem_cons_of_mem _ hx)) p1
    exact ⟨q1, fun _ => q3 (p2 hne), fun _ => q3 (p2 hne)⟩
theorem impl_NearestPair_l1 (ps : List (List Int)) (ls : List Int) (h : smB ps ls = true) (is js : List Int) (i : Nat) (hi : i < ps.length) (x20 : Int) (hjl : js.length ≤ 16) (hj : ∀ j ∈ js, ∃ n : Nat, j = n ∧ n < ps.length) : ∀ (m k q : Nat) (s : Int × Int × Int), q + m = js.length → 10 ≤ k → impl_NearestPair.l1 (k + m + 1) s.1 s.2.1 s.2.2 (i : Int) is (is.length : Int) x20 js (js.length : Int) (q : Int) ps ls = impl_NearestPair.l0 k (nearI ps i (js.drop q) s).1 (nearI ps i (js.drop q) s).2.1 (nearI ps i (js.drop q) s).2.2 is (is.length : Int) (wrap64 (x20 + 1)) ps ls
  | 0, k, q, s, hq, hk => by
    rw [impl_NearestPair.l1, if_neg (by omega), List.drop_of_length_le (by omega)]
    rfl
  | m + 1, k, q, s, hq, hk => by
    have hql : q < js.length := by omega
    obtain ⟨n, en, hn⟩ := hj js[q] (List.getElem_mem hql)
    obtain ⟨a1, a2, a3⟩ := smB_rowN h i hi
    obtain ⟨b1, b2, b3⟩ := smB_rowN h n hn
    have ih := fun s => impl_NearestPair_l1 ps ls h is js i hi x20 hjl hj m k (q + 1) s (by omega) hk
    rw [show k + (m + 1) + 1 = (k + m + 1) + 1 by omega, impl_NearestPair.l1, if_pos (by omega), if_pos (by omega), if_pos (by omega), if_pos (by omega), if_pos (by omega), rd_nat js q hql, en, if_pos (by omega), if_pos (by omega), impl_squares_is _ _ _ a1 b1 a3 (by omega) (by omega), w64_nat (by omega), List.drop_eq_getElem_cons hql, en]
    simp only [Option.bind_some, nearI]
    have q1 := ih ((i : Int), (n : Int), sqd (rd_L1 ps i) (rd_L1 ps n))
    have q2 := ih s
    simp only at q1 q2
    by_cases c : sqd (rd_L1 ps i) (rd_L1 ps n) < s.2.2
    · rw [if_pos c, if_pos c, q1]
    · rw [if_neg c, if_neg c, q2]
theorem impl_NearestPair_l0 (ps : List (List Int)) (ls : List Int) (h : smB ps ls = true) (is : List Int) (hil : is.length ≤ 16) (hi : ∀ j ∈ is, ∃ n : Nat, j = n ∧ n < ps.length) : ∀ (m k q : Nat) (s : Int × Int × Int), q + m = is.length → 60 + m * 60 < k → impl_NearestPair.l0 k s.1 s.2.1 s.2.2 is (is.length : Int) (q : Int) ps ls = some ((nearII ps (idxs (-1) ls 0) (is.drop q) s).1, (nearII ps (idxs (-1) ls 0) (is.drop q) s).2.1, (nearII ps (idxs (-1) ls 0) (is.drop q) s).2.2, true)
  | 0, k, q, s, hq, hk => by
    obtain ⟨k, rfl⟩ : ∃ z, k = z + 1 := ⟨k - 1, by omega⟩
    rw [impl_NearestPair.l0, if_neg (by omega), List.drop_of_length_le (by omega)]
    rfl
  | m + 1, k, q, s, hq, hk => by
    obtain ⟨h16, hlen, _, _⟩ := smB_parts h
    obtain ⟨k, rfl⟩ : ∃ z, k = z + 1 := ⟨k - 1, by omega⟩
    have hql : q < is.length := by omega
    obtain ⟨n, en, hn⟩ := hi is[q] (List.getElem_mem hql)
    have hjl := idxs_length (-1) ls 0
    have hj : ∀ j ∈ idxs (-1) ls 0, ∃ n : Nat, j = n ∧ n < ps.length := fun j hj => by
      obtain ⟨n, e, _, h2⟩ := idxs_mem (-1) ls 0 j hj
      exact ⟨n, e, by omega⟩
    rw [impl_NearestPair.l0, if_pos (by omega), if_pos (by omega), if_pos (by omega), impl_Sample_with_is _ ps ls (-1) (by omega) (by omega), rd_nat is q hql, en]
    simp only [Option.bind_some]
    have l1 := impl_NearestPair_l1 ps ls h is (idxs (-1) ls 0) n hn (q : Int) (by omega) hj (idxs (-1) ls 0).length (k - (idxs (-1) ls 0).length - 1) 0 s (by omega) (by omega)
    rw [show k - (idxs (-1) ls 0).length - 1 + (idxs (-1) ls 0).length + 1 = k by omega, List.drop_zero, w64_nat (by omega)] at l1
    rw [show ((0 : Nat) : Int) = 0 from rfl] at l1
    rw [l1, impl_NearestPair_l0 ps ls h is hil hi m _ (q + 1) _ (by omega) (by omega), List.drop_eq_getElem_cons hql, en]
    rfl
theorem impl_NearestPair_is (k : Nat) (ps : List (List Int)) (ls : List Int) (hr : ∀ r ∈ ps, r.length ≤ 1048576) (hm : ls.length ≤ 1048576) (hk : 1048600 < k) : impl_NearestPair.f k ps ls = some (nearOf ps ls) := by
  unfold impl_NearestPair.f nearOf
  rw [impl_isMixed_is k ps ls hr hm hk]
  simp only [Option.bind_some]
  by_cases c : mixB ps ls = true
  · obtain ⟨q, m1, m2, _⟩ := mixB_parts c
    obtain ⟨h16, hlen, _, _⟩ := smB_parts q
    have inn : ∀ a, ∀ j ∈ idxs a ls 0, ∃ n : Nat, j = n ∧ n < ps.length := fun a j hj => by
      obtain ⟨n, e, _, h2⟩ := idxs_mem a ls 0 j hj
      exact ⟨n, e, by omega⟩
    have ne : ∀ a, (ls.any fun x => decide (x = a)) = true → idxs a ls 0 ≠ [] := fun a ha e => by
      rw [← idxs_any a ls 0, e] at ha
      simp at ha
    have hl := idxs_length 1 ls 0
    rw [if_pos c, if_pos c, impl_Sample_with_is _ ps ls 1 (by omega) (by omega)]
    simp only [Option.bind_some]
    have l0 := impl_NearestPair_l0 ps ls q (idxs 1 ls 0) (by omega) (inn 1) (idxs 1 ls 0).length k 0 (0, 0, 1000000000) (by omega) (by omega)
    rw [List.drop_zero] at l0
    obtain ⟨z1, z2, _⟩ := nearII_alike ps ls q (idxs (-1) ls 0) (inn (-1)) (ne (-1) m2) (idxs 1 ls 0) (-1, -1, 0) (0, 0, 1000000000) (inn 1) (.inl ⟨by simp, rfl⟩)
    have z3 := z2 (ne 1 m1)
    rcases z1 with ⟨z1, _⟩ | ⟨z1, _⟩
    · omega
    · rw [z1]
      exact l0
  · rw [if_neg c, if_neg c]
theorem FnExactNearestPair : ∀ (l0 : List (List Int)) (m0 : List Int), l0.length ≤ maxLen → (∀ r ∈ l0, r.length ≤ maxLen ∧ ∀ x ∈ r, (Lit.int .i64 x).wf = true) → m0.length ≤ maxLen → (∀ x ∈ m0, (Lit.int .i64 x).wf = true) → ∃ k, laws_FnExactNearestPair.f k l0 m0 = some true := by
  intro l m hl hr hm _
  unfold maxLen at hl hr hm
  obtain ⟨K, hK⟩ : ∃ K, 3000000 ≤ K := ⟨_, Nat.le_refl _⟩
  refine ⟨K + 1 + 1 + 1, ?_⟩
  unfold laws_FnExactNearestPair.f
  obtain ⟨v, hv, hc⟩ := laws_szSample_tells (K + 1 + 1 + 1) l m 1048576 (by omega) (by omega) (by omega) (fun r h => by have := (hr r h).1; omega) (by omega) (by omega)
  rw [hv]
  simp only [Option.bind_some]
  rcases hc with hc | ⟨a1, a2, a3, a4, a5⟩
  · rw [if_pos hc]
  · rw [if_neg (by omega), laws_toSample_is _ l m a3 a4 a5 (by omega)]
    simp only [Option.bind_some]
    rw [spec_NearestPair_is _ l m a4 a5 (by omega), impl_NearestPair_is _ l m a4 a5 (by omega)]
    simp only [Option.bind_some, if_true, bne_self, laws_FnExactNearestPair.j0]
    rw [laws_toSample_is _ l m a3 a4 a5 (by omega)]
    simp only [Option.bind_some]
    rw [laws_eqSample_same _ l m a3 a4 a5 (by omega)]
    simp

end Go.Proofs.Ytgbgkifddjeabaa.Pure
