/- Proved: the law FnExactSampleText answers true for every sample; no condition. -/
import Derived.Test.YtkgjacacldcacaaDoorQFnExactSampleTextx6
import Derived.Lib.ItoaLen
import Derived.Lib.Join
import Derived.Test.YtkgjacacldcacaaDoorBase
set_option linter.unusedVariables false
set_option linter.unusedSimpArgs false
namespace Go.Proofs.YtkgjacacldcacaaDoor.Pure
open Go.RowKit Go.Proofs.YtkgjacacldcacaaDoor.QFnExactSampleText Go.Proofs.YtkgjacacldcacaaDoorW.PrintWords Go.Proofs.YtkgjacacldcacaaDoorW.PrintLast Go.Proofs.YtkgjacacldcacaaDoorW.PrintMore Go.Proofs.YtkgjacacldcacaaDoor.Base

theorem laws_szIntS_is (l : List Int) (a : Int) (h0 : 0 ≤ a) (h1 : a ≤ 4611686018427387904) (hl : l.length ≤ 9223372036854775807) : laws_szIntS.f l a = some (if (l.length : Int) ≤ a then a - l.length else -1) := by
  unfold laws_szIntS.f
  rw [w64 (by omega) (by omega)]
  by_cases h : (l.length : Int) ≤ a
  · rw [if_neg (by omega), if_pos h]
  · rw [if_pos (by omega), if_neg h]
theorem laws_szIntSS_l : ∀ (k i : Nat) (x : List (List Int)) (a : Int), 0 ≤ a → a ≤ 1048576 → x.length ≤ 1048576 → (∀ r ∈ x, r.length ≤ 9223372036854775807) → i ≤ x.length → x.length < i + k → ∃ v, laws_szIntSS.l0 k x a (i : Int) = some v ∧ (v < 0 ∨ (0 ≤ v ∧ v ≤ a ∧ ∀ r ∈ x.drop i, r.length ≤ 1048576))
  | 0, _, _, _, _, _, _, _, _, hk => by omega
  | k + 1, i, x, a, h0, h1, hn, hr, hi, hk => by
    simp only [laws_szIntSS.l0]
    by_cases h : i < x.length
    · have e : rd_L1 x (i : Int) = x[i] := by simp [rd_L1, h]
      have hx := hr x[i] (List.getElem_mem h)
      rw [if_pos (by omega), if_pos (by omega), e, laws_szIntS_is x[i] a h0 (by omega) hx]
      simp only [Option.bind_some]
      by_cases c : (x[i].length : Int) ≤ a
      · rw [if_pos c, if_neg (by omega), w64_nat (by omega)]
        obtain ⟨v, hv, hc⟩ := laws_szIntSS_l k (i + 1) x (a - x[i].length) (by omega) (by omega) hn hr (by omega) (by omega)
        refine ⟨v, hv, ?_⟩
        rcases hc with hc | ⟨a1, a2, a3⟩
        · exact .inl hc
        · refine .inr ⟨a1, by omega, fun r hr' => ?_⟩
          rw [List.drop_eq_getElem_cons h] at hr'
          rcases List.mem_cons.1 hr' with rfl | hr'
          · omega
          · exact a3 r hr'
      · rw [if_neg c, if_pos (by omega)]
        exact ⟨-1, rfl, .inl (by omega)⟩
    · rw [if_neg (by omega)]
      refine ⟨a, rfl, .inr ⟨h0, Int.le_refl _, fun r hr' => ?_⟩⟩
      rw [List.drop_of_length_le (by omega)] at hr'
      simp at hr'
theorem laws_szIntSS_tells (k : Nat) (x : List (List Int)) (a : Int) (h0 : 0 ≤ a) (h1 : a ≤ 1048576) (hn : x.length ≤ 9223372036854775807) (hr : ∀ r ∈ x, r.length ≤ 9223372036854775807) (hk : 1048576 < k) : ∃ v, laws_szIntSS.f k x a = some v ∧ (v < 0 ∨ (0 ≤ v ∧ v ≤ a ∧ x.length ≤ 1048576 ∧ ∀ r ∈ x, r.length ≤ 1048576)) := by
  unfold laws_szIntSS.f
  rw [w64 (by omega) (by omega)]
  by_cases c : (x.length : Int) ≤ a
  · rw [if_neg (by omega)]
    obtain ⟨v, hv, hc⟩ := laws_szIntSS_l k 0 x (a - x.length) (by omega) (by omega) (by omega) hr (by omega) (by omega)
    refine ⟨v, hv, ?_⟩
    rcases hc with hc | ⟨a1, a2, a3⟩
    · exact .inl hc
    · exact .inr ⟨a1, by omega, by omega, by simpa using a3⟩
  · rw [if_pos (by omega)]
    exact ⟨-1, rfl, .inl (by omega)⟩
theorem laws_szSample_tells (k : Nat) (x : List (List Int)) (m : List Int) (a : Int) (h0 : 0 ≤ a) (h1 : a ≤ 1048576) (hn : x.length ≤ 9223372036854775807) (hr : ∀ r ∈ x, r.length ≤ 9223372036854775807) (hm : m.length ≤ 9223372036854775807) (hk : 1048576 < k) : ∃ v, laws_szSample.f k x m a = some v ∧ (v < 0 ∨ (0 ≤ v ∧ v ≤ a ∧ x.length ≤ 1048576 ∧ (∀ r ∈ x, r.length ≤ 1048576) ∧ m.length ≤ 1048576)) := by
  unfold laws_szSample.f
  obtain ⟨v, hv, hc⟩ := laws_szIntSS_tells k x a h0 h1 hn hr hk
  rw [hv]
  simp only [Option.bind_some]
  rcases hc with hc | ⟨a1, a2, a3, a4⟩
  · rw [if_pos hc]
    exact ⟨-1, rfl, .inl (by omega)⟩
  · rw [if_neg (by omega), laws_szIntS_is m v a1 (by omega) hm]
    simp only [Option.bind_some]
    by_cases c : (m.length : Int) ≤ v
    · rw [if_pos c, if_neg (by omega)]
      exact ⟨_, rfl, .inr ⟨by omega, by omega, a3, a4, by omega⟩⟩
    · rw [if_neg c, if_pos (by omega)]
      exact ⟨-1, rfl, .inl (by omega)⟩
theorem spec_l2Labels_l : ∀ (k i : Nat) (l : List Int), l.length ≤ 4611686018427387904 → i ≤ l.length → l.length < i + k → spec_l2Labels.l0 k l (i : Int) = some ((l.drop i).all lbB)
  | 0, _, _, _, _, hk => by omega
  | k + 1, i, l, hn, hi', hk => by
    simp only [spec_l2Labels.l0]
    by_cases h : i < l.length
    · rw [if_pos (by omega), if_pos (by omega), rd_nat l i h, w64_nat (by omega), List.drop_eq_getElem_cons h, List.all_cons, spec_l2Labels_l k (i + 1) l hn (by omega) (by omega)]
      by_cases e1 : l[i] = 1
      · rw [if_pos e1]
        simp [lbB, e1]
      · by_cases e2 : l[i] = -1
        · rw [if_neg e1, if_pos e2]
          simp [lbB, e2]
        · rw [if_neg e1, if_neg e2]
          simp [lbB, e1, e2]
    · rw [if_neg (by omega), List.drop_of_length_le (by omega)]
      simp
theorem spec_l2Labels_is (k : Nat) (l : List Int) (hn : l.length ≤ 4611686018427387904) (hk : l.length < k) : spec_l2Labels.f k l = some (l.all lbB) := by
  unfold spec_l2Labels.f
  have := spec_l2Labels_l k 0 l hn (by omega) (by omega)
  simpa using this
theorem spec_l1In_is (a lo hi : Int) : spec_l1In.f a lo hi = some (inB lo hi a) := by
  unfold spec_l1In.f
  exact within_is a lo hi
theorem spec_l2Numbers_l : ∀ (k i : Nat) (l : List Int) (m : Int), -4611686018427387904 ≤ m → m ≤ 4611686018427387904 → l.length ≤ 4611686018427387904 → i ≤ l.length → l.length < i + k → spec_l2Numbers.l0 k l m (i : Int) = some ((l.drop i).all (inB (-m) m))
  | 0, _, _, _, _, _, _, _, hk => by omega
  | k + 1, i, l, m, h1, h2, hn, hi, hk => by
    simp only [spec_l2Numbers.l0]
    by_cases h : i < l.length
    · rw [if_pos (by omega), if_pos (by omega), spec_l1In_is, rd_nat l i h, w64_nat (by omega), w64 (by omega) (by omega), List.drop_eq_getElem_cons h, List.all_cons, spec_l2Numbers_l k (i + 1) l m h1 h2 hn (by omega) (by omega)]
      simp only [Option.bind_some]
      by_cases e : inB (-m) m l[i] = true
      · rw [if_pos e, e]
        simp
      · rw [if_neg e]
        simp [e]
    · rw [if_neg (by omega), List.drop_of_length_le (by omega)]
      simp
theorem spec_l2Numbers_is (k : Nat) (l : List Int) (m : Int) (h1 : -4611686018427387904 ≤ m) (h2 : m ≤ 4611686018427387904) (hn : l.length ≤ 4611686018427387904) (hk : l.length < k) : spec_l2Numbers.f k l m = some (l.all (inB (-m) m)) := by
  unfold spec_l2Numbers.f
  have := spec_l2Numbers_l k 0 l m h1 h2 hn (by omega) (by omega)
  simpa using this
theorem spec_l2Point_is (k : Nat) (l : List Int) (hn : l.length ≤ 4611686018427387904) (hk : l.length < k) : spec_l2Point.f k l = some (ptB l) := by
  unfold spec_l2Point.f ptB
  rw [spec_l1In_is, spec_l2Numbers_is k l 9 (by omega) (by omega) hn hk]
  simp only [Option.bind_some]
  cases inB 1 4 (l.length : Int) <;> simp
theorem spec_l2Sample_l (k0 : Nat) (hk0 : 1048576 < k0) : ∀ (k i : Nat) (l : List (List Int)) (m : List Int), l.length ≤ 16 → (∀ r ∈ l, r.length ≤ 1048576) → i ≤ l.length → l.length < i + k → spec_l2Sample.l0 (k + k0) (i : Int) l m = some ((l.drop i).all fun x => ptB x && decide (x.length = (l.headD []).length))
  | 0, i, l, m, _, _, _, hk => by omega
  | k + 1, i, l, m, hn, hr, hi, hk => by
    rw [show k + 1 + k0 = (k + k0) + 1 by omega]
    simp only [spec_l2Sample.l0]
    by_cases h : i < l.length
    · have e : rd_L1 l (i : Int) = l[i] := by simp [rd_L1, h]
      have e0 : rd_L1 l 0 = l.headD [] := by cases l <;> simp [rd_L1]
      have hx := hr l[i] (List.getElem_mem h)
      rw [if_pos (by omega), if_pos (by omega), e, spec_l2Point_is (k + k0) l[i] (by omega) (by omega), e0]
      simp only [Option.bind_some]
      rw [List.drop_eq_getElem_cons h, List.all_cons]
      by_cases c1 : ptB l[i] = true
      · rw [if_pos c1, if_pos (by omega), c1, Bool.true_and]
        by_cases c2 : l[i].length = (l.headD []).length
        · rw [if_pos (by omega), w64_nat (by omega), spec_l2Sample_l k0 hk0 k (i + 1) l m hn hr (by omega) (by omega)]
          simp [c2]
        · rw [if_neg (by omega)]
          simp only [c2, decide_false, Bool.false_and, Bool.and_false]
      · rw [if_neg c1]
        simp [c1]
    · rw [if_neg (by omega), List.drop_of_length_le (by omega)]
      simp
theorem spec_l2Sample_is (k : Nat) (l : List (List Int)) (m : List Int) (hr : ∀ r ∈ l, r.length ≤ 1048576) (hm : m.length ≤ 1048576) (hk : 1048600 < k) : spec_l2Sample.f k l m = some (smB l m) := by
  obtain ⟨k, rfl⟩ : ∃ q, k = q + 1 := ⟨k - 1, by omega⟩
  unfold spec_l2Sample.f smB
  by_cases c1 : l.length ≤ 16
  · rw [if_neg (by omega)]
    by_cases c2 : m.length = l.length
    · rw [if_pos (by omega), spec_l2Labels_is _ m (by omega) (by omega)]
      simp only [Option.bind_some, spec_l2Sample.j0]
      have := spec_l2Sample_l (k - 17) (by omega) 17 0 l m c1 hr (by omega) (by omega)
      rw [show 17 + (k - 17) = k by omega] at this
      rw [show ((0 : Nat) : Int) = 0 from rfl] at this
      rw [this]
      cases e : m.all lbB
      · simp
      · simp [c1, c2]
    · rw [if_neg (by omega)]
      simp [spec_l2Sample.j0, c2]
  · rw [if_pos (by omega)]
    simp [spec_l2Sample.j0, c1]
theorem laws_toIntS_l : ∀ (k i : Nat) (l acc : List Int), l.length ≤ 4611686018427387904 → acc.length = l.length → i ≤ l.length → l.length < i + k → (∀ j, j < i → acc[j]? = l[j]?) → laws_toIntS.l0 k l acc (i : Int) = some l
  | 0, i, l, acc, _, _, _, hk, _ => by omega
  | k + 1, i, l, acc, hn, hl, hi, hk, hj => by
    simp only [laws_toIntS.l0]
    by_cases h : i < l.length
    · rw [if_pos (by omega), if_pos (by omega), if_pos (by omega), rd_nat l i h, w64_nat (by omega)]
      refine laws_toIntS_l k (i + 1) l _ hn (by simp [hl]) (by omega) (by omega) fun j hj' => ?_
      rw [List.getElem?_set]
      by_cases e : i = j
      · subst e
        simp [h, hl]
      · simp only [Int.toNat_natCast]
        rw [if_neg e]
        exact hj j (by omega)
    · rw [if_neg (by omega)]
      congr 1
      refine List.ext_getElem? fun j => ?_
      by_cases e : j < i
      · exact hj j e
      · rw [List.getElem?_eq_none (by omega), List.getElem?_eq_none (by omega)]
theorem laws_toIntS_is (k : Nat) (l : List Int) (hn : l.length ≤ 35184372088832) (hk : l.length < k) : laws_toIntS.f k l = some l := by
  unfold laws_toIntS.f
  rw [if_pos (by omega), if_pos (by omega)]
  exact laws_toIntS_l k 0 l _ (by omega) (by simp) (by omega) (by omega) fun j hj => by omega
theorem laws_toIntSS_l : ∀ (k i : Nat) (l acc : List (List Int)), l.length ≤ 1048576 → (∀ r ∈ l, r.length ≤ 1048576) → acc.length = l.length → i ≤ l.length → l.length + 1048576 < i + k → (∀ j, j < i → acc[j]? = l[j]?) → laws_toIntSS.l0 k l acc (i : Int) = some l
  | 0, i, l, acc, _, _, _, _, hk, _ => by omega
  | k + 1, i, l, acc, hn, hr, hl, hi, hk, hj => by
    simp only [laws_toIntSS.l0]
    by_cases h : i < l.length
    · have e : rd_L1 l (i : Int) = l[i] := by simp [rd_L1, h]
      have hx := hr l[i] (List.getElem_mem h)
      rw [if_pos (by omega), if_pos (by omega), e, laws_toIntS_is k l[i] (by omega) (by omega)]
      simp only [Option.bind_some]
      rw [if_pos (by omega), w64_nat (by omega)]
      refine laws_toIntSS_l k (i + 1) l _ hn hr (by simp [hl]) (by omega) (by omega) fun j hj' => ?_
      rw [List.getElem?_set]
      by_cases e : i = j
      · subst e
        simp [h, hl]
      · simp only [Int.toNat_natCast]
        rw [if_neg e]
        exact hj j (by omega)
    · rw [if_neg (by omega)]
      congr 1
      refine List.ext_getElem? fun j => ?_
      by_cases e : j < i
      · exact hj j e
      · rw [List.getElem?_eq_none (by omega), List.getElem?_eq_none (by omega)]
theorem laws_toIntSS_is (k : Nat) (l : List (List Int)) (hn : l.length ≤ 1048576) (hr : ∀ r ∈ l, r.length ≤ 1048576) (hk : 2097152 < k) : laws_toIntSS.f k l = some l := by
  unfold laws_toIntSS.f
  rw [if_pos (by omega), if_pos (by omega)]
  exact laws_toIntSS_l k 0 l _ hn hr (by simp) (by omega) (by omega) fun j hj => by omega
theorem laws_toSample_is (k : Nat) (l : List (List Int)) (m : List Int) (hn : l.length ≤ 1048576) (hr : ∀ r ∈ l, r.length ≤ 1048576) (hm : m.length ≤ 1048576) (hk : 2097152 < k) : laws_toSample.f k l m = some (l, m) := by
  unfold laws_toSample.f
  rw [laws_toIntSS_is k l hn hr hk, Option.bind_some, laws_toIntS_is k m (by omega) (by omega)]
  rfl
theorem impl_within_is (a lo hi : Int) : impl_within.f a lo hi = some (inB lo hi a) := by
  unfold impl_within.f
  exact within_is a lo hi
theorem impl_allWithin_l : ∀ (k i : Nat) (l : List Int) (lo hi : Int), l.length ≤ 4611686018427387904 → i ≤ l.length → l.length < i + k → impl_allWithin.l0 k lo hi l (l.length : Int) (i : Int) = some ((l.drop i).all (inB lo hi))
  | 0, _, _, _, _, _, _, hk => by omega
  | k + 1, i, l, lo, hi, hn, hi', hk => by
    simp only [impl_allWithin.l0]
    by_cases h : i < l.length
    · rw [if_pos (by omega), if_pos (by omega), if_pos (by omega), impl_within_is, rd_nat l i h, w64_nat (by omega), List.drop_eq_getElem_cons h, List.all_cons, impl_allWithin_l k (i + 1) l lo hi hn (by omega) (by omega)]
      simp only [Option.bind_some]
      by_cases e : inB lo hi l[i] = true
      · rw [if_pos e, e]
        simp
      · rw [if_neg e]
        simp [e]
    · rw [if_neg (by omega), List.drop_of_length_le (by omega)]
      simp
theorem impl_allWithin_is (k : Nat) (l : List Int) (lo hi : Int) (hn : l.length ≤ 4611686018427387904) (hk : l.length < k) : impl_allWithin.f k l lo hi = some (l.all (inB lo hi)) := by
  unfold impl_allWithin.f
  have := impl_allWithin_l k 0 l lo hi hn (by omega) (by omega)
  simpa using this
theorem impl_IsPoint_is (k : Nat) (l : List Int) (hn : l.length ≤ 4611686018427387904) (hk : l.length < k) : impl_IsPoint.f k l = some (ptB l) := by
  unfold impl_IsPoint.f ptB
  rw [impl_within_is, impl_allWithin_is k l (-9) 9 hn hk]
  simp only [Option.bind_some]
  cases inB 1 4 (l.length : Int) <;> simp
theorem impl_isLabel_is (a : Int) : impl_isLabel.f a = some (lbB a) := by
  unfold impl_isLabel.f lbB
  by_cases e1 : a = 1
  · rw [if_pos e1]
    simp [e1]
  · rw [if_neg e1]
    congr 1
    by_cases e2 : a = -1
    · simp [e2]
    · simp [e1, e2]
theorem impl_IsSample_l (k0 : Nat) (hk0 : 1048576 < k0) : ∀ (k i : Nat) (l : List (List Int)) (m : List Int), l.length ≤ 16 → m.length = l.length → (∀ r ∈ l, r.length ≤ 1048576) → i ≤ l.length → l.length < i + k → impl_IsSample.l0 (k + k0) l (l.length : Int) (i : Int) l m = some ((m.drop i).all lbB && (l.drop i).all fun x => ptB x && decide (x.length = (l.headD []).length))
  | 0, i, l, m, _, _, _, _, hk => by omega
  | k + 1, i, l, m, hn, hm, hr, hi, hk => by
    rw [show k + 1 + k0 = (k + k0) + 1 by omega]
    simp only [impl_IsSample.l0]
    by_cases h : i < l.length
    · have h' : i < m.length := by omega
      have e : rd_L1 l (i : Int) = l[i] := by simp [rd_L1, h]
      have e0 : rd_L1 l 0 = l.headD [] := by cases l <;> simp [rd_L1]
      have hx := hr l[i] (List.getElem_mem h)
      rw [if_pos (by omega), if_pos (by omega), if_pos (by omega), e, impl_IsPoint_is (k + k0) l[i] (by omega) (by omega), e0]
      simp only [Option.bind_some]
      rw [List.drop_eq_getElem_cons h, List.all_cons, List.drop_eq_getElem_cons h', List.all_cons]
      by_cases c1 : ptB l[i] = true
      · rw [if_pos c1, if_pos (by omega), c1, Bool.true_and]
        by_cases c2 : l[i].length = (l.headD []).length
        · rw [if_pos (by omega), if_pos (by omega), impl_isLabel_is, rd_nat m i h', w64_nat (by omega), impl_IsSample_l k0 hk0 k (i + 1) l m hn hm hr (by omega) (by omega)]
          simp only [Option.bind_some]
          by_cases c3 : lbB m[i] = true
          · rw [if_pos c3, c3]
            simp [c2]
          · rw [if_neg c3]
            simp [c3]
        · rw [if_neg (by omega)]
          simp only [c2, decide_false, Bool.false_and, Bool.and_false]
      · rw [if_neg c1]
        simp [c1]
    · rw [if_neg (by omega), List.drop_of_length_le (by omega), List.drop_of_length_le (by omega)]
      simp
theorem impl_IsSample_is (k : Nat) (l : List (List Int)) (m : List Int) (hr : ∀ r ∈ l, r.length ≤ 1048576) (hm : m.length ≤ 1048576) (hk : 1048600 < k) : impl_IsSample.f k l m = some (smB l m) := by
  obtain ⟨k, rfl⟩ : ∃ q, k = q + 1 := ⟨k - 1, by omega⟩
  unfold impl_IsSample.f smB
  by_cases c1 : l.length ≤ 16
  · rw [if_neg (by omega)]
    simp only [impl_IsSample.j0]
    by_cases c2 : m.length = l.length
    · rw [if_neg (by simp [c2])]
      have := impl_IsSample_l (k - 17) (by omega) 17 0 l m c1 c2 hr (by omega) (by omega)
      rw [show 17 + (k - 17) = k by omega] at this
      rw [show ((0 : Nat) : Int) = 0 from rfl] at this
      rw [this]
      simp [c1, c2]
    · rw [if_pos (by simp; omega)]
      simp [c2]
  · rw [if_pos (by omega)]
    simp [impl_IsSample.j0, c1]
theorem laws_eqIntS_l : ∀ (k i : Nat) (l r : List Int), l.length ≤ 4611686018427387904 → r.length = l.length → i ≤ l.length → l.length < i + k → laws_eqIntS.l0 k l r (i : Int) = some (decide (l.drop i = r.drop i))
  | 0, i, l, r, _, _, _, hk => by omega
  | k + 1, i, l, r, hn, hl, hi, hk => by
    simp only [laws_eqIntS.l0]
    by_cases h : i < l.length
    · rw [if_pos (by omega), if_pos (by omega), if_pos (by omega), rd_nat l i h, rd_nat r i (by omega), w64_nat (by omega), laws_eqIntS_l k (i + 1) l r hn hl (by omega) (by omega), List.drop_eq_getElem_cons h, List.drop_eq_getElem_cons (show i < r.length by omega)]
      by_cases e : l[i] = r[i]'(by omega)
      · rw [if_pos e, e]
        simp only [List.cons.injEq, true_and]
      · rw [if_neg e]
        simp only [List.cons.injEq, e, false_and, decide_false]
    · rw [if_neg (by omega), List.drop_of_length_le (by omega), List.drop_of_length_le (by omega)]
      simp
theorem laws_eqIntS_is (k : Nat) (l r : List Int) (hn : l.length ≤ 4611686018427387904) (hk : l.length < k) : laws_eqIntS.f k l r = some (decide (l = r)) := by
  unfold laws_eqIntS.f
  by_cases h : l.length = r.length
  · rw [if_pos (by omega)]
    have := laws_eqIntS_l k 0 l r hn (by omega) (by omega) (by omega)
    simpa using this
  · rw [if_neg (by omega)]
    have : l ≠ r := fun e => h (by rw [e])
    simp [this]
theorem laws_eqIntS_same (k : Nat) (l : List Int) (hn : l.length ≤ 4611686018427387904) (hk : l.length < k) : laws_eqIntS.f k l l = some true := by
  rw [laws_eqIntS_is k l l hn hk]
  simp
theorem laws_eqIntSS_l : ∀ (k i : Nat) (l : List (List Int)), l.length ≤ 1048576 → (∀ r ∈ l, r.length ≤ 1048576) → i ≤ l.length → l.length + 1048576 < i + k → laws_eqIntSS.l0 k l l (i : Int) = some true
  | 0, i, l, _, _, _, hk => by omega
  | k + 1, i, l, hn, hr, hi, hk => by
    simp only [laws_eqIntSS.l0]
    by_cases h : i < l.length
    · have e : rd_L1 l (i : Int) = l[i] := by simp [rd_L1, h]
      have hx := hr l[i] (List.getElem_mem h)
      rw [if_pos (by omega), if_pos (by omega), if_pos (by omega), e, laws_eqIntS_same k l[i] (by omega) (by omega)]
      simp only [Option.bind_some, if_true]
      rw [w64_nat (by omega)]
      exact laws_eqIntSS_l k (i + 1) l hn hr (by omega) (by omega)
    · rw [if_neg (by omega)]
theorem laws_eqIntSS_same (k : Nat) (l : List (List Int)) (hn : l.length ≤ 1048576) (hr : ∀ r ∈ l, r.length ≤ 1048576) (hk : 2097152 < k) : laws_eqIntSS.f k l l = some true := by
  unfold laws_eqIntSS.f
  rw [if_pos rfl]
  exact laws_eqIntSS_l k 0 l hn hr (by omega) (by omega)
theorem laws_eqSample_same (k : Nat) (l : List (List Int)) (m : List Int) (hn : l.length ≤ 1048576) (hr : ∀ r ∈ l, r.length ≤ 1048576) (hm : m.length ≤ 1048576) (hk : 2097152 < k) : laws_eqSample.f k l m l m = some true := by
  unfold laws_eqSample.f
  rw [laws_eqIntSS_same k l hn hr hk, laws_eqIntS_same k m (by omega) (by omega)]
  rfl
theorem ev_of {α : Type} {g : Nat → Option α} {r : α} (B : Nat) (h : ∀ k, B < k → g k = some r) : Ev g r := ⟨B + 1, fun k hk => h k (by omega)⟩
theorem ev_const {α : Type} (r : α) : Ev (fun _ => some r) r := Ev.now r
theorem ev_if_pos {α : Type} {c : Prop} [Decidable c] {f g : Nat → Option α} {r : α} (h : c) (k : Ev f r) : Ev (fun n => if c then f n else g n) r := Ev.congr (fun n => if_pos h) k
theorem ev_if_neg {α : Type} {c : Prop} [Decidable c] {f g : Nat → Option α} {r : α} (h : ¬ c) (k : Ev g r) : Ev (fun n => if c then f n else g n) r := Ev.congr (fun n => if_neg h) k
/-- the numeral of a number -/
def numB (n : Int) : ByteArray := ⟨(Go.Lib.itoa n).toArray⟩
theorem dig_is : ∀ (u : Nat), u < 10 → (⟨#[48, 49, 50, 51, 52, 53, 54, 55, 56, 57]⟩ : ByteArray).extract u (u + 1) = ⟨[UInt8.ofNat (48 + u)].toArray⟩
  | 0, _ => rfl
  | 1, _ => rfl
  | 2, _ => rfl
  | 3, _ => rfl
  | 4, _ => rfl
  | 5, _ => rfl
  | 6, _ => rfl
  | 7, _ => rfl
  | 8, _ => rfl
  | 9, _ => rfl
  | n + 10, h => by omega
theorem decDigits_le (u : Nat) : (Go.Lib.decDigits u).length ≤ u + 1 := by
  induction u using Nat.strongRecOn with
  | _ u ih =>
    rw [Go.Lib.decDigits]
    split
    · simp
    · have := ih (u / 10) (by omega)
      rw [List.length_append]
      simp only [List.length_singleton]
      omega
theorem bytes_app (a b : List UInt8) : (⟨a.toArray⟩ ++ ⟨b.toArray⟩ : ByteArray) = ⟨(a ++ b).toArray⟩ := by
  apply ByteArray.ext
  simp [ByteArray.data_append]
theorem bytes_size (a : List UInt8) : (⟨a.toArray⟩ : ByteArray).size = a.length := by
  show a.toArray.size = _
  simp
theorem l1Num_nat (u : Nat) (hu : u ≤ 4611686018427387904) : Ev (fun k => spec_l1Num.f k (u : Int)) (⟨(Go.Lib.decDigits u).toArray⟩ : ByteArray) := by
  induction u using Nat.strongRecOn with
  | _ u ih =>
    by_cases c : u < 10
    · rw [Go.Lib.decDigits, dif_pos c, ← dig_is u c]
      have e1 : wrap64 ((u : Int) + 1) = ((u + 1 : Nat) : Int) := w64_nat (by omega)
      refine Ev.step (f := fun _ => some ((⟨#[48, 49, 50, 51, 52, 53, 54, 55, 56, 57]⟩ : ByteArray).extract u (u + 1))) (fun k => ?_) (ev_const _)
      rw [spec_l1Num.f, if_neg (by omega), if_pos (by omega), if_pos (by omega), e1, if_pos (by omega), if_pos (by omega)]
      rfl
    · have ih2 := ih (u / 10) (by omega) (by omega)
      have ed : wrap64 (Int.tdiv (u : Int) 10) = ((u / 10 : Nat) : Int) := by
        rw [show Int.tdiv (u : Int) 10 = ((u / 10 : Nat) : Int) from rfl]
        exact w64 (by omega) (by omega)
      have em : Int.tmod (u : Int) 10 = ((u % 10 : Nat) : Int) := rfl
      have e1 : wrap64 (((u % 10 : Nat) : Int) + 1) = ((u % 10 + 1 : Nat) : Int) := w64_nat (by omega)
      have hx := dig_is (u % 10) (Nat.mod_lt _ (by omega))
      have hl := decDigits_le (u / 10)
      rw [Go.Lib.decDigits, dif_neg c]
      refine Ev.step (f := fun k => (spec_l1Num.f k ((u / 10 : Nat) : Int)).bind fun t => if t.size + 1 ≤ 9223372036854775807 then some (t ++ ⟨[UInt8.ofNat (48 + u % 10)].toArray⟩) else none) (fun k => ?_) (Ev.bind ih2 (ev_if_pos ?_ ?_))
      · rw [spec_l1Num.f, if_neg (by omega), if_neg (by omega), ed, em, e1]
        congr 1
        funext t
        rw [if_pos (by omega), if_pos (by omega), if_pos (by omega), Int.toNat_natCast, Int.toNat_natCast, hx, bytes_size]
        rfl
      · rw [bytes_size]
        omega
      · rw [bytes_app]
        exact ev_const _
theorem l1Num_ev (n : Int) (h : -4611686018427387904 ≤ n ∧ n ≤ 4611686018427387904) : Ev (fun k => spec_l1Num.f k n) (numB n) := by
  unfold numB Go.Lib.itoa
  by_cases c : n < 0
  · rw [if_pos c]
    obtain ⟨u, rfl⟩ : ∃ u : Nat, n = -(u : Int) := ⟨n.natAbs, by omega⟩
    have hx := l1Num_nat u (by omega)
    have hl := decDigits_le u
    rw [show (-(u : Int)).natAbs = u by omega]
    refine Ev.step (f := fun k => (spec_l1Num.f k (u : Int)).bind fun t => if 1 + t.size ≤ 9223372036854775807 then some ((⟨#[45]⟩ : ByteArray) ++ t) else none) (fun k => ?_) (Ev.bind hx (ev_if_pos ?_ ?_))
    · rw [spec_l1Num.f, if_pos c, Int.neg_neg, w64 (x := (u : Int)) (by omega) (by omega)]
    · rw [bytes_size]
      omega
    · rw [show (⟨#[45]⟩ : ByteArray) = ⟨([45] : List UInt8).toArray⟩ from rfl, bytes_app]
      exact ev_const _
  · rw [if_neg c]
    obtain ⟨u, rfl⟩ := Int.eq_ofNat_of_zero_le (show 0 ≤ n by omega)
    exact l1Num_nat u (by omega)
theorem numB_size (n : Int) (h : -9223372036854775808 ≤ n ∧ n ≤ 9223372036854775807) : (numB n).size ≤ 21 := by
  unfold numB
  rw [bytes_size]
  exact Go.Lib.itoa_length_le n h.1 h.2
theorem itoa_ev (n : Int) (h : -9223372036854775808 ≤ n ∧ n ≤ 9223372036854775807) : Ev (fun k => strconv_Itoa.f k n) (numB n) := by
  unfold strconv_Itoa.f
  exact ev_if_pos h.1 (ev_if_pos h.2 (ev_const _))
def bsOf (l : List UInt8) : ByteArray := ⟨l.toArray⟩
theorem bsOf_data (s : ByteArray) : bsOf s.data.toList = s := by
  unfold bsOf
  rw [Array.toArray_toList]
theorem ext_list (s : ByteArray) (i j : Nat) : s.extract i j = bsOf ((s.data.toList.take j).drop i) := by
  apply ByteArray.ext
  rw [ByteArray.data_extract]
  unfold bsOf
  apply Array.toList_inj.1
  simp [List.drop_take]
theorem bsOf_app (a b : List UInt8) : bsOf a ++ bsOf b = bsOf (a ++ b) := bytes_app a b
theorem bsOf_size (a : List UInt8) : (bsOf a).size = a.length := bytes_size a
theorem bsOf_list (a : List UInt8) : (bsOf a).data.toList = a := by unfold bsOf; simp
theorem numB_of (n : Int) : numB n = bsOf (Go.Lib.itoa n) := rfl
theorem itoa_len (n : Int) (h : -9 ≤ n ∧ n ≤ 9) : (Go.Lib.itoa n).length ≤ 21 := Go.Lib.itoa_length_le n (by omega) (by omega)
/-- a point's numbers, a word, a sample's words -/
def numsL (p : List Int) : List UInt8 := Go.Lib.join (p.map Go.Lib.itoa) [44]
def wordT (l : Int) (p : List Int) : List UInt8 := (if l = 1 then 43 else 45) :: numsL p
def wordsT (ps : List (List Int)) (ls : List Int) : List (List UInt8) := List.zipWith wordT ls ps
def textT (ps : List (List Int)) (ls : List Int) : List UInt8 := if ps = [] then [110, 111, 110, 101] else Go.Lib.join (wordsT ps ls) [32]
theorem nums_len (p : List Int) (hp : ptB p = true) : (numsL p).length ≤ 88 := by
  obtain ⟨h1, h2, h3⟩ := ptB_parts hp
  have key : ∀ l : List Int, l.all (inB (-9) 9) = true → (Go.Lib.joinTail [44] (l.map Go.Lib.itoa)).length ≤ 22 * l.length := fun l hl => by
    induction l with
    | nil => simp [Go.Lib.joinTail]
    | cons x t ih =>
      simp only [List.all_cons, Bool.and_eq_true] at hl
      have hx := itoa_len x (inB_iff.1 hl.1)
      have := ih hl.2
      simp only [Go.Lib.joinTail, List.map_cons, List.flatten_cons, List.length_append, List.length_cons] at this ⊢
      simp only [List.length_nil]
      omega
  cases p with
  | nil => simp at h2
  | cons x t =>
    simp only [List.all_cons, Bool.and_eq_true] at h1
    have hx := itoa_len x (inB_iff.1 h1.1)
    have := key t h1.2
    unfold numsL
    rw [List.map_cons, Go.Lib.join_cons, List.length_append]
    simp only [List.length_cons] at h3
    omega
/-- the reference's inner loop, behind the first number -/
theorem txt_l1 (ps : List (List Int)) (ls : List Int) (i : Nat) (p : List Int) (hi : i < ps.length) (hp : rd_L1 ps (i : Int) = p) (hb : p.all (inB (-9) 9) = true) (h4 : p.length ≤ 4) (out : ByteArray) : ∀ (j' j : Nat) (a : List UInt8), j + j' = p.length → 1 ≤ j → a.length + 22 * j' ≤ 1000000 → ps.length ≤ 1000 →
    Ev (fun k => spec_l2Text.l0 k (bsOf (a ++ Go.Lib.joinTail [44] ((p.drop j).map Go.Lib.itoa))) ((i + 1 : Nat) : Int) ps ls) out → Ev (fun k => spec_l2Text.l1 k (bsOf a) (i : Int) (j : Int) ps ls) out
  | 0, j, a, hj, h1, ha, hl, h => by
    rw [List.drop_of_length_le (by omega)] at h
    simp only [List.map_nil, Go.Lib.joinTail, List.flatten_nil, List.append_nil] at h
    refine Ev.step (fun k => ?_) h
    rw [spec_l2Text.l1, if_pos (by omega), if_pos (by omega), hp, if_neg (by omega), w64_nat (by omega)]
  | j' + 1, j, a, hj, h1, ha, hl, h => by
    have hjl : j < p.length := by omega
    have q := all_range hb j hjl
    have z := itoa_len p[j] q
    have ih := txt_l1 ps ls i p hi hp hb h4 out j' (j + 1) (a ++ (44 :: Go.Lib.itoa p[j])) (by omega) (by omega) (by rw [List.length_append, List.length_cons]; omega) hl (by
      rw [List.drop_eq_getElem_cons hjl] at h
      simp only [List.map_cons, Go.Lib.joinTail, List.flatten_cons, List.singleton_append] at h
      simp only [Go.Lib.joinTail, List.singleton_append, List.append_assoc]
      exact h)
    have e1 : bsOf a ++ (⟨#[44]⟩ : ByteArray) = bsOf (a ++ [44]) := bsOf_app a [44]
    have s1 : (bsOf (a ++ [44]) : ByteArray).size = a.length + 1 := by rw [bsOf_size, List.length_append]; rfl
    refine Ev.step (f := fun k => (spec_l1Num.f k p[j]).bind fun t => if (bsOf (a ++ [44])).size + t.size ≤ 9223372036854775807 then spec_l2Text.l1 k (bsOf (a ++ [44]) ++ t) (i : Int) ((j + 1 : Nat) : Int) ps ls else none) (fun k => ?_) (Ev.bind (l1Num_ev p[j] (by omega)) (ev_if_pos ?_ ?_))
    · rw [spec_l2Text.l1, if_pos (by omega), if_pos (by omega), hp, if_pos (by omega), if_pos (by omega), if_pos (by rw [bsOf_size]; omega), if_pos (by omega), rd_nat p j hjl, e1, w64_nat (by omega)]
    · rw [s1, numB_of, bsOf_size]
      omega
    · rw [numB_of, bsOf_app]
      rw [List.append_assoc, List.singleton_append]
      exact ih
/-- one word -/
theorem txt_j1 (ps : List (List Int)) (ls : List Int) (i : Nat) (hs : smB ps ls = true) (hi : i < ps.length) (out : ByteArray) (a : List UInt8) (ha : a.length ≤ 900000) (hil : i < ls.length)
    (h : Ev (fun k => spec_l2Text.l0 k (bsOf (a ++ wordT ls[i] ps[i])) ((i + 1 : Nat) : Int) ps ls) out) : Ev (fun k => spec_l2Text.j1 k (bsOf a) (i : Int) ps ls) out := by
  obtain ⟨h16, hlen, hlab, hrow⟩ := smB_parts hs
  have hp : rd_L1 ps (i : Int) = ps[i] := by simp [rd_L1, hi]
  obtain ⟨q1, q2⟩ := hrow ps[i] (List.getElem_mem hi)
  obtain ⟨hb, hn1, hn4⟩ := ptB_parts q1
  have body : ∀ (c : UInt8), c = (if ls[i] = 1 then 43 else 45) → Ev (fun k => spec_l2Text.j2 k (bsOf (a ++ [c])) (i : Int) ps ls) out := fun c hc => by
    have h0 : 0 < ps[i].length := by omega
    have q := all_range hb 0 h0
    have z := itoa_len ps[i][0] q
    have e0 : wordT ls[i] ps[i] = c :: (Go.Lib.itoa ps[i][0] ++ Go.Lib.joinTail [44] ((ps[i].drop 1).map Go.Lib.itoa)) := by
      unfold wordT numsL
      rw [← hc]
      congr 1
      have : ps[i] = ps[i][0] :: ps[i].drop 1 := by
        have := List.drop_eq_getElem_cons h0
        rwa [List.drop_zero] at this
      conv => lhs; rw [this]
      rw [List.map_cons, Go.Lib.join_cons]
    have l1 := txt_l1 ps ls i ps[i] hi hp hb hn4 out (ps[i].length - 1) 1 (a ++ [c] ++ Go.Lib.itoa ps[i][0]) (by omega) (by omega) (by rw [List.length_append, List.length_append, List.length_singleton]; omega) (by omega) (by
      rw [e0] at h
      simp only [List.append_assoc, List.singleton_append] at h ⊢
      exact h)
    have s1 : (bsOf (a ++ [c]) : ByteArray).size = a.length + 1 := by rw [bsOf_size, List.length_append]; rfl
    have r0 : rd ps[i] 0 = ps[i][0] := rd_nat ps[i] 0 h0
    refine Ev.step (fun k => by rw [spec_l2Text.j2]) ?_
    refine Ev.step (f := fun k => (spec_l1Num.f k ps[i][0]).bind fun t => if (bsOf (a ++ [c])).size + t.size ≤ 9223372036854775807 then spec_l2Text.l1 k (bsOf (a ++ [c]) ++ t) (i : Int) ((1 : Nat) : Int) ps ls else none) (fun k => ?_) (Ev.bind (l1Num_ev ps[i][0] (by omega)) (ev_if_pos ?_ ?_))
    · rw [spec_l2Text.l1, if_pos (by omega), if_pos (by omega), hp, if_pos (by omega), if_neg (by omega), if_pos (by omega), r0, w64 (x := 0 + 1) (by omega) (by omega)]
      rfl
    · rw [s1, numB_of, bsOf_size]
      omega
    · rw [numB_of, bsOf_app]
      exact l1
  have rl := rd_nat ls i hil
  have e43 : bsOf a ++ (⟨#[43]⟩ : ByteArray) = bsOf (a ++ [43]) := bsOf_app a [43]
  have e45 : bsOf a ++ (⟨#[45]⟩ : ByteArray) = bsOf (a ++ [45]) := bsOf_app a [45]
  by_cases c : ls[i] = 1
  · refine Ev.step (fun k => ?_) (body 43 (by rw [if_pos c]))
    rw [spec_l2Text.j1, if_pos (by omega), if_pos (by omega), rl, if_pos c, if_pos (by rw [bsOf_size]; omega), e43]
  · refine Ev.step (fun k => ?_) (body 45 (by rw [if_neg c]))
    rw [spec_l2Text.j1, if_pos (by omega), if_pos (by omega), rl, if_neg c, if_pos (by rw [bsOf_size]; omega), e45]
theorem words_get (ps : List (List Int)) (ls : List Int) (i : Nat) (hi : i < ps.length) (hil : i < ls.length) : ∃ h : i < (wordsT ps ls).length, (wordsT ps ls)[i] = wordT ls[i] ps[i] := by
  have h : i < (wordsT ps ls).length := by unfold wordsT; rw [List.length_zipWith]; omega
  exact ⟨h, by simp only [wordsT, List.getElem_zipWith]⟩
theorem word_len (l : Int) (p : List Int) (hp : ptB p = true) : (wordT l p).length ≤ 89 := by
  have := nums_len p hp
  unfold wordT
  rw [List.length_cons]
  omega
/-- the reference's outer loop, behind the first word -/
theorem txt_l0 (ps : List (List Int)) (ls : List Int) (hs : smB ps ls = true) : ∀ (m i : Nat) (a : List UInt8), i + m = ps.length → 1 ≤ i → a.length + 90 * m ≤ 900000 → Ev (fun k => spec_l2Text.l0 k (bsOf a) (i : Int) ps ls) (bsOf (a ++ Go.Lib.joinTail [32] ((wordsT ps ls).drop i)))
  | 0, i, a, hm, h1, ha => by
    obtain ⟨h16, hlen, hlab, hrow⟩ := smB_parts hs
    have hw : (wordsT ps ls).length = ps.length := by unfold wordsT; rw [List.length_zipWith]; omega
    rw [List.drop_of_length_le (by omega)]
    simp only [Go.Lib.joinTail, List.map_nil, List.flatten_nil, List.append_nil]
    refine Ev.step (f := fun _ => some (bsOf a)) (fun k => ?_) (ev_const _)
    rw [spec_l2Text.l0, if_neg (by omega), if_neg (by omega)]
  | m + 1, i, a, hm, h1, ha => by
    obtain ⟨h16, hlen, hlab, hrow⟩ := smB_parts hs
    have hi : i < ps.length := by omega
    have hil : i < ls.length := by omega
    obtain ⟨hw, ew⟩ := words_get ps ls i hi hil
    have wl := word_len ls[i] ps[i] (hrow ps[i] (List.getElem_mem hi)).1
    have ih := txt_l0 ps ls hs m (i + 1) (a ++ [32] ++ wordT ls[i] ps[i]) (by omega) (by omega) (by rw [List.length_append, List.length_append, List.length_singleton]; omega)
    have e32 : bsOf a ++ (⟨#[32]⟩ : ByteArray) = bsOf (a ++ [32]) := bsOf_app a [32]
    have j1 := txt_j1 ps ls i hs hi _ (a ++ [32]) (by rw [List.length_append, List.length_singleton]; omega) hil ih
    rw [List.drop_eq_getElem_cons hw, ew]
    refine Ev.step (fun k => ?_) (f := fun k => spec_l2Text.j1 k (bsOf (a ++ [32])) (i : Int) ps ls) ?_
    · rw [spec_l2Text.l0, if_pos (by omega), if_pos (by omega), if_pos (by rw [bsOf_size]; omega), e32]
    · simp only [Go.Lib.joinTail, List.map_cons, List.flatten_cons, List.append_assoc, List.singleton_append] at j1 ⊢
      exact j1
theorem l2Text_ev (ps : List (List Int)) (ls : List Int) (hs : smB ps ls = true) : Ev (fun k => spec_l2Text.f k ps ls) (bsOf (textT ps ls)) := by
  obtain ⟨h16, hlen, hlab, hrow⟩ := smB_parts hs
  unfold spec_l2Text.f textT
  cases ps with
  | nil =>
    rw [if_pos rfl]
    refine Ev.step (f := fun _ => some (bsOf [110, 111, 110, 101])) (fun k => ?_) (ev_const _)
    rw [spec_l2Text.l0, if_neg (by simp), if_pos (by simp)]
    rfl
  | cons p ps' =>
    rw [if_neg (by simp)]
    have hi : 0 < (p :: ps').length := by simp
    have hil : 0 < ls.length := by rw [hlen]; exact hi
    obtain ⟨hw, ew⟩ := words_get (p :: ps') ls 0 hi hil
    have wl := word_len ls[0] (p :: ps')[0] (hrow _ (List.getElem_mem hi)).1
    have t1 := txt_l0 (p :: ps') ls hs (p :: ps').length.pred 1 (wordT ls[0] (p :: ps')[0]) (by simp; omega) (by omega) (by have w2 := wl; simp only [List.getElem_cons_zero] at w2 ⊢; simp only [List.length_cons, Nat.pred_succ] at h16 ⊢; omega)
    have j1 := txt_j1 (p :: ps') ls 0 hs hi _ [] (by simp) hil t1
    have e : wordsT (p :: ps') ls = wordT ls[0] (p :: ps')[0] :: (wordsT (p :: ps') ls).drop 1 := by
      have := List.drop_eq_getElem_cons hw
      rw [List.drop_zero, ew] at this
      exact this
    rw [e, Go.Lib.join_cons]
    refine Ev.step (fun k => ?_) (f := fun k => spec_l2Text.j1 k (bsOf []) ((0 : Nat) : Int) (p :: ps') ls) j1
    rw [spec_l2Text.l0, if_pos (by first | (simp; done) | (simp; omega)), if_neg (by omega)]
    rfl
theorem join_len (sep : List UInt8) (B : Nat) : ∀ (xs : List (List UInt8)), (∀ x ∈ xs, x.length ≤ B) → (Go.Lib.join xs sep).length ≤ (B + sep.length) * xs.length
  | [], _ => by simp [Go.Lib.join_nil]
  | x :: xs, h => by
    rw [Go.Lib.join_cons, List.length_append, Go.Lib.joinTail_length]
    have h1 := h x (List.mem_cons_self ..)
    have h2 : Go.Lib.lens xs ≤ B * xs.length := by
      have : ∀ l : List (List UInt8), (∀ x ∈ l, x.length ≤ B) → Go.Lib.lens l ≤ B * l.length := fun l hl => by
        induction l with
        | nil => simp [Go.Lib.lens]
        | cons y l ih =>
          have := hl y (List.mem_cons_self ..)
          have := ih fun x hx => hl x (List.mem_cons_of_mem _ hx)
          simp only [Go.Lib.lens, List.map_cons, List.sum_cons, List.length_cons, Nat.mul_succ] at this ⊢
          omega
      exact this xs fun x hx => h x (List.mem_cons_of_mem _ hx)
    rw [List.length_cons, Nat.mul_succ, Nat.add_mul]
    omega
theorem join_ev (xs : List ByteArray) (sep : ByteArray) (h1 : xs.length ≤ 140737488355328) (h2 : (Go.Lib.join (xs.map (·.data.toList)) sep.data.toList).length ≤ 140737488355328) : Ev (fun k => strings_Join.f k xs sep) (bsOf (Go.Lib.join (xs.map (·.data.toList)) sep.data.toList)) := by
  unfold strings_Join.f
  exact ev_if_pos h1 (ev_if_pos h2 (ev_const _))
theorem map_bs (l : List (List UInt8)) : (l.map bsOf).map (fun s => s.data.toList) = l := by
  rw [List.map_map]
  have : ((fun s : ByteArray => s.data.toList) ∘ bsOf) = id := by funext x; exact bsOf_list x
  rw [this, List.map_id]
/-- the program's loops -/
theorem imp_l1 (ps : List (List Int)) (ls : List Int) (i : Nat) (hs : smB ps ls = true) (hi : i < ps.length) (hil : i < ls.length) (W : List ByteArray) (hW : W.length ≤ 1000) (out : ByteArray) (h : Ev (fun k => impl_sampleText.l0 k (W ++ [bsOf (wordT ls[i] ps[i])]) ps (ps.length : Int) ((i + 1 : Nat) : Int) ps ls) out) : ∀ (j' j : Nat) (acc : List ByteArray), j + j' = ps[i].length → acc = (ps[i].take j).map (fun x => bsOf (Go.Lib.itoa x)) → Ev (fun k => impl_sampleText.l1 k W (i : Int) acc ps (ps.length : Int) (i : Int) ps[i] (ps[i].length : Int) (j : Int) ps ls) out
  | 0, j, acc, hj, ha => by
    obtain ⟨h16, hlen, hlab, hrow⟩ := smB_parts hs
    obtain ⟨q1, q2⟩ := hrow ps[i] (List.getElem_mem hi)
    obtain ⟨hb, hn1, hn4⟩ := ptB_parts q1
    have ea : acc = (ps[i].map Go.Lib.itoa).map bsOf := by
      rw [ha, List.take_of_length_le (by omega), List.map_map]
      rfl
    have ln := nums_len ps[i] q1
    have em : (acc.map (fun s => s.data.toList)) = ps[i].map Go.Lib.itoa := by rw [ea, map_bs]
    have je := join_ev acc (⟨#[44]⟩ : ByteArray) (by rw [ea]; simp; omega) (by
      rw [em]
      show (numsL ps[i]).length ≤ _
      omega)
    rw [em] at je
    have je2 : Ev (fun k => strings_Join.f k acc (⟨#[44]⟩ : ByteArray)) (bsOf (numsL ps[i])) := je
    have hl1 : ls[i] = 1 ∨ ls[i] = -1 := by
      have := List.all_eq_true.1 hlab ls[i] (List.getElem_mem hil)
      simpa [lbB] using this
    have rl := rd_nat ls i hil
    have wT : ∀ c : UInt8, c = (if ls[i] = 1 then 43 else 45) → (⟨#[c]⟩ : ByteArray) ++ bsOf (numsL ps[i]) = bsOf (wordT ls[i] ps[i]) := fun c hc => by
      rw [show (⟨#[c]⟩ : ByteArray) = bsOf [c] from rfl, bsOf_app]
      unfold wordT
      rw [← hc]
      rfl
    rcases hl1 with c | c
    · have w := wT 43 (by rw [if_pos c])
      refine Ev.step (f := fun k => (strings_Join.f k acc (⟨#[44]⟩ : ByteArray)).bind fun t => if 1 + t.size ≤ 9223372036854775807 then (if W.length < 8796093022208 then impl_sampleText.l0 k (W ++ [(⟨#[43]⟩ : ByteArray) ++ t]) ps (ps.length : Int) ((i + 1 : Nat) : Int) ps ls else none) else none) (fun k => ?_) (Ev.bind je2 (ev_if_pos ?_ (ev_if_pos ?_ ?_)))
      · rw [impl_sampleText.l1, if_neg (by omega), if_pos (by omega), if_pos (by omega), rl, if_neg (by omega), w64_nat (by omega)]
      · rw [bsOf_size]; omega
      · omega
      · rw [w]; exact h
    · have w := wT 45 (by rw [if_neg (by omega)])
      refine Ev.step (f := fun k => (strings_Join.f k acc (⟨#[44]⟩ : ByteArray)).bind fun t => if 1 + t.size ≤ 9223372036854775807 then (if W.length < 8796093022208 then impl_sampleText.l0 k (W ++ [(⟨#[45]⟩ : ByteArray) ++ t]) ps (ps.length : Int) ((i + 1 : Nat) : Int) ps ls else none) else none) (fun k => ?_) (Ev.bind je2 (ev_if_pos ?_ (ev_if_pos ?_ ?_)))
      · rw [impl_sampleText.l1, if_neg (by omega), if_pos (by omega), if_pos (by omega), rl, if_pos (by omega), w64_nat (by omega)]
      · rw [bsOf_size]; omega
      · omega
      · rw [w]; exact h
  | j' + 1, j, acc, hj, ha => by
    obtain ⟨h16, hlen, hlab, hrow⟩ := smB_parts hs
    obtain ⟨q1, q2⟩ := hrow ps[i] (List.getElem_mem hi)
    obtain ⟨hb, hn1, hn4⟩ := ptB_parts q1
    have hjl : j < ps[i].length := by omega
    have q := all_range hb j hjl
    have la : acc.length ≤ 4 := by rw [ha, List.length_map, List.length_take]; omega
    have ih := imp_l1 ps ls i hs hi hil W hW out h j' (j + 1) (acc ++ [bsOf (Go.Lib.itoa ps[i][j])]) (by omega) (by rw [ha, List.take_succ_eq_append_getElem hjl, List.map_append]; rfl)
    refine Ev.step (f := fun k => (strconv_Itoa.f k ps[i][j]).bind fun t => if acc.length < 8796093022208 then impl_sampleText.l1 k W (i : Int) (acc ++ [t]) ps (ps.length : Int) (i : Int) ps[i] (ps[i].length : Int) ((j + 1 : Nat) : Int) ps ls else none) (fun k => ?_) (Ev.bind (itoa_ev ps[i][j] (by omega)) (ev_if_pos (by omega) ?_))
    · rw [impl_sampleText.l1, if_pos (by omega), if_pos (by omega), if_pos (by omega), rd_nat ps[i] j hjl, w64_nat (by omega)]
    · rw [numB_of]
      exact ih
theorem imp_l0 (ps : List (List Int)) (ls : List Int) (hs : smB ps ls = true) : ∀ (m i : Nat) (W : List ByteArray), i + m = ps.length → W = ((wordsT ps ls).take i).map bsOf → Ev (fun k => impl_sampleText.l0 k W ps (ps.length : Int) (i : Int) ps ls) (bsOf (textT ps ls))
  | 0, i, W, hm, hW => by
    obtain ⟨h16, hlen, hlab, hrow⟩ := smB_parts hs
    have hw : (wordsT ps ls).length = ps.length := by unfold wordsT; rw [List.length_zipWith]; omega
    have eW : W = (wordsT ps ls).map bsOf := by rw [hW, List.take_of_length_le (by omega)]
    have lW : W.length = ps.length := by rw [eW, List.length_map, hw]
    unfold textT
    by_cases c : ps = []
    · rw [if_pos c]
      refine Ev.step (f := fun _ => some (bsOf [110, 111, 110, 101])) (fun k => ?_) (ev_const _)
      have : ps.length = 0 := by rw [c]; rfl
      rw [impl_sampleText.l0, if_neg (by omega), if_pos (by omega)]
      rfl
    · rw [if_neg c]
      have hp : ps.length ≠ 0 := fun e => c (List.length_eq_zero_iff.1 e)
      have em : (W.map (fun s => s.data.toList)) = wordsT ps ls := by rw [eW, map_bs]
      have jl := join_len [32] 89 (wordsT ps ls) (fun x hx => by
        obtain ⟨j, hj, rfl⟩ := List.mem_iff_getElem.1 hx
        obtain ⟨_, e⟩ := words_get ps ls j (by omega) (by omega)
        rw [e]
        exact word_len _ _ (hrow _ (List.getElem_mem _)).1)
      rw [hw] at jl
      have je := join_ev W (⟨#[32]⟩ : ByteArray) (by omega) (by
        rw [em]
        show (Go.Lib.join (wordsT ps ls) [32]).length ≤ _
        have : (89 + [(32 : UInt8)].length) * ps.length ≤ 90 * 16 := by simp only [List.length_singleton]; omega
        omega)
      rw [em] at je
      have je2 : Ev (fun k => strings_Join.f k W (⟨#[32]⟩ : ByteArray)) (bsOf (Go.Lib.join (wordsT ps ls) [32])) := je
      refine Ev.step (f := fun k => (strings_Join.f k W (⟨#[32]⟩ : ByteArray)).bind fun t => some t) (fun k => ?_) (Ev.bind je2 (ev_const _))
      rw [impl_sampleText.l0, if_neg (by omega), if_neg (by omega)]
  | m + 1, i, W, hm, hW => by
    obtain ⟨h16, hlen, hlab, hrow⟩ := smB_parts hs
    have hi : i < ps.length := by omega
    have hil : i < ls.length := by omega
    obtain ⟨hw, ew⟩ := words_get ps ls i hi hil
    have hp : rd_L1 ps (i : Int) = ps[i] := by simp [rd_L1, hi]
    have ih := imp_l0 ps ls hs m (i + 1) (W ++ [bsOf (wordT ls[i] ps[i])]) (by omega) (by rw [hW, List.take_succ_eq_append_getElem hw, List.map_append, ew]; rfl)
    have lW : W.length ≤ 16 := by rw [hW, List.length_map, List.length_take]; omega
    have l1 := imp_l1 ps ls i hs hi hil W (by omega) _ ih ps[i].length 0 [] (by omega) rfl
    refine Ev.step (fun k => ?_) l1
    rw [impl_sampleText.l0, if_pos (by omega), if_pos (by omega), if_pos (by omega), hp]
    rfl
theorem sampleText_ev (ps : List (List Int)) (ls : List Int) (hs : smB ps ls = true) : Ev (fun k => impl_sampleText.f k ps ls) (bsOf (textT ps ls)) := imp_l0 ps ls hs ps.length 0 [] (by omega) rfl
theorem sampleText_same (ps : List (List Int)) (ls : List Int) (hr : ∀ r ∈ ps, r.length ≤ 1048576) (hm : ls.length ≤ 1048576) : ∃ r, Ev (fun k => spec_SampleText.f k ps ls) r ∧ Ev (fun k => impl_SampleText.f k ps ls) r := by
  have e1 : Ev (fun k => impl_IsSample.f k ps ls) (smB ps ls) := ev_of 3000000 fun k hk => impl_IsSample_is k ps ls hr hm (by omega)
  have e2 : Ev (fun k => spec_l2Sample.f k ps ls) (smB ps ls) := ev_of 3000000 fun k hk => spec_l2Sample_is k ps ls hr hm (by omega)
  by_cases c : smB ps ls = true
  · refine ⟨(bsOf (textT ps ls), true), ?_, ?_⟩
    · unfold spec_SampleText.f
      exact Ev.bind e2 (ev_if_pos c (Ev.bind (l2Text_ev ps ls c) (ev_const _)))
    · unfold impl_SampleText.f
      exact Ev.bind e1 (ev_if_pos c (Ev.bind (sampleText_ev ps ls c) (ev_const _)))
  · refine ⟨((⟨#[]⟩ : ByteArray), false), ?_, ?_⟩
    · unfold spec_SampleText.f
      exact Ev.bind e2 (ev_if_neg c (ev_const _))
    · unfold impl_SampleText.f
      exact Ev.bind e1 (ev_if_neg c (ev_const _))
theorem FnExactSampleText : ∀ (l0 : List (List Int)) (m0 : List Int), l0.length ≤ maxLen → (∀ r ∈ l0, r.length ≤ maxLen ∧ ∀ x ∈ r, (Lit.int .i64 x).wf = true) → m0.length ≤ maxLen → (∀ x ∈ m0, (Lit.int .i64 x).wf = true) → ∃ k, laws_FnExactSampleText.f k l0 m0 = some true := by
  intro l m hl hr hm _
  unfold maxLen at hl hr hm
  refine Ev.rounds (g := fun k => laws_FnExactSampleText.f k l m) ?_
  unfold laws_FnExactSampleText.f
  obtain ⟨v, hv0, hc⟩ := laws_szSample_tells 1048577 l m 1048576 (by omega) (by omega) (by omega) (fun r h => by have := (hr r h).1; omega) (by omega) (by omega)
  have hv : Ev (fun k => laws_szSample.f k l m 1048576) v := Ev.of (fun k => laws_szSample.mono _ _ _ k) hv0
  refine Ev.bind hv ?_
  rcases hc with hc | ⟨a1, a2, a3, a4, a5⟩
  · exact ev_if_pos hc (ev_const _)
  · have ts : Ev (fun k => laws_toSample.f k l m) (l, m) := ev_of 3000000 fun k hk => laws_toSample_is k l m a3 a4 a5 (by omega)
    have es : Ev (fun k => laws_eqSample.f k l m l m) true := ev_of 3000000 fun k hk => laws_eqSample_same k l m a3 a4 a5 (by omega)
    obtain ⟨r, h1, h2⟩ := sampleText_same l m a4 a5
    refine ev_if_neg (by omega) (Ev.bind ts (Ev.bind h1 (Ev.bind ts (Ev.bind h2 (ev_if_pos rfl ?_)))))
    exact Ev.step (fun k => by rw [laws_FnExactSampleText.j0, if_neg (by simp)]) (Ev.bind ts (Ev.bind es (ev_if_pos rfl (ev_const _))))

end Go.Proofs.YtkgjacacldcacaaDoor.Pure
