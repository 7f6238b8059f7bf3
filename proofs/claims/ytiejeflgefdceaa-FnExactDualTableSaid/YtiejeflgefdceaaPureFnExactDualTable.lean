/- Proved: the law FnExactDualTable answers true for every number and list of whole numbers; no condition. -/
import Derived.Test.YtiejeflgefdceaaQFnExactDualTablex3
import Derived.Test.YtiejeflgefdceaaBase
set_option linter.unusedVariables false
set_option linter.unusedSimpArgs false
namespace Go.Proofs.Ytiejeflgefdceaa.Pure
open Go.RowKit Go.Proofs.Ytiejeflgefdceaa.QFnExactDualTable Go.Proofs.YtiejeflgefdceaaW.PrintWords Go.Proofs.YtiejeflgefdceaaW.PrintLast Go.Proofs.YtiejeflgefdceaaW.PrintMore Go.Proofs.Ytiejeflgefdceaa.Base

theorem laws_toIntS_l : ∀ (k i : Nat) (l acc : List Int), l.length ≤ 4611686018427387904 → acc.length = l.length → i ≤ l.length → l.length < i + k → (∀ j, j < i → acc[j]? = l[j]?) → laws_toIntS.l0 k l acc (i : Int) = some l
  | 0, i, l, acc, _, _, _, hk, _ => by omega
  | k + 1, i, l, acc, hn, hl, hi, hk, hj => by
    simp only [laws_toIntS.l0]
    by_cases h : i < l.length
    · rw [if_pos (by omega), if_pos (by omega), if_pos (by omega), rd_nat l i h, w64_nat (by omega)]
      refine laws_toIntS_l k (i + 1) l _ hn (by simp [hl]) (by omega) (by omega) fun j hj' => ?_
      rw [List.getElem?_set]
      by_cases e : i = j
      · subst e
        simp [h, hl]
      · simp only [Int.toNat_natCast]
        rw [if_neg e]
        exact hj j (by omega)
    · rw [if_neg (by omega)]
      congr 1
      refine List.ext_getElem? fun j => ?_
      by_cases e : j < i
      · exact hj j e
      · rw [List.getElem?_eq_none (by omega), List.getElem?_eq_none (by omega)]
theorem laws_toIntS_is (k : Nat) (l : List Int) (hn : l.length ≤ 35184372088832) (hk : l.length < k) : laws_toIntS.f k l = some l := by
  unfold laws_toIntS.f
  rw [if_pos (by omega), if_pos (by omega)]
  exact laws_toIntS_l k 0 l _ (by omega) (by simp) (by omega) (by omega) fun j hj => by omega
theorem laws_eqIntS_l : ∀ (k i : Nat) (l r : List Int), l.length ≤ 4611686018427387904 → r.length = l.length → i ≤ l.length → l.length < i + k → laws_eqIntS.l0 k l r (i : Int) = some (decide (l.drop i = r.drop i))
  | 0, i, l, r, _, _, _, hk => by omega
  | k + 1, i, l, r, hn, hl, hi, hk => by
    simp only [laws_eqIntS.l0]
    by_cases h : i < l.length
    · rw [if_pos (by omega), if_pos (by omega), if_pos (by omega), rd_nat l i h, rd_nat r i (by omega), w64_nat (by omega), laws_eqIntS_l k (i + 1) l r hn hl (by omega) (by omega), List.drop_eq_getElem_cons h, List.drop_eq_getElem_cons (show i < r.length by omega)]
      by_cases e : l[i] = r[i]'(by omega)
      · rw [if_pos e, e]
        simp only [List.cons.injEq, true_and]
      · rw [if_neg e]
        simp only [List.cons.injEq, e, false_and, decide_false]
    · rw [if_neg (by omega), List.drop_of_length_le (by omega), List.drop_of_length_le (by omega)]
      simp
theorem laws_eqIntS_is (k : Nat) (l r : List Int) (hn : l.length ≤ 4611686018427387904) (hk : l.length < k) : laws_eqIntS.f k l r = some (decide (l = r)) := by
  unfold laws_eqIntS.f
  by_cases h : l.length = r.length
  · rw [if_pos (by omega)]
    have := laws_eqIntS_l k 0 l r hn (by omega) (by omega) (by omega)
    simpa using this
  · rw [if_neg (by omega)]
    have : l ≠ r := fun e => h (by rw [e])
    simp [this]
theorem laws_eqIntS_same (k : Nat) (l : List Int) (hn : l.length ≤ 4611686018427387904) (hk : l.length < k) : laws_eqIntS.f k l l = some true := by
  rw [laws_eqIntS_is k l l hn hk]
  simp
theorem spec_l1In_is (a lo hi : Int) : spec_l1In.f a lo hi = some (inB lo hi a) := by
  unfold spec_l1In.f
  exact within_is a lo hi
theorem spec_l2Table_l : ∀ (k i : Nat) (l : List Int), l.length ≤ 4611686018427387904 → i ≤ l.length → l.length < i + k → spec_l2Table.l0 k l (i : Int) = some ((l.drop i).all (inB 0 1))
  | 0, _, _, _, _, hk => by omega
  | k + 1, i, l, hn, hi', hk => by
    simp only [spec_l2Table.l0]
    by_cases h : i < l.length
    · rw [if_pos (by omega), if_pos (by omega), spec_l1In_is, rd_nat l i h, w64_nat (by omega), List.drop_eq_getElem_cons h, List.all_cons, spec_l2Table_l k (i + 1) l hn (by omega) (by omega)]
      simp only [Option.bind_some]
      by_cases e : inB 0 1 l[i] = true
      · rw [if_pos e, e]
        simp
      · rw [if_neg e]
        simp [e]
    · rw [if_neg (by omega), List.drop_of_length_le (by omega)]
      simp
theorem spec_l2Table_is (k : Nat) (n : Int) (l : List Int) (hn : l.length ≤ 4611686018427387904) (hk : l.length + 1 < k) : spec_l2Table.f k n l = some (tbB n l) := by
  obtain ⟨k, rfl⟩ : ∃ m, k = m + 1 := ⟨k - 1, by omega⟩
  unfold spec_l2Table.f tbB
  rw [spec_l1In_is]
  simp only [Option.bind_some]
  by_cases h : inB 0 4 n = true
  · have hr := inB_iff.1 h
    rw [if_pos h, if_pos hr.1, h, shl_pow n hr.1 hr.2]
    simp only [spec_l2Table.j0, Bool.true_and]
    by_cases e : (l.length : Int) = 2 ^ n.toNat
    · have := spec_l2Table_l k 0 l hn (by omega) (by omega)
      rw [show ((0 : Nat) : Int) = 0 from rfl] at this
      rw [if_neg (by simp [e]), this]
      simp [e]
    · rw [if_pos (by simpa using e)]
      simp [e]
  · rw [if_neg h]
    simp [spec_l2Table.j0, h]
theorem spec_DualTable_l (l : List Int) (hl : l.length ≤ 16) : ∀ (m k i : Nat) (acc : List Int), i + m = l.length → acc.length = i → m < k → ∃ r : List Int, r.length ≤ 16 ∧ spec_DualTable.l0 k l acc (i : Int) = some (r, true)
  | 0, k, i, acc, hi, ha, hk => by
    obtain ⟨k, rfl⟩ : ∃ q, k = q + 1 := ⟨k - 1, by omega⟩
    refine ⟨acc, by omega, ?_⟩
    rw [spec_DualTable.l0, if_neg (by omega)]
  | m + 1, k, i, acc, hi, ha, hk => by
    obtain ⟨k, rfl⟩ : ∃ q, k = q + 1 := ⟨k - 1, by omega⟩
    have e : wrap64 (wrap64 ((l.length : Int) - 1) - (i : Int)) = ((m : Nat) : Int) := by
      rw [w64 (x := (l.length : Int) - 1) (by omega) (by omega), w64 (by omega) (by omega)]
      omega
    obtain ⟨r, h1, h2⟩ := spec_DualTable_l l hl m k (i + 1) (acc ++ [wrap64 (1 - (rd l ((m : Nat) : Int)))]) (by omega) (by simp [ha]) (by omega)
    refine ⟨r, h1, ?_⟩
    rw [spec_DualTable.l0, if_pos (by omega), e, if_pos (by omega), if_pos (by omega), if_pos (by omega), w64_nat (by omega)]
    exact h2
theorem impl_within_is (a lo hi : Int) : impl_within.f a lo hi = some (inB lo hi a) := by
  unfold impl_within.f
  exact within_is a lo hi
theorem impl_allWithin_l : ∀ (k i : Nat) (l : List Int) (lo hi : Int), l.length ≤ 4611686018427387904 → i ≤ l.length → l.length < i + k → impl_allWithin.l0 k lo hi l (l.length : Int) (i : Int) = some ((l.drop i).all (inB lo hi))
  | 0, _, _, _, _, _, _, hk => by omega
  | k + 1, i, l, lo, hi, hn, hi', hk => by
    simp only [impl_allWithin.l0]
    by_cases h : i < l.length
    · rw [if_pos (by omega), if_pos (by omega), if_pos (by omega), impl_within_is, rd_nat l i h, w64_nat (by omega), List.drop_eq_getElem_cons h, List.all_cons, impl_allWithin_l k (i + 1) l lo hi hn (by omega) (by omega)]
      simp only [Option.bind_some]
      by_cases e : inB lo hi l[i] = true
      · rw [if_pos e, e]
        simp
      · rw [if_neg e]
        simp [e]
    · rw [if_neg (by omega), List.drop_of_length_le (by omega)]
      simp
theorem impl_allWithin_is (k : Nat) (l : List Int) (lo hi : Int) (hn : l.length ≤ 4611686018427387904) (hk : l.length < k) : impl_allWithin.f k l lo hi = some (l.all (inB lo hi)) := by
  unfold impl_allWithin.f
  have := impl_allWithin_l k 0 l lo hi hn (by omega) (by omega)
  simpa using this
theorem impl_isTable_is (k : Nat) (n : Int) (l : List Int) (hn : l.length ≤ 4611686018427387904) (hk : l.length < k) : impl_isTable.f k n l = some (tbB n l) := by
  unfold impl_isTable.f tbB
  rw [impl_within_is, impl_allWithin_is k l 0 1 hn hk]
  simp only [Option.bind_some]
  by_cases h : inB 0 4 n = true
  · have hr := inB_iff.1 h
    rw [if_pos h, if_pos hr.1, h, shl_pow n hr.1 hr.2]
    by_cases e : (l.length : Int) = 2 ^ n.toNat
    · rw [if_pos e]
      simp [e]
    · rw [if_neg e]
      simp [e]
  · rw [if_neg h]
    simp [h]
theorem impl_DualTable_same (l : List Int) : ∀ (k : Nat) (acc : List Int) (i : Int), ((impl_looked.l0 (impl_DualTable.g l) k acc (l.length : Int) i).bind fun r => some (r, true)) = spec_DualTable.l0 k l acc i
  | 0, _, _ => rfl
  | k + 1, acc, i => by
    rw [impl_looked.l0, spec_DualTable.l0]
    by_cases c1 : i < (l.length : Int)
    · rw [if_pos c1, if_pos c1, impl_DualTable.g]
      by_cases c2 : 0 ≤ wrap64 (wrap64 ((l.length : Int) - 1) - i)
      · rw [if_pos c2, if_pos c2]
        by_cases c3 : wrap64 (wrap64 ((l.length : Int) - 1) - i) < (l.length : Int)
        · rw [if_pos c3, if_pos c3, Option.bind_some]
          by_cases c4 : acc.length < 17592186044416
          · rw [if_pos c4, if_pos c4]
            exact impl_DualTable_same l k _ _
          · rw [if_neg c4, if_neg c4]
            rfl
        · rw [if_neg c3, if_neg c3]
          rfl
      · rw [if_neg c2, if_neg c2]
        rfl
    · rw [if_neg c1, if_neg c1]
      rfl
theorem DualTable_both (k : Nat) (n : Int) (tab : List Int) (h1 : tab.length ≤ 1048576) (hk : 1048600 < k) : ∃ r : List Int × Bool, r.1.length ≤ 16 ∧ spec_DualTable.f k n tab = some r ∧ impl_DualTable.f k n tab = some r := by
  unfold spec_DualTable.f impl_DualTable.f
  rw [Option.bind_some, spec_l2Table_is k n tab (by omega) (by omega), impl_isTable_is k n tab (by omega) (by omega)]
  simp only [Option.bind_some]
  by_cases c : tbB n tab = true
  · obtain ⟨n0, n4, hlen, h16, _⟩ := tbB_parts c
    obtain ⟨r, hr, e⟩ := spec_DualTable_l tab h16 tab.length k 0 [] (by omega) rfl (by omega)
    rw [if_pos c, if_pos c]
    refine ⟨(r, true), hr, e, ?_⟩
    unfold impl_looked.f
    rw [impl_DualTable_same]
    exact e
  · rw [if_neg c, if_neg c]
    exact ⟨([], false), by simp, rfl, rfl⟩
def dualR (n : Int) (tab : List Int) : List Int × Bool := (spec_DualTable.f 1048601 n tab).getD ([], false)
theorem dualR_length (n : Int) (tab : List Int) (h1 : tab.length ≤ 1048576) : (dualR n tab).1.length ≤ 16 := by
  obtain ⟨r, hr, hs, _⟩ := DualTable_both 1048601 n tab h1 (by omega)
  unfold dualR
  rw [hs]
  exact hr
theorem spec_DualTable_is (k : Nat) (n : Int) (tab : List Int) (h1 : tab.length ≤ 1048576) (hk : 1048600 < k) : spec_DualTable.f k n tab = some (dualR n tab) := by
  obtain ⟨r, hr, hs, _⟩ := DualTable_both 1048601 n tab h1 (by omega)
  have e : dualR n tab = r := by
    unfold dualR
    rw [hs]
    rfl
  rw [e]
  exact at_rounds (g := fun k => spec_DualTable.f k n tab) (fun k => spec_DualTable.mono _ _ k) (show 1048601 ≤ k by omega) hs
theorem impl_DualTable_is (k : Nat) (n : Int) (tab : List Int) (h1 : tab.length ≤ 1048576) (hk : 1048600 < k) : impl_DualTable.f k n tab = some (dualR n tab) := by
  obtain ⟨r, _, hs, hi⟩ := DualTable_both k n tab h1 hk
  rw [spec_DualTable_is k n tab h1 hk] at hs
  rw [hi, ← hs]
theorem laws_markIntS_l : ∀ (k : Nat) (post pre : List Int) (a : Int), -4611686018427387904 ≤ a → a + post.length ≤ 4611686018427387904 → pre.length + post.length ≤ 4611686018427387904 → post.length < k → laws_markIntS.l0 k (pre ++ post) a (pre.length : Int) = some (a + post.length, pre ++ marks a post.length)
  | 0, _, _, _, _, _, _, hk => by omega
  | k + 1, [], pre, a, _, _, _, _ => by
    simp only [laws_markIntS.l0]
    rw [if_neg (by simp)]
    simp [marks]
  | k + 1, x :: post, pre, a, h1, h2, h3, hk => by
    simp only [laws_markIntS.l0]
    simp only [List.length_cons] at h2 h3 hk
    rw [if_pos (by simp; omega), if_pos (by omega), w64_nat (by omega), w64 (by omega) (by omega)]
    rw [set_mid pre post x a _ (by simp)]
    have := laws_markIntS_l k post (pre ++ [a]) (a + 1) (by omega) (by omega) (by simp; omega) (by omega)
    simp only [List.append_assoc, List.singleton_append, List.length_append, List.length_cons, List.length_nil, Nat.zero_add] at this
    rw [this]
    simp only [List.length_cons, marks]
    congr 2
    omega
theorem laws_markIntS_is (k : Nat) (l : List Int) (a : Int) (h1 : -4611686018427387904 ≤ a) (h2 : a + l.length ≤ 4611686018427387904) (h3 : l.length ≤ 4611686018427387904) (hk : l.length < k) : laws_markIntS.f k l a = some (a + l.length, marks a l.length) := by
  unfold laws_markIntS.f
  exact laws_markIntS_l k l [] a h1 h2 (by simpa using h3) hk
theorem laws_heldIntS_l : ∀ (k n i : Nat) (a b : Int), -4611686018427387904 ≤ a → a + n ≤ 4611686018427387904 → n ≤ 4611686018427387904 → i ≤ n → n < i + k → b = a + i → laws_heldIntS.l0 k (marks a n) b (i : Int) = some (a + n)
  | 0, _, _, _, _, _, _, _, _, hk, _ => by omega
  | k + 1, n, i, a, b, h1, h2, h3, hi, hk, hb => by
    simp only [laws_heldIntS.l0, marks_length]
    by_cases h : i < n
    · rw [if_pos (by omega), if_pos (by omega), rd_nat _ i (by rw [marks_length]; exact h), marks_get, if_pos hb.symm, w64_nat (by omega), w64 (by omega) (by omega)]
      exact laws_heldIntS_l k n (i + 1) a _ h1 h2 h3 (by omega) (by omega) (by omega)
    · rw [if_neg (by omega)]
      congr 1
      omega
theorem laws_heldIntS_is (k n : Nat) (a : Int) (h1 : -4611686018427387904 ≤ a) (h2 : a + n ≤ 4611686018427387904) (h3 : n ≤ 4611686018427387904) (hk : n < k) : laws_heldIntS.f k (marks a n) a = some (a + n) := by
  unfold laws_heldIntS.f
  exact laws_heldIntS_l k n 0 a a h1 h2 h3 (by omega) (by omega) (by omega)
theorem FnExactDualTable : ∀ (a0 : Int) (l1 : List Int), (Lit.int .i64 a0).wf = true → l1.length ≤ maxLen → (∀ x ∈ l1, (Lit.int .i64 x).wf = true) → ∃ k, laws_FnExactDualTable.f k a0 l1 = some true := by
  intro n tab _ _ _
  obtain ⟨K, hK⟩ : ∃ K, 3000000 ≤ K := ⟨_, Nat.le_refl _⟩
  refine ⟨K + 1 + 1 + 1, ?_⟩
  unfold laws_FnExactDualTable.f
  by_cases h : (tab.length : Int) > 1048576
  · rw [if_pos h]
  · rw [if_neg h]
    have hl := dualR_length n tab (by omega)
    simp (disch := omega) only [laws_toIntS_is, laws_eqIntS_is, laws_eqIntS_same, spec_l1In_is, spec_l2Table_is, impl_within_is, impl_allWithin_is, impl_isTable_is, impl_DualTable_same, spec_DualTable_is, impl_DualTable_is, laws_markIntS_is, laws_heldIntS_is, Option.bind_some, bne_self, ltF, gtF, reduceIte, Bool.false_eq_true, if_true, decide_true, Bool.not_true] <;> simp only [laws_FnExactDualTable.j0] <;> simp (disch := omega) only [laws_toIntS_is, laws_eqIntS_is, laws_eqIntS_same, spec_l1In_is, spec_l2Table_is, impl_within_is, impl_allWithin_is, impl_isTable_is, impl_DualTable_same, spec_DualTable_is, impl_DualTable_is, laws_markIntS_is, laws_heldIntS_is, Option.bind_some, bne_self, ltF, gtF, reduceIte, Bool.false_eq_true, if_true, decide_true, Bool.not_true] <;> simp only [laws_FnExactDualTable.j1] <;> simp (disch := omega) only [laws_toIntS_is, laws_eqIntS_is, laws_eqIntS_same, spec_l1In_is, spec_l2Table_is, impl_within_is, impl_allWithin_is, impl_isTable_is, impl_DualTable_same, spec_DualTable_is, impl_DualTable_is, laws_markIntS_is, laws_heldIntS_is, Option.bind_some, bne_self, ltF, gtF, reduceIte, Bool.false_eq_true, if_true, decide_true, Bool.not_true] <;> simp only [laws_FnExactDualTable.j2] <;> simp (disch := omega) only [laws_toIntS_is, laws_eqIntS_is, laws_eqIntS_same, spec_l1In_is, spec_l2Table_is, impl_within_is, impl_allWithin_is, impl_isTable_is, impl_DualTable_same, spec_DualTable_is, impl_DualTable_is, laws_markIntS_is, laws_heldIntS_is, Option.bind_some, bne_self, ltF, gtF, reduceIte, Bool.false_eq_true, if_true, decide_true, Bool.not_true]

end Go.Proofs.Ytiejeflgefdceaa.Pure
