/- Proved: the law FnExactRestrictBit answers true for every table, bit and value; no condition. -/
import Derived.Test.YtiejeflgefdceaaQFnExactRestrictBitx3
import Derived.Test.YtiejeflgefdceaaBase
set_option linter.unusedVariables false
set_option linter.unusedSimpArgs false
namespace Go.Proofs.Ytiejeflgefdceaa.Pure
open Go.RowKit Go.Proofs.Ytiejeflgefdceaa.QFnExactRestrictBit Go.Proofs.YtiejeflgefdceaaW.PrintWords Go.Proofs.YtiejeflgefdceaaW.PrintLast Go.Proofs.YtiejeflgefdceaaW.PrintMore Go.Proofs.Ytiejeflgefdceaa.Base

theorem laws_toIntS_l : ∀ (k i : Nat) (l acc : List Int), l.length ≤ 4611686018427387904 → acc.length = l.length → i ≤ l.length → l.length < i + k → (∀ j, j < i → acc[j]? = l[j]?) → laws_toIntS.l0 k l acc (i : Int) = some l
  | 0, i, l, acc, _, _, _, hk, _ => by omega
  | k + 1, i, l, acc, hn, hl, hi, hk, hj => by
    simp only [laws_toIntS.l0]
    by_cases h : i < l.length
    · rw [if_pos (by omega), if_pos (by omega), if_pos (by omega), rd_nat l i h, w64_nat (by omega)]
      refine laws_toIntS_l k (i + 1) l _ hn (by simp [hl]) (by omega) (by omega) fun j hj' => ?_
      rw [List.getElem?_set]
      by_cases e : i = j
      · subst e
        simp [h, hl]
      · simp only [Int.toNat_natCast]
        rw [if_neg e]
        exact hj j (by omega)
    · rw [if_neg (by omega)]
      congr 1
      refine List.ext_getElem? fun j => ?_
      by_cases e : j < i
      · exact hj j e
      · rw [List.getElem?_eq_none (by omega), List.getElem?_eq_none (by omega)]
theorem laws_toIntS_is (k : Nat) (l : List Int) (hn : l.length ≤ 35184372088832) (hk : l.length < k) : laws_toIntS.f k l = some l := by
  unfold laws_toIntS.f
  rw [if_pos (by omega), if_pos (by omega)]
  exact laws_toIntS_l k 0 l _ (by omega) (by simp) (by omega) (by omega) fun j hj => by omega
theorem laws_eqIntS_l : ∀ (k i : Nat) (l r : List Int), l.length ≤ 4611686018427387904 → r.length = l.length → i ≤ l.length → l.length < i + k → laws_eqIntS.l0 k l r (i : Int) = some (decide (l.drop i = r.drop i))
  | 0, i, l, r, _, _, _, hk => by omega
  | k + 1, i, l, r, hn, hl, hi, hk => by
    simp only [laws_eqIntS.l0]
    by_cases h : i < l.length
    · rw [if_pos (by omega), if_pos (by omega), if_pos (by omega), rd_nat l i h, rd_nat r i (by omega), w64_nat (by omega), laws_eqIntS_l k (i + 1) l r hn hl (by omega) (by omega), List.drop_eq_getElem_cons h, List.drop_eq_getElem_cons (show i < r.length by omega)]
      by_cases e : l[i] = r[i]'(by omega)
      · rw [if_pos e, e]
        simp only [List.cons.injEq, true_and]
      · rw [if_neg e]
        simp only [List.cons.injEq, e, false_and, decide_false]
    · rw [if_neg (by omega), List.drop_of_length_le (by omega), List.drop_of_length_le (by omega)]
      simp
theorem laws_eqIntS_is (k : Nat) (l r : List Int) (hn : l.length ≤ 4611686018427387904) (hk : l.length < k) : laws_eqIntS.f k l r = some (decide (l = r)) := by
  unfold laws_eqIntS.f
  by_cases h : l.length = r.length
  · rw [if_pos (by omega)]
    have := laws_eqIntS_l k 0 l r hn (by omega) (by omega) (by omega)
    simpa using this
  · rw [if_neg (by omega)]
    have : l ≠ r := fun e => h (by rw [e])
    simp [this]
theorem laws_eqIntS_same (k : Nat) (l : List Int) (hn : l.length ≤ 4611686018427387904) (hk : l.length < k) : laws_eqIntS.f k l l = some true := by
  rw [laws_eqIntS_is k l l hn hk]
  simp
theorem laws_markIntS_l : ∀ (k : Nat) (post pre : List Int) (a : Int), -4611686018427387904 ≤ a → a + post.length ≤ 4611686018427387904 → pre.length + post.length ≤ 4611686018427387904 → post.length < k → laws_markIntS.l0 k (pre ++ post) a (pre.length : Int) = some (a + post.length, pre ++ marks a post.length)
  | 0, _, _, _, _, _, _, hk => by omega
  | k + 1, [], pre, a, _, _, _, _ => by
    simp only [laws_markIntS.l0]
    rw [if_neg (by simp)]
    simp [marks]
  | k + 1, x :: post, pre, a, h1, h2, h3, hk => by
    simp only [laws_markIntS.l0]
    simp only [List.length_cons] at h2 h3 hk
    rw [if_pos (by simp; omega), if_pos (by omega), w64_nat (by omega), w64 (by omega) (by omega)]
    rw [set_mid pre post x a _ (by simp)]
    have := laws_markIntS_l k post (pre ++ [a]) (a + 1) (by omega) (by omega) (by simp; omega) (by omega)
    simp only [List.append_assoc, List.singleton_append, List.length_append, List.length_cons, List.length_nil, Nat.zero_add] at this
    rw [this]
    simp only [List.length_cons, marks]
    congr 2
    omega
theorem laws_markIntS_is (k : Nat) (l : List Int) (a : Int) (h1 : -4611686018427387904 ≤ a) (h2 : a + l.length ≤ 4611686018427387904) (h3 : l.length ≤ 4611686018427387904) (hk : l.length < k) : laws_markIntS.f k l a = some (a + l.length, marks a l.length) := by
  unfold laws_markIntS.f
  exact laws_markIntS_l k l [] a h1 h2 (by simpa using h3) hk
theorem laws_heldIntS_l : ∀ (k n i : Nat) (a b : Int), -4611686018427387904 ≤ a → a + n ≤ 4611686018427387904 → n ≤ 4611686018427387904 → i ≤ n → n < i + k → b = a + i → laws_heldIntS.l0 k (marks a n) b (i : Int) = some (a + n)
  | 0, _, _, _, _, _, _, _, _, hk, _ => by omega
  | k + 1, n, i, a, b, h1, h2, h3, hi, hk, hb => by
    simp only [laws_heldIntS.l0, marks_length]
    by_cases h : i < n
    · rw [if_pos (by omega), if_pos (by omega), rd_nat _ i (by rw [marks_length]; exact h), marks_get, if_pos hb.symm, w64_nat (by omega), w64 (by omega) (by omega)]
      exact laws_heldIntS_l k n (i + 1) a _ h1 h2 h3 (by omega) (by omega) (by omega)
    · rw [if_neg (by omega)]
      congr 1
      omega
theorem laws_heldIntS_is (k n : Nat) (a : Int) (h1 : -4611686018427387904 ≤ a) (h2 : a + n ≤ 4611686018427387904) (h3 : n ≤ 4611686018427387904) (hk : n < k) : laws_heldIntS.f k (marks a n) a = some (a + n) := by
  unfold laws_heldIntS.f
  exact laws_heldIntS_l k n 0 a a h1 h2 h3 (by omega) (by omega) (by omega)
theorem spec_l1In_is (a lo hi : Int) : spec_l1In.f a lo hi = some (inB lo hi a) := by
  unfold spec_l1In.f
  exact within_is a lo hi
theorem spec_l2Table_l : ∀ (k i : Nat) (l : List Int), l.length ≤ 4611686018427387904 → i ≤ l.length → l.length < i + k → spec_l2Table.l0 k l (i : Int) = some ((l.drop i).all (inB 0 1))
  | 0, _, _, _, _, hk => by omega
  | k + 1, i, l, hn, hi', hk => by
    simp only [spec_l2Table.l0]
    by_cases h : i < l.length
    · rw [if_pos (by omega), if_pos (by omega), spec_l1In_is, rd_nat l i h, w64_nat (by omega), List.drop_eq_getElem_cons h, List.all_cons, spec_l2Table_l k (i + 1) l hn (by omega) (by omega)]
      simp only [Option.bind_some]
      by_cases e : inB 0 1 l[i] = true
      · rw [if_pos e, e]
        simp
      · rw [if_neg e]
        simp [e]
    · rw [if_neg (by omega), List.drop_of_length_le (by omega)]
      simp
theorem spec_l2Table_is (k : Nat) (n : Int) (l : List Int) (hn : l.length ≤ 4611686018427387904) (hk : l.length + 1 < k) : spec_l2Table.f k n l = some (tbB n l) := by
  obtain ⟨k, rfl⟩ : ∃ m, k = m + 1 := ⟨k - 1, by omega⟩
  unfold spec_l2Table.f tbB
  rw [spec_l1In_is]
  simp only [Option.bind_some]
  by_cases h : inB 0 4 n = true
  · have hr := inB_iff.1 h
    rw [if_pos h, if_pos hr.1, h, shl_pow n hr.1 hr.2]
    simp only [spec_l2Table.j0, Bool.true_and]
    by_cases e : (l.length : Int) = 2 ^ n.toNat
    · have := spec_l2Table_l k 0 l hn (by omega) (by omega)
      rw [show ((0 : Nat) : Int) = 0 from rfl] at this
      rw [if_neg (by simp [e]), this]
      simp [e]
    · rw [if_pos (by simpa using e)]
      simp [e]
  · rw [if_neg h]
    simp [spec_l2Table.j0, h]
/-- the places whose bit is the value -/
def resS (bit v : Int) : Nat → Nat → List Int
  | 0, _ => []
  | m + 1, i => if Go.bits .and .i64 (shr .i64 (i : Int) bit) 1 = v then (i : Int) :: resS bit v m (i + 1) else resS bit v m (i + 1)
theorem resS_length (bit v : Int) : ∀ (m i : Nat), (resS bit v m i).length ≤ m
  | 0, _ => by simp [resS]
  | m + 1, i => by
    have := resS_length bit v m (i + 1)
    rw [resS]
    split
    · simp; omega
    · omega
theorem spec_RestrictBit_l (l : List Int) (hl : l.length ≤ 16) (bit v : Int) (hb : 0 ≤ bit) : ∀ (m k i : Nat) (acc : List Int), i + m = l.length → acc.length ≤ i → m < k → spec_RestrictBit.l0 k l bit v acc (i : Int) = some (acc ++ (resS bit v m i).map (rd l), true)
  | 0, k, i, acc, hi, ha, hk => by
    obtain ⟨k, rfl⟩ : ∃ q, k = q + 1 := ⟨k - 1, by omega⟩
    rw [spec_RestrictBit.l0, if_neg (by omega)]
    simp [resS]
  | m + 1, k, i, acc, hi, ha, hk => by
    obtain ⟨k, rfl⟩ : ∃ q, k = q + 1 := ⟨k - 1, by omega⟩
    rw [spec_RestrictBit.l0, if_pos (by omega), if_pos hb, resS, w64_nat (by omega)]
    by_cases c : Go.bits .and .i64 (shr .i64 (i : Int) bit) 1 = v
    · rw [if_pos c, if_pos c, if_pos (by omega), if_pos (by omega), spec_RestrictBit_l l hl bit v hb m k (i + 1) _ (by omega) (by simp; omega) (by omega)]
      simp
    · rw [if_neg c, if_neg c, spec_RestrictBit_l l hl bit v hb m k (i + 1) _ (by omega) (by omega) (by omega)]
theorem impl_within_is (a lo hi : Int) : impl_within.f a lo hi = some (inB lo hi a) := by
  unfold impl_within.f
  exact within_is a lo hi
theorem impl_allWithin_l : ∀ (k i : Nat) (l : List Int) (lo hi : Int), l.length ≤ 4611686018427387904 → i ≤ l.length → l.length < i + k → impl_allWithin.l0 k lo hi l (l.length : Int) (i : Int) = some ((l.drop i).all (inB lo hi))
  | 0, _, _, _, _, _, _, hk => by omega
  | k + 1, i, l, lo, hi, hn, hi', hk => by
    simp only [impl_allWithin.l0]
    by_cases h : i < l.length
    · rw [if_pos (by omega), if_pos (by omega), if_pos (by omega), impl_within_is, rd_nat l i h, w64_nat (by omega), List.drop_eq_getElem_cons h, List.all_cons, impl_allWithin_l k (i + 1) l lo hi hn (by omega) (by omega)]
      simp only [Option.bind_some]
      by_cases e : inB lo hi l[i] = true
      · rw [if_pos e, e]
        simp
      · rw [if_neg e]
        simp [e]
    · rw [if_neg (by omega), List.drop_of_length_le (by omega)]
      simp
theorem impl_allWithin_is (k : Nat) (l : List Int) (lo hi : Int) (hn : l.length ≤ 4611686018427387904) (hk : l.length < k) : impl_allWithin.f k l lo hi = some (l.all (inB lo hi)) := by
  unfold impl_allWithin.f
  have := impl_allWithin_l k 0 l lo hi hn (by omega) (by omega)
  simpa using this
theorem impl_isTable_is (k : Nat) (n : Int) (l : List Int) (hn : l.length ≤ 4611686018427387904) (hk : l.length < k) : impl_isTable.f k n l = some (tbB n l) := by
  unfold impl_isTable.f tbB
  rw [impl_within_is, impl_allWithin_is k l 0 1 hn hk]
  simp only [Option.bind_some]
  by_cases h : inB 0 4 n = true
  · have hr := inB_iff.1 h
    rw [if_pos h, if_pos hr.1, h, shl_pow n hr.1 hr.2]
    by_cases e : (l.length : Int) = 2 ^ n.toNat
    · rw [if_pos e]
      simp [e]
    · rw [if_neg e]
      simp [e]
  · rw [if_neg h]
    simp [h]
/-- the place that a place of the restricted table has in the table -/
def resJ (bit v x0 : Int) : Int := Go.bits .or .i64 (Go.bits .or .i64 (Go.bits .and .i64 x0 (wrap64 (shl .i64 1 bit - 1))) (shl .i64 v bit)) (wrap64 (wrap64 (x0 - Go.bits .and .i64 x0 (wrap64 (shl .i64 1 bit - 1))) * 2))
def resI (bit v : Int) : Nat → Nat → List Int
  | 0, _ => []
  | m + 1, i => resJ bit v i :: resI bit v m (i + 1)
theorem resI_same : ∀ (n : Fin 5) (bit : Fin 4) (v : Fin 2), bit.val < n.val → resS (bit.val : Int) (v.val : Int) (2 ^ n.val) 0 = resI (bit.val : Int) (v.val : Int) (2 ^ n.val / 2) 0 ∧ (resI (bit.val : Int) (v.val : Int) (2 ^ n.val / 2) 0).all (fun j => decide (0 ≤ j ∧ j < 2 ^ n.val)) = true := by
  decide +kernel
theorem impl_RestrictBit_l (l : List Int) (bit v : Int) (hb : 0 ≤ bit) (M : Int) (hM : M ≤ 16) : ∀ (m k i : Nat) (acc : List Int), (i : Int) + m = M → acc.length = i → m < k → (resI bit v m i).all (fun j => decide (0 ≤ j ∧ j < (l.length : Int))) = true → impl_looked.l0 (impl_RestrictBit.g l bit v) k acc M (i : Int) = some (acc ++ (resI bit v m i).map (rd l))
  | 0, k, i, acc, hi, ha, hk, _ => by
    obtain ⟨k, rfl⟩ : ∃ q, k = q + 1 := ⟨k - 1, by omega⟩
    rw [impl_looked.l0, if_neg (by omega)]
    simp [resI]
  | m + 1, k, i, acc, hi, ha, hk, hall => by
    obtain ⟨k, rfl⟩ : ∃ q, k = q + 1 := ⟨k - 1, by omega⟩
    simp only [resI, List.all_cons, Bool.and_eq_true, decide_eq_true_eq] at hall
    have g : impl_RestrictBit.g l bit v (i : Int) = some (rd l (resJ bit v i)) := by
      unfold impl_RestrictBit.g
      rw [if_pos hb]
      show (if 0 ≤ resJ bit v i then (if resJ bit v i < (l.length : Int) then some (rd l (resJ bit v i)) else none) else none) = _
      rw [if_pos hall.1.1, if_pos hall.1.2]
    rw [impl_looked.l0, if_pos (by omega), g, Option.bind_some, if_pos (by omega), w64_nat (by omega), impl_RestrictBit_l l bit v hb M hM m k (i + 1) _ (by omega) (by simp [ha]) (by omega) hall.2]
    simp [resI]
theorem RestrictBit_both (k : Nat) (n : Int) (tab : List Int) (bit v : Int) (h1 : tab.length ≤ 1048576) (hk : 1048600 < k) : ∃ r : List Int × Bool, r.1.length ≤ 16 ∧ spec_RestrictBit.f k n tab bit v = some r ∧ impl_RestrictBit.f k n tab bit v = some r := by
  obtain ⟨k, rfl⟩ : ∃ q, k = q + 1 := ⟨k - 1, by omega⟩
  have e0 : spec_RestrictBit.j0 (k + 1) tab bit v [] true = some ([], false) := by simp [spec_RestrictBit.j0]
  unfold spec_RestrictBit.f impl_RestrictBit.f
  rw [Option.bind_some, spec_l2Table_is (k + 1) n tab (by omega) (by omega), impl_isTable_is (k + 1) n tab (by omega) (by omega), spec_l1In_is, spec_l1In_is, impl_within_is, impl_within_is]
  simp only [Option.bind_some]
  by_cases c : tbB n tab = true
  · rw [if_pos c, if_pos c]
    obtain ⟨n0, n4, hlen, h16, _⟩ := tbB_parts c
    by_cases d : inB 0 (wrap64 (n - 1)) bit = true
    · rw [if_pos d, if_pos d]
      by_cases f : inB 0 1 v = true
      · rw [if_pos f, f]
        have b := inB_iff.1 d
        rw [w64 (by omega) (by omega)] at b
        have b2 := inB_iff.1 f
        obtain ⟨N, rfl⟩ := Int.eq_ofNat_of_zero_le n0
        obtain ⟨B, rfl⟩ := Int.eq_ofNat_of_zero_le b.1
        obtain ⟨V, rfl⟩ := Int.eq_ofNat_of_zero_le b2.1
        obtain ⟨s1, s2⟩ := resI_same ⟨N, by omega⟩ ⟨B, by omega⟩ ⟨V, by omega⟩ (show B < N by omega)
        simp only at s1 s2
        simp only [Int.toNat_natCast] at hlen
        have hl2 : tab.length = 2 ^ N := by
          have : ((2 ^ N : Nat) : Int) = (2 : Int) ^ N := by simp
          omega
        have es := spec_RestrictBit_l tab h16 (B : Int) (V : Int) (by omega) tab.length k 0 [] (by omega) (by simp) (by omega)
        have w : wrap64 ((tab.length : Int) / 2) = ((2 ^ N / 2 : Nat) : Int) := by
          rw [w64 (by omega) (by omega)]
          omega
        have ei := impl_RestrictBit_l tab (B : Int) (V : Int) (by omega) ((2 ^ N / 2 : Nat) : Int) (by omega) (2 ^ N / 2) (k + 1) 0 [] (by omega) rfl (by omega) (by rw [hlen]; exact s2)
        rw [hl2, s1] at es
        refine ⟨((resI (B : Int) (V : Int) (2 ^ N / 2) 0).map (rd tab), true), ?_, ?_, ?_⟩
        · have := resS_length (B : Int) (V : Int) (2 ^ N) 0
          rw [s1] at this
          simp only [List.length_map]
          omega
        · rw [spec_RestrictBit.j0, if_neg (by simp)]
          simpa using es
        · unfold impl_looked.f
          rw [w]
          have ei2 : impl_looked.l0 (impl_RestrictBit.g tab (B : Int) (V : Int)) (k + 1) [] ((2 ^ N / 2 : Nat) : Int) 0 = some ((resI (B : Int) (V : Int) (2 ^ N / 2) 0).map (rd tab)) := by simpa using ei
          rw [ei2]
          rfl
      · rw [if_neg f, Bool.eq_false_iff.2 f, Bool.not_false, e0]
        exact ⟨([], false), by simp, rfl, rfl⟩
    · rw [if_neg d, if_neg d, e0]
      exact ⟨([], false), by simp, rfl, rfl⟩
  · rw [if_neg c, if_neg c, e0]
    exact ⟨([], false), by simp, rfl, rfl⟩
def resR (n : Int) (tab : List Int) (bit v : Int) : List Int × Bool := (spec_RestrictBit.f 1048601 n tab bit v).getD ([], false)
theorem resR_length (n : Int) (tab : List Int) (bit v : Int) (h1 : tab.length ≤ 1048576) : (resR n tab bit v).1.length ≤ 16 := by
  obtain ⟨r, hr, hs, _⟩ := RestrictBit_both 1048601 n tab bit v h1 (by omega)
  unfold resR
  rw [hs]
  exact hr
theorem spec_RestrictBit_is (k : Nat) (n : Int) (tab : List Int) (bit v : Int) (h1 : tab.length ≤ 1048576) (hk : 1048600 < k) : spec_RestrictBit.f k n tab bit v = some (resR n tab bit v) := by
  obtain ⟨r, hr, hs, _⟩ := RestrictBit_both 1048601 n tab bit v h1 (by omega)
  have e : resR n tab bit v = r := by
    unfold resR
    rw [hs]
    rfl
  rw [e]
  exact at_rounds (g := fun k => spec_RestrictBit.f k n tab bit v) (fun k => spec_RestrictBit.mono _ _ _ _ k) (show 1048601 ≤ k by omega) hs
theorem impl_RestrictBit_is (k : Nat) (n : Int) (tab : List Int) (bit v : Int) (h1 : tab.length ≤ 1048576) (hk : 1048600 < k) : impl_RestrictBit.f k n tab bit v = some (resR n tab bit v) := by
  obtain ⟨r, _, hs, hi⟩ := RestrictBit_both k n tab bit v h1 hk
  rw [spec_RestrictBit_is k n tab bit v h1 hk] at hs
  rw [hi, ← hs]
theorem FnExactRestrictBit : ∀ (a0 : Int) (l1 : List Int) (a2 : Int) (a3 : Int), (Lit.int .i64 a0).wf = true → l1.length ≤ maxLen → (∀ x ∈ l1, (Lit.int .i64 x).wf = true) → (Lit.int .i64 a2).wf = true → (Lit.int .i64 a3).wf = true → ∃ k, laws_FnExactRestrictBit.f k a0 l1 a2 a3 = some true := by
  intro n tab bit v _ _ _ _ _
  obtain ⟨K, hK⟩ : ∃ K, 3000000 ≤ K := ⟨_, Nat.le_refl _⟩
  refine ⟨K + 1 + 1 + 1, ?_⟩
  unfold laws_FnExactRestrictBit.f
  by_cases h : (tab.length : Int) > 1048576
  · rw [if_pos h]
  · rw [if_neg h]
    have hl := resR_length n tab bit v (by omega)
    simp (disch := omega) only [laws_toIntS_is, laws_eqIntS_is, laws_eqIntS_same, laws_markIntS_is, laws_heldIntS_is, spec_l1In_is, spec_l2Table_is, impl_within_is, impl_allWithin_is, impl_isTable_is, resI_same, spec_RestrictBit_is, impl_RestrictBit_is, Option.bind_some, bne_self, ltF, gtF, reduceIte, Bool.false_eq_true, if_true, decide_true, Bool.not_true] <;> simp only [laws_FnExactRestrictBit.j0] <;> simp (disch := omega) only [laws_toIntS_is, laws_eqIntS_is, laws_eqIntS_same, laws_markIntS_is, laws_heldIntS_is, spec_l1In_is, spec_l2Table_is, impl_within_is, impl_allWithin_is, impl_isTable_is, resI_same, spec_RestrictBit_is, impl_RestrictBit_is, Option.bind_some, bne_self, ltF, gtF, reduceIte, Bool.false_eq_true, if_true, decide_true, Bool.not_true] <;> simp only [laws_FnExactRestrictBit.j1] <;> simp (disch := omega) only [laws_toIntS_is, laws_eqIntS_is, laws_eqIntS_same, laws_markIntS_is, laws_heldIntS_is, spec_l1In_is, spec_l2Table_is, impl_within_is, impl_allWithin_is, impl_isTable_is, resI_same, spec_RestrictBit_is, impl_RestrictBit_is, Option.bind_some, bne_self, ltF, gtF, reduceIte, Bool.false_eq_true, if_true, decide_true, Bool.not_true] <;> simp only [laws_FnExactRestrictBit.j2] <;> simp (disch := omega) only [laws_toIntS_is, laws_eqIntS_is, laws_eqIntS_same, laws_markIntS_is, laws_heldIntS_is, spec_l1In_is, spec_l2Table_is, impl_within_is, impl_allWithin_is, impl_isTable_is, resI_same, spec_RestrictBit_is, impl_RestrictBit_is, Option.bind_some, bne_self, ltF, gtF, reduceIte, Bool.false_eq_true, if_true, decide_true, Bool.not_true]

end Go.Proofs.Ytiejeflgefdceaa.Pure
