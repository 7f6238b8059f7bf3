/- Proved: the law FnExactIsTrade answers true for every number and two lists of whole numbers; no condition. -/
import Derived.Test.YtiejeflgefdceaaQFnExactIsTradex5
import Derived.Test.YtiejeflgefdceaaBase
set_option linter.unusedVariables false
set_option linter.unusedSimpArgs false
namespace Go.Proofs.Ytiejeflgefdceaa.Pure
open Go.RowKit Go.Proofs.Ytiejeflgefdceaa.QFnExactIsTrade Go.Proofs.YtiejeflgefdceaaW.PrintWords Go.Proofs.YtiejeflgefdceaaW.PrintLast Go.Proofs.YtiejeflgefdceaaW.PrintMore Go.Proofs.Ytiejeflgefdceaa.Base

theorem spec_l1In_is (a lo hi : Int) : spec_l1In.f a lo hi = some (inB lo hi a) := by
  unfold spec_l1In.f
  exact within_is a lo hi
theorem spec_l2Table_l : ∀ (k i : Nat) (l : List Int), l.length ≤ 4611686018427387904 → i ≤ l.length → l.length < i + k → spec_l2Table.l0 k l (i : Int) = some ((l.drop i).all (inB 0 1))
  | 0, _, _, _, _, hk => by omega
  | k + 1, i, l, hn, hi', hk => by
    simp only [spec_l2Table.l0]
    by_cases h : i < l.length
    · rw [if_pos (by omega), if_pos (by omega), spec_l1In_is, rd_nat l i h, w64_nat (by omega), List.drop_eq_getElem_cons h, List.all_cons, spec_l2Table_l k (i + 1) l hn (by omega) (by omega)]
      simp only [Option.bind_some]
      by_cases e : inB 0 1 l[i] = true
      · rw [if_pos e, e]
        simp
      · rw [if_neg e]
        simp [e]
    · rw [if_neg (by omega), List.drop_of_length_le (by omega)]
      simp
theorem spec_l2Table_is (k : Nat) (n : Int) (l : List Int) (hn : l.length ≤ 4611686018427387904) (hk : l.length + 1 < k) : spec_l2Table.f k n l = some (tbB n l) := by
  obtain ⟨k, rfl⟩ : ∃ m, k = m + 1 := ⟨k - 1, by omega⟩
  unfold spec_l2Table.f tbB
  rw [spec_l1In_is]
  simp only [Option.bind_some]
  by_cases h : inB 0 4 n = true
  · have hr := inB_iff.1 h
    rw [if_pos h, if_pos hr.1, h, shl_pow n hr.1 hr.2]
    simp only [spec_l2Table.j0, Bool.true_and]
    by_cases e : (l.length : Int) = 2 ^ n.toNat
    · have := spec_l2Table_l k 0 l hn (by omega) (by omega)
      rw [show ((0 : Nat) : Int) = 0 from rfl] at this
      rw [if_neg (by simp [e]), this]
      simp [e]
    · rw [if_pos (by simpa using e)]
      simp [e]
  · rw [if_neg h]
    simp [spec_l2Table.j0, h]
def tradeB (n : Int) (tab t : List Int) : Bool := decide (t.length = 4) && (t.all (inB 0 ((tab.length : Int) - 1)) && (decide (rd t 0 ≤ rd t 1) && (decide (rd t 2 ≤ rd t 3) && (decide (wrap64 (rd tab (rd t 0) + rd tab (rd t 1)) = 2) && (decide (wrap64 (rd tab (rd t 2) + rd tab (rd t 3)) = 0) && decide (Go.bits .and .i64 (rd t 0) (rd t 1) = Go.bits .and .i64 (rd t 2) (rd t 3) ∧ Go.bits .or .i64 (rd t 0) (rd t 1) = Go.bits .or .i64 (rd t 2) (rd t 3)))))))
theorem spec_l5Trade_l1 (t : List Int) (ht : t.length = 4) (a b c d : Nat) (e0 : rd t 0 = a) (e1 : rd t 1 = b) (e2 : rd t 2 = c) (e3 : rd t 3 = d) : ∀ (k j i : Nat), i + j ≤ 4 → j < k → spec_l5Trade.l1 k ((i + j : Nat) : Int) t (i : Int) = some (allFrom (fun i => decide (sumOf a b i = sumOf c d i)) i j)
  | 0, _, _, _, hk => by omega
  | k + 1, 0, i, _, _ => by
    simp only [spec_l5Trade.l1]
    rw [if_neg (by omega)]
    simp [allFrom]
  | k + 1, j + 1, i, h, hk => by
    simp only [spec_l5Trade.l1]
    rw [if_pos (by omega), if_pos (by omega), if_pos (by omega), if_pos (by omega), if_pos (by omega), if_pos (by omega), w64_nat (by omega)]
    have ih := spec_l5Trade_l1 t ht a b c d e0 e1 e2 e3 k j (i + 1) (by omega) (by omega)
    rw [show i + 1 + j = i + (j + 1) by omega] at ih
    rw [ih, e0, e1, e2, e3]
    simp only [allFrom]
    by_cases q : sumOf a b i = sumOf c d i
    · have q' := q
      unfold sumOf bitOf at q'
      rw [if_pos q']
      simp [q]
    · have q' := q
      unfold sumOf bitOf at q'
      rw [if_neg q']
      simp [q]
theorem rd_mem {t : List Int} {P : Int → Bool} (h : t.all P = true) (i : Nat) (hi : i < t.length) : P (rd t (i : Int)) = true := by
  rw [rd_nat t i hi]
  exact List.all_eq_true.1 h _ (List.getElem_mem hi)
theorem spec_l5Trade_end (k : Nat) (n : Int) (tab t : List Int) (hk : 10 < k) (htab : tbB n tab = true) (hall : t.all (inB 0 ((tab.length : Int) - 1)) = true) : spec_l5Trade.l0 k n tab t (t.length : Int) = some (tradeB n tab t) := by
  obtain ⟨k, rfl⟩ : ∃ m, k = m + 1 + 1 := ⟨k - 2, by omega⟩
  obtain ⟨n0, n4, hlen, h16, _⟩ := tbB_parts htab
  simp only [spec_l5Trade.l0]
  rw [if_neg (by omega)]
  unfold tradeB
  rw [hall]
  by_cases h4 : t.length = 4
  · obtain ⟨a, ea⟩ := Int.eq_ofNat_of_zero_le (inB_iff.1 (rd_mem hall 0 (by omega))).1
    obtain ⟨b, eb⟩ := Int.eq_ofNat_of_zero_le (inB_iff.1 (rd_mem hall 1 (by omega))).1
    obtain ⟨c, ec⟩ := Int.eq_ofNat_of_zero_le (inB_iff.1 (rd_mem hall 2 (by omega))).1
    obtain ⟨d, ed⟩ := Int.eq_ofNat_of_zero_le (inB_iff.1 (rd_mem hall 3 (by omega))).1
    have ra := (inB_iff.1 (rd_mem hall 0 (by omega))).2
    have rb := (inB_iff.1 (rd_mem hall 1 (by omega))).2
    have rc := (inB_iff.1 (rd_mem hall 2 (by omega))).2
    have rd' := (inB_iff.1 (rd_mem hall 3 (by omega))).2
    simp only [Int.natCast_zero, Int.natCast_one, Int.cast_ofNat_Int] at ea eb ec ed ra rb rc rd'
    rw [ea] at ra
    rw [eb] at rb
    rw [ec] at rc
    rw [ed] at rd'
    rw [if_pos (by omega), if_pos (by omega), if_pos (by omega), ea, eb, ec, ed]
    simp only [spec_l5Trade.j1, h4, decide_true, Bool.true_and]
    by_cases c1 : (a : Int) ≤ b
    · rw [if_neg (by omega), if_pos (by omega), if_pos (by omega)]
      by_cases c2 : (c : Int) ≤ d
      · rw [if_neg (by omega), if_pos (by omega), if_pos (by omega), if_pos (by omega), if_pos (by omega)]
        by_cases c3 : wrap64 (rd tab a + rd tab b) = 2
        · rw [if_pos c3, if_pos (by omega), if_pos (by omega), if_pos (by omega), if_pos (by omega)]
          by_cases c4 : wrap64 (rd tab c + rd tab d) = 0
          · obtain ⟨m, rfl⟩ := Int.eq_ofNat_of_zero_le n0
            have l1 := spec_l5Trade_l1 t h4 a b c d ea eb ec ed k m 0 (by omega) (by omega)
            have hp : (2 : Int) ^ (m : Int).toNat = ((2 ^ m : Nat) : Int) := by simp
            rw [hp] at hlen
            rw [Nat.zero_add, show ((0 : Nat) : Int) = 0 from rfl, same_sums (by omega) (by omega) (by omega) (by omega) (by omega)] at l1
            rw [if_neg (by simp [c4]), l1]
            simp [c1, c2, c3, c4]
          · rw [if_pos (by simp [c4])]
            simp [c4]
        · rw [if_neg c3]
          simp [c3]
      · rw [if_pos (by omega)]
        simp [c2]
    · rw [if_pos (by omega)]
      simp [c1]
  · rw [if_neg (by omega)]
    simp [spec_l5Trade.j1, h4]
theorem spec_l5Trade_l (k0 : Nat) (hk0 : 10 < k0) (n : Int) (tab t : List Int) (htab : tbB n tab = true) (hn : t.length ≤ 1048576) : ∀ (k i : Nat), i ≤ t.length → t.length ≤ i + k → (∀ j, j < i → inB 0 ((tab.length : Int) - 1) (t.getD j 0) = true) → spec_l5Trade.l0 (k + k0) n tab t (i : Int) = some (if (t.drop i).all (inB 0 ((tab.length : Int) - 1)) then tradeB n tab t else false)
  | 0, i, hi, hk, hp => by
    obtain rfl : i = t.length := by omega
    have hall : t.all (inB 0 ((tab.length : Int) - 1)) = true := List.all_eq_true.2 fun x hx => by
      obtain ⟨j, hj, rfl⟩ := List.mem_iff_getElem.1 hx
      have := hp j hj
      simpa [hj] using this
    rw [show 0 + k0 = k0 by omega, spec_l5Trade_end k0 n tab t hk0 htab hall]
    simp
  | k + 1, i, hi, hk, hp => by
    by_cases h : i < t.length
    · rw [show k + 1 + k0 = (k + k0) + 1 by omega]
      simp only [spec_l5Trade.l0]
      obtain ⟨n0, n4, hlen, h16, _⟩ := tbB_parts htab
      rw [if_pos (by omega), if_pos (by omega), spec_l1In_is, rd_nat t i h, w64_nat (by omega), w64 (by omega) (by omega), List.drop_eq_getElem_cons h, List.all_cons]
      simp only [Option.bind_some]
      by_cases c : inB 0 ((tab.length : Int) - 1) t[i] = true
      · rw [if_pos c, spec_l5Trade_l k0 hk0 n tab t htab hn k (i + 1) (by omega) (by omega) fun j hj => ?_]
        · simp [c]
        · by_cases e : j = i
          · subst e
            simpa [h] using c
          · exact hp j (by omega)
      · rw [if_neg c]
        simp [c]
    · have := spec_l5Trade_l (k0 + 1) (by omega) n tab t htab hn k i hi (by omega) hp
      rw [show k + 1 + k0 = k + (k0 + 1) by omega]
      exact this
theorem spec_l5Trade_is (k : Nat) (n : Int) (tab t : List Int) (htab : tbB n tab = true) (hn : t.length ≤ 1048576) (hk : 1048600 < k) : spec_l5Trade.f k n tab t = some (tradeB n tab t) := by
  unfold spec_l5Trade.f
  have := spec_l5Trade_l (k - 1048576) (by omega) n tab t htab hn 1048576 0 (by omega) (by omega) (fun j hj => by omega)
  rw [show 1048576 + (k - 1048576) = k by omega] at this
  rw [show ((0 : Nat) : Int) = 0 from rfl] at this
  rw [this, List.drop_zero]
  congr 1
  by_cases c : t.all (inB 0 ((tab.length : Int) - 1)) = true
  · rw [if_pos c]
  · rw [if_neg c]
    unfold tradeB
    simp [c]
def isTrade (n : Int) (tab t : List Int) : Bool × Bool := if tbB n tab then (tradeB n tab t, true) else (false, false)
theorem spec_IsTrade_is (k : Nat) (n : Int) (tab t : List Int) (h1 : tab.length ≤ 1048576) (h2 : t.length ≤ 1048576) (hk : 1048600 < k) : spec_IsTrade.f k n tab t = some (isTrade n tab t) := by
  unfold spec_IsTrade.f isTrade
  rw [spec_l2Table_is k n tab (by omega) (by omega)]
  simp only [Option.bind_some]
  by_cases c : tbB n tab = true
  · rw [if_pos c, if_pos c, spec_l5Trade_is k n tab t c h2 hk]
    rfl
  · rw [if_neg c, if_neg c]
theorem laws_toIntS_l : ∀ (k i : Nat) (l acc : List Int), l.length ≤ 4611686018427387904 → acc.length = l.length → i ≤ l.length → l.length < i + k → (∀ j, j < i → acc[j]? = l[j]?) → laws_toIntS.l0 k l acc (i : Int) = some l
  | 0, i, l, acc, _, _, _, hk, _ => by omega
  | k + 1, i, l, acc, hn, hl, hi, hk, hj => by
    simp only [laws_toIntS.l0]
    by_cases h : i < l.length
    · rw [if_pos (by omega), if_pos (by omega), if_pos (by omega), rd_nat l i h, w64_nat (by omega)]
      refine laws_toIntS_l k (i + 1) l _ hn (by simp [hl]) (by omega) (by omega) fun j hj' => ?_
      rw [List.getElem?_set]
      by_cases e : i = j
      · subst e
        simp [h, hl]
      · simp only [Int.toNat_natCast]
        rw [if_neg e]
        exact hj j (by omega)
    · rw [if_neg (by omega)]
      congr 1
      refine List.ext_getElem? fun j => ?_
      by_cases e : j < i
      · exact hj j e
      · rw [List.getElem?_eq_none (by omega), List.getElem?_eq_none (by omega)]
theorem laws_toIntS_is (k : Nat) (l : List Int) (hn : l.length ≤ 35184372088832) (hk : l.length < k) : laws_toIntS.f k l = some l := by
  unfold laws_toIntS.f
  rw [if_pos (by omega), if_pos (by omega)]
  exact laws_toIntS_l k 0 l _ (by omega) (by simp) (by omega) (by omega) fun j hj => by omega
theorem impl_within_is (a lo hi : Int) : impl_within.f a lo hi = some (inB lo hi a) := by
  unfold impl_within.f
  exact within_is a lo hi
theorem impl_allWithin_l : ∀ (k i : Nat) (l : List Int) (lo hi : Int), l.length ≤ 4611686018427387904 → i ≤ l.length → l.length < i + k → impl_allWithin.l0 k lo hi l (l.length : Int) (i : Int) = some ((l.drop i).all (inB lo hi))
  | 0, _, _, _, _, _, _, hk => by omega
  | k + 1, i, l, lo, hi, hn, hi', hk => by
    simp only [impl_allWithin.l0]
    by_cases h : i < l.length
    · rw [if_pos (by omega), if_pos (by omega), if_pos (by omega), impl_within_is, rd_nat l i h, w64_nat (by omega), List.drop_eq_getElem_cons h, List.all_cons, impl_allWithin_l k (i + 1) l lo hi hn (by omega) (by omega)]
      simp only [Option.bind_some]
      by_cases e : inB lo hi l[i] = true
      · rw [if_pos e, e]
        simp
      · rw [if_neg e]
        simp [e]
    · rw [if_neg (by omega), List.drop_of_length_le (by omega)]
      simp
theorem impl_allWithin_is (k : Nat) (l : List Int) (lo hi : Int) (hn : l.length ≤ 4611686018427387904) (hk : l.length < k) : impl_allWithin.f k l lo hi = some (l.all (inB lo hi)) := by
  unfold impl_allWithin.f
  have := impl_allWithin_l k 0 l lo hi hn (by omega) (by omega)
  simpa using this
theorem impl_isTable_is (k : Nat) (n : Int) (l : List Int) (hn : l.length ≤ 4611686018427387904) (hk : l.length < k) : impl_isTable.f k n l = some (tbB n l) := by
  unfold impl_isTable.f tbB
  rw [impl_within_is, impl_allWithin_is k l 0 1 hn hk]
  simp only [Option.bind_some]
  by_cases h : inB 0 4 n = true
  · have hr := inB_iff.1 h
    rw [if_pos h, if_pos hr.1, h, shl_pow n hr.1 hr.2]
    by_cases e : (l.length : Int) = 2 ^ n.toNat
    · rw [if_pos e]
      simp [e]
    · rw [if_neg e]
      simp [e]
  · rw [if_neg h]
    simp [h]
theorem impl_sameSum_is (a b c d : Int) : impl_sameSum.f a b c d = some (decide (Go.bits .and .i64 a b = Go.bits .and .i64 c d ∧ Go.bits .or .i64 a b = Go.bits .or .i64 c d)) := by
  unfold impl_sameSum.f
  by_cases h : Go.bits .and .i64 a b = Go.bits .and .i64 c d
  · rw [if_pos h]
    congr 1
    by_cases g : Go.bits .or .i64 a b = Go.bits .or .i64 c d
    · simp [h, g]
    · simp [g]
  · rw [if_neg h]
    simp [h]
theorem impl_IsTrade_is (k : Nat) (n : Int) (tab t : List Int) (h1 : tab.length ≤ 1048576) (h2 : t.length ≤ 1048576) (hk : 1048600 < k) : impl_IsTrade.f k n tab t = some (isTrade n tab t) := by
  unfold impl_IsTrade.f isTrade
  rw [impl_isTable_is k n tab (by omega) (by omega)]
  simp only [Option.bind_some]
  by_cases c : tbB n tab = true
  · rw [if_pos c, if_pos c]
    obtain ⟨n0, n4, hlen, h16, _⟩ := tbB_parts c
    unfold tradeB
    by_cases h4 : t.length = 4
    · rw [if_pos (by omega), w64 (by omega) (by omega), impl_allWithin_is k t _ _ (by omega) (by omega)]
      simp only [Option.bind_some]
      by_cases hall : t.all (inB 0 ((tab.length : Int) - 1)) = true
      · have ra := inB_iff.1 (rd_mem hall 0 (by omega))
        have rb := inB_iff.1 (rd_mem hall 1 (by omega))
        have rc := inB_iff.1 (rd_mem hall 2 (by omega))
        have rd' := inB_iff.1 (rd_mem hall 3 (by omega))
        simp only [Int.natCast_zero, Int.natCast_one, Int.cast_ofNat_Int] at ra rb rc rd'
        rw [if_pos hall, if_pos (by omega), if_pos (by omega), if_pos (by omega), if_pos (by omega), hall]
        simp only [h4, decide_true, Bool.true_and]
        by_cases c1 : rd t 0 ≤ rd t 1
        · rw [if_pos c1]
          by_cases c2 : rd t 2 ≤ rd t 3
          · rw [if_pos c2, if_pos (by omega), if_pos (by omega), if_pos (by omega), if_pos (by omega)]
            by_cases c3 : wrap64 (rd tab (rd t 0) + rd tab (rd t 1)) = 2
            · rw [if_pos c3, if_pos (by omega), if_pos (by omega), if_pos (by omega), if_pos (by omega)]
              by_cases c4 : wrap64 (rd tab (rd t 2) + rd tab (rd t 3)) = 0
              · rw [if_pos c4, impl_sameSum_is]
                simp only [Option.bind_some, c1, c2, c3, c4, decide_true, Bool.true_and]
              · rw [if_neg c4]
                simp [c4]
            · rw [if_neg c3]
              simp [c3]
          · rw [if_neg c2]
            simp [c2]
        · rw [if_neg c1]
          simp [c1]
      · rw [if_neg hall]
        simp [hall]
    · rw [if_neg (by omega)]
      simp [h4]
  · rw [if_neg c, if_neg c]
theorem laws_eqIntS_l : ∀ (k i : Nat) (l r : List Int), l.length ≤ 4611686018427387904 → r.length = l.length → i ≤ l.length → l.length < i + k → laws_eqIntS.l0 k l r (i : Int) = some (decide (l.drop i = r.drop i))
  | 0, i, l, r, _, _, _, hk => by omega
  | k + 1, i, l, r, hn, hl, hi, hk => by
    simp only [laws_eqIntS.l0]
    by_cases h : i < l.length
    · rw [if_pos (by omega), if_pos (by omega), if_pos (by omega), rd_nat l i h, rd_nat r i (by omega), w64_nat (by omega), laws_eqIntS_l k (i + 1) l r hn hl (by omega) (by omega), List.drop_eq_getElem_cons h, List.drop_eq_getElem_cons (show i < r.length by omega)]
      by_cases e : l[i] = r[i]'(by omega)
      · rw [if_pos e, e]
        simp only [List.cons.injEq, true_and]
      · rw [if_neg e]
        simp only [List.cons.injEq, e, false_and, decide_false]
    · rw [if_neg (by omega), List.drop_of_length_le (by omega), List.drop_of_length_le (by omega)]
      simp
theorem laws_eqIntS_is (k : Nat) (l r : List Int) (hn : l.length ≤ 4611686018427387904) (hk : l.length < k) : laws_eqIntS.f k l r = some (decide (l = r)) := by
  unfold laws_eqIntS.f
  by_cases h : l.length = r.length
  · rw [if_pos (by omega)]
    have := laws_eqIntS_l k 0 l r hn (by omega) (by omega) (by omega)
    simpa using this
  · rw [if_neg (by omega)]
    have : l ≠ r := fun e => h (by rw [e])
    simp [this]
theorem laws_eqIntS_same (k : Nat) (l : List Int) (hn : l.length ≤ 4611686018427387904) (hk : l.length < k) : laws_eqIntS.f k l l = some true := by
  rw [laws_eqIntS_is k l l hn hk]
  simp
theorem FnExactIsTrade : ∀ (a0 : Int) (l1 : List Int) (l2 : List Int), (Lit.int .i64 a0).wf = true → l1.length ≤ maxLen → (∀ x ∈ l1, (Lit.int .i64 x).wf = true) → l2.length ≤ maxLen → (∀ x ∈ l2, (Lit.int .i64 x).wf = true) → ∃ k, laws_FnExactIsTrade.f k a0 l1 l2 = some true := by
  intro n tab t _ _ _ _ _
  obtain ⟨K, hK⟩ : ∃ K, 3000000 ≤ K := ⟨_, Nat.le_refl _⟩
  refine ⟨K + 1 + 1 + 1, ?_⟩
  unfold laws_FnExactIsTrade.f
  by_cases h : (tab.length : Int) > 1048576
  · rw [if_pos h]
  · by_cases h2 : (t.length : Int) > 1048576
    · rw [if_neg h, if_pos h2]
    · rw [if_neg h, if_neg h2]
      simp (disch := omega) only [spec_l1In_is, spec_l2Table_is, spec_l5Trade_is, spec_IsTrade_is, laws_toIntS_is, impl_within_is, impl_allWithin_is, impl_isTable_is, impl_sameSum_is, impl_IsTrade_is, laws_eqIntS_is, laws_eqIntS_same, Option.bind_some, bne_self, ltF, gtF, reduceIte, Bool.false_eq_true, if_true, decide_true, Bool.not_true] <;> simp only [laws_FnExactIsTrade.j0] <;> simp (disch := omega) only [spec_l1In_is, spec_l2Table_is, spec_l5Trade_is, spec_IsTrade_is, laws_toIntS_is, impl_within_is, impl_allWithin_is, impl_isTable_is, impl_sameSum_is, impl_IsTrade_is, laws_eqIntS_is, laws_eqIntS_same, Option.bind_some, bne_self, ltF, gtF, reduceIte, Bool.false_eq_true, if_true, decide_true, Bool.not_true]

end Go.Proofs.Ytiejeflgefdceaa.Pure
