/- Proved: the law FnExactJoinTables answers true for every number and two lists of whole numbers; no condition. -/
import Derived.Test.YtdepfcejgbnkdaaPFnExactJoinTablesx3
import Derived.Test.YtdepfcejgbnkdaaBase
set_option linter.unusedVariables false
set_option linter.unusedSimpArgs false
namespace Go.Proofs.Ytdepfcejgbnkdaa.Pure
open Go.RowKit Go.Proofs.Ytdepfcejgbnkdaa.PFnExactJoinTables Go.Proofs.YtdepfcejgbnkdaaW.PrintWords Go.Proofs.YtdepfcejgbnkdaaW.PrintLast Go.Proofs.Ytdepfcejgbnkdaa.Base

theorem laws_toIntS_l : ∀ (k i : Nat) (l acc : List Int), l.length ≤ 4611686018427387904 → acc.length = l.length → i ≤ l.length → l.length < i + k → (∀ j, j < i → acc[j]? = l[j]?) → laws_toIntS.l0 k l acc (i : Int) = some l
  | 0, i, l, acc, _, _, _, hk, _ => by omega
  | k + 1, i, l, acc, hn, hl, hi, hk, hj => by
    simp only [laws_toIntS.l0]
    by_cases h : i < l.length
    · rw [if_pos (by omega), if_pos (by omega), if_pos (by omega), rd_nat l i h, w64_nat (by omega)]
      refine laws_toIntS_l k (i + 1) l _ hn (by simp [hl]) (by omega) (by omega) fun j hj' => ?_
      rw [List.getElem?_set]
      by_cases e : i = j
      · subst e
        simp [h, hl]
      · simp only [Int.toNat_natCast]
        rw [if_neg e]
        exact hj j (by omega)
    · rw [if_neg (by omega)]
      congr 1
      refine List.ext_getElem? fun j => ?_
      by_cases e : j < i
      · exact hj j e
      · rw [List.getElem?_eq_none (by omega), List.getElem?_eq_none (by omega)]
theorem laws_toIntS_is (k : Nat) (l : List Int) (hn : l.length ≤ 35184372088832) (hk : l.length < k) : laws_toIntS.f k l = some l := by
  unfold laws_toIntS.f
  rw [if_pos (by omega), if_pos (by omega)]
  exact laws_toIntS_l k 0 l _ (by omega) (by simp) (by omega) (by omega) fun j hj => by omega
theorem laws_eqIntS_l : ∀ (k i : Nat) (l r : List Int), l.length ≤ 4611686018427387904 → r.length = l.length → i ≤ l.length → l.length < i + k → laws_eqIntS.l0 k l r (i : Int) = some (decide (l.drop i = r.drop i))
  | 0, i, l, r, _, _, _, hk => by omega
  | k + 1, i, l, r, hn, hl, hi, hk => by
    simp only [laws_eqIntS.l0]
    by_cases h : i < l.length
    · rw [if_pos (by omega), if_pos (by omega), if_pos (by omega), rd_nat l i h, rd_nat r i (by omega), w64_nat (by omega), laws_eqIntS_l k (i + 1) l r hn hl (by omega) (by omega), List.drop_eq_getElem_cons h, List.drop_eq_getElem_cons (show i < r.length by omega)]
      by_cases e : l[i] = r[i]'(by omega)
      · rw [if_pos e, e]
        simp only [List.cons.injEq, true_and]
      · rw [if_neg e]
        simp only [List.cons.injEq, e, false_and, decide_false]
    · rw [if_neg (by omega), List.drop_of_length_le (by omega), List.drop_of_length_le (by omega)]
      simp
theorem laws_eqIntS_is (k : Nat) (l r : List Int) (hn : l.length ≤ 4611686018427387904) (hk : l.length < k) : laws_eqIntS.f k l r = some (decide (l = r)) := by
  unfold laws_eqIntS.f
  by_cases h : l.length = r.length
  · rw [if_pos (by omega)]
    have := laws_eqIntS_l k 0 l r hn (by omega) (by omega) (by omega)
    simpa using this
  · rw [if_neg (by omega)]
    have : l ≠ r := fun e => h (by rw [e])
    simp [this]
theorem laws_eqIntS_same (k : Nat) (l : List Int) (hn : l.length ≤ 4611686018427387904) (hk : l.length < k) : laws_eqIntS.f k l l = some true := by
  rw [laws_eqIntS_is k l l hn hk]
  simp
theorem laws_markIntS_l : ∀ (k : Nat) (post pre : List Int) (a : Int), -4611686018427387904 ≤ a → a + post.length ≤ 4611686018427387904 → pre.length + post.length ≤ 4611686018427387904 → post.length < k → laws_markIntS.l0 k (pre ++ post) a (pre.length : Int) = some (a + post.length, pre ++ marks a post.length)
  | 0, _, _, _, _, _, _, hk => by omega
  | k + 1, [], pre, a, _, _, _, _ => by
    simp only [laws_markIntS.l0]
    rw [if_neg (by simp)]
    simp [marks]
  | k + 1, x :: post, pre, a, h1, h2, h3, hk => by
    simp only [laws_markIntS.l0]
    simp only [List.length_cons] at h2 h3 hk
    rw [if_pos (by simp; omega), if_pos (by omega), w64_nat (by omega), w64 (by omega) (by omega)]
    rw [set_mid pre post x a _ (by simp)]
    have := laws_markIntS_l k post (pre ++ [a]) (a + 1) (by omega) (by omega) (by simp; omega) (by omega)
    simp only [List.append_assoc, List.singleton_append, List.length_append, List.length_cons, List.length_nil, Nat.zero_add] at this
    rw [this]
    simp only [List.length_cons, marks]
    congr 2
    omega
theorem laws_markIntS_is (k : Nat) (l : List Int) (a : Int) (h1 : -4611686018427387904 ≤ a) (h2 : a + l.length ≤ 4611686018427387904) (h3 : l.length ≤ 4611686018427387904) (hk : l.length < k) : laws_markIntS.f k l a = some (a + l.length, marks a l.length) := by
  unfold laws_markIntS.f
  exact laws_markIntS_l k l [] a h1 h2 (by simpa using h3) hk
theorem laws_heldIntS_l : ∀ (k n i : Nat) (a b : Int), -4611686018427387904 ≤ a → a + n ≤ 4611686018427387904 → n ≤ 4611686018427387904 → i ≤ n → n < i + k → b = a + i → laws_heldIntS.l0 k (marks a n) b (i : Int) = some (a + n)
  | 0, _, _, _, _, _, _, _, _, hk, _ => by omega
  | k + 1, n, i, a, b, h1, h2, h3, hi, hk, hb => by
    simp only [laws_heldIntS.l0, marks_length]
    by_cases h : i < n
    · rw [if_pos (by omega), if_pos (by omega), rd_nat _ i (by rw [marks_length]; exact h), marks_get, if_pos hb.symm, w64_nat (by omega), w64 (by omega) (by omega)]
      exact laws_heldIntS_l k n (i + 1) a _ h1 h2 h3 (by omega) (by omega) (by omega)
    · rw [if_neg (by omega)]
      congr 1
      omega
theorem laws_heldIntS_is (k n : Nat) (a : Int) (h1 : -4611686018427387904 ≤ a) (h2 : a + n ≤ 4611686018427387904) (h3 : n ≤ 4611686018427387904) (hk : n < k) : laws_heldIntS.f k (marks a n) a = some (a + n) := by
  unfold laws_heldIntS.f
  exact laws_heldIntS_l k n 0 a a h1 h2 h3 (by omega) (by omega) (by omega)
theorem spec_l1In_is (a lo hi : Int) : spec_l1In.f a lo hi = some (inB lo hi a) := by
  unfold spec_l1In.f
  exact within_is a lo hi
theorem spec_l2Table_l : ∀ (k i : Nat) (l : List Int), l.length ≤ 4611686018427387904 → i ≤ l.length → l.length < i + k → spec_l2Table.l0 k l (i : Int) = some ((l.drop i).all (inB 0 1))
  | 0, _, _, _, _, hk => by omega
  | k + 1, i, l, hn, hi', hk => by
    simp only [spec_l2Table.l0]
    by_cases h : i < l.length
    · rw [if_pos (by omega), if_pos (by omega), spec_l1In_is, rd_nat l i h, w64_nat (by omega), List.drop_eq_getElem_cons h, List.all_cons, spec_l2Table_l k (i + 1) l hn (by omega) (by omega)]
      simp only [Option.bind_some]
      by_cases e : inB 0 1 l[i] = true
      · rw [if_pos e, e]
        simp
      · rw [if_neg e]
        simp [e]
    · rw [if_neg (by omega), List.drop_of_length_le (by omega)]
      simp
theorem spec_l2Table_is (k : Nat) (n : Int) (l : List Int) (hn : l.length ≤ 4611686018427387904) (hk : l.length + 1 < k) : spec_l2Table.f k n l = some (tbB n l) := by
  obtain ⟨k, rfl⟩ : ∃ m, k = m + 1 := ⟨k - 1, by omega⟩
  unfold spec_l2Table.f tbB
  rw [spec_l1In_is]
  simp only [Option.bind_some]
  by_cases h : inB 0 4 n = true
  · have hr := inB_iff.1 h
    rw [if_pos h, if_pos hr.1, h, shl_pow n hr.1 hr.2]
    simp only [spec_l2Table.j0, Bool.true_and]
    by_cases e : (l.length : Int) = 2 ^ n.toNat
    · have := spec_l2Table_l k 0 l hn (by omega) (by omega)
      rw [show ((0 : Nat) : Int) = 0 from rfl] at this
      rw [if_neg (by simp [e]), this]
      simp [e]
    · rw [if_pos (by simpa using e)]
      simp [e]
  · rw [if_neg h]
    simp [spec_l2Table.j0, h]
theorem spec_l1Own_is (l : List Int) (h : l.length < 17592186044416) : spec_l1Own.f l = some l := by
  unfold spec_l1Own.f
  simp only [Option.bind_some]
  rw [if_pos (by simpa using h)]
  simp
def joinTab (n : Int) (a b : List Int) : List Int × Bool := if tbB n a && tbB n b && !decide (n = 4) then (a ++ b, true) else ([], false)
theorem joinTab_length (n : Int) (a b : List Int) : (joinTab n a b).1.length ≤ a.length + b.length := by
  unfold joinTab
  split <;> simp
theorem spec_JoinTables_is (k : Nat) (n : Int) (a b : List Int) (ha : a.length ≤ 1048576) (hb : b.length ≤ 1048576) (hk : a.length + b.length + 1 < k) : spec_JoinTables.f k n a b = some (joinTab n a b) := by
  unfold spec_JoinTables.f joinTab
  rw [spec_l2Table_is k n a (by omega) (by omega), spec_l2Table_is k n b (by omega) (by omega), spec_l1Own_is a (by omega)]
  simp only [Option.bind_some]
  by_cases h1 : tbB n a = true
  · by_cases h2 : tbB n b = true
    · by_cases h3 : n = 4
      · rw [if_pos h1, if_pos h2, if_pos h3]
        simp [h3]
      · rw [if_pos h1, if_pos h2, if_neg h3, if_pos (by omega)]
        simp [h1, h2, h3]
    · rw [if_pos h1, if_neg h2]
      simp [h2]
  · rw [if_neg h1]
    simp [h1]
theorem impl_within_is (a lo hi : Int) : impl_within.f a lo hi = some (inB lo hi a) := by
  unfold impl_within.f
  exact within_is a lo hi
theorem impl_allWithin_l : ∀ (k i : Nat) (l : List Int) (lo hi : Int), l.length ≤ 4611686018427387904 → i ≤ l.length → l.length < i + k → impl_allWithin.l0 k lo hi l (l.length : Int) (i : Int) = some ((l.drop i).all (inB lo hi))
  | 0, _, _, _, _, _, _, hk => by omega
  | k + 1, i, l, lo, hi, hn, hi', hk => by
    simp only [impl_allWithin.l0]
    by_cases h : i < l.length
    · rw [if_pos (by omega), if_pos (by omega), if_pos (by omega), impl_within_is, rd_nat l i h, w64_nat (by omega), List.drop_eq_getElem_cons h, List.all_cons, impl_allWithin_l k (i + 1) l lo hi hn (by omega) (by omega)]
      simp only [Option.bind_some]
      by_cases e : inB lo hi l[i] = true
      · rw [if_pos e, e]
        simp
      · rw [if_neg e]
        simp [e]
    · rw [if_neg (by omega), List.drop_of_length_le (by omega)]
      simp
theorem impl_allWithin_is (k : Nat) (l : List Int) (lo hi : Int) (hn : l.length ≤ 4611686018427387904) (hk : l.length < k) : impl_allWithin.f k l lo hi = some (l.all (inB lo hi)) := by
  unfold impl_allWithin.f
  have := impl_allWithin_l k 0 l lo hi hn (by omega) (by omega)
  simpa using this
theorem impl_isTable_is (k : Nat) (n : Int) (l : List Int) (hn : l.length ≤ 4611686018427387904) (hk : l.length < k) : impl_isTable.f k n l = some (tbB n l) := by
  unfold impl_isTable.f tbB
  rw [impl_within_is, impl_allWithin_is k l 0 1 hn hk]
  simp only [Option.bind_some]
  by_cases h : inB 0 4 n = true
  · have hr := inB_iff.1 h
    rw [if_pos h, if_pos hr.1, h, shl_pow n hr.1 hr.2]
    by_cases e : (l.length : Int) = 2 ^ n.toNat
    · rw [if_pos e]
      simp [e]
    · rw [if_neg e]
      simp [e]
  · rw [if_neg h]
    simp [h]
theorem impl_copied_is (l : List Int) (h : l.length < 17592186044416) : impl_copied.f l = some l := by
  unfold impl_copied.f
  simp only [Option.bind_some]
  rw [if_pos (by simpa using h)]
  simp
theorem impl_JoinTables_is (k : Nat) (n : Int) (a b : List Int) (ha : a.length ≤ 1048576) (hb : b.length ≤ 1048576) (hk : a.length + b.length + 1 < k) : impl_JoinTables.f k n a b = some (joinTab n a b) := by
  unfold impl_JoinTables.f joinTab
  rw [impl_isTable_is k n a (by omega) (by omega), impl_isTable_is k n b (by omega) (by omega), impl_copied_is a (by omega)]
  simp only [Option.bind_some]
  by_cases h1 : tbB n a = true
  · by_cases h2 : tbB n b = true
    · by_cases h3 : n = 4
      · rw [if_pos h1, if_pos h2, if_pos h3]
        simp [h3]
      · rw [if_pos h1, if_pos h2, if_neg h3, if_pos (by omega)]
        simp [h1, h2, h3]
    · rw [if_pos h1, if_neg h2]
      simp [h2]
  · rw [if_neg h1]
    simp [h1]
theorem FnExactJoinTables : laws_FnExactJoinTables.Pure := by
  intro n a b _ _ _ _ _ _ _
  refine ⟨2097200 + 1 + 1 + 1, ?_⟩
  have hl := joinTab_length n a b
  unfold laws_FnExactJoinTables.f
  by_cases h : (a.length : Int) > 1048576
  · rw [if_pos h]
  · by_cases h' : (b.length : Int) > 1048576
    · rw [if_neg h, if_pos h']
    · rw [if_neg h, if_neg h', laws_toIntS_is _ a (by omega) (by omega), laws_toIntS_is _ b (by omega) (by omega)]
      simp only [Option.bind_some]
      rw [spec_JoinTables_is _ n a b (by omega) (by omega) (by omega), impl_JoinTables_is _ n a b (by omega) (by omega) (by omega)]
      simp only [Option.bind_some]
      rw [laws_eqIntS_same _ _ (by omega) (by omega)]
      simp only [Option.bind_some, if_true, bne_self]
      simp only [laws_FnExactJoinTables.j0]
      rw [laws_toIntS_is _ a (by omega) (by omega), laws_toIntS_is _ b (by omega) (by omega)]
      simp only [Option.bind_some]
      rw [laws_eqIntS_same _ a (by omega) (by omega), laws_eqIntS_same _ b (by omega) (by omega), laws_markIntS_is _ a 1 (by omega) (by omega) (by omega) (by omega)]
      simp only [Option.bind_some, if_true]
      rw [laws_markIntS_is _ b _ (by omega) (by omega) (by omega) (by omega), laws_eqIntS_same _ _ (by omega) (by omega)]
      simp only [Option.bind_some, if_true, bne_self]
      rw [if_neg (by simp), if_neg (by omega)]
      simp only [laws_FnExactJoinTables.j1]
      rw [laws_markIntS_is _ _ 1 (by omega) (by omega) (by omega) (by omega)]
      simp only [Option.bind_some]
      rw [laws_heldIntS_is _ _ 1 (by omega) (by omega) (by omega) (by omega)]
      simp only [Option.bind_some]
      rw [if_neg (by simp), if_neg (by omega), if_pos trivial, laws_toIntS_is _ a (by omega) (by omega), laws_toIntS_is _ b (by omega) (by omega)]
      simp only [Option.bind_some]
      rw [impl_JoinTables_is _ n a b (by omega) (by omega) (by omega)]
      simp only [Option.bind_some]
      rw [laws_eqIntS_same _ _ (by omega) (by omega)]
      simp only [Option.bind_some, if_true, bne_self]
      simp only [laws_FnExactJoinTables.j2]
      rw [laws_heldIntS_is _ _ 1 (by omega) (by omega) (by omega) (by omega)]
      simp only [Option.bind_some]
      rw [if_neg (by simp), if_neg (by omega), if_pos trivial]

end Go.Proofs.Ytdepfcejgbnkdaa.Pure
