/- Proved: the law FnExactBitPoint answers true for every two whole numbers; no condition. -/
import Derived.Test.YtdepfcejgbnkdaaPFnExactBitPointx2
import Derived.Test.YtdepfcejgbnkdaaBase
set_option linter.unusedVariables false
set_option linter.unusedSimpArgs false
namespace Go.Proofs.Ytdepfcejgbnkdaa.Pure
open Go.RowKit Go.Proofs.Ytdepfcejgbnkdaa.PFnExactBitPoint Go.Proofs.YtdepfcejgbnkdaaW.PrintWords Go.Proofs.YtdepfcejgbnkdaaW.PrintLast Go.Proofs.Ytdepfcejgbnkdaa.Base

theorem laws_eqIntS_l : ∀ (k i : Nat) (l r : List Int), l.length ≤ 4611686018427387904 → r.length = l.length → i ≤ l.length → l.length < i + k → laws_eqIntS.l0 k l r (i : Int) = some (decide (l.drop i = r.drop i))
  | 0, i, l, r, _, _, _, hk => by omega
  | k + 1, i, l, r, hn, hl, hi, hk => by
    simp only [laws_eqIntS.l0]
    by_cases h : i < l.length
    · rw [if_pos (by omega), if_pos (by omega), if_pos (by omega), rd_nat l i h, rd_nat r i (by omega), w64_nat (by omega), laws_eqIntS_l k (i + 1) l r hn hl (by omega) (by omega), List.drop_eq_getElem_cons h, List.drop_eq_getElem_cons (show i < r.length by omega)]
      by_cases e : l[i] = r[i]'(by omega)
      · rw [if_pos e, e]
        simp only [List.cons.injEq, true_and]
      · rw [if_neg e]
        simp only [List.cons.injEq, e, false_and, decide_false]
    · rw [if_neg (by omega), List.drop_of_length_le (by omega), List.drop_of_length_le (by omega)]
      simp
theorem laws_eqIntS_is (k : Nat) (l r : List Int) (hn : l.length ≤ 4611686018427387904) (hk : l.length < k) : laws_eqIntS.f k l r = some (decide (l = r)) := by
  unfold laws_eqIntS.f
  by_cases h : l.length = r.length
  · rw [if_pos (by omega)]
    have := laws_eqIntS_l k 0 l r hn (by omega) (by omega) (by omega)
    simpa using this
  · rw [if_neg (by omega)]
    have : l ≠ r := fun e => h (by rw [e])
    simp [this]
theorem laws_eqIntS_same (k : Nat) (l : List Int) (hn : l.length ≤ 4611686018427387904) (hk : l.length < k) : laws_eqIntS.f k l l = some true := by
  rw [laws_eqIntS_is k l l hn hk]
  simp
theorem spec_l1In_is (a lo hi : Int) : spec_l1In.f a lo hi = some (inB lo hi a) := by
  unfold spec_l1In.f
  exact within_is a lo hi
theorem spec_l2BitPoint_l (x : Int) : ∀ (k j i : Nat) (acc : List Int), i + j ≤ 64 → j < k → acc.length ≤ i → spec_l2BitPoint.l0 k ((i + j : Nat) : Int) x acc (i : Int) = some (acc ++ bitsFrom x i j)
  | 0, _, _, _, _, hk, _ => by omega
  | k + 1, 0, i, acc, _, _, _ => by
    simp only [spec_l2BitPoint.l0]
    rw [if_neg (by omega)]
    simp [bitsFrom]
  | k + 1, j + 1, i, acc, h, hk, ha => by
    simp only [spec_l2BitPoint.l0]
    rw [if_pos (by omega), if_pos (by omega), if_pos (by omega), w64_nat (by omega)]
    have := spec_l2BitPoint_l x k j (i + 1) (acc ++ [Go.bits .and .i64 (shr .i64 x i) 1]) (by omega) (by omega) (by simp; omega)
    rw [show i + 1 + j = i + (j + 1) by omega] at this
    rw [this]
    simp [bitsFrom]
theorem spec_l2BitPoint_is (k n : Nat) (x : Int) (hn : n ≤ 64) (hk : n < k) : spec_l2BitPoint.f k (n : Int) x = some (bitsFrom x 0 n) := by
  unfold spec_l2BitPoint.f
  have := spec_l2BitPoint_l x k n 0 [] (by omega) hk (by simp)
  simpa using this
def bitPointOf (n x : Int) : List Int × Bool := if inB 1 4 n = true then (if inB 0 (2 ^ n.toNat - 1) x = true then (bitsFrom x 0 n.toNat, true) else ([], false)) else ([], false)
theorem bitPointOf_length (n x : Int) : (bitPointOf n x).1.length ≤ 4 := by
  unfold bitPointOf
  by_cases h : inB 1 4 n = true
  · rw [if_pos h]
    have := inB_iff.1 h
    by_cases h2 : inB 0 (2 ^ n.toNat - 1) x = true
    · rw [if_pos h2, bitsFrom_length]
      omega
    · rw [if_neg h2]
      simp
  · rw [if_neg h]
    simp
theorem spec_BitPoint_is (k : Nat) (n x : Int) (hk : 64 < k) : spec_BitPoint.f k n x = some (bitPointOf n x) := by
  unfold spec_BitPoint.f bitPointOf
  rw [spec_l1In_is]
  simp only [Option.bind_some]
  by_cases h : inB 1 4 n = true
  · have hr := inB_iff.1 h
    have hp := pow_le_16 n (by omega) (by omega)
    rw [if_pos h, if_pos h, if_pos (by omega), shl_pow n (by omega) (by omega), w64 (by omega) (by omega), spec_l1In_is]
    simp only [Option.bind_some]
    by_cases h2 : inB 0 (2 ^ n.toNat - 1) x = true
    · obtain ⟨m, rfl⟩ := Int.eq_ofNat_of_zero_le (show 0 ≤ n by omega)
      rw [if_pos h2, if_pos h2, spec_l2BitPoint_is k m x (by omega) (by omega)]
      simp
    · rw [if_neg h2, if_neg h2]
  · rw [if_neg h, if_neg h]
theorem impl_within_is (a lo hi : Int) : impl_within.f a lo hi = some (inB lo hi a) := by
  unfold impl_within.f
  exact within_is a lo hi
theorem impl_bitPoint_l (x : Int) : ∀ (k j i : Nat) (acc : List Int), i + j ≤ 64 → j < k → acc.length ≤ i → impl_bitPoint.l0 k x acc ((i + j : Nat) : Int) (i : Int) = some (acc ++ bitsFrom x i j)
  | 0, _, _, _, _, hk, _ => by omega
  | k + 1, 0, i, acc, _, _, _ => by
    simp only [impl_bitPoint.l0]
    rw [if_neg (by omega)]
    simp [bitsFrom]
  | k + 1, j + 1, i, acc, h, hk, ha => by
    simp only [impl_bitPoint.l0]
    rw [if_pos (by omega), if_pos (by omega), if_pos (by omega), w64_nat (by omega)]
    have := impl_bitPoint_l x k j (i + 1) (acc ++ [Go.bits .and .i64 (shr .i64 x i) 1]) (by omega) (by omega) (by simp; omega)
    rw [show i + 1 + j = i + (j + 1) by omega] at this
    rw [this]
    simp [bitsFrom]
theorem impl_bitPoint_is (k n : Nat) (x : Int) (hn : n ≤ 64) (hk : n < k) : impl_bitPoint.f k (n : Int) x = some (bitsFrom x 0 n) := by
  unfold impl_bitPoint.f
  have := impl_bitPoint_l x k n 0 [] (by omega) hk (by simp)
  simpa using this
theorem impl_BitPoint_is (k : Nat) (n x : Int) (hk : 64 < k) : impl_BitPoint.f k n x = some (bitPointOf n x) := by
  unfold impl_BitPoint.f bitPointOf
  rw [impl_within_is]
  simp only [Option.bind_some]
  by_cases h : inB 1 4 n = true
  · have hr := inB_iff.1 h
    have hp := pow_le_16 n (by omega) (by omega)
    rw [if_pos h, if_pos h, if_pos (by omega), shl_pow n (by omega) (by omega), w64 (by omega) (by omega), impl_within_is]
    simp only [Option.bind_some]
    by_cases h2 : inB 0 (2 ^ n.toNat - 1) x = true
    · obtain ⟨m, rfl⟩ := Int.eq_ofNat_of_zero_le (show 0 ≤ n by omega)
      rw [if_pos h2, if_pos h2, impl_bitPoint_is k m x (by omega) (by omega)]
      simp
    · rw [if_neg h2, if_neg h2]
  · rw [if_neg h, if_neg h]
theorem laws_markIntS_l : ∀ (k : Nat) (post pre : List Int) (a : Int), -4611686018427387904 ≤ a → a + post.length ≤ 4611686018427387904 → pre.length + post.length ≤ 4611686018427387904 → post.length < k → laws_markIntS.l0 k (pre ++ post) a (pre.length : Int) = some (a + post.length, pre ++ marks a post.length)
  | 0, _, _, _, _, _, _, hk => by omega
  | k + 1, [], pre, a, _, _, _, _ => by
    simp only [laws_markIntS.l0]
    rw [if_neg (by simp)]
    simp [marks]
  | k + 1, x :: post, pre, a, h1, h2, h3, hk => by
    simp only [laws_markIntS.l0]
    simp only [List.length_cons] at h2 h3 hk
    rw [if_pos (by simp; omega), if_pos (by omega), w64_nat (by omega), w64 (by omega) (by omega)]
    rw [set_mid pre post x a _ (by simp)]
    have := laws_markIntS_l k post (pre ++ [a]) (a + 1) (by omega) (by omega) (by simp; omega) (by omega)
    simp only [List.append_assoc, List.singleton_append, List.length_append, List.length_cons, List.length_nil, Nat.zero_add] at this
    rw [this]
    simp only [List.length_cons, marks]
    congr 2
    omega
theorem laws_markIntS_is (k : Nat) (l : List Int) (a : Int) (h1 : -4611686018427387904 ≤ a) (h2 : a + l.length ≤ 4611686018427387904) (h3 : l.length ≤ 4611686018427387904) (hk : l.length < k) : laws_markIntS.f k l a = some (a + l.length, marks a l.length) := by
  unfold laws_markIntS.f
  exact laws_markIntS_l k l [] a h1 h2 (by simpa using h3) hk
theorem laws_heldIntS_l : ∀ (k n i : Nat) (a b : Int), -4611686018427387904 ≤ a → a + n ≤ 4611686018427387904 → n ≤ 4611686018427387904 → i ≤ n → n < i + k → b = a + i → laws_heldIntS.l0 k (marks a n) b (i : Int) = some (a + n)
  | 0, _, _, _, _, _, _, _, _, hk, _ => by omega
  | k + 1, n, i, a, b, h1, h2, h3, hi, hk, hb => by
    simp only [laws_heldIntS.l0, marks_length]
    by_cases h : i < n
    · rw [if_pos (by omega), if_pos (by omega), rd_nat _ i (by rw [marks_length]; exact h), marks_get, if_pos hb.symm, w64_nat (by omega), w64 (by omega) (by omega)]
      exact laws_heldIntS_l k n (i + 1) a _ h1 h2 h3 (by omega) (by omega) (by omega)
    · rw [if_neg (by omega)]
      congr 1
      omega
theorem laws_heldIntS_is (k n : Nat) (a : Int) (h1 : -4611686018427387904 ≤ a) (h2 : a + n ≤ 4611686018427387904) (h3 : n ≤ 4611686018427387904) (hk : n < k) : laws_heldIntS.f k (marks a n) a = some (a + n) := by
  unfold laws_heldIntS.f
  exact laws_heldIntS_l k n 0 a a h1 h2 h3 (by omega) (by omega) (by omega)
theorem FnExactBitPoint : laws_FnExactBitPoint.Pure := by
  intro n x _ _
  refine ⟨100 + 1 + 1, ?_⟩
  have hl := bitPointOf_length n x
  unfold laws_FnExactBitPoint.f
  rw [spec_BitPoint_is _ n x (by omega), impl_BitPoint_is _ n x (by omega)]
  simp only [Option.bind_some]
  rw [laws_eqIntS_same _ _ (by omega) (by omega)]
  simp only [Option.bind_some, if_true, bne_self]
  simp only [laws_FnExactBitPoint.j0]
  rw [laws_markIntS_is _ _ 1 (by omega) (by omega) (by omega) (by omega)]
  simp only [Option.bind_some]
  rw [laws_heldIntS_is _ _ 1 (by omega) (by omega) (by omega) (by omega)]
  simp only [Option.bind_some]
  rw [if_neg (by simp), if_neg (by omega), if_pos trivial, impl_BitPoint_is _ n x (by omega)]
  simp only [Option.bind_some]
  rw [laws_eqIntS_same _ _ (by omega) (by omega)]
  simp only [Option.bind_some, if_true, bne_self]
  simp only [laws_FnExactBitPoint.j1]
  rw [laws_heldIntS_is _ _ 1 (by omega) (by omega) (by omega) (by omega)]
  simp only [Option.bind_some]
  rw [if_neg (by simp), if_neg (by omega), if_pos trivial]

end Go.Proofs.Ytdepfcejgbnkdaa.Pure
