/- Proved: the law FnExactTableSample answers true for every number and list of whole numbers; no condition. -/
import Derived.Test.YtiejeflgefdceaaQFnExactTableSamplex6
import Derived.Test.YtiejeflgefdceaaBase
set_option linter.unusedVariables false
set_option linter.unusedSimpArgs false
namespace Go.Proofs.Ytiejeflgefdceaa.Pure
open Go.RowKit Go.Proofs.Ytiejeflgefdceaa.QFnExactTableSample Go.Proofs.YtiejeflgefdceaaW.PrintWords Go.Proofs.YtiejeflgefdceaaW.PrintLast Go.Proofs.YtiejeflgefdceaaW.PrintMore Go.Proofs.Ytiejeflgefdceaa.Base

theorem laws_toIntS_l : ∀ (k i : Nat) (l acc : List Int), l.length ≤ 4611686018427387904 → acc.length = l.length → i ≤ l.length → l.length < i + k → (∀ j, j < i → acc[j]? = l[j]?) → laws_toIntS.l0 k l acc (i : Int) = some l
  | 0, i, l, acc, _, _, _, hk, _ => by omega
  | k + 1, i, l, acc, hn, hl, hi, hk, hj => by
    simp only [laws_toIntS.l0]
    by_cases h : i < l.length
    · rw [if_pos (by omega), if_pos (by omega), if_pos (by omega), rd_nat l i h, w64_nat (by omega)]
      refine laws_toIntS_l k (i + 1) l _ hn (by simp [hl]) (by omega) (by omega) fun j hj' => ?_
      rw [List.getElem?_set]
      by_cases e : i = j
      · subst e
        simp [h, hl]
      · simp only [Int.toNat_natCast]
        rw [if_neg e]
        exact hj j (by omega)
    · rw [if_neg (by omega)]
      congr 1
      refine List.ext_getElem? fun j => ?_
      by_cases e : j < i
      · exact hj j e
      · rw [List.getElem?_eq_none (by omega), List.getElem?_eq_none (by omega)]
theorem laws_toIntS_is (k : Nat) (l : List Int) (hn : l.length ≤ 35184372088832) (hk : l.length < k) : laws_toIntS.f k l = some l := by
  unfold laws_toIntS.f
  rw [if_pos (by omega), if_pos (by omega)]
  exact laws_toIntS_l k 0 l _ (by omega) (by simp) (by omega) (by omega) fun j hj => by omega
theorem laws_eqIntS_l : ∀ (k i : Nat) (l r : List Int), l.length ≤ 4611686018427387904 → r.length = l.length → i ≤ l.length → l.length < i + k → laws_eqIntS.l0 k l r (i : Int) = some (decide (l.drop i = r.drop i))
  | 0, i, l, r, _, _, _, hk => by omega
  | k + 1, i, l, r, hn, hl, hi, hk => by
    simp only [laws_eqIntS.l0]
    by_cases h : i < l.length
    · rw [if_pos (by omega), if_pos (by omega), if_pos (by omega), rd_nat l i h, rd_nat r i (by omega), w64_nat (by omega), laws_eqIntS_l k (i + 1) l r hn hl (by omega) (by omega), List.drop_eq_getElem_cons h, List.drop_eq_getElem_cons (show i < r.length by omega)]
      by_cases e : l[i] = r[i]'(by omega)
      · rw [if_pos e, e]
        simp only [List.cons.injEq, true_and]
      · rw [if_neg e]
        simp only [List.cons.injEq, e, false_and, decide_false]
    · rw [if_neg (by omega), List.drop_of_length_le (by omega), List.drop_of_length_le (by omega)]
      simp
theorem laws_eqIntS_is (k : Nat) (l r : List Int) (hn : l.length ≤ 4611686018427387904) (hk : l.length < k) : laws_eqIntS.f k l r = some (decide (l = r)) := by
  unfold laws_eqIntS.f
  by_cases h : l.length = r.length
  · rw [if_pos (by omega)]
    have := laws_eqIntS_l k 0 l r hn (by omega) (by omega) (by omega)
    simpa using this
  · rw [if_neg (by omega)]
    have : l ≠ r := fun e => h (by rw [e])
    simp [this]
theorem laws_eqIntS_same (k : Nat) (l : List Int) (hn : l.length ≤ 4611686018427387904) (hk : l.length < k) : laws_eqIntS.f k l l = some true := by
  rw [laws_eqIntS_is k l l hn hk]
  simp
theorem laws_markIntS_l : ∀ (k : Nat) (post pre : List Int) (a : Int), -4611686018427387904 ≤ a → a + post.length ≤ 4611686018427387904 → pre.length + post.length ≤ 4611686018427387904 → post.length < k → laws_markIntS.l0 k (pre ++ post) a (pre.length : Int) = some (a + post.length, pre ++ marks a post.length)
  | 0, _, _, _, _, _, _, hk => by omega
  | k + 1, [], pre, a, _, _, _, _ => by
    simp only [laws_markIntS.l0]
    rw [if_neg (by simp)]
    simp [marks]
  | k + 1, x :: post, pre, a, h1, h2, h3, hk => by
    simp only [laws_markIntS.l0]
    simp only [List.length_cons] at h2 h3 hk
    rw [if_pos (by simp; omega), if_pos (by omega), w64_nat (by omega), w64 (by omega) (by omega)]
    rw [set_mid pre post x a _ (by simp)]
    have := laws_markIntS_l k post (pre ++ [a]) (a + 1) (by omega) (by omega) (by simp; omega) (by omega)
    simp only [List.append_assoc, List.singleton_append, List.length_append, List.length_cons, List.length_nil, Nat.zero_add] at this
    rw [this]
    simp only [List.length_cons, marks]
    congr 2
    omega
theorem laws_markIntS_is (k : Nat) (l : List Int) (a : Int) (h1 : -4611686018427387904 ≤ a) (h2 : a + l.length ≤ 4611686018427387904) (h3 : l.length ≤ 4611686018427387904) (hk : l.length < k) : laws_markIntS.f k l a = some (a + l.length, marks a l.length) := by
  unfold laws_markIntS.f
  exact laws_markIntS_l k l [] a h1 h2 (by simpa using h3) hk
theorem laws_eqIntSS_l : ∀ (k i : Nat) (l : List (List Int)), l.length ≤ 1048576 → (∀ r ∈ l, r.length ≤ 1048576) → i ≤ l.length → l.length + 1048576 < i + k → laws_eqIntSS.l0 k l l (i : Int) = some true
  | 0, i, l, _, _, _, hk => by omega
  | k + 1, i, l, hn, hr, hi, hk => by
    simp only [laws_eqIntSS.l0]
    by_cases h : i < l.length
    · have e : rd_L1 l (i : Int) = l[i] := by simp [rd_L1, h]
      have hx := hr l[i] (List.getElem_mem h)
      rw [if_pos (by omega), if_pos (by omega), if_pos (by omega), e, laws_eqIntS_same k l[i] (by omega) (by omega)]
      simp only [Option.bind_some, if_true]
      rw [w64_nat (by omega)]
      exact laws_eqIntSS_l k (i + 1) l hn hr (by omega) (by omega)
    · rw [if_neg (by omega)]
theorem laws_eqIntSS_same (k : Nat) (l : List (List Int)) (hn : l.length ≤ 1048576) (hr : ∀ r ∈ l, r.length ≤ 1048576) (hk : 2097152 < k) : laws_eqIntSS.f k l l = some true := by
  unfold laws_eqIntSS.f
  rw [if_pos rfl]
  exact laws_eqIntSS_l k 0 l hn hr (by omega) (by omega)
theorem laws_eqSample_same (k : Nat) (l : List (List Int)) (m : List Int) (hn : l.length ≤ 1048576) (hr : ∀ r ∈ l, r.length ≤ 1048576) (hm : m.length ≤ 1048576) (hk : 2097152 < k) : laws_eqSample.f k l m l m = some true := by
  unfold laws_eqSample.f
  rw [laws_eqIntSS_same k l hn hr hk, laws_eqIntS_same k m (by omega) (by omega)]
  rfl
theorem spec_l1In_is (a lo hi : Int) : spec_l1In.f a lo hi = some (inB lo hi a) := by
  unfold spec_l1In.f
  exact within_is a lo hi
theorem spec_l2Table_l : ∀ (k i : Nat) (l : List Int), l.length ≤ 4611686018427387904 → i ≤ l.length → l.length < i + k → spec_l2Table.l0 k l (i : Int) = some ((l.drop i).all (inB 0 1))
  | 0, _, _, _, _, hk => by omega
  | k + 1, i, l, hn, hi', hk => by
    simp only [spec_l2Table.l0]
    by_cases h : i < l.length
    · rw [if_pos (by omega), if_pos (by omega), spec_l1In_is, rd_nat l i h, w64_nat (by omega), List.drop_eq_getElem_cons h, List.all_cons, spec_l2Table_l k (i + 1) l hn (by omega) (by omega)]
      simp only [Option.bind_some]
      by_cases e : inB 0 1 l[i] = true
      · rw [if_pos e, e]
        simp
      · rw [if_neg e]
        simp [e]
    · rw [if_neg (by omega), List.drop_of_length_le (by omega)]
      simp
theorem spec_l2Table_is (k : Nat) (n : Int) (l : List Int) (hn : l.length ≤ 4611686018427387904) (hk : l.length + 1 < k) : spec_l2Table.f k n l = some (tbB n l) := by
  obtain ⟨k, rfl⟩ : ∃ m, k = m + 1 := ⟨k - 1, by omega⟩
  unfold spec_l2Table.f tbB
  rw [spec_l1In_is]
  simp only [Option.bind_some]
  by_cases h : inB 0 4 n = true
  · have hr := inB_iff.1 h
    rw [if_pos h, if_pos hr.1, h, shl_pow n hr.1 hr.2]
    simp only [spec_l2Table.j0, Bool.true_and]
    by_cases e : (l.length : Int) = 2 ^ n.toNat
    · have := spec_l2Table_l k 0 l hn (by omega) (by omega)
      rw [show ((0 : Nat) : Int) = 0 from rfl] at this
      rw [if_neg (by simp [e]), this]
      simp [e]
    · rw [if_pos (by simpa using e)]
      simp [e]
  · rw [if_neg h]
    simp [spec_l2Table.j0, h]
theorem spec_l2BitPoint_l (x : Int) : ∀ (k j i : Nat) (acc : List Int), i + j ≤ 64 → j < k → acc.length ≤ i → spec_l2BitPoint.l0 k ((i + j : Nat) : Int) x acc (i : Int) = some (acc ++ bitsFrom x i j)
  | 0, _, _, _, _, hk, _ => by omega
  | k + 1, 0, i, acc, _, _, _ => by
    simp only [spec_l2BitPoint.l0]
    rw [if_neg (by omega)]
    simp [bitsFrom]
  | k + 1, j + 1, i, acc, h, hk, ha => by
    simp only [spec_l2BitPoint.l0]
    rw [if_pos (by omega), if_pos (by omega), if_pos (by omega), w64_nat (by omega)]
    have := spec_l2BitPoint_l x k j (i + 1) (acc ++ [Go.bits .and .i64 (shr .i64 x i) 1]) (by omega) (by omega) (by simp; omega)
    rw [show i + 1 + j = i + (j + 1) by omega] at this
    rw [this]
    simp [bitsFrom]
theorem spec_l2BitPoint_is (k n : Nat) (x : Int) (hn : n ≤ 64) (hk : n < k) : spec_l2BitPoint.f k (n : Int) x = some (bitsFrom x 0 n) := by
  unfold spec_l2BitPoint.f
  have := spec_l2BitPoint_l x k n 0 [] (by omega) hk (by simp)
  simpa using this
theorem impl_within_is (a lo hi : Int) : impl_within.f a lo hi = some (inB lo hi a) := by
  unfold impl_within.f
  exact within_is a lo hi
theorem impl_allWithin_l : ∀ (k i : Nat) (l : List Int) (lo hi : Int), l.length ≤ 4611686018427387904 → i ≤ l.length → l.length < i + k → impl_allWithin.l0 k lo hi l (l.length : Int) (i : Int) = some ((l.drop i).all (inB lo hi))
  | 0, _, _, _, _, _, _, hk => by omega
  | k + 1, i, l, lo, hi, hn, hi', hk => by
    simp only [impl_allWithin.l0]
    by_cases h : i < l.length
    · rw [if_pos (by omega), if_pos (by omega), if_pos (by omega), impl_within_is, rd_nat l i h, w64_nat (by omega), List.drop_eq_getElem_cons h, List.all_cons, impl_allWithin_l k (i + 1) l lo hi hn (by omega) (by omega)]
      simp only [Option.bind_some]
      by_cases e : inB lo hi l[i] = true
      · rw [if_pos e, e]
        simp
      · rw [if_neg e]
        simp [e]
    · rw [if_neg (by omega), List.drop_of_length_le (by omega)]
      simp
theorem impl_allWithin_is (k : Nat) (l : List Int) (lo hi : Int) (hn : l.length ≤ 4611686018427387904) (hk : l.length < k) : impl_allWithin.f k l lo hi = some (l.all (inB lo hi)) := by
  unfold impl_allWithin.f
  have := impl_allWithin_l k 0 l lo hi hn (by omega) (by omega)
  simpa using this
theorem impl_isTable_is (k : Nat) (n : Int) (l : List Int) (hn : l.length ≤ 4611686018427387904) (hk : l.length < k) : impl_isTable.f k n l = some (tbB n l) := by
  unfold impl_isTable.f tbB
  rw [impl_within_is, impl_allWithin_is k l 0 1 hn hk]
  simp only [Option.bind_some]
  by_cases h : inB 0 4 n = true
  · have hr := inB_iff.1 h
    rw [if_pos h, if_pos hr.1, h, shl_pow n hr.1 hr.2]
    by_cases e : (l.length : Int) = 2 ^ n.toNat
    · rw [if_pos e]
      simp [e]
    · rw [if_neg e]
      simp [e]
  · rw [if_neg h]
    simp [h]
theorem impl_bitPoint_l (x : Int) : ∀ (k j i : Nat) (acc : List Int), i + j ≤ 64 → j < k → acc.length ≤ i → impl_bitPoint.l0 k x acc ((i + j : Nat) : Int) (i : Int) = some (acc ++ bitsFrom x i j)
  | 0, _, _, _, _, hk, _ => by omega
  | k + 1, 0, i, acc, _, _, _ => by
    simp only [impl_bitPoint.l0]
    rw [if_neg (by omega)]
    simp [bitsFrom]
  | k + 1, j + 1, i, acc, h, hk, ha => by
    simp only [impl_bitPoint.l0]
    rw [if_pos (by omega), if_pos (by omega), if_pos (by omega), w64_nat (by omega)]
    have := impl_bitPoint_l x k j (i + 1) (acc ++ [Go.bits .and .i64 (shr .i64 x i) 1]) (by omega) (by omega) (by simp; omega)
    rw [show i + 1 + j = i + (j + 1) by omega] at this
    rw [this]
    simp [bitsFrom]
theorem impl_bitPoint_is (k n : Nat) (x : Int) (hn : n ≤ 64) (hk : n < k) : impl_bitPoint.f k (n : Int) x = some (bitsFrom x 0 n) := by
  unfold impl_bitPoint.f
  have := impl_bitPoint_l x k n 0 [] (by omega) hk (by simp)
  simpa using this
theorem laws_markIntSS_l : ∀ (m k i : Nat) (l : List (List Int)) (a : Int), i + m = l.length → l.length ≤ 1048576 → (∀ r ∈ l, r.length ≤ 1048576) → 0 ≤ a → a + m * 1048576 ≤ 4611686018427387904 → 1048576 + m < k → ∃ v l', laws_markIntSS.l0 k l a (i : Int) = some (v, l') ∧ a ≤ v ∧ v ≤ a + m * 1048576
  | 0, k, i, l, a, hi, hn, hr, ha, hb, hk => by
    obtain ⟨k, rfl⟩ : ∃ q, k = q + 1 := ⟨k - 1, by omega⟩
    rw [laws_markIntSS.l0, if_neg (by omega)]
    exact ⟨a, l, rfl, by omega, by omega⟩
  | m + 1, k, i, l, a, hi, hn, hr, ha, hb, hk => by
    obtain ⟨k, rfl⟩ : ∃ q, k = q + 1 := ⟨k - 1, by omega⟩
    have h : i < l.length := by omega
    have e : rd_L1 l (i : Int) = l[i] := by simp [rd_L1, h]
    have hx := hr l[i] (List.getElem_mem h)
    rw [laws_markIntSS.l0, if_pos (by omega), if_pos (by omega), e, laws_markIntS_is k l[i] a (by omega) (by omega) (by omega) (by omega)]
    simp only [Option.bind_some]
    rw [w64_nat (by omega)]
    obtain ⟨v, l', hv, h1, h2⟩ := laws_markIntSS_l m k (i + 1) (l.set (i : Int).toNat (marks a l[i].length)) (a + l[i].length) (by simp; omega) (by simpa using hn) (fun r hr' => by
      rcases List.mem_or_eq_of_mem_set hr' with h | rfl
      · exact hr r h
      · rw [marks_length]; omega) (by omega) (by omega) (by omega)
    exact ⟨v, l', hv, by omega, by omega⟩
theorem laws_markIntSS_tells (k : Nat) (l : List (List Int)) (hn : l.length ≤ 1048576) (hr : ∀ r ∈ l, r.length ≤ 1048576) (hk : 2097152 < k) : ∃ v l', laws_markIntSS.f k l 1 = some (v, l') ∧ 1 ≤ v ∧ v ≤ 1099511627777 := by
  unfold laws_markIntSS.f
  obtain ⟨v, l', hv, h1, h2⟩ := laws_markIntSS_l l.length k 0 l 1 (by omega) hn hr (by omega) (by omega) (by omega)
  exact ⟨v, l', hv, by omega, by omega⟩
theorem laws_markSample_tells (k : Nat) (l : List (List Int)) (m : List Int) (hn : l.length ≤ 1048576) (hr : ∀ r ∈ l, r.length ≤ 1048576) (hm : m.length ≤ 1048576) (hk : 2097152 < k) : ∃ v l' m', laws_markSample.f k l m 1 = some (v, l', m') ∧ 1 ≤ v ∧ v ≤ 1099512676353 := by
  unfold laws_markSample.f
  obtain ⟨v, l', hv, h1, h2⟩ := laws_markIntSS_tells k l hn hr hk
  rw [hv, Option.bind_some, laws_markIntS_is k m v (by omega) (by omega) (by omega) (by omega)]
  exact ⟨_, _, _, rfl, by omega, by omega⟩
theorem laws_heldIntS_l : ∀ (k n i : Nat) (a b : Int), -4611686018427387904 ≤ a → a + n ≤ 4611686018427387904 → n ≤ 4611686018427387904 → i ≤ n → n < i + k → b = a + i → laws_heldIntS.l0 k (marks a n) b (i : Int) = some (a + n)
  | 0, _, _, _, _, _, _, _, _, hk, _ => by omega
  | k + 1, n, i, a, b, h1, h2, h3, hi, hk, hb => by
    simp only [laws_heldIntS.l0, marks_length]
    by_cases h : i < n
    · rw [if_pos (by omega), if_pos (by omega), rd_nat _ i (by rw [marks_length]; exact h), marks_get, if_pos hb.symm, w64_nat (by omega), w64 (by omega) (by omega)]
      exact laws_heldIntS_l k n (i + 1) a _ h1 h2 h3 (by omega) (by omega) (by omega)
    · rw [if_neg (by omega)]
      congr 1
      omega
theorem laws_heldIntS_is (k n : Nat) (a : Int) (h1 : -4611686018427387904 ≤ a) (h2 : a + n ≤ 4611686018427387904) (h3 : n ≤ 4611686018427387904) (hk : n < k) : laws_heldIntS.f k (marks a n) a = some (a + n) := by
  unfold laws_heldIntS.f
  exact laws_heldIntS_l k n 0 a a h1 h2 h3 (by omega) (by omega) (by omega)
theorem ev_of {α : Type} {g : Nat → Option α} {r : α} (B : Nat) (h : ∀ k, B < k → g k = some r) : Ev g r := ⟨B + 1, fun k hk => h k (by omega)⟩
theorem ev_const {α : Type} (r : α) : Ev (fun _ => some r) r := Ev.now r
theorem ev_if_pos {α : Type} {c : Prop} [Decidable c] {f g : Nat → Option α} {r : α} (h : c) (k : Ev f r) : Ev (fun n => if c then f n else g n) r := Ev.congr (fun n => if_pos h) k
theorem ev_if_neg {α : Type} {c : Prop} [Decidable c] {f g : Nat → Option α} {r : α} (h : ¬ c) (k : Ev g r) : Ev (fun n => if c then f n else g n) r := Ev.congr (fun n => if_neg h) k
def msS : List (List Int) → Int → List (List Int)
  | [], _ => []
  | r :: rs, a => marks a r.length :: msS rs (a + r.length)
def totS : List (List Int) → Nat
  | [] => 0
  | r :: rs => r.length + totS rs
theorem msS_length : ∀ (l : List (List Int)) (a : Int), (msS l a).length = l.length
  | [], _ => rfl
  | r :: rs, a => by rw [msS, List.length_cons, List.length_cons, msS_length rs]
theorem totS_le : ∀ (l : List (List Int)), (∀ r ∈ l, r.length ≤ 1000) → totS l ≤ 1000 * l.length
  | [], _ => Nat.le_refl _
  | r :: rs, h => by
    have h1 := h r (by simp)
    have h2 := totS_le rs (fun q hq => h q (by simp [hq]))
    simp only [totS, List.length_cons]
    omega
theorem rd_mid (pre post : List (List Int)) (r : List Int) : rd_L1 (pre ++ r :: post) (pre.length : Int) = r := by simp [rd_L1]
theorem set_midS (pre post : List (List Int)) (r v : List Int) : (pre ++ r :: post).set ((pre.length : Int)).toNat v = pre ++ v :: post := by simp
theorem markSS_l : ∀ (post pre : List (List Int)) (a : Int), 0 ≤ a → (∀ r ∈ post, r.length ≤ 1000) → pre.length + post.length ≤ 100000 → a + 1000 * post.length ≤ 2000000000 → Ev (fun k => laws_markIntSS.l0 k (pre ++ post) a (pre.length : Int)) (a + totS post, pre ++ msS post a)
  | [], pre, a, _, _, _, _ => by
    refine Ev.step (f := fun _ => some (a, pre ++ [])) (fun k => ?_) ?_
    · rw [laws_markIntSS.l0, if_neg (by simp)]
    · simp only [totS, msS, Int.natCast_zero, Int.add_zero]
      exact ev_const _
  | r :: post, pre, a, ha, hr, hl, hb => by
    have h1 := hr r (by simp)
    simp only [List.length_cons] at hl hb
    have ih := markSS_l post (pre ++ [marks a r.length]) (a + r.length) (by omega) (fun q hq => hr q (by simp [hq])) (by rw [List.length_append, List.length_singleton]; omega) (by omega)
    rw [List.append_assoc, List.singleton_append, List.length_append, List.length_singleton] at ih
    have hm : Ev (fun k => laws_markIntS.f k r a) (a + r.length, marks a r.length) := ev_of r.length (fun k hk => laws_markIntS_is k r a (by omega) (by omega) (by omega) hk)
    refine Ev.step (f := fun k => (laws_markIntS.f k r a).bind fun bt => laws_markIntSS.l0 k ((pre ++ r :: post).set ((pre.length : Int)).toNat bt.2) bt.1 ((pre.length + 1 : Nat) : Int)) (fun k => ?_) ?_
    · rw [laws_markIntSS.l0, if_pos (by rw [List.length_append, List.length_cons]; omega), if_pos (by omega), rd_mid, w64_nat (by omega)]
    · refine Ev.bind hm ?_
      have e1 : totS (r :: post) = r.length + totS post := rfl
      have e2 : a + ((totS (r :: post) : Nat) : Int) = a + (r.length : Int) + ((totS post : Nat) : Int) := by rw [e1]; omega
      rw [e2, msS]
      rw [show (pre ++ r :: post).set ((pre.length : Int)).toNat (a + (r.length : Int), marks a r.length).2 = pre ++ marks a r.length :: post from set_midS pre post r _]
      rw [List.append_assoc, List.singleton_append] at ih
      exact ih
theorem heldSS_l : ∀ (post : List (List Int)) (pre : List (List Int)) (a : Int), 0 ≤ a → (∀ r ∈ post, r.length ≤ 1000) → pre.length + post.length ≤ 100000 → a + 1000 * post.length ≤ 2000000000 → Ev (fun k => laws_heldIntSS.l0 k (pre ++ msS post a) a (pre.length : Int)) (a + totS post)
  | [], pre, a, _, _, _, _ => by
    refine Ev.step (f := fun _ => some a) (fun k => ?_) ?_
    · rw [laws_heldIntSS.l0, if_neg (by simp [msS])]
    · simp only [totS, Int.natCast_zero, Int.add_zero]
      exact ev_const _
  | r :: post, pre, a, ha, hr, hl, hb => by
    have h1 := hr r (by simp)
    simp only [List.length_cons] at hl hb
    have ih := heldSS_l post (pre ++ [marks a r.length]) (a + r.length) (by omega) (fun q hq => hr q (by simp [hq])) (by rw [List.length_append, List.length_singleton]; omega) (by omega)
    rw [List.append_assoc, List.singleton_append, List.length_append, List.length_singleton] at ih
    have hm : Ev (fun k => laws_heldIntS.f k (marks a r.length) a) (a + r.length) := ev_of r.length (fun k hk => laws_heldIntS_is k r.length a (by omega) (by omega) (by omega) hk)
    rw [msS]
    refine Ev.step (f := fun k => (laws_heldIntS.f k (marks a r.length) a).bind fun t => if t < 0 then some (-1) else laws_heldIntSS.l0 k (pre ++ marks a r.length :: msS post (a + r.length)) t ((pre.length + 1 : Nat) : Int)) (fun k => ?_) ?_
    · rw [laws_heldIntSS.l0, if_pos (by rw [List.length_append, List.length_cons]; omega), if_pos (by omega), rd_mid, w64_nat (by omega)]
    · refine Ev.bind hm (ev_if_neg (by omega) ?_)
      have e2 : a + ((totS (r :: post) : Nat) : Int) = a + (r.length : Int) + ((totS post : Nat) : Int) := by simp only [totS]; omega
      rw [e2]
      exact ih
/-- What a sample's rows are marked with, and held. -/
theorem markHeld_ev (ps : List (List Int)) (ls : List Int) (hr : ∀ r ∈ ps, r.length ≤ 1000) (hp : ps.length ≤ 100000) (hl : ls.length ≤ 100000) :
    ∃ (v : Int) (ms : List (List Int)) (mk : List Int), 1 ≤ v ∧ Ev (fun k => laws_markSample.f k ps ls 1) (v, ms, mk) ∧ Ev (fun k => laws_heldSample.f k ms mk 1) v := by
  have ht := totS_le ps hr
  have m1 := markSS_l ps [] 1 (by omega) hr (by simpa using hp) (by omega)
  have h1 := heldSS_l ps [] 1 (by omega) hr (by simpa using hp) (by omega)
  simp only [List.nil_append, List.length_nil, Int.natCast_zero] at m1 h1
  have m2 : Ev (fun k => laws_markIntS.f k ls (1 + (totS ps : Int))) (1 + (totS ps : Int) + ls.length, marks (1 + (totS ps : Int)) ls.length) := ev_of ls.length (fun k hk => laws_markIntS_is k ls _ (by omega) (by omega) (by omega) hk)
  have h2 : Ev (fun k => laws_heldIntS.f k (marks (1 + (totS ps : Int)) ls.length) (1 + (totS ps : Int))) (1 + (totS ps : Int) + ls.length) := ev_of ls.length (fun k hk => laws_heldIntS_is k ls.length _ (by omega) (by omega) (by omega) hk)
  refine ⟨1 + (totS ps : Int) + ls.length, msS ps 1, marks (1 + (totS ps : Int)) ls.length, by omega, ?_, ?_⟩
  · unfold laws_markSample.f laws_markIntSS.f
    exact Ev.bind m1 (Ev.bind m2 (ev_const _))
  · unfold laws_heldSample.f laws_heldIntSS.f
    exact Ev.bind h1 (ev_if_neg (by omega) (Ev.bind h2 (ev_if_neg (by omega) (ev_const _))))
theorem eqSam_ev (ps : List (List Int)) (ls : List Int) (hr : ∀ r ∈ ps, r.length ≤ 1000) (hp : ps.length ≤ 100000) (hl : ls.length ≤ 100000) : Ev (fun k => laws_eqSample.f k ps ls ps ls) true :=
  ev_of 2097152 (fun k hk => laws_eqSample_same k ps ls (by omega) (fun r h => Nat.le_trans (hr r h) (by omega)) (by omega) hk)
def tsP (n : Int) (l : List Int) : List (List Int) := (List.range' 0 l.length).map fun i => bitsFrom ((i : Nat) : Int) 0 n.toNat
def tsL (l : List Int) : List Int := l.map fun b => 2 * b - 1
def tsR (n : Int) (l : List Int) : List (List Int) × List Int × Bool := if 1 ≤ n ∧ tbB n l = true then (tsP n l, tsL l, true) else ([], [], false)
theorem ts_bit {l : List Int} (h : l.all (inB 0 1) = true) (i : Nat) (hi : i < l.length) : 0 ≤ l[i] ∧ l[i] ≤ 1 := inB_iff.1 (List.all_eq_true.1 h _ (List.getElem_mem hi))
theorem told_l (n : Nat) (hn : n ≤ 64) (l : List Int) (hl : l.length ≤ 16) (hb : l.all (inB 0 1) = true) : ∀ (m i : Nat) (A : List (List Int)) (B : List Int), i + m = l.length → A.length = i → B.length = i →
    Ev (fun k => spec_l2Told.l0 k (n : Int) l (i : Int) A B) (A ++ (List.range' i m).map (fun j => bitsFrom ((j : Nat) : Int) 0 n), B ++ (l.drop i).map (fun b => 2 * b - 1))
  | 0, i, A, B, hi, _, _ => by
    rw [show l.drop i = [] from List.drop_of_length_le (by omega)]
    refine Ev.step (f := fun _ => some (A, B)) (fun k => ?_) ?_
    · rw [spec_l2Told.l0, if_neg (by omega)]
    · simp only [List.range'_zero, List.map_nil, List.append_nil]
      exact ev_const _
  | m + 1, i, A, B, hi, hA, hB => by
    have h : i < l.length := by omega
    have hx := ts_bit hb i h
    have ih := told_l n hn l hl hb m (i + 1) (A ++ [bitsFrom ((i : Nat) : Int) 0 n]) (B ++ [2 * l[i] - 1]) (by omega) (by rw [List.length_append, List.length_singleton]; omega) (by rw [List.length_append, List.length_singleton]; omega)
    have hp : Ev (fun k => spec_l2BitPoint.f k (n : Int) (i : Int)) (bitsFrom (i : Int) 0 n) := ev_of n (fun k hk => spec_l2BitPoint_is k n _ hn hk)
    refine Ev.step (f := fun k => (spec_l2BitPoint.f k (n : Int) (i : Int)).bind fun t => spec_l2Told.l0 k (n : Int) l ((i + 1 : Nat) : Int) (A ++ [t]) (B ++ [2 * l[i] - 1])) (fun k => ?_) ?_
    · rw [spec_l2Told.l0, if_pos (by omega)]
      congr 1
      funext t
      rw [if_pos (by omega), if_pos (by omega), if_pos (by omega), rd_nat l i h, w64_nat (by omega), w64 (show -9223372036854775808 ≤ 2 * l[i] by omega) (by omega), w64 (by omega) (by omega)]
    · refine Ev.bind hp ?_
      rw [List.append_assoc, List.singleton_append, List.append_assoc, List.singleton_append] at ih
      rw [List.range'_succ, List.drop_eq_getElem_cons h]
      exact ih
theorem impl_l (n : Nat) (hn : n ≤ 64) (l : List Int) (hl : l.length ≤ 16) (hb : l.all (inB 0 1) = true) : ∀ (m i : Nat) (A : List (List Int)) (B : List Int), i + m = l.length → A.length = i → B.length = i →
    Ev (fun k => impl_TableSample.l0 k (n : Int) l (l.length : Int) (i : Int) A B) (A ++ (List.range' i m).map (fun j => bitsFrom ((j : Nat) : Int) 0 n), B ++ (l.drop i).map (fun b => 2 * b - 1), true)
  | 0, i, A, B, hi, _, _ => by
    rw [show l.drop i = [] from List.drop_of_length_le (by omega)]
    refine Ev.step (f := fun _ => some (A, B, true)) (fun k => ?_) ?_
    · rw [impl_TableSample.l0, if_neg (by omega)]
    · simp only [List.range'_zero, List.map_nil, List.append_nil]
      exact ev_const _
  | m + 1, i, A, B, hi, hA, hB => by
    have h : i < l.length := by omega
    have hx := ts_bit hb i h
    have ih := impl_l n hn l hl hb m (i + 1) (A ++ [bitsFrom ((i : Nat) : Int) 0 n]) (B ++ [2 * l[i] - 1]) (by omega) (by rw [List.length_append, List.length_singleton]; omega) (by rw [List.length_append, List.length_singleton]; omega)
    have hp : Ev (fun k => impl_bitPoint.f k (n : Int) (i : Int)) (bitsFrom (i : Int) 0 n) := ev_of n (fun k hk => impl_bitPoint_is k n _ hn hk)
    refine Ev.step (f := fun k => (impl_bitPoint.f k (n : Int) (i : Int)).bind fun t => impl_TableSample.l0 k (n : Int) l (l.length : Int) ((i + 1 : Nat) : Int) (A ++ [t]) (B ++ [2 * l[i] - 1])) (fun k => ?_) ?_
    · rw [impl_TableSample.l0, if_pos (by omega), if_pos (by omega), if_pos (by omega)]
      congr 1
      funext t
      simp only [Option.bind_some, List.length_singleton]
      rw [if_pos (by omega), if_pos (by omega), rd_nat l i h, w64_nat (by omega), w64 (show -9223372036854775808 ≤ 2 * l[i] by omega) (by omega), w64 (by omega) (by omega)]
    · refine Ev.bind hp ?_
      rw [List.append_assoc, List.singleton_append, List.append_assoc, List.singleton_append] at ih
      rw [List.range'_succ, List.drop_eq_getElem_cons h]
      exact ih
theorem spec_ts (n : Int) (l : List Int) (hl : l.length ≤ 1048576) : Ev (fun k => spec_TableSample.f k n l) (tsR n l) := by
  unfold spec_TableSample.f tsR
  have ht : Ev (fun k => spec_l2Table.f k n l) (tbB n l) := ev_of (l.length + 1) (fun k hk => spec_l2Table_is k n l (by omega) hk)
  by_cases c : n < 1
  · rw [if_neg (by omega)]
    exact ev_if_pos c (ev_const _)
  · refine ev_if_neg c (Ev.bind ht ?_)
    by_cases d : tbB n l = true
    · obtain ⟨h0, h4, _, h16, hb⟩ := tbB_parts d
      obtain ⟨m, rfl⟩ := Int.eq_ofNat_of_zero_le h0
      have e := told_l m (by omega) l h16 hb l.length 0 [] [] (by omega) rfl rfl
      rw [if_pos ⟨by omega, d⟩]
      refine ev_if_pos d ?_
      unfold spec_l2Told.f
      exact Ev.bind e (ev_const _)
    · rw [if_neg (fun h => d h.2)]
      exact ev_if_neg d (ev_const _)
theorem impl_ts (n : Int) (l : List Int) (hl : l.length ≤ 1048576) : Ev (fun k => impl_TableSample.f k n l) (tsR n l) := by
  unfold impl_TableSample.f tsR
  have ht : Ev (fun k => impl_isTable.f k n l) (tbB n l) := ev_of l.length (fun k hk => impl_isTable_is k n l (by omega) hk)
  have no : Ev (fun k => impl_TableSample.j0 k n l true) ([], [], false) := by
    refine Ev.step (f := fun _ => some ([], [], false)) (fun k => ?_) (ev_const _)
    rw [impl_TableSample.j0, if_pos rfl]
  by_cases c : n = 0
  · rw [if_neg (by omega)]
    exact ev_if_pos c no
  · refine ev_if_neg c (Ev.bind ht ?_)
    by_cases d : tbB n l = true
    · obtain ⟨h0, h4, _, h16, hb⟩ := tbB_parts d
      obtain ⟨m, rfl⟩ := Int.eq_ofNat_of_zero_le h0
      have e := impl_l m (by omega) l h16 hb l.length 0 [] [] (by omega) rfl rfl
      rw [if_pos ⟨by omega, d⟩, d]
      refine Ev.step (f := fun k => impl_TableSample.l0 k (m : Int) l (l.length : Int) 0 [] []) (fun k => ?_) e
      rw [impl_TableSample.j0, if_neg (by simp)]
    · rw [if_neg (fun h => d h.2)]
      have d' : tbB n l = false := by simpa using d
      rw [d']
      exact no
theorem tsR_small (n : Int) (l : List Int) : (∀ r ∈ (tsR n l).1, r.length ≤ 1000) ∧ (tsR n l).1.length ≤ 100000 ∧ (tsR n l).2.1.length ≤ 100000 := by
  unfold tsR
  by_cases d : 1 ≤ n ∧ tbB n l = true
  · obtain ⟨h0, h4, _, h16, hb⟩ := tbB_parts d.2
    rw [if_pos d]
    refine ⟨fun r hr => ?_, ?_, ?_⟩
    · obtain ⟨i, _, rfl⟩ := List.mem_map.1 hr
      rw [bitsFrom_length]
      omega
    · simp only [tsP, List.length_map, List.length_range']
      omega
    · simp only [tsL, List.length_map]
      omega
  · rw [if_neg d]
    simp
theorem FnExactTableSample : ∀ (a0 : Int) (l1 : List Int), (Lit.int .i64 a0).wf = true → l1.length ≤ maxLen → (∀ x ∈ l1, (Lit.int .i64 x).wf = true) → ∃ k, laws_FnExactTableSample.f k a0 l1 = some true := by
  intro n l _ _ _
  refine Ev.rounds (g := fun k => laws_FnExactTableSample.f k n l) ?_
  unfold laws_FnExactTableSample.f
  by_cases c : (l.length : Int) > 1048576
  · exact ev_if_pos c (ev_const _)
  refine ev_if_neg c ?_
  have t := (ev_of l.length (fun k hk => laws_toIntS_is k l (by omega) hk) : Ev (fun k => laws_toIntS.f k l) l)
  have s := spec_ts n l (by omega)
  have g := impl_ts n l (by omega)
  obtain ⟨z1, z2, z3⟩ := tsR_small n l
  generalize tsR n l = R at s g z1 z2 z3
  obtain ⟨ps, ls, b⟩ := R
  have es := eqSam_ev ps ls z1 z2 z3
  have el := (ev_of l.length (fun k hk => laws_eqIntS_same k l (by omega) hk) : Ev (fun k => laws_eqIntS.f k l l) true)
  have ml := (ev_of l.length (fun k hk => laws_markIntS_is k l 1 (by omega) (by omega) (by omega) hk) : Ev (fun k => laws_markIntS.f k l 1) (1 + l.length, marks 1 l.length))
  obtain ⟨v, ms, mk, hv, hm, hh⟩ := markHeld_ev ps ls z1 z2 z3
  refine Ev.bind t (Ev.bind s (Ev.bind t (Ev.bind g (Ev.bind es (ev_if_pos rfl ?_)))))
  refine Ev.step (fun k => by rw [laws_FnExactTableSample.j0, if_neg (by simp)]) (Ev.bind t (Ev.bind el (ev_if_pos rfl (Ev.bind ml (ev_if_neg (by show ¬ ((1 : Int) + (l.length : Int)) < 0; omega) (Ev.bind es (ev_if_pos rfl ?_)))))))
  refine Ev.step (fun k => by rw [laws_FnExactTableSample.j1, if_neg (by simp)]) (Ev.bind hm (Ev.bind hh (ev_if_neg (show ¬ v < 0 by omega) (ev_if_pos rfl (Ev.bind t (Ev.bind g (Ev.bind es (ev_if_pos rfl ?_))))))))
  exact Ev.step (fun k => by rw [laws_FnExactTableSample.j2, if_neg (by simp)]) (Ev.bind hh (ev_if_neg (show ¬ v < 0 by omega) (ev_if_pos rfl (ev_const _))))

end Go.Proofs.Ytiejeflgefdceaa.Pure
