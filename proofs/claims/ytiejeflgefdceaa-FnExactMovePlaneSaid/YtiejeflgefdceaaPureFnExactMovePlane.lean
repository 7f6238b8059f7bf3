/- Proved: the law FnExactMovePlane answers true for every plane and list of whole numbers; no condition. -/
import Derived.Test.YtiejeflgefdceaaPFnExactMovePlanex5
import Derived.Test.YtiejeflgefdceaaBase
set_option linter.unusedVariables false
set_option linter.unusedSimpArgs false
namespace Go.Proofs.Ytiejeflgefdceaa.Pure
open Go.RowKit Go.Proofs.Ytiejeflgefdceaa.PFnExactMovePlane Go.Proofs.YtiejeflgefdceaaW.PrintWords Go.Proofs.YtiejeflgefdceaaW.PrintLast Go.Proofs.YtiejeflgefdceaaW.PrintMore Go.Proofs.Ytiejeflgefdceaa.Base

theorem laws_toIntS_l : ∀ (k i : Nat) (l acc : List Int), l.length ≤ 4611686018427387904 → acc.length = l.length → i ≤ l.length → l.length < i + k → (∀ j, j < i → acc[j]? = l[j]?) → laws_toIntS.l0 k l acc (i : Int) = some l
  | 0, i, l, acc, _, _, _, hk, _ => by omega
  | k + 1, i, l, acc, hn, hl, hi, hk, hj => by
    simp only [laws_toIntS.l0]
    by_cases h : i < l.length
    · rw [if_pos (by omega), if_pos (by omega), if_pos (by omega), rd_nat l i h, w64_nat (by omega)]
      refine laws_toIntS_l k (i + 1) l _ hn (by simp [hl]) (by omega) (by omega) fun j hj' => ?_
      rw [List.getElem?_set]
      by_cases e : i = j
      · subst e
        simp [h, hl]
      · simp only [Int.toNat_natCast]
        rw [if_neg e]
        exact hj j (by omega)
    · rw [if_neg (by omega)]
      congr 1
      refine List.ext_getElem? fun j => ?_
      by_cases e : j < i
      · exact hj j e
      · rw [List.getElem?_eq_none (by omega), List.getElem?_eq_none (by omega)]
theorem laws_toIntS_is (k : Nat) (l : List Int) (hn : l.length ≤ 35184372088832) (hk : l.length < k) : laws_toIntS.f k l = some l := by
  unfold laws_toIntS.f
  rw [if_pos (by omega), if_pos (by omega)]
  exact laws_toIntS_l k 0 l _ (by omega) (by simp) (by omega) (by omega) fun j hj => by omega
theorem laws_eqIntS_l : ∀ (k i : Nat) (l r : List Int), l.length ≤ 4611686018427387904 → r.length = l.length → i ≤ l.length → l.length < i + k → laws_eqIntS.l0 k l r (i : Int) = some (decide (l.drop i = r.drop i))
  | 0, i, l, r, _, _, _, hk => by omega
  | k + 1, i, l, r, hn, hl, hi, hk => by
    simp only [laws_eqIntS.l0]
    by_cases h : i < l.length
    · rw [if_pos (by omega), if_pos (by omega), if_pos (by omega), rd_nat l i h, rd_nat r i (by omega), w64_nat (by omega), laws_eqIntS_l k (i + 1) l r hn hl (by omega) (by omega), List.drop_eq_getElem_cons h, List.drop_eq_getElem_cons (show i < r.length by omega)]
      by_cases e : l[i] = r[i]'(by omega)
      · rw [if_pos e, e]
        simp only [List.cons.injEq, true_and]
      · rw [if_neg e]
        simp only [List.cons.injEq, e, false_and, decide_false]
    · rw [if_neg (by omega), List.drop_of_length_le (by omega), List.drop_of_length_le (by omega)]
      simp
theorem laws_eqIntS_is (k : Nat) (l r : List Int) (hn : l.length ≤ 4611686018427387904) (hk : l.length < k) : laws_eqIntS.f k l r = some (decide (l = r)) := by
  unfold laws_eqIntS.f
  by_cases h : l.length = r.length
  · rw [if_pos (by omega)]
    have := laws_eqIntS_l k 0 l r hn (by omega) (by omega) (by omega)
    simpa using this
  · rw [if_neg (by omega)]
    have : l ≠ r := fun e => h (by rw [e])
    simp [this]
theorem laws_eqIntS_same (k : Nat) (l : List Int) (hn : l.length ≤ 4611686018427387904) (hk : l.length < k) : laws_eqIntS.f k l l = some true := by
  rw [laws_eqIntS_is k l l hn hk]
  simp
theorem laws_markIntS_l : ∀ (k : Nat) (post pre : List Int) (a : Int), -4611686018427387904 ≤ a → a + post.length ≤ 4611686018427387904 → pre.length + post.length ≤ 4611686018427387904 → post.length < k → laws_markIntS.l0 k (pre ++ post) a (pre.length : Int) = some (a + post.length, pre ++ marks a post.length)
  | 0, _, _, _, _, _, _, hk => by omega
  | k + 1, [], pre, a, _, _, _, _ => by
    simp only [laws_markIntS.l0]
    rw [if_neg (by simp)]
    simp [marks]
  | k + 1, x :: post, pre, a, h1, h2, h3, hk => by
    simp only [laws_markIntS.l0]
    simp only [List.length_cons] at h2 h3 hk
    rw [if_pos (by simp; omega), if_pos (by omega), w64_nat (by omega), w64 (by omega) (by omega)]
    rw [set_mid pre post x a _ (by simp)]
    have := laws_markIntS_l k post (pre ++ [a]) (a + 1) (by omega) (by omega) (by simp; omega) (by omega)
    simp only [List.append_assoc, List.singleton_append, List.length_append, List.length_cons, List.length_nil, Nat.zero_add] at this
    rw [this]
    simp only [List.length_cons, marks]
    congr 2
    omega
theorem laws_markIntS_is (k : Nat) (l : List Int) (a : Int) (h1 : -4611686018427387904 ≤ a) (h2 : a + l.length ≤ 4611686018427387904) (h3 : l.length ≤ 4611686018427387904) (hk : l.length < k) : laws_markIntS.f k l a = some (a + l.length, marks a l.length) := by
  unfold laws_markIntS.f
  exact laws_markIntS_l k l [] a h1 h2 (by simpa using h3) hk
theorem laws_szIntS_is (l : List Int) (a : Int) (h0 : 0 ≤ a) (h1 : a ≤ 4611686018427387904) (hl : l.length ≤ 9223372036854775807) : laws_szIntS.f l a = some (if (l.length : Int) ≤ a then a - l.length else -1) := by
  unfold laws_szIntS.f
  rw [w64 (by omega) (by omega)]
  by_cases h : (l.length : Int) ≤ a
  · rw [if_neg (by omega), if_pos h]
  · rw [if_pos (by omega), if_neg h]
theorem laws_szPlane_is (ws : List Int) (b a : Int) (h0 : 0 ≤ a) (h1 : a ≤ 4611686018427387904) (hl : ws.length ≤ 9223372036854775807) : laws_szPlane.f ws b a = some (if (ws.length : Int) ≤ a then a - ws.length else -1) := by
  unfold laws_szPlane.f
  rw [laws_szIntS_is ws a h0 h1 hl]
  simp only [Option.bind_some]
  by_cases h : (ws.length : Int) ≤ a
  · rw [if_pos h, if_neg (by omega)]
  · rw [if_neg h, if_pos (by omega)]
theorem laws_toPlane_is (k : Nat) (ws : List Int) (b : Int) (hn : ws.length ≤ 35184372088832) (hk : ws.length < k) : laws_toPlane.f k ws b = some (ws, b) := by
  unfold laws_toPlane.f
  rw [laws_toIntS_is k ws hn hk]
  simp only [Option.bind_some]
theorem laws_eqPlane_same (k : Nat) (ws : List Int) (b : Int) (hn : ws.length ≤ 4611686018427387904) (hk : ws.length < k) : laws_eqPlane.f k ws b ws b = some true := by
  unfold laws_eqPlane.f
  rw [laws_eqIntS_same k ws hn hk]
  simp
theorem laws_markPlane_is (k : Nat) (l : List Int) (b a : Int) (h1 : -4611686018427387904 ≤ a) (h2 : a + l.length ≤ 4611686018427387904) (h3 : l.length ≤ 4611686018427387904) (hk : l.length < k) : laws_markPlane.f k l b a = some (a + l.length, marks a l.length) := by
  unfold laws_markPlane.f
  rw [laws_markIntS_is k l a h1 h2 h3 hk]
  rfl
theorem laws_heldIntS_l : ∀ (k n i : Nat) (a b : Int), -4611686018427387904 ≤ a → a + n ≤ 4611686018427387904 → n ≤ 4611686018427387904 → i ≤ n → n < i + k → b = a + i → laws_heldIntS.l0 k (marks a n) b (i : Int) = some (a + n)
  | 0, _, _, _, _, _, _, _, _, hk, _ => by omega
  | k + 1, n, i, a, b, h1, h2, h3, hi, hk, hb => by
    simp only [laws_heldIntS.l0, marks_length]
    by_cases h : i < n
    · rw [if_pos (by omega), if_pos (by omega), rd_nat _ i (by rw [marks_length]; exact h), marks_get, if_pos hb.symm, w64_nat (by omega), w64 (by omega) (by omega)]
      exact laws_heldIntS_l k n (i + 1) a _ h1 h2 h3 (by omega) (by omega) (by omega)
    · rw [if_neg (by omega)]
      congr 1
      omega
theorem laws_heldIntS_is (k n : Nat) (a : Int) (h1 : -4611686018427387904 ≤ a) (h2 : a + n ≤ 4611686018427387904) (h3 : n ≤ 4611686018427387904) (hk : n < k) : laws_heldIntS.f k (marks a n) a = some (a + n) := by
  unfold laws_heldIntS.f
  exact laws_heldIntS_l k n 0 a a h1 h2 h3 (by omega) (by omega) (by omega)
theorem laws_heldPlane_is (k n : Nat) (b a : Int) (h0 : 0 ≤ a) (h2 : a + n ≤ 4611686018427387904) (h3 : n ≤ 4611686018427387904) (hk : n < k) : laws_heldPlane.f k (marks a n) b a = some (a + n) := by
  unfold laws_heldPlane.f
  rw [laws_heldIntS_is k n a (by omega) h2 h3 hk]
  simp only [Option.bind_some]
  rw [if_neg (by omega)]
theorem spec_l1In_is (a lo hi : Int) : spec_l1In.f a lo hi = some (inB lo hi a) := by
  unfold spec_l1In.f
  exact within_is a lo hi
theorem spec_l2Numbers_l : ∀ (k i : Nat) (l : List Int) (m : Int), -4611686018427387904 ≤ m → m ≤ 4611686018427387904 → l.length ≤ 4611686018427387904 → i ≤ l.length → l.length < i + k → spec_l2Numbers.l0 k l m (i : Int) = some ((l.drop i).all (inB (-m) m))
  | 0, _, _, _, _, _, _, _, hk => by omega
  | k + 1, i, l, m, h1, h2, hn, hi, hk => by
    simp only [spec_l2Numbers.l0]
    by_cases h : i < l.length
    · rw [if_pos (by omega), if_pos (by omega), spec_l1In_is, rd_nat l i h, w64_nat (by omega), w64 (by omega) (by omega), List.drop_eq_getElem_cons h, List.all_cons, spec_l2Numbers_l k (i + 1) l m h1 h2 hn (by omega) (by omega)]
      simp only [Option.bind_some]
      by_cases e : inB (-m) m l[i] = true
      · rw [if_pos e, e]
        simp
      · rw [if_neg e]
        simp [e]
    · rw [if_neg (by omega), List.drop_of_length_le (by omega)]
      simp
theorem spec_l2Numbers_is (k : Nat) (l : List Int) (m : Int) (h1 : -4611686018427387904 ≤ m) (h2 : m ≤ 4611686018427387904) (hn : l.length ≤ 4611686018427387904) (hk : l.length < k) : spec_l2Numbers.f k l m = some (l.all (inB (-m) m)) := by
  unfold spec_l2Numbers.f
  have := spec_l2Numbers_l k 0 l m h1 h2 hn (by omega) (by omega)
  simpa using this
theorem spec_l2Plane_is (k : Nat) (ws : List Int) (b : Int) (hn : ws.length ≤ 4611686018427387904) (hk : ws.length < k) : spec_l2Plane.f k ws b = some (plB ws b) := by
  unfold spec_l2Plane.f plB
  rw [spec_l1In_is, spec_l2Numbers_is k ws 99 (by omega) (by omega) hn hk, spec_l1In_is]
  simp only [Option.bind_some]
  cases inB 1 4 (ws.length : Int) <;> cases ws.all (inB (-99) 99) <;> simp
theorem spec_l2Point_is (k : Nat) (l : List Int) (hn : l.length ≤ 4611686018427387904) (hk : l.length < k) : spec_l2Point.f k l = some (ptB l) := by
  unfold spec_l2Point.f ptB
  rw [spec_l1In_is, spec_l2Numbers_is k l 9 (by omega) (by omega) hn hk]
  simp only [Option.bind_some]
  cases inB 1 4 (l.length : Int) <;> simp
theorem spec_l2One_is (k : Nat) (ws : List Int) (b : Int) (x : List Int) (h1 : ws.length ≤ 4611686018427387904) (h2 : x.length ≤ 4611686018427387904) (hk : ws.length < k) (hk2 : x.length < k) : spec_l2One.f k ws b x = some (meetsB ws b x) := by
  unfold spec_l2One.f meetsB
  rw [spec_l2Plane_is k ws b h1 hk, spec_l2Point_is k x h2 hk2]
  simp only [Option.bind_some]
  have e : ((x.length : Int) == (ws.length : Int)) = decide (x.length = ws.length) := by
    by_cases h : x.length = ws.length
    · simp [h]
    · simp [h]
      omega
  rw [e]
  cases plB ws b <;> cases ptB x <;> simp
theorem spec_l2Dot_l : ∀ (k i : Nat) (x y : List Int) (s : Int), x.length ≤ 4611686018427387904 → x.length ≤ y.length → i ≤ x.length → x.length < i + k → spec_l2Dot.l0 k x y s (i : Int) = some (wdot s (x.drop i) (y.drop i))
  | 0, _, _, _, _, _, _, _, hk => by omega
  | k + 1, i, x, y, s, hn, hl, hi, hk => by
    simp only [spec_l2Dot.l0]
    by_cases h : i < x.length
    · have hy' : i < y.length := by omega
      rw [if_pos (by omega), if_pos (by omega), if_pos (by omega), rd_nat x i h, rd_nat y i hy', w64_nat (by omega)]
      rw [spec_l2Dot_l k (i + 1) x y _ hn hl (by omega) (by omega), List.drop_eq_getElem_cons h, List.drop_eq_getElem_cons hy']
      simp only [wdot]
    · rw [if_neg (by omega), List.drop_of_length_le (by omega)]
      simp [wdot]
theorem spec_l2Dot_is (k : Nat) (x y : List Int) (hn : x.length ≤ 4611686018427387904) (hl : x.length ≤ y.length) (hk : x.length < k) : spec_l2Dot.f k x y = some (wdot 0 x y) := by
  unfold spec_l2Dot.f
  have := spec_l2Dot_l k 0 x y 0 hn hl (by omega) (by omega)
  simpa using this
theorem spec_l1Own_is (l : List Int) (h : l.length < 17592186044416) : spec_l1Own.f l = some l := by
  unfold spec_l1Own.f
  simp only [Option.bind_some]
  rw [if_pos (by simpa using h)]
  simp
def keptP (ws : List Int) (b : Int) : List Int × Int × Bool := if plB ws b then (ws, b, true) else ([], 0, false)
theorem keptP_length (ws : List Int) (b : Int) : (keptP ws b).1.length ≤ ws.length := by
  unfold keptP
  split <;> simp
theorem spec_l2KeptPlane_is (k : Nat) (ws : List Int) (b : Int) (h1 : ws.length ≤ 4611686018427387904) (hk : ws.length < k) : spec_l2KeptPlane.f k ws b = some (keptP ws b) := by
  unfold spec_l2KeptPlane.f keptP
  rw [spec_l2Plane_is k ws b h1 hk]
  simp only [Option.bind_some]
  by_cases c : plB ws b = true
  · rw [if_pos c, if_pos c]
  · rw [if_neg c, if_neg c]
def moveP (ws : List Int) (b : Int) (x : List Int) : List Int × Int × Bool := if meetsB ws b x then keptP ws (wrap64 (b + wdot 0 ws x)) else ([], 0, false)
theorem moveP_length (ws : List Int) (b : Int) (x : List Int) : (moveP ws b x).1.length ≤ ws.length := by
  unfold moveP
  split
  · exact keptP_length _ _
  · simp
theorem spec_MovePlane_is (k : Nat) (ws : List Int) (b : Int) (x : List Int) (h1 : ws.length ≤ 1048576) (h2 : x.length ≤ 1048576) (hk : ws.length < k) (hk2 : x.length < k) : spec_MovePlane.f k ws b x = some (moveP ws b x) := by
  unfold spec_MovePlane.f moveP
  rw [spec_l2One_is k ws b x (by omega) (by omega) hk hk2]
  simp only [Option.bind_some]
  by_cases c : meetsB ws b x = true
  · rw [if_pos c, if_pos c, spec_l1Own_is ws (by omega), spec_l2Dot_is k ws x (by omega) (by have := meetsB_parts c; omega) hk]
    simp only [Option.bind_some]
    rw [spec_l2KeptPlane_is k ws _ (by omega) hk]
    rfl
  · rw [if_neg c, if_neg c]
theorem impl_within_is (a lo hi : Int) : impl_within.f a lo hi = some (inB lo hi a) := by
  unfold impl_within.f
  exact within_is a lo hi
theorem impl_allWithin_l : ∀ (k i : Nat) (l : List Int) (lo hi : Int), l.length ≤ 4611686018427387904 → i ≤ l.length → l.length < i + k → impl_allWithin.l0 k lo hi l (l.length : Int) (i : Int) = some ((l.drop i).all (inB lo hi))
  | 0, _, _, _, _, _, _, hk => by omega
  | k + 1, i, l, lo, hi, hn, hi', hk => by
    simp only [impl_allWithin.l0]
    by_cases h : i < l.length
    · rw [if_pos (by omega), if_pos (by omega), if_pos (by omega), impl_within_is, rd_nat l i h, w64_nat (by omega), List.drop_eq_getElem_cons h, List.all_cons, impl_allWithin_l k (i + 1) l lo hi hn (by omega) (by omega)]
      simp only [Option.bind_some]
      by_cases e : inB lo hi l[i] = true
      · rw [if_pos e, e]
        simp
      · rw [if_neg e]
        simp [e]
    · rw [if_neg (by omega), List.drop_of_length_le (by omega)]
      simp
theorem impl_allWithin_is (k : Nat) (l : List Int) (lo hi : Int) (hn : l.length ≤ 4611686018427387904) (hk : l.length < k) : impl_allWithin.f k l lo hi = some (l.all (inB lo hi)) := by
  unfold impl_allWithin.f
  have := impl_allWithin_l k 0 l lo hi hn (by omega) (by omega)
  simpa using this
theorem impl_IsPlane_is (k : Nat) (ws : List Int) (b : Int) (hn : ws.length ≤ 4611686018427387904) (hk : ws.length < k) : impl_IsPlane.f k ws b = some (plB ws b) := by
  unfold impl_IsPlane.f plB
  rw [impl_within_is, impl_allWithin_is k ws (-99) 99 hn hk, impl_within_is]
  simp only [Option.bind_some]
  cases inB 1 4 (ws.length : Int) <;> cases ws.all (inB (-99) 99) <;> simp
theorem impl_IsPoint_is (k : Nat) (l : List Int) (hn : l.length ≤ 4611686018427387904) (hk : l.length < k) : impl_IsPoint.f k l = some (ptB l) := by
  unfold impl_IsPoint.f ptB
  rw [impl_within_is, impl_allWithin_is k l (-9) 9 hn hk]
  simp only [Option.bind_some]
  cases inB 1 4 (l.length : Int) <;> simp
theorem impl_meets_is (k : Nat) (ws : List Int) (b : Int) (x : List Int) (h1 : ws.length ≤ 4611686018427387904) (h2 : x.length ≤ 4611686018427387904) (hk : ws.length < k) (hk2 : x.length < k) : impl_meets.f k ws b x = some (meetsB ws b x) := by
  unfold impl_meets.f meetsB
  rw [impl_IsPlane_is k ws b h1 hk, impl_IsPoint_is k x h2 hk2]
  simp only [Option.bind_some]
  have e : ((x.length : Int) == (ws.length : Int)) = decide (x.length = ws.length) := by
    by_cases h : x.length = ws.length
    · simp [h]
    · simp [h]
      omega
  rw [e]
  cases plB ws b <;> cases ptB x <;> simp
theorem impl_product_l : ∀ (k i : Nat) (x y : List Int) (s : Int), x.length ≤ 4611686018427387904 → x.length ≤ y.length → i ≤ x.length → x.length < i + k → impl_product.l0 k y s x (x.length : Int) (i : Int) = some (wdot s (x.drop i) (y.drop i))
  | 0, _, _, _, _, _, _, _, hk => by omega
  | k + 1, i, x, y, s, hn, hl, hi, hk => by
    simp only [impl_product.l0]
    by_cases h : i < x.length
    · have hy' : i < y.length := by omega
      rw [if_pos (by omega), if_pos (by omega), if_pos (by omega), if_pos (by omega), rd_nat x i h, rd_nat y i hy', w64_nat (by omega)]
      rw [impl_product_l k (i + 1) x y _ hn hl (by omega) (by omega), List.drop_eq_getElem_cons h, List.drop_eq_getElem_cons hy']
      simp only [wdot]
    · rw [if_neg (by omega), List.drop_of_length_le (by omega)]
      simp [wdot]
theorem impl_product_is (k : Nat) (x y : List Int) (hn : x.length ≤ 4611686018427387904) (hl : x.length ≤ y.length) (hk : x.length < k) : impl_product.f k x y = some (wdot 0 x y) := by
  unfold impl_product.f
  have := impl_product_l k 0 x y 0 hn hl (by omega) (by omega)
  simpa using this
theorem impl_copied_is (l : List Int) (h : l.length < 17592186044416) : impl_copied.f l = some l := by
  unfold impl_copied.f
  simp only [Option.bind_some]
  rw [if_pos (by simpa using h)]
  simp
theorem impl_MovePlane_is (k : Nat) (ws : List Int) (b : Int) (x : List Int) (h1 : ws.length ≤ 1048576) (h2 : x.length ≤ 1048576) (hk : ws.length < k) (hk2 : x.length < k) : impl_MovePlane.f k ws b x = some (moveP ws b x) := by
  unfold impl_MovePlane.f moveP
  rw [impl_meets_is k ws b x (by omega) (by omega) hk hk2]
  simp only [Option.bind_some]
  by_cases c : meetsB ws b x = true
  · rw [if_pos c, if_pos c, impl_copied_is ws (by omega), impl_product_is k ws x (by omega) (by have := meetsB_parts c; omega) hk]
    simp only [Option.bind_some]
    rw [impl_IsPlane_is k ws _ (by omega) hk]
    simp only [Option.bind_some, keptP]
    split <;> rfl
  · rw [if_neg c, if_neg c]
theorem FnExactMovePlane : ∀ (l0 : List Int) (b0 : Int) (l1 : List Int), l0.length ≤ maxLen → (∀ x ∈ l0, (Lit.int .i64 x).wf = true) → (Lit.int .i64 b0).wf = true → l1.length ≤ maxLen → (∀ x ∈ l1, (Lit.int .i64 x).wf = true) → ∃ k, laws_FnExactMovePlane.f k l0 b0 l1 = some true := by
  intro ws b x hw _ _ hx _
  unfold maxLen at hw hx
  have hl := moveP_length ws b x
  obtain ⟨K, hK⟩ : ∃ K, 3000000 ≤ K := ⟨_, Nat.le_refl _⟩
  refine ⟨K + 1 + 1 + 1, ?_⟩
  unfold laws_FnExactMovePlane.f
  by_cases h : (x.length : Int) > 1048576
  · rw [if_pos h]
  · rw [if_neg h, laws_szPlane_is ws b 1048576 (by omega) (by omega) (by omega)]
    simp only [Option.bind_some]
    by_cases g : (ws.length : Int) ≤ 1048576
    · rw [if_pos g, if_neg (by omega)]
      simp (disch := omega) only [laws_toIntS_is, laws_eqIntS_is, laws_eqIntS_same, laws_markIntS_is, laws_szIntS_is, laws_szPlane_is, laws_toPlane_is, laws_eqPlane_same, laws_markPlane_is, laws_heldIntS_is, laws_heldPlane_is, spec_l1In_is, spec_l2Numbers_is, spec_l2Plane_is, spec_l2Point_is, spec_l2One_is, spec_l2Dot_is, spec_l1Own_is, spec_l2KeptPlane_is, spec_MovePlane_is, impl_within_is, impl_allWithin_is, impl_IsPlane_is, impl_IsPoint_is, impl_meets_is, impl_product_is, impl_copied_is, impl_MovePlane_is, Option.bind_some, bne_self, ltF, gtF, reduceIte, Bool.false_eq_true, if_true, decide_true, Bool.not_true] <;> simp only [laws_FnExactMovePlane.j0] <;> simp (disch := omega) only [laws_toIntS_is, laws_eqIntS_is, laws_eqIntS_same, laws_markIntS_is, laws_szIntS_is, laws_szPlane_is, laws_toPlane_is, laws_eqPlane_same, laws_markPlane_is, laws_heldIntS_is, laws_heldPlane_is, spec_l1In_is, spec_l2Numbers_is, spec_l2Plane_is, spec_l2Point_is, spec_l2One_is, spec_l2Dot_is, spec_l1Own_is, spec_l2KeptPlane_is, spec_MovePlane_is, impl_within_is, impl_allWithin_is, impl_IsPlane_is, impl_IsPoint_is, impl_meets_is, impl_product_is, impl_copied_is, impl_MovePlane_is, Option.bind_some, bne_self, ltF, gtF, reduceIte, Bool.false_eq_true, if_true, decide_true, Bool.not_true] <;> simp only [laws_FnExactMovePlane.j1] <;> simp (disch := omega) only [laws_toIntS_is, laws_eqIntS_is, laws_eqIntS_same, laws_markIntS_is, laws_szIntS_is, laws_szPlane_is, laws_toPlane_is, laws_eqPlane_same, laws_markPlane_is, laws_heldIntS_is, laws_heldPlane_is, spec_l1In_is, spec_l2Numbers_is, spec_l2Plane_is, spec_l2Point_is, spec_l2One_is, spec_l2Dot_is, spec_l1Own_is, spec_l2KeptPlane_is, spec_MovePlane_is, impl_within_is, impl_allWithin_is, impl_IsPlane_is, impl_IsPoint_is, impl_meets_is, impl_product_is, impl_copied_is, impl_MovePlane_is, Option.bind_some, bne_self, ltF, gtF, reduceIte, Bool.false_eq_true, if_true, decide_true, Bool.not_true] <;> simp only [laws_FnExactMovePlane.j2] <;> simp (disch := omega) only [laws_toIntS_is, laws_eqIntS_is, laws_eqIntS_same, laws_markIntS_is, laws_szIntS_is, laws_szPlane_is, laws_toPlane_is, laws_eqPlane_same, laws_markPlane_is, laws_heldIntS_is, laws_heldPlane_is, spec_l1In_is, spec_l2Numbers_is, spec_l2Plane_is, spec_l2Point_is, spec_l2One_is, spec_l2Dot_is, spec_l1Own_is, spec_l2KeptPlane_is, spec_MovePlane_is, impl_within_is, impl_allWithin_is, impl_IsPlane_is, impl_IsPoint_is, impl_meets_is, impl_product_is, impl_copied_is, impl_MovePlane_is, Option.bind_some, bne_self, ltF, gtF, reduceIte, Bool.false_eq_true, if_true, decide_true, Bool.not_true]
    · rw [if_neg g, if_pos (by omega)]

end Go.Proofs.Ytiejeflgefdceaa.Pure
