/- Proved: the law FnWinnow answers true for every code: what is drawn is answered as by the reference, shares stay shares, and a game whose answers are an or of places has no more wrong turns than its bound, none of these places' shares ending at 0; no condition. -/
import Derived.IntWalk
import Derived.Laws.Bits64b
import Derived.Test.YtgbgkifddjeabaaVFnWinnow
import Derived.Test.YtgbgkifddjeabaaZFnWinnowx9
section
set_option linter.unusedVariables false
set_option linter.unusedSimpArgs false
namespace Go.Proofs.Ytgbgkifddjeabaa.Base
open Go.RowKit Go.Proofs.YtgbgkifddjeabaaW.PrintWords Go.Proofs.YtgbgkifddjeabaaW.PrintLast Go.Proofs.YtgbgkifddjeabaaW.PrintMore
theorem w64 {x : Int} (h1 : -9223372036854775808 ≤ x) (h2 : x ≤ 9223372036854775807) : wrap64 x = x:=by
 unfold wrap64
 omega
theorem w64_nat {n : Nat} (h : n ≤ 4611686018427387904) : wrap64 ((n : Int) + 1) = ((n + 1 : Nat) : Int):=by
 rw [w64 (by omega) (by omega)]
 omega
theorem rd_nat (l : List Int) (i : Nat) (h : i < l.length) : rd l (i : Int) = l[i]:=by
 simp [rd,h]
def inB (lo hi x : Int) : Bool:=decide (lo ≤ x ∧ x ≤ hi)
theorem inB_iff {lo hi x : Int} : inB lo hi x = true ↔ lo ≤ x ∧ x ≤ hi:=by simp [inB]
theorem within_is (a lo hi : Int) : (if a ≥ lo then (some (decide (a ≤ hi))) else (some false)) = some (inB lo hi a):=by
 unfold inB
 by_cases h : a ≥ lo
 ·rw [if_pos h]
  congr 1
  by_cases h2 : a ≤ hi <;> simp [h2]
  omega
 ·rw [if_neg h]
  congr 1
  simp
  omega
theorem all_range {l : List Int} {lo hi : Int} (h : l.all (inB lo hi) = true) (i : Nat) (hi' : i < l.length) : lo ≤ l[i] ∧ l[i] ≤ hi:=by
 have:=List.all_eq_true.1 h l[i] (List.getElem_mem hi')
 exact inB_iff.1 this
theorem set_mid (pre post : List Int) (x y : Int) (n : Nat) (h : n = pre.length) : (pre ++ x :: post).set n y = pre ++ y :: post:=by
 subst h
 simp
def shB (l : List Int) : Bool:=inB 1 8 l.length && l.all (inB 0 16)
def sqd : List Int → List Int → Int
|x :: xs,y :: ys=>(x - y) * (x - y) + sqd xs ys
|_,_=>0
theorem rd_mid (pre post : List Int) (x : Int) (n : Nat) (h : n = pre.length) : rd (pre ++ x :: post) (n : Int) = x:=by
 subst h
 simp [rd]
def wdot : Int → List Int → List Int → Int
|s,a :: as_,b :: bs=>wdot (wrap64 (s + wrap64 (a * b))) as_ bs
|s,_,_=>s
def wturn (c : Int) : List Int → List Int → List Int
|o :: os,b :: bs=>(if b = 1 then wrap64 (o * c) else o) :: wturn c os bs
|os,_=>os
theorem wturn_length (c : Int) : ∀ (os bs : List Int),(wturn c os bs).length = os.length
|[],_=>by simp [wturn]
|o :: os,[]=>by simp [wturn]
|o :: os,b :: bs=>by simp [wturn,wturn_length c os bs]
def rowB (n : Int) (l : List Int) : Bool:=decide ((l.length : Int) = n) && l.all (inB 0 1)
theorem rowB_length {n : Int} {l : List Int} (h : rowB n l = true) : (l.length : Int) = n:=of_decide_eq_true (Bool.and_eq_true_iff.1 h).1
def dot : List Int → List Int → Int
|a :: as_,b :: bs=>a * b + dot as_ bs
|_,_=>0
theorem wdot_eq {M : Int} (hM : M ≤ 1000000000000) : ∀ (x y : List Int) (s : Int),x.length ≤ 100 → (∀ i (h : i < x.length) (h' : i < y.length),-M ≤ x[i] * y[i] ∧ x[i] * y[i] ≤ M) → -(1000000000000 * (100 - x.length)) ≤ s → s ≤ 1000000000000 * (100 - x.length) → wdot s x y = s + dot x y
|[],y,s,_,_,_,_=>by simp [wdot,dot]
|a :: x,[],s,_,_,_,_=>by simp [wdot,dot]
|a :: x,b :: y,s,hl,h,h1,h2=>by
  have q:=h 0 (by simp) (by simp)
  simp only [List.getElem_cons_zero,List.length_cons] at q h1 h2 hl
  simp only [wdot,dot]
  rw [w64 (x:=a * b) (by omega) (by omega),w64 (by omega) (by omega)]
  rw [wdot_eq hM x y (s + a * b) (by omega) (fun i h0 h0'=>by
   have:=h (i + 1) (by simp;omega) (by simp;omega)
   simpa using this) (by omega) (by omega)]
  omega
end Go.Proofs.Ytgbgkifddjeabaa.Base
end
section
set_option linter.unusedVariables false
set_option linter.unusedSimpArgs false
namespace Go.Proofs.Ytgbgkifddjeabaa.Pure
open Go.RowKit Go.Proofs.Ytgbgkifddjeabaa.QFnWinnow Go.Proofs.YtgbgkifddjeabaaW.PrintWords Go.Proofs.YtgbgkifddjeabaaW.PrintLast Go.Proofs.YtgbgkifddjeabaaW.PrintMore Go.Proofs.Ytgbgkifddjeabaa.Base
theorem spec_l1In_is (a lo hi : Int) : spec_l1In.f a lo hi = some (inB lo hi a):=by
 unfold spec_l1In.f
 exact within_is a lo hi
theorem spec_l3Row_l : ∀ (k i : Nat) (n : Int) (l : List Int),l.length ≤ 4611686018427387904 → i ≤ l.length → l.length < i + k → spec_l3Row.l0 k n l (i : Int) = some ((l.drop i).all (inB 0 1) && decide ((l.length : Int) = n))
|0,_,_,_,_,_,hk=>by omega
|k + 1,i,n,l,hn,hi',hk=>by
  simp only [spec_l3Row.l0]
  by_cases h : i < l.length
  ·rw [if_pos (by omega),if_pos (by omega),spec_l1In_is,rd_nat l i h,w64_nat (by omega),List.drop_eq_getElem_cons h,List.all_cons,spec_l3Row_l k (i + 1) n l hn (by omega) (by omega)]
   simp only [Option.bind_some]
   by_cases e : inB 0 1 l[i] = true
   ·rw [if_pos e,e]
    simp
   ·rw [if_neg e]
    simp [e]
  ·rw [if_neg (by omega),List.drop_of_length_le (by omega)]
   simp only [List.all_nil,Bool.true_and]
   congr 1
theorem spec_l3Row_is (k : Nat) (n : Int) (l : List Int) (hn : l.length ≤ 4611686018427387904) (hk : l.length < k) : spec_l3Row.f k n l = some (rowB n l):=by
 unfold spec_l3Row.f rowB
 have:=spec_l3Row_l k 0 n l hn (by omega) (by omega)
 rw [show ((0 : Nat) : Int) = 0 from rfl] at this
 rw [this,Bool.and_comm]
 simp
def rowsB (n : Int) (rows : List (List Int)) : Bool:=rows.all (rowB n) && (inB 1 8 n && decide (rows.length ≤ 40))
theorem rowsB_parts {n : Int} {rows : List (List Int)} (h : rowsB n rows = true) : 1 ≤ n ∧ n ≤ 8 ∧ rows.length ≤ 40 ∧ ∀ r ∈ rows,rowB n r = true:=by
 unfold rowsB at h
 have h2:=Bool.and_eq_true_iff.1 h
 have h3:=Bool.and_eq_true_iff.1 h2.2
 have:=inB_iff.1 h3.1
 exact ⟨this.1,this.2,of_decide_eq_true h3.2,fun r hr=>List.all_eq_true.1 h2.1 r hr⟩
theorem spec_l3Rows_l : ∀ (k i : Nat) (n : Int) (rows : List (List Int)),rows.length ≤ 1048576 → (∀ r ∈ rows,r.length ≤ 1048576) → i ≤ rows.length → rows.length + 1048577 < i + k → spec_l3Rows.l0 k n rows (i : Int) = some ((rows.drop i).all (rowB n) && (inB 1 8 n && decide (rows.length ≤ 40)))
|0,i,n,rows,_,_,hi,hk=>by omega
|k + 1,i,n,rows,hn,hr,hi,hk=>by
  simp only [spec_l3Rows.l0]
  by_cases h : i < rows.length
  ·have e : rd_L1 rows (i : Int) = rows[i]:=by simp [rd_L1,h]
   have hx:=hr rows[i] (List.getElem_mem h)
   rw [if_pos (by omega),if_pos (by omega),e,spec_l3Row_is k n rows[i] (by omega) (by omega),w64_nat (by omega),List.drop_eq_getElem_cons h,List.all_cons,spec_l3Rows_l k (i + 1) n rows hn hr (by omega) (by omega)]
   simp only [Option.bind_some]
   by_cases c : rowB n rows[i] = true
   ·rw [if_pos c,c,Bool.true_and]
   ·rw [if_neg c]
    simp [c]
  ·rw [if_neg (by omega),List.drop_of_length_le (by omega),spec_l1In_is]
   simp only [Option.bind_some,List.all_nil,Bool.true_and]
   by_cases c : inB 1 8 n = true
   ·rw [if_pos c,c,Bool.true_and]
    congr 2
    simp only [eq_iff_iff]
    omega
   ·rw [if_neg c]
    simp [c]
theorem spec_l3Rows_is (k : Nat) (n : Int) (rows : List (List Int)) (hn : rows.length ≤ 1048576) (hr : ∀ r ∈ rows,r.length ≤ 1048576) (hk : 2097153 < k) : spec_l3Rows.f k n rows = some (rowsB n rows):=by
 unfold spec_l3Rows.f rowsB
 have:=spec_l3Rows_l k 0 n rows hn hr (by omega) (by omega)
 simpa using this
def upB : List Int → Bool
|x :: y :: r=>decide (x < y) && upB (y :: r)
|_=>true
theorem w64_pred {i : Nat} (h : 1 ≤ i) (h2 : i ≤ 4611686018427387904) : wrap64 ((i : Int) - 1) = ((i - 1 : Nat) : Int):=by
 rw [w64 (by omega) (by omega)]
 omega
theorem upB_drop (l : List Int) (j : Nat) (h : j + 1 < l.length) : upB (l.drop j) = (decide (l[j] < l[j + 1]) && upB (l.drop (j + 1))):=by
 rw [List.drop_eq_getElem_cons (show j < l.length by omega),List.drop_eq_getElem_cons h,upB]
theorem upB_step (l : List Int) (i : Nat) (h1 : 1 ≤ i) (h : i < l.length) : upB (l.drop (i - 1)) = (decide (l[i - 1] < l[i]) && upB (l.drop i)):=by
 obtain ⟨j,rfl⟩ : ∃ j,i = j + 1:=⟨i - 1,by omega⟩
 exact upB_drop l j h
theorem upB_end (l : List Int) (j : Nat) (h : l.length ≤ j + 1) : upB (l.drop j) = true:=by
 by_cases c : j < l.length
 ·rw [List.drop_eq_getElem_cons c,List.drop_of_length_le (by omega)]
  rfl
 ·rw [List.drop_of_length_le (by omega)]
  rfl
theorem spec_l1Rising_l (lo hi : Int) (l : List Int) (hn : l.length ≤ 1048576) : ∀ (k i : Nat),i ≤ l.length → l.length < i + k → spec_l1Rising.l0 k l lo hi (i : Int) = some ((l.drop i).all (inB lo hi) && upB (l.drop (i - 1)))
|0,i,_,hk=>by omega
|k + 1,i,hi',hk=>by
  simp only [spec_l1Rising.l0]
  by_cases h : i < l.length
  ·rw [if_pos (by omega),if_pos (by omega),spec_l1In_is,rd_nat l i h,w64_nat (by omega),spec_l1Rising_l lo hi l hn k (i + 1) (by omega) (by omega),List.drop_eq_getElem_cons h,List.all_cons,show i + 1 - 1 = i by omega]
   simp only [Option.bind_some]
   by_cases c : inB lo hi l[i] = true
   ·rw [if_pos c,c,Bool.true_and]
    by_cases z : i = 0
    ·subst z
     rw [if_neg (by omega)]
    ·rw [if_pos (by omega),w64_pred (by omega) (by omega),if_pos (by omega),if_pos (by omega),rd_nat l (i - 1) (by omega),upB_step l i (by omega) h]
     by_cases d : l[i - 1] ≥ l[i]
     ·rw [if_pos d,decide_eq_false (by omega)]
      simp
     ·rw [if_neg d,decide_eq_true (show l[i - 1] < l[i] by omega),Bool.true_and]
   ·rw [if_neg c]
    simp [c]
  ·rw [if_neg (by omega),List.drop_of_length_le (by omega),upB_end l (i - 1) (by omega)]
   rfl
theorem spec_l1Rising_is (k : Nat) (l : List Int) (lo hi : Int) (hn : l.length ≤ 1048576) (hk : 1048577 < k) : spec_l1Rising.f k l lo hi = some (l.all (inB lo hi) && upB l):=by
 unfold spec_l1Rising.f
 have:=spec_l1Rising_l lo hi l hn k 0 (by omega) (by omega)
 simpa using this
theorem spec_l1Most_is (a b : Int) : spec_l1Most.f a b = some (max a b):=by
 unfold spec_l1Most.f
 by_cases h : a > b
 ·rw [if_pos h]
  congr 1
  omega
 ·rw [if_neg h]
  congr 1
  omega
def orV (row : List Int) : Int → List Int → Int
|a,[]=>a
|a,s :: ss=>orV row (max a (rd row s)) ss
def orA (n : Int) (rows : List (List Int)) (set : List Int) : List Int × Bool:=if rowsB n rows && (set.all (inB 0 (wrap64 (n - 1))) && upB set) then (rows.map fun row=>orV row 0 set,true) else ([],false)
theorem spec_OrAnswers_l1 (rows : List (List Int)) (set acc : List Int) (i : Nat) (hi : i < rows.length) (hrow : rows.length ≤ 40) (hset : set.length ≤ 1048576) (hacc : acc.length ≤ 40) (hs : ∀ s ∈ set,0 ≤ s ∧ s < ((rd_L1 rows (i : Int)).length : Int)) : ∀ (m k j : Nat) (o : Int),j + m = set.length → spec_OrAnswers.l1 (k + m + 1) rows set acc (i : Int) o (j : Int) = spec_OrAnswers.l0 k rows set (acc ++ [orV (rd_L1 rows (i : Int)) o (set.drop j)]) ((i + 1 : Nat) : Int)
|0,k,j,o,hj=>by
  rw [Nat.add_zero,spec_OrAnswers.l1,if_neg (by omega),if_pos (by omega),w64_nat (by omega),List.drop_of_length_le (by omega),orV]
|m + 1,k,j,o,hj=>by
  have h : j < set.length:=by omega
  obtain ⟨s1,s2⟩:=hs set[j] (List.getElem_mem h)
  have ih:=spec_OrAnswers_l1 rows set acc i hi hrow hset hacc hs m k (j + 1) (max o (rd (rd_L1 rows (i : Int)) set[j])) (by omega)
  have e : set.drop j = set[j] :: set.drop (j + 1):=List.drop_eq_getElem_cons h
  rw [e,show orV (rd_L1 rows (i : Int)) o (set[j] :: set.drop (j + 1)) = orV (rd_L1 rows (i : Int)) (max o (rd (rd_L1 rows (i : Int)) set[j])) (set.drop (j + 1)) from rfl,← ih]
  rw [show k + (m + 1) + 1 = (k + m + 1) + 1 by omega,spec_OrAnswers.l1,if_pos (by omega),if_pos (by omega),if_pos (by omega),if_pos (by omega),rd_nat set j h]
  rw [if_pos s1,if_pos s2,spec_l1Most_is,Option.bind_some,w64_nat (by omega)]
theorem spec_OrAnswers_l0 (rows : List (List Int)) (set : List Int) (hrow : rows.length ≤ 40) (hset : set.length ≤ 8) (hs : ∀ r ∈ rows,∀ s ∈ set,0 ≤ s ∧ s < (r.length : Int)) : ∀ (m k i : Nat) (acc : List Int),i + m = rows.length → acc.length = i → 10 + m * 20 < k → spec_OrAnswers.l0 k rows set acc (i : Int) = some (acc ++ (rows.drop i).map (fun row=>orV row 0 set),true)
|0,k,i,acc,hi,ha,hk=>by
  obtain ⟨k,rfl⟩ : ∃ q,k = q + 1:=⟨k - 1,by omega⟩
  rw [spec_OrAnswers.l0,if_neg (by omega),List.drop_of_length_le (by omega)]
  simp
|m + 1,k,i,acc,hi,ha,hk=>by
  obtain ⟨k,rfl⟩ : ∃ q,k = q + 1:=⟨k - 1,by omega⟩
  have h : i < rows.length:=by omega
  have e : rd_L1 rows (i : Int) = rows[i]:=by simp [rd_L1,h]
  have l1:=spec_OrAnswers_l1 rows set acc i h hrow (by omega) (by omega) (fun s q=>by rw [e];exact hs _ (List.getElem_mem h) s q) set.length (k - set.length - 1) 0 0 (by omega)
  rw [show k - set.length - 1 + set.length + 1 = k by omega,show ((0 : Nat) : Int) = 0 from rfl,List.drop_zero] at l1
  rw [spec_OrAnswers.l0,if_pos (by omega),l1,spec_OrAnswers_l0 rows set hrow hset hs m (k - set.length - 1) (i + 1) _ (by omega) (by simp [ha]) (by omega),e,List.drop_eq_getElem_cons h]
  simp only [List.map_cons,List.append_assoc,List.singleton_append]
theorem orA_length (n : Int) (rows : List (List Int)) (set : List Int) : (orA n rows set).1.length ≤ rows.length:=by
 unfold orA
 split <;> simp
theorem orA_set {n : Int} {rows : List (List Int)} {set : List Int} (c1 : rowsB n rows = true) (c2 : set.all (inB 0 (wrap64 (n - 1))) = true) : ∀ r ∈ rows,∀ s ∈ set,0 ≤ s ∧ s < (r.length : Int):=by
 intro r hr s hs
 obtain ⟨a1,a2,_,a4⟩:=rowsB_parts c1
 have h1:=rowB_length (a4 r hr)
 have h2:=inB_iff.1 (List.all_eq_true.1 c2 s hs)
 rw [w64 (by omega) (by omega)] at h2
 omega
theorem upB_least : ∀ (l : List Int),upB l = true → ∀ z ∈ l,l.headD 0 ≤ z
|[],_,z,h=>by simp at h
|[x],_,z,h=>by simp at h;simp [h]
|x :: y :: r,h,z,hz=>by
  rw [upB,Bool.and_eq_true_iff] at h
  have lt:=of_decide_eq_true h.1
  rcases List.mem_cons.1 hz with rfl|hz
  ·simp
  ·have:=upB_least (y :: r) h.2 z hz
   simp only [List.headD_cons] at this ⊢
   omega
theorem upB_length (hi : Int) : ∀ (l : List Int) (lo : Int),l.all (inB lo hi) = true → upB l = true → lo ≤ hi + 1 → (l.length : Int) ≤ hi + 1 - lo
|[],lo,_,_,h=>by simp;omega
|[x],lo,h1,_,_=>by
  have:=inB_iff.1 (List.all_eq_true.1 h1 x (by simp))
  simp
  omega
|x :: y :: r,lo,h1,h2,h3=>by
  have a:=inB_iff.1 (List.all_eq_true.1 h1 x (by simp))
  rw [upB,Bool.and_eq_true_iff] at h2
  have lt:=of_decide_eq_true h2.1
  have h4 : (y :: r).all (inB (lo + 1) hi) = true:=by
   refine List.all_eq_true.2 fun z hz=>inB_iff.2 ?_
   have b:=inB_iff.1 (List.all_eq_true.1 h1 z (List.mem_cons_of_mem _ hz))
   have c:=upB_least (y :: r) h2.2 z hz
   simp only [List.headD_cons] at c
   omega
  have ih:=upB_length hi (y :: r) (lo + 1) h4 h2.2 (by omega)
  simp only [List.length_cons] at ih ⊢
  omega
theorem up_length {n : Int} {rows : List (List Int)} {set : List Int} (c1 : rowsB n rows = true) (c2 : set.all (inB 0 (wrap64 (n - 1))) = true) (c3 : upB set = true) : set.length ≤ 8:=by
 obtain ⟨a1,a2,_,_⟩:=rowsB_parts c1
 rw [w64 (by omega) (by omega)] at c2
 have:=upB_length (n - 1) set 0 c2 c3 (by omega)
 omega
theorem spec_OrAnswers_is (k : Nat) (n : Int) (rows : List (List Int)) (set : List Int) (hn : rows.length ≤ 1048576) (hr : ∀ r ∈ rows,r.length ≤ 1048576) (hm : set.length ≤ 1048576) (hk : 100000000 < k) : spec_OrAnswers.f k n rows set = some (orA n rows set):=by
 obtain ⟨k,rfl⟩ : ∃ q,k = q + 1:=⟨k - 1,by omega⟩
 unfold spec_OrAnswers.f orA
 rw [Option.bind_some,spec_l3Rows_is (k + 1) n rows hn hr (by omega),spec_l1Rising_is (k + 1) set 0 _ hm (by omega)]
 simp only [Option.bind_some,spec_OrAnswers.j0]
 by_cases c1 : rowsB n rows = true
 ·rw [if_pos c1,c1,Bool.true_and]
  by_cases c2 : (set.all (inB 0 (wrap64 (n - 1))) && upB set) = true
  ·rw [c2,if_neg (by simp),if_pos rfl]
   have c3:=Bool.and_eq_true_iff.1 c2
   obtain ⟨_,_,a3,_⟩:=rowsB_parts c1
   have:=spec_OrAnswers_l0 rows set a3 (up_length c1 c3.1 c3.2) (orA_set c1 c3.1) rows.length k 0 [] (by omega) rfl (by omega)
   simpa using this
  ·rw [Bool.eq_false_iff.2 c2,if_pos (by rfl),if_neg (by simp)]
 ·rw [if_neg c1,if_pos trivial,if_neg (by simp [c1])]
theorem spec_l1Own_is (l : List Int) (h : l.length < 17592186044416) : spec_l1Own.f l = some l:=by
 unfold spec_l1Own.f
 simp only [Option.bind_some]
 rw [if_pos (by simpa using h)]
 simp
theorem spec_l2Dot_l : ∀ (k i : Nat) (x y : List Int) (s : Int),x.length ≤ 4611686018427387904 → x.length ≤ y.length → i ≤ x.length → x.length < i + k → spec_l2Dot.l0 k x y s (i : Int) = some (wdot s (x.drop i) (y.drop i))
|0,_,_,_,_,_,_,_,hk=>by omega
|k + 1,i,x,y,s,hn,hl,hi,hk=>by
  simp only [spec_l2Dot.l0]
  by_cases h : i < x.length
  ·have hy' : i < y.length:=by omega
   rw [if_pos (by omega),if_pos (by omega),if_pos (by omega),rd_nat x i h,rd_nat y i hy',w64_nat (by omega)]
   rw [spec_l2Dot_l k (i + 1) x y _ hn hl (by omega) (by omega),List.drop_eq_getElem_cons h,List.drop_eq_getElem_cons hy']
   simp only [wdot]
  ·rw [if_neg (by omega),List.drop_of_length_le (by omega)]
   simp [wdot]
theorem spec_l2Dot_is (k : Nat) (x y : List Int) (hn : x.length ≤ 4611686018427387904) (hl : x.length ≤ y.length) (hk : x.length < k) : spec_l2Dot.f k x y = some (wdot 0 x y):=by
 unfold spec_l2Dot.f
 have:=spec_l2Dot_l k 0 x y 0 hn hl (by omega) (by omega)
 simpa using this
theorem spec_l3Turn_l (a : Int) : ∀ (k : Nat) (post rpost pre rpre : List Int),pre.length + post.length ≤ 4611686018427387904 → rpre.length = pre.length → rpost.length = post.length → post.length < k → spec_l3Turn.l0 k (rpre ++ rpost) a (pre ++ post) (pre.length : Int) = some (pre ++ wturn (wrap64 (2 * a)) post rpost,false)
|0,_,_,_,_,_,_,_,hk=>by omega
|k + 1,[],[],pre,rpre,_,he,_,_=>by
  simp only [spec_l3Turn.l0]
  rw [if_neg (by simp [he])]
  simp [wturn]
|k + 1,[],b :: r,pre,rpre,_,_,h,_=>by simp at h
|k + 1,o :: post,[],pre,rpre,_,_,h,_=>by simp at h
|k + 1,o :: post,b :: r,pre,rpre,hn,he,h,hk=>by
  simp only [spec_l3Turn.l0]
  simp only [List.length_cons] at hn h hk
  rw [if_pos (by simp;omega),if_pos (by omega),rd_mid rpre r b pre.length he.symm,w64_nat (by omega)]
  have e : (((pre ++ [if b = 1 then wrap64 (o * wrap64 (2 * a)) else o]).length : Nat) : Int) = ((pre.length + 1 : Nat) : Int):=by simp
  have ih:=spec_l3Turn_l a k post r (pre ++ [if b = 1 then wrap64 (o * wrap64 (2 * a)) else o]) (rpre ++ [b]) (by simp;omega) (by simp [he]) (by omega) (by omega)
  rw [e] at ih
  simp only [List.append_assoc,List.singleton_append] at ih
  simp only [wturn]
  by_cases c : b = 1
  ·rw [if_pos c,if_pos (by simp;omega),rd_mid pre post o pre.length rfl,set_mid pre post o _ _ (by simp),Int.mul_comm]
   simp only [c,if_true] at ih ⊢
   exact ih
  ·rw [if_neg c]
   simp only [c,if_false] at ih ⊢
   exact ih
def winTurn (sh row : List Int) (a : Int) : List Int × Bool:=if (if wdot 0 sh row ≥ (sh.length : Int) then (1 : Int) else 0) = a then (sh,true) else (wturn (wrap64 (2 * a)) sh row,false)
theorem winTurn_length (sh row : List Int) (a : Int) : (winTurn sh row a).1.length = sh.length:=by
 unfold winTurn
 by_cases c : (if wdot 0 sh row ≥ (sh.length : Int) then (1 : Int) else 0) = a
 ·rw [if_pos c]
 ·rw [if_neg c]
  exact wturn_length _ _ _
theorem spec_l3Turn_is (k : Nat) (sh row : List Int) (a : Int) (hn : sh.length ≤ 1048576) (hl : row.length = sh.length) (hk : sh.length + 1 < k) : spec_l3Turn.f k sh row a = some (winTurn sh row a):=by
 obtain ⟨k,rfl⟩ : ∃ m,k = m + 1:=⟨k - 1,by omega⟩
 have e : ∀ s : Int,spec_l3Turn.j0 (k + 1) sh row a s = some (if s = a then (sh,true) else (wturn (wrap64 (2 * a)) sh row,false)):=by
  intro s
  simp only [spec_l3Turn.j0]
  rw [spec_l1Own_is sh (by omega)]
  simp only [Option.bind_some]
  have:=spec_l3Turn_l a k sh row [] [] (by simp;omega) rfl hl (by omega)
  simp only [List.nil_append,List.length_nil] at this
  rw [show (0 : Int) = ((0 : Nat) : Int) from rfl,this]
  by_cases c : s = a
  ·rw [if_pos c,if_pos c]
  ·rw [if_neg c,if_neg c]
 unfold spec_l3Turn.f winTurn
 rw [spec_l2Dot_is _ sh row (by omega) (by omega) (by omega)]
 simp only [Option.bind_some,e]
 by_cases c : wdot 0 sh row ≥ (sh.length : Int)
 ·rw [if_pos c,if_pos c]
 ·rw [if_neg c,if_neg c]
def runL : List Int → Int → List (List Int) → List Int → List Int × Int × Bool
|sh,c,r :: rs,a :: az=>runL (winTurn sh r a).1 (if (winTurn sh r a).2 = true then c else wrap64 (c + 1)) rs az
|sh,c,_,_=>(sh,c,true)
theorem runL_length : ∀ (rs : List (List Int)) (az sh : List Int) (c : Int),(runL sh c rs az).1.length = sh.length
|[],_,sh,c=>by simp [runL]
|r :: rs,[],sh,c=>by simp [runL]
|r :: rs,a :: az,sh,c=>by
  rw [runL,runL_length rs az,winTurn_length]
def runW (n : Int) (rows : List (List Int)) (ans : List Int) : List Int × Int × Bool:=if rowsB n rows && rowB rows.length ans then runL (List.replicate n.toNat 1) 0 rows ans else ([],0,false)
theorem runW_length (n : Int) (rows : List (List Int)) (ans : List Int) : (runW n rows ans).1.length ≤ 8:=by
 unfold runW
 by_cases c : (rowsB n rows && rowB rows.length ans) = true
 ·rw [if_pos c,runL_length,List.length_replicate]
  have:=rowsB_parts (Bool.and_eq_true_iff.1 c).1
  omega
 ·rw [if_neg c]
  simp
theorem spec_RunWinnow_l1 (N : Nat) (hN : N ≤ 8) (rows : List (List Int)) (ans : List Int) (hrow : rows.length ≤ 40) (hans : ans.length = rows.length) (hr : ∀ r ∈ rows,r.length = N) : ∀ (m k i : Nat) (sh : List Int) (c : Int),i + m = rows.length → sh.length = N → 30 + m * 3 < k → spec_RunWinnow.l1 k rows ans sh c (i : Int) = some (runL sh c (rows.drop i) (ans.drop i))
|0,k,i,sh,c,hi,hs,hk=>by
  obtain ⟨k,rfl⟩ : ∃ q,k = q + 1:=⟨k - 1,by omega⟩
  rw [spec_RunWinnow.l1,if_neg (by omega),List.drop_of_length_le (show rows.length ≤ i by omega)]
  simp only [runL]
|m + 1,k,i,sh,c,hi,hs,hk=>by
  obtain ⟨k,rfl⟩ : ∃ q,k = q + 1:=⟨k - 1,by omega⟩
  have h : i < rows.length:=by omega
  have h2 : i < ans.length:=by omega
  have e : rd_L1 rows (i : Int) = rows[i]:=by simp [rd_L1,h]
  have el:=hr rows[i] (List.getElem_mem h)
  have e1 : rows.drop i = rows[i] :: rows.drop (i + 1):=List.drop_eq_getElem_cons h
  have e2 : ans.drop i = ans[i] :: ans.drop (i + 1):=List.drop_eq_getElem_cons h2
  have ih:=fun c'=>spec_RunWinnow_l1 N hN rows ans hrow hans hr m k (i + 1) (winTurn sh rows[i] ans[i]).1 c' (by omega) (by rw [winTurn_length];exact hs) (by omega)
  rw [e1,e2,show runL sh c (rows[i] :: rows.drop (i + 1)) (ans[i] :: ans.drop (i + 1)) = runL (winTurn sh rows[i] ans[i]).1 (if (winTurn sh rows[i] ans[i]).2 = true then c else wrap64 (c + 1)) (rows.drop (i + 1)) (ans.drop (i + 1)) from rfl,← ih]
  rw [spec_RunWinnow.l1,if_pos (by omega),if_pos (by omega),if_pos (by omega),e,rd_nat ans i h2,spec_l3Turn_is k sh rows[i] ans[i] (by omega) (by omega) (by omega),Option.bind_some,w64_nat (by omega)]
  by_cases d : (winTurn sh rows[i] ans[i]).2 = true
  ·rw [if_pos d,if_pos d]
  ·rw [if_neg d,if_neg d]
theorem spec_RunWinnow_l0 (n : Int) (rows : List (List Int)) (ans : List Int) (h1 : 1 ≤ n) (h8 : n ≤ 8) : ∀ (m k i : Nat) (c : Int),(i : Int) + m = n → spec_RunWinnow.l0 (k + m + 1) n rows ans (List.replicate i 1) c (i : Int) = spec_RunWinnow.l1 k rows ans (List.replicate n.toNat 1) c 0
|0,k,i,c,hi=>by
  rw [Nat.add_zero,spec_RunWinnow.l0,if_neg (by omega),show n.toNat = i by omega]
|m + 1,k,i,c,hi=>by
  rw [show k + (m + 1) + 1 = (k + m + 1) + 1 by omega,spec_RunWinnow.l0,if_pos (by omega),if_pos (by simp;omega),w64_nat (by omega),← List.replicate_succ',spec_RunWinnow_l0 n rows ans h1 h8 m k (i + 1) c (by omega)]
theorem spec_RunWinnow_is (k : Nat) (n : Int) (rows : List (List Int)) (ans : List Int) (hn : rows.length ≤ 1048576) (hr : ∀ r ∈ rows,r.length ≤ 1048576) (hm : ans.length ≤ 1048576) (hk : 2097200 < k) : spec_RunWinnow.f k n rows ans = some (runW n rows ans):=by
 obtain ⟨k,rfl⟩ : ∃ q,k = q + 1:=⟨k - 1,by omega⟩
 have e0 : spec_RunWinnow.j0 (k + 1) n rows ans true = some ([],0,false):=by simp [spec_RunWinnow.j0]
 unfold spec_RunWinnow.f runW
 rw [spec_l3Rows_is (k + 1) n rows hn hr (by omega),spec_l3Row_is (k + 1) _ ans (by omega) (by omega)]
 simp only [Option.bind_some]
 by_cases c1 : rowsB n rows = true
 ·rw [if_pos c1,c1,Bool.true_and]
  by_cases c2 : rowB rows.length ans = true
  ·rw [c2,if_pos rfl]
   obtain ⟨b1,b8,b40,br⟩:=rowsB_parts c1
   have ea:=rowB_length c2
   have l0:=spec_RunWinnow_l0 n rows ans b1 b8 n.toNat (k - n.toNat - 1) 0 0 (by omega)
   rw [show k - n.toNat - 1 + n.toNat + 1 = k by omega] at l0
   have l1:=spec_RunWinnow_l1 n.toNat (by omega) rows ans b40 (by omega) (fun r q=>by have:=rowB_length (br r q);omega) rows.length (k - n.toNat - 1) 0 (List.replicate n.toNat 1) 0 (by omega) (by simp) (by omega)
   rw [List.drop_zero,List.drop_zero] at l1
   rw [spec_RunWinnow.j0,if_neg (by simp)]
   exact l0.trans l1
  ·rw [Bool.eq_false_iff.2 c2,Bool.not_false,e0,if_neg (by simp)]
 ·rw [if_neg c1,e0,if_neg (by simp [c1])]
def winB (n x : Int) : Int × Bool:=if inB 1 8 n && inB 0 n x then (1 + 2 * x * (if n ≤ 1 then 0 else if n ≤ 2 then 1 else if n ≤ 4 then 2 else 3),true) else (0,false)
theorem spec_WinnowBound_l (k : Nat) (n x : Int) (h0 : 1 ≤ n) (h1 : n ≤ 8) (h2 : 0 ≤ x) (h3 : x ≤ n) (hk : 4 ≤ k) : spec_WinnowBound.l0 k n x 0 = some (1 + 2 * x * (if n ≤ 1 then 0 else if n ≤ 2 then 1 else if n ≤ 4 then 2 else 3),true):=by
 obtain ⟨k,rfl⟩ : ∃ m,k = m + 1 + 1 + 1 + 1:=⟨k - 4,by omega⟩
 have s0 : shl .i64 1 0 = 1:=by decide
 have s1 : shl .i64 1 1 = 2:=by decide
 have s2 : shl .i64 1 2 = 4:=by decide
 have s3 : shl .i64 1 3 = 8:=by decide
 have w0 : wrap64 (0 + 1) = 1:=by unfold wrap64;omega
 have w1 : wrap64 (1 + 1) = 2:=by unfold wrap64;omega
 have w2 : wrap64 (2 + 1) = 3:=by unfold wrap64;omega
 have e : wrap64 (2 * x) = 2 * x:=w64 (by omega) (by omega)
 simp only [spec_WinnowBound.l0,s0,s1,s2,s3,w0,w1,w2,e]
 rcases (show n ≤ 1 ∨ (1 < n ∧ n ≤ 2) ∨ (2 < n ∧ n ≤ 4) ∨ 4 < n by omega) with a|a|a|a
 ·rw [if_pos (by omega),if_neg (by omega),if_pos a,w64 (x:=2 * x * 0) (by omega) (by omega),w64 (by omega) (by omega)]
 ·rw [if_pos (by omega),if_pos (by omega),if_pos (by omega),if_neg (by omega),if_neg (by omega),if_pos (by omega),w64 (x:=2 * x * 1) (by omega) (by omega),w64 (by omega) (by omega)]
 ·rw [if_pos (by omega),if_pos (by omega),if_pos (by omega),if_pos (by omega),if_pos (by omega),if_neg (by omega),if_neg (by omega),if_neg (by omega),if_pos (by omega),w64 (x:=2 * x * 2) (by omega) (by omega),w64 (by omega) (by omega)]
 ·rw [if_pos (by omega),if_pos (by omega),if_pos (by omega),if_pos (by omega),if_pos (by omega),if_pos (by omega),if_pos (by omega),if_neg (by omega),if_neg (by omega),if_neg (by omega),if_neg (by omega),w64 (x:=2 * x * 3) (by omega) (by omega),w64 (by omega) (by omega)]
theorem spec_WinnowBound_is (k : Nat) (n x : Int) (hk : 5 ≤ k) : spec_WinnowBound.f k n x = some (winB n x):=by
 obtain ⟨k,rfl⟩ : ∃ m,k = m + 1:=⟨k - 1,by omega⟩
 unfold spec_WinnowBound.f winB
 rw [spec_l1In_is,spec_l1In_is]
 simp only [Option.bind_some]
 by_cases h : inB 1 8 n = true
 ·rw [if_pos h]
  simp only [spec_WinnowBound.j0]
  by_cases h2 : inB 0 n x = true
  ·have a:=inB_iff.1 h
   have b:=inB_iff.1 h2
   rw [if_neg (by simp [h2]),spec_WinnowBound_l k n x (by omega) (by omega) (by omega) (by omega) (by omega)]
   simp [h,h2]
  ·rw [if_pos (by simp [h2])]
   simp [h2]
 ·rw [if_neg h]
  simp [spec_WinnowBound.j0,h]
theorem spec_l3Shares_l : ∀ (k i : Nat) (l : List Int),l.length ≤ 4611686018427387904 → i ≤ l.length → l.length < i + k → spec_l3Shares.l0 k l (i : Int) = some ((l.drop i).all (inB 0 16) && inB 1 8 l.length)
|0,_,_,_,_,hk=>by omega
|k + 1,i,l,hn,hi',hk=>by
  simp only [spec_l3Shares.l0]
  by_cases h : i < l.length
  ·rw [if_pos (by omega),if_pos (by omega),spec_l1In_is,rd_nat l i h,w64_nat (by omega),List.drop_eq_getElem_cons h,List.all_cons,spec_l3Shares_l k (i + 1) l hn (by omega) (by omega)]
   simp only [Option.bind_some]
   by_cases e : inB 0 16 l[i] = true
   ·rw [if_pos e,e]
    simp
   ·rw [if_neg e]
    simp [e]
  ·rw [if_neg (by omega),List.drop_of_length_le (by omega),spec_l1In_is]
   simp
theorem spec_l3Shares_is (k : Nat) (l : List Int) (hn : l.length ≤ 4611686018427387904) (hk : l.length < k) : spec_l3Shares.f k l = some (shB l):=by
 unfold spec_l3Shares.f shB
 have:=spec_l3Shares_l k 0 l hn (by omega) (by omega)
 rw [show ((0 : Nat) : Int) = 0 from rfl] at this
 rw [this,Bool.and_comm]
 simp
def stepW (sh row : List Int) (a : Int) : List Int × Bool × Bool:=if shB sh && rowB sh.length row && inB 0 1 a then ((winTurn sh row a).1,(winTurn sh row a).2,true) else ([],false,false)
theorem stepW_length (sh row : List Int) (a : Int) : (stepW sh row a).1.length ≤ sh.length:=by
 unfold stepW
 split
 ·simp only
  rw [winTurn_length]
  exact Nat.le_refl _
 ·simp
theorem spec_StepWinnow_is (k : Nat) (sh row : List Int) (a : Int) (h1 : sh.length ≤ 1048576) (h2 : row.length ≤ 1048576) (hk : sh.length + row.length + 1 < k) : spec_StepWinnow.f k sh row a = some (stepW sh row a):=by
 unfold spec_StepWinnow.f stepW
 rw [spec_l3Shares_is k sh (by omega) (by omega),spec_l3Row_is k _ row (by omega) (by omega),spec_l1In_is]
 simp only [Option.bind_some]
 by_cases c1 : shB sh = true
 ·by_cases c2 : rowB sh.length row = true
  ·by_cases c3 : inB 0 1 a = true
   ·have:=rowB_length c2
    rw [if_pos c1,if_pos c2,if_pos c3,spec_l3Turn_is k sh row a (by omega) (by omega) (by omega)]
    simp [c1,c2,c3]
   ·rw [if_pos c1,if_pos c2,if_neg c3]
    simp [c3]
  ·rw [if_pos c1,if_neg c2]
   simp [c2]
 ·rw [if_neg c1]
  simp [c1]
theorem spec_AreShares_is (k : Nat) (l : List Int) (hn : l.length ≤ 4611686018427387904) (hk : l.length < k) : spec_AreShares.f k l = some (shB l):=by
 unfold spec_AreShares.f
 rw [spec_l3Shares_is k l hn hk]
 rfl
theorem impl_within_is (a lo hi : Int) : impl_within.f a lo hi = some (inB lo hi a):=by
 unfold impl_within.f
 exact within_is a lo hi
theorem impl_allWithin_l : ∀ (k i : Nat) (l : List Int) (lo hi : Int),l.length ≤ 4611686018427387904 → i ≤ l.length → l.length < i + k → impl_allWithin.l0 k lo hi l (l.length : Int) (i : Int) = some ((l.drop i).all (inB lo hi))
|0,_,_,_,_,_,_,hk=>by omega
|k + 1,i,l,lo,hi,hn,hi',hk=>by
  simp only [impl_allWithin.l0]
  by_cases h : i < l.length
  ·rw [if_pos (by omega),if_pos (by omega),if_pos (by omega),impl_within_is,rd_nat l i h,w64_nat (by omega),List.drop_eq_getElem_cons h,List.all_cons,impl_allWithin_l k (i + 1) l lo hi hn (by omega) (by omega)]
   simp only [Option.bind_some]
   by_cases e : inB lo hi l[i] = true
   ·rw [if_pos e,e]
    simp
   ·rw [if_neg e]
    simp [e]
  ·rw [if_neg (by omega),List.drop_of_length_le (by omega)]
   simp
theorem impl_allWithin_is (k : Nat) (l : List Int) (lo hi : Int) (hn : l.length ≤ 4611686018427387904) (hk : l.length < k) : impl_allWithin.f k l lo hi = some (l.all (inB lo hi)):=by
 unfold impl_allWithin.f
 have:=impl_allWithin_l k 0 l lo hi hn (by omega) (by omega)
 simpa using this
theorem impl_isRow_is (k : Nat) (l : List Int) (n : Int) (hn : l.length ≤ 4611686018427387904) (hk : l.length < k) : impl_isRow.f k l n = some (rowB n l):=by
 unfold impl_isRow.f rowB
 rw [impl_allWithin_is k l 0 1 hn hk]
 simp only [Option.bind_some]
 by_cases h : (l.length : Int) = n
 ·rw [if_pos h]
  simp [h]
 ·rw [if_neg h]
  simp [h]
theorem impl_areRows_l : ∀ (k i : Nat) (n : Int) (rows : List (List Int)),rows.length ≤ 1048576 → (∀ r ∈ rows,r.length ≤ 1048576) → i ≤ rows.length → rows.length + 1048577 < i + k → impl_areRows.l0 k rows n rows (rows.length : Int) (i : Int) = some ((rows.drop i).all (rowB n) && (inB 1 8 n && decide (rows.length ≤ 40)))
|0,i,n,rows,_,_,hi,hk=>by omega
|k + 1,i,n,rows,hn,hr,hi,hk=>by
  simp only [impl_areRows.l0]
  by_cases h : i < rows.length
  ·have e : rd_L1 rows (i : Int) = rows[i]:=by simp [rd_L1,h]
   have hx:=hr rows[i] (List.getElem_mem h)
   rw [if_pos (by omega),if_pos (by omega),if_pos (by omega),e,impl_isRow_is k rows[i] n (by omega) (by omega),w64_nat (by omega),List.drop_eq_getElem_cons h,List.all_cons,impl_areRows_l k (i + 1) n rows hn hr (by omega) (by omega)]
   simp only [Option.bind_some]
   by_cases c : rowB n rows[i] = true
   ·rw [if_pos c,c,Bool.true_and]
   ·rw [if_neg c]
    simp [c]
  ·rw [if_neg (by omega),List.drop_of_length_le (by omega),impl_within_is]
   simp only [Option.bind_some,List.all_nil,Bool.true_and]
   by_cases c : inB 1 8 n = true
   ·rw [if_pos c,c,Bool.true_and]
    congr 2
    simp only [eq_iff_iff]
    omega
   ·rw [if_neg c]
    simp [c]
theorem impl_areRows_is (k : Nat) (n : Int) (rows : List (List Int)) (hn : rows.length ≤ 1048576) (hr : ∀ r ∈ rows,r.length ≤ 1048576) (hk : 2097153 < k) : impl_areRows.f k rows n = some (rowsB n rows):=by
 unfold impl_areRows.f rowsB
 have:=impl_areRows_l k 0 n rows hn hr (by omega) (by omega)
 simpa using this
theorem impl_rising_l (l : List Int) (hn : l.length ≤ 1048576) : ∀ (k i : Nat),1 ≤ i → i ≤ l.length + 1 → l.length + 1 < i + k → impl_rising.l0 k l (i : Int) = some (upB (l.drop (i - 1)))
|0,i,_,_,hk=>by omega
|k + 1,i,h1,hi',hk=>by
  simp only [impl_rising.l0]
  by_cases h : i < l.length
  ·rw [if_pos (by omega),w64_pred (by omega) (by omega),if_pos (by omega),if_pos (by omega),if_pos (by omega),rd_nat l (i - 1) (by omega),rd_nat l i h,w64_nat (by omega),impl_rising_l l hn k (i + 1) (by omega) (by omega) (by omega),upB_step l i (by omega) h,show i + 1 - 1 = i by omega]
   by_cases d : l[i - 1] ≥ l[i]
   ·rw [if_pos d,decide_eq_false (by omega)]
    simp
   ·rw [if_neg d,decide_eq_true (show l[i - 1] < l[i] by omega),Bool.true_and]
  ·rw [if_neg (by omega),upB_end l (i - 1) (by omega)]
theorem impl_rising_is (k : Nat) (l : List Int) (hn : l.length ≤ 1048576) (hk : 1048577 < k) : impl_rising.f k l = some (upB l):=by
 unfold impl_rising.f
 have:=impl_rising_l l hn k 1 (by omega) (by omega) (by omega)
 simpa using this
theorem or_max (a b : Int) (ha : a = 0 ∨ a = 1) (hb : b = 0 ∨ b = 1) : Go.bits .or .i64 a b = max a b ∧ (max a b = 0 ∨ max a b = 1):=by
 rcases ha with rfl|rfl <;> rcases hb with rfl|rfl <;> decide +kernel
theorem impl_OrAnswers_l1 (rows : List (List Int)) (set acc row : List Int) (i : Nat) (hi : i < rows.length) (hrow : rows.length ≤ 40) (hset : set.length ≤ 1048576) (hacc : acc.length ≤ 40) (hs : ∀ s ∈ set,0 ≤ s ∧ s < (row.length : Int)) (hb : row.all (inB 0 1) = true) : ∀ (m k j : Nat) (o : Int),(o = 0 ∨ o = 1) → j + m = set.length → impl_OrAnswers.l1 (k + m + 1) set acc row o rows (rows.length : Int) (i : Int) set (set.length : Int) (j : Int) = impl_OrAnswers.l0 k set (acc ++ [orV row o (set.drop j)]) rows (rows.length : Int) ((i + 1 : Nat) : Int)
|0,k,j,o,ho,hj=>by
  rw [Nat.add_zero,impl_OrAnswers.l1,if_neg (by omega),if_pos (by omega),w64_nat (by omega),List.drop_of_length_le (by omega),orV]
|m + 1,k,j,o,ho,hj=>by
  have h : j < set.length:=by omega
  obtain ⟨s1,s2⟩:=hs set[j] (List.getElem_mem h)
  have hx : rd row set[j] = 0 ∨ rd row set[j] = 1:=by
   obtain ⟨t,ht⟩ : ∃ t : Nat,set[j] = (t : Int):=⟨set[j].toNat,by omega⟩
   rw [ht,rd_nat row t (by omega)]
   have:=all_range hb t (by omega)
   omega
  obtain ⟨q1,q2⟩:=or_max o _ ho hx
  have ih:=impl_OrAnswers_l1 rows set acc row i hi hrow hset hacc hs hb m k (j + 1) (max o (rd row set[j])) q2 (by omega)
  have e : set.drop j = set[j] :: set.drop (j + 1):=List.drop_eq_getElem_cons h
  rw [e,show orV row o (set[j] :: set.drop (j + 1)) = orV row (max o (rd row set[j])) (set.drop (j + 1)) from rfl,← ih]
  rw [show k + (m + 1) + 1 = (k + m + 1) + 1 by omega,impl_OrAnswers.l1,if_pos (by omega),if_pos (by omega),if_pos (by omega),rd_nat set j h]
  rw [if_pos s1,if_pos s2,q1,w64_nat (by omega)]
theorem impl_OrAnswers_l0 (rows : List (List Int)) (set : List Int) (hrow : rows.length ≤ 40) (hset : set.length ≤ 8) (hs : ∀ r ∈ rows,∀ s ∈ set,0 ≤ s ∧ s < (r.length : Int)) (hb : ∀ r ∈ rows,r.all (inB 0 1) = true) : ∀ (m k i : Nat) (acc : List Int),i + m = rows.length → acc.length = i → 10 + m * 20 < k → impl_OrAnswers.l0 k set acc rows (rows.length : Int) (i : Int) = some (acc ++ (rows.drop i).map (fun row=>orV row 0 set),true)
|0,k,i,acc,hi,ha,hk=>by
  obtain ⟨k,rfl⟩ : ∃ q,k = q + 1:=⟨k - 1,by omega⟩
  rw [impl_OrAnswers.l0,if_neg (by omega),List.drop_of_length_le (by omega)]
  simp
|m + 1,k,i,acc,hi,ha,hk=>by
  obtain ⟨k,rfl⟩ : ∃ q,k = q + 1:=⟨k - 1,by omega⟩
  have h : i < rows.length:=by omega
  have e : rd_L1 rows (i : Int) = rows[i]:=by simp [rd_L1,h]
  have l1:=impl_OrAnswers_l1 rows set acc rows[i] i h hrow (by omega) (by omega) (hs _ (List.getElem_mem h)) (hb _ (List.getElem_mem h)) set.length (k - set.length - 1) 0 0 (.inl rfl) (by omega)
  rw [show k - set.length - 1 + set.length + 1 = k by omega,show ((0 : Nat) : Int) = 0 from rfl,List.drop_zero] at l1
  rw [impl_OrAnswers.l0,if_pos (by omega),if_pos (by omega),if_pos (by omega),e,l1,impl_OrAnswers_l0 rows set hrow hset hs hb m (k - set.length - 1) (i + 1) _ (by omega) (by simp [ha]) (by omega),List.drop_eq_getElem_cons h]
  simp only [List.map_cons,List.append_assoc,List.singleton_append]
theorem impl_OrAnswers_is (k : Nat) (n : Int) (rows : List (List Int)) (set : List Int) (hn : rows.length ≤ 1048576) (hr : ∀ r ∈ rows,r.length ≤ 1048576) (hm : set.length ≤ 1048576) (hk : 100000000 < k) : impl_OrAnswers.f k n rows set = some (orA n rows set):=by
 obtain ⟨k,rfl⟩ : ∃ q,k = q + 1:=⟨k - 1,by omega⟩
 unfold impl_OrAnswers.f orA
 rw [impl_areRows_is (k + 1) n rows hn hr (by omega),impl_rising_is (k + 1) set hm (by omega),impl_allWithin_is (k + 1) set 0 _ (by omega) (by omega)]
 simp only [Option.bind_some,impl_OrAnswers.j0]
 by_cases c1 : rowsB n rows = true
 ·rw [if_pos c1,c1,Bool.true_and]
  by_cases c3 : upB set = true
  ·rw [if_pos c3,c3,Bool.and_true]
   by_cases c2 : set.all (inB 0 (wrap64 (n - 1))) = true
   ·rw [c2,if_neg (by simp),if_pos rfl]
    obtain ⟨_,_,a3,a4⟩:=rowsB_parts c1
    have:=impl_OrAnswers_l0 rows set a3 (up_length c1 c2 c3) (orA_set c1 c2) (fun r hr'=>by have:=a4 r hr';unfold rowB at this;exact (Bool.and_eq_true_iff.1 this).2) rows.length k 0 [] (by omega) rfl (by omega)
    simpa using this
   ·rw [Bool.eq_false_iff.2 c2,if_pos (by rfl),if_neg (by simp)]
  ·rw [if_neg c3,if_pos trivial,if_neg (by simp [c3])]
 ·rw [if_neg c1,if_pos trivial,if_neg (by simp [c1])]
theorem impl_product_l : ∀ (k i : Nat) (x y : List Int) (s : Int),x.length ≤ 4611686018427387904 → x.length ≤ y.length → i ≤ x.length → x.length < i + k → impl_product.l0 k y s x (x.length : Int) (i : Int) = some (wdot s (x.drop i) (y.drop i))
|0,_,_,_,_,_,_,_,hk=>by omega
|k + 1,i,x,y,s,hn,hl,hi,hk=>by
  simp only [impl_product.l0]
  by_cases h : i < x.length
  ·have hy' : i < y.length:=by omega
   rw [if_pos (by omega),if_pos (by omega),if_pos (by omega),if_pos (by omega),rd_nat x i h,rd_nat y i hy',w64_nat (by omega)]
   rw [impl_product_l k (i + 1) x y _ hn hl (by omega) (by omega),List.drop_eq_getElem_cons h,List.drop_eq_getElem_cons hy']
   simp only [wdot]
  ·rw [if_neg (by omega),List.drop_of_length_le (by omega)]
   simp [wdot]
theorem impl_product_is (k : Nat) (x y : List Int) (hn : x.length ≤ 4611686018427387904) (hl : x.length ≤ y.length) (hk : x.length < k) : impl_product.f k x y = some (wdot 0 x y):=by
 unfold impl_product.f
 have:=impl_product_l k 0 x y 0 hn hl (by omega) (by omega)
 simpa using this
theorem impl_copied_is (l : List Int) (h : l.length < 17592186044416) : impl_copied.f l = some l:=by
 unfold impl_copied.f
 simp only [Option.bind_some]
 rw [if_pos (by simpa using h)]
 simp
theorem impl_turn_l (a : Int) : ∀ (k : Nat) (post rpost pre rpre : List Int),pre.length + post.length ≤ 4611686018427387904 → rpre.length = pre.length → rpost.length = post.length → post.length < k → impl_turn.l0 k a (pre ++ post) (rpre ++ rpost) ((rpre ++ rpost).length : Int) (pre.length : Int) = some (pre ++ wturn (wrap64 (2 * a)) post rpost,false)
|0,_,_,_,_,_,_,_,hk=>by omega
|k + 1,[],[],pre,rpre,_,he,_,_=>by
  simp only [impl_turn.l0]
  rw [if_neg (by simp [he])]
  simp [wturn]
|k + 1,[],b :: r,pre,rpre,_,_,h,_=>by simp at h
|k + 1,o :: post,[],pre,rpre,_,_,h,_=>by simp at h
|k + 1,o :: post,b :: r,pre,rpre,hn,he,h,hk=>by
  simp only [impl_turn.l0]
  simp only [List.length_cons] at hn h hk
  rw [if_pos (by simp;omega),if_pos (by omega),if_pos (by simp;omega),rd_mid rpre r b pre.length he.symm,w64_nat (by omega)]
  have e : (((pre ++ [if b = 1 then wrap64 (o * wrap64 (2 * a)) else o]).length : Nat) : Int) = ((pre.length + 1 : Nat) : Int):=by simp
  have ih:=impl_turn_l a k post r (pre ++ [if b = 1 then wrap64 (o * wrap64 (2 * a)) else o]) (rpre ++ [b]) (by simp;omega) (by simp [he]) (by omega) (by omega)
  rw [e] at ih
  simp only [List.append_assoc,List.singleton_append] at ih
  simp only [wturn]
  by_cases c : b = 1
  ·rw [if_pos c,if_pos (by simp;omega),rd_mid pre post o pre.length rfl,set_mid pre post o _ _ (by simp)]
   simp only [c,if_true] at ih ⊢
   exact ih
  ·rw [if_neg c]
   simp only [c,if_false] at ih ⊢
   exact ih
theorem impl_turn_is (k : Nat) (sh row : List Int) (a : Int) (hn : sh.length ≤ 1048576) (hl : row.length = sh.length) (hk : sh.length + 1 < k) : impl_turn.f k sh row a = some (winTurn sh row a):=by
 obtain ⟨k,rfl⟩ : ∃ m,k = m + 1:=⟨k - 1,by omega⟩
 have e : ∀ s : Int,impl_turn.j0 (k + 1) sh row a s = some (if s = a then (sh,true) else (wturn (wrap64 (2 * a)) sh row,false)):=by
  intro s
  simp only [impl_turn.j0]
  rw [impl_copied_is sh (by omega)]
  simp only [Option.bind_some]
  have:=impl_turn_l a k sh row [] [] (by simp;omega) rfl hl (by omega)
  simp only [List.nil_append,List.length_nil] at this
  rw [show (0 : Int) = ((0 : Nat) : Int) from rfl,this]
  by_cases c : s = a
  ·rw [if_pos c,if_pos c]
  ·rw [if_neg c,if_neg c]
 unfold impl_turn.f winTurn
 rw [impl_product_is _ sh row (by omega) (by omega) (by omega)]
 simp only [Option.bind_some,e]
 by_cases c : wdot 0 sh row ≥ (sh.length : Int)
 ·rw [if_pos c,if_pos c]
 ·rw [if_neg c,if_neg c]
theorem impl_RunWinnow_l1 (N : Nat) (hN : N ≤ 8) (rows : List (List Int)) (ans : List Int) (hrow : rows.length ≤ 40) (hans : ans.length = rows.length) (hr : ∀ r ∈ rows,r.length = N) : ∀ (m k i : Nat) (sh : List Int) (c : Int),i + m = rows.length → sh.length = N → 30 + m * 3 < k → impl_RunWinnow.l1 k ans sh c rows (rows.length : Int) (i : Int) = some (runL sh c (rows.drop i) (ans.drop i))
|0,k,i,sh,c,hi,hs,hk=>by
  obtain ⟨k,rfl⟩ : ∃ q,k = q + 1:=⟨k - 1,by omega⟩
  rw [impl_RunWinnow.l1,if_neg (by omega),List.drop_of_length_le (show rows.length ≤ i by omega)]
  simp only [runL]
|m + 1,k,i,sh,c,hi,hs,hk=>by
  obtain ⟨k,rfl⟩ : ∃ q,k = q + 1:=⟨k - 1,by omega⟩
  have h : i < rows.length:=by omega
  have h2 : i < ans.length:=by omega
  have e : rd_L1 rows (i : Int) = rows[i]:=by simp [rd_L1,h]
  have el:=hr rows[i] (List.getElem_mem h)
  have e1 : rows.drop i = rows[i] :: rows.drop (i + 1):=List.drop_eq_getElem_cons h
  have e2 : ans.drop i = ans[i] :: ans.drop (i + 1):=List.drop_eq_getElem_cons h2
  have ih:=fun c'=>impl_RunWinnow_l1 N hN rows ans hrow hans hr m k (i + 1) (winTurn sh rows[i] ans[i]).1 c' (by omega) (by rw [winTurn_length];exact hs) (by omega)
  rw [e1,e2,show runL sh c (rows[i] :: rows.drop (i + 1)) (ans[i] :: ans.drop (i + 1)) = runL (winTurn sh rows[i] ans[i]).1 (if (winTurn sh rows[i] ans[i]).2 = true then c else wrap64 (c + 1)) (rows.drop (i + 1)) (ans.drop (i + 1)) from rfl,← ih]
  rw [impl_RunWinnow.l1,if_pos (by omega),if_pos (by omega),if_pos (by omega),if_pos (by omega),e,rd_nat ans i h2,impl_turn_is k sh rows[i] ans[i] (by omega) (by omega) (by omega),Option.bind_some,w64_nat (by omega)]
  by_cases d : (winTurn sh rows[i] ans[i]).2 = true
  ·rw [if_pos d,if_pos d]
  ·rw [if_neg d,if_neg d]
theorem impl_RunWinnow_l0 (n : Int) (rows : List (List Int)) (ans : List Int) (h1 : 1 ≤ n) (h8 : n ≤ 8) : ∀ (m k i : Nat) (c : Int),(i : Int) + m = n → impl_RunWinnow.l0 (k + m + 1) rows ans (List.replicate i 1) c n (i : Int) = impl_RunWinnow.l1 k ans (List.replicate n.toNat 1) c rows (rows.length : Int) 0
|0,k,i,c,hi=>by
  rw [Nat.add_zero,impl_RunWinnow.l0,if_neg (by omega),show n.toNat = i by omega]
|m + 1,k,i,c,hi=>by
  rw [show k + (m + 1) + 1 = (k + m + 1) + 1 by omega,impl_RunWinnow.l0,if_pos (by omega),if_pos (by simp;omega),w64_nat (by omega),← List.replicate_succ',impl_RunWinnow_l0 n rows ans h1 h8 m k (i + 1) c (by omega)]
theorem impl_RunWinnow_is (k : Nat) (n : Int) (rows : List (List Int)) (ans : List Int) (hn : rows.length ≤ 1048576) (hr : ∀ r ∈ rows,r.length ≤ 1048576) (hm : ans.length ≤ 1048576) (hk : 2097200 < k) : impl_RunWinnow.f k n rows ans = some (runW n rows ans):=by
 obtain ⟨k,rfl⟩ : ∃ q,k = q + 1:=⟨k - 1,by omega⟩
 have e0 : impl_RunWinnow.j0 (k + 1) n rows ans true = some ([],0,false):=by simp [impl_RunWinnow.j0]
 unfold impl_RunWinnow.f runW
 rw [impl_areRows_is (k + 1) n rows hn hr (by omega),impl_isRow_is (k + 1) ans _ (by omega) (by omega)]
 simp only [Option.bind_some]
 by_cases c1 : rowsB n rows = true
 ·rw [if_pos c1,c1,Bool.true_and]
  by_cases c2 : rowB rows.length ans = true
  ·rw [c2,if_pos rfl]
   obtain ⟨b1,b8,b40,br⟩:=rowsB_parts c1
   have ea:=rowB_length c2
   have l0:=impl_RunWinnow_l0 n rows ans b1 b8 n.toNat (k - n.toNat - 1) 0 0 (by omega)
   rw [show k - n.toNat - 1 + n.toNat + 1 = k by omega] at l0
   have l1:=impl_RunWinnow_l1 n.toNat (by omega) rows ans b40 (by omega) (fun r q=>by have:=rowB_length (br r q);omega) rows.length (k - n.toNat - 1) 0 (List.replicate n.toNat 1) 0 (by omega) (by simp) (by omega)
   rw [List.drop_zero,List.drop_zero] at l1
   rw [impl_RunWinnow.j0,if_neg (by simp)]
   exact l0.trans l1
  ·rw [Bool.eq_false_iff.2 c2,Bool.not_false,e0,if_neg (by simp)]
 ·rw [if_neg c1,e0,if_neg (by simp [c1])]
theorem impl_WinnowBound_l (k : Nat) (n x : Int) (h0 : 1 ≤ n) (h1 : n ≤ 8) (h2 : 0 ≤ x) (h3 : x ≤ n) (hk : 4 ≤ k) : impl_WinnowBound.l0 k n x 0 = some (1 + 2 * x * (if n ≤ 1 then 0 else if n ≤ 2 then 1 else if n ≤ 4 then 2 else 3),true):=by
 obtain ⟨k,rfl⟩ : ∃ m,k = m + 1 + 1 + 1 + 1:=⟨k - 4,by omega⟩
 have s0 : shl .i64 1 0 = 1:=by decide
 have s1 : shl .i64 1 1 = 2:=by decide
 have s2 : shl .i64 1 2 = 4:=by decide
 have s3 : shl .i64 1 3 = 8:=by decide
 have w0 : wrap64 (0 + 1) = 1:=by unfold wrap64;omega
 have w1 : wrap64 (1 + 1) = 2:=by unfold wrap64;omega
 have w2 : wrap64 (2 + 1) = 3:=by unfold wrap64;omega
 have e : wrap64 (2 * x) = 2 * x:=w64 (by omega) (by omega)
 simp only [impl_WinnowBound.l0,s0,s1,s2,s3,w0,w1,w2,e]
 rcases (show n ≤ 1 ∨ (1 < n ∧ n ≤ 2) ∨ (2 < n ∧ n ≤ 4) ∨ 4 < n by omega) with a|a|a|a
 ·rw [if_pos (by omega),if_neg (by omega),if_pos a,w64 (x:=2 * x * 0) (by omega) (by omega),w64 (by omega) (by omega)]
 ·rw [if_pos (by omega),if_pos (by omega),if_pos (by omega),if_neg (by omega),if_neg (by omega),if_pos (by omega),w64 (x:=2 * x * 1) (by omega) (by omega),w64 (by omega) (by omega)]
 ·rw [if_pos (by omega),if_pos (by omega),if_pos (by omega),if_pos (by omega),if_pos (by omega),if_neg (by omega),if_neg (by omega),if_neg (by omega),if_pos (by omega),w64 (x:=2 * x * 2) (by omega) (by omega),w64 (by omega) (by omega)]
 ·rw [if_pos (by omega),if_pos (by omega),if_pos (by omega),if_pos (by omega),if_pos (by omega),if_pos (by omega),if_pos (by omega),if_neg (by omega),if_neg (by omega),if_neg (by omega),if_neg (by omega),w64 (x:=2 * x * 3) (by omega) (by omega),w64 (by omega) (by omega)]
theorem impl_WinnowBound_is (k : Nat) (n x : Int) (hk : 5 ≤ k) : impl_WinnowBound.f k n x = some (winB n x):=by
 obtain ⟨k,rfl⟩ : ∃ m,k = m + 1:=⟨k - 1,by omega⟩
 unfold impl_WinnowBound.f winB
 rw [impl_within_is,impl_within_is]
 simp only [Option.bind_some]
 by_cases h : inB 1 8 n = true
 ·rw [if_pos h]
  simp only [impl_WinnowBound.j0]
  by_cases h2 : inB 0 n x = true
  ·have a:=inB_iff.1 h
   have b:=inB_iff.1 h2
   rw [if_neg (by simp [h2]),impl_WinnowBound_l k n x (by omega) (by omega) (by omega) (by omega) (by omega)]
   simp [h,h2]
  ·rw [if_pos (by simp [h2])]
   simp [h2]
 ·rw [if_neg h]
  simp [impl_WinnowBound.j0,h]
theorem impl_AreShares_is (k : Nat) (l : List Int) (hn : l.length ≤ 4611686018427387904) (hk : l.length < k) : impl_AreShares.f k l = some (shB l):=by
 unfold impl_AreShares.f shB
 rw [impl_within_is,impl_allWithin_is k l 0 16 hn hk]
 simp only [Option.bind_some]
 cases inB 1 8 (l.length : Int) <;> simp
theorem impl_StepWinnow_is (k : Nat) (sh row : List Int) (a : Int) (h1 : sh.length ≤ 1048576) (h2 : row.length ≤ 1048576) (hk : sh.length + row.length + 1 < k) : impl_StepWinnow.f k sh row a = some (stepW sh row a):=by
 unfold impl_StepWinnow.f stepW
 rw [impl_AreShares_is k sh (by omega) (by omega),impl_isRow_is k row _ (by omega) (by omega),impl_within_is]
 simp only [Option.bind_some]
 by_cases c1 : shB sh = true
 ·by_cases c2 : rowB sh.length row = true
  ·by_cases c3 : inB 0 1 a = true
   ·have:=rowB_length c2
    rw [if_pos c1,if_pos c2,if_pos c3,impl_turn_is k sh row a (by omega) (by omega) (by omega)]
    simp [c1,c2,c3]
   ·rw [if_pos c1,if_pos c2,if_neg c3]
    simp [c3]
  ·rw [if_pos c1,if_neg c2]
   simp [c2]
 ·rw [if_neg c1]
  simp [c1]
theorem ev_of {α : Type} {g : Nat → Option α} {r : α} (B : Nat) (h : ∀ k,B < k → g k = some r) : Ev g r:=⟨B + 1,fun k hk=>h k (by omega)⟩
theorem ev_const {α : Type} (r : α) : Ev (fun _=>some r) r:=Ev.now r
theorem ev_if_pos {α : Type} {c : Prop} [Decidable c] {f g : Nat → Option α} {r : α} (h : c) (k : Ev f r) : Ev (fun n=>if c then f n else g n) r:=Ev.congr (fun n=>if_pos h) k
theorem ev_if_neg {α : Type} {c : Prop} [Decidable c] {f g : Nat → Option α} {r : α} (h : ¬ c) (k : Ev g r) : Ev (fun n=>if c then f n else g n) r:=Ev.congr (fun n=>if_neg h) k
def byt (l : List Int) : Prop:=∀ x ∈ l,0 ≤ x ∧ x ≤ 255
theorem byt_wf {l : List Int} (h : ∀ x ∈ l,(Lit.int .u8 x).wf = true) : byt l:=fun x hx=>by
 have h:=h x hx
 have e1 : IntKind.u8.min = 0:=by decide
 have e2 : IntKind.u8.max = 255:=by decide
 simp only [Lit.wf,Bool.and_eq_true,decide_eq_true_eq] at h
 omega
theorem low8 (x : Int) : 0 ≤ wrap64 (Go.bits .and .u64 (IntKind.u64.wrap x / 1099511627776) 255) ∧ wrap64 (Go.bits .and .u64 (IntKind.u64.wrap x / 1099511627776) 255) ≤ 255:=by
 have h : 0 ≤ IntKind.u64.wrap x ∧ IntKind.u64.wrap x ≤ 18446744073709551615:=by rw [IntKind.wrap_u64];omega
 obtain ⟨n,hn⟩:=Int.eq_ofNat_of_zero_le (show 0 ≤ IntKind.u64.wrap x / 1099511627776 by omega)
 have e : Go.bits .and .u64 (IntKind.u64.wrap x / 1099511627776) 255 = ((n &&& 255 : Nat) : Int):=by
  rw [hn]
  exact bits_and_u64_nat n 255 (by omega) (by omega)
 rw [e]
 have:=Nat.and_le_right (n:=n) (m:=255)
 rw [w64 (by omega) (by omega)]
 omega
theorem next_tells (l : List Int) (a sd : Int) (hb : byt l) (h0 : 0 ≤ a) (h1 : a ≤ 4611686018427387904) : ∃ v sd',spec_l1Cur_next.f l a sd = some (v,a + 1,sd') ∧ 0 ≤ v ∧ v ≤ 255:=by
 unfold spec_l1Cur_next.f
 rw [w64 (x:=a + 1) (by omega) (by omega)]
 by_cases c1 : a < (l.length : Int)
 ·obtain ⟨i,rfl⟩:=Int.eq_ofNat_of_zero_le h0
  have hi : i < l.length:=by omega
  have hx:=hb l[i] (List.getElem_mem hi)
  rw [if_pos c1,if_pos h0,if_pos (by omega)]
  refine ⟨_,_,rfl,?_⟩
  rw [rd_nat l i hi,w64 (by omega) (by omega)]
  exact hx
 ·rw [if_neg c1]
  by_cases c2 : a + 1 ≤ (l.length : Int)
  ·rw [if_pos c2]
   exact ⟨_,_,rfl,by omega,by omega⟩
  ·rw [if_neg c2]
   exact ⟨_,_,rfl,low8 _⟩
theorem pick_tells (l : List Int) (a sd n : Int) (hb : byt l) (h0 : 0 ≤ a) (h1 : a ≤ 4000000000) : ∃ v a' sd',spec_l1Cur_pick.f l a sd n = some (v,a',sd') ∧ 0 ≤ v ∧ (v < n ∨ v = 0 ∧ n ≤ 1) ∧ a ≤ a' ∧ a' ≤ a + 2:=by
 unfold spec_l1Cur_pick.f
 by_cases c1 : n ≤ 1
 ·rw [if_pos c1]
  exact ⟨_,_,_,rfl,by omega,.inr ⟨rfl,c1⟩,by omega,by omega⟩
 ·rw [if_neg c1]
  obtain ⟨v,s1,e1,hv⟩:=next_tells l a sd hb h0 (by omega)
  rw [e1]
  simp only [Option.bind_some]
  by_cases c2 : n > 200
  ·rw [if_pos c2]
   obtain ⟨v2,s2,e2,hv2⟩:=next_tells l (a + 1) s1 hb (by omega) (by omega)
   rw [e2]
   simp only [Option.bind_some]
   rw [if_neg (by omega),w64 (x:=v * 256) (by omega) (by omega),w64 (x:=v * 256 + v2) (by omega) (by omega),Int.tmod_eq_emod_of_nonneg (by omega)]
   exact ⟨_,_,_,rfl,Int.emod_nonneg _ (by omega),.inl (Int.emod_lt_of_pos _ (by omega)),by omega,by omega⟩
  ·rw [if_neg c2,if_neg (by omega),Int.tmod_eq_emod_of_nonneg (by omega)]
   exact ⟨_,_,_,rfl,Int.emod_nonneg _ (by omega),.inl (Int.emod_lt_of_pos _ (by omega)),by omega,by omega⟩
theorem among_tells (l : List Int) (a sd : Int) (xs : List Int) (hb : byt l) (h0 : 0 ≤ a) (h1 : a ≤ 4000000000) (hx : 0 < xs.length) : ∃ v a' sd',spec_l1Cur_among.f l a sd xs = some (v,a',sd') ∧ v ∈ xs ∧ a ≤ a' ∧ a' ≤ a + 2:=by
 unfold spec_l1Cur_among.f
 obtain ⟨v,a',s',e,g0,g1,g2,g3⟩:=pick_tells l a sd (xs.length : Int) hb h0 h1
 rw [e]
 simp only [Option.bind_some]
 obtain ⟨i,rfl⟩:=Int.eq_ofNat_of_zero_le g0
 have hi : i < xs.length:=by omega
 rw [if_pos (by omega),if_pos (by omega),rd_nat xs i hi]
 exact ⟨_,_,_,rfl,List.getElem_mem hi,g2,g3⟩
theorem oneI_tells (l : List Int) (a sd n : Int) (hb : byt l) (h0 : 0 ≤ a) (h1 : a ≤ 4000000000) : ∃ v a' sd',spec_l1Cur_one.f l a sd n = some (v,a',sd') ∧ a ≤ a' ∧ a' ≤ a + 2:=by
 unfold spec_l1Cur_one.f
 obtain ⟨v,a',s',e,_,_,g2,g3⟩:=pick_tells l a sd n hb h0 h1
 rw [e]
 exact ⟨_,_,_,rfl,g2,g3⟩
theorem features3_tells (l : List Int) (a sd : Int) (hb : byt l) (h0 : 0 ≤ a) (h1 : a ≤ 2000000000) : ∃ n : Nat,∃ a' sd',spec_l1Cur_features3.f l a sd = some ((n : Int),a',sd') ∧ n ≤ 9 ∧ a ≤ a' ∧ a' ≤ a + 4:=by
 unfold spec_l1Cur_features3.f
 simp only [Option.bind_some]
 obtain ⟨v,a1,s1,e1,g0,g1,g2,g3⟩:=pick_tells l a sd 24 hb h0 (by omega)
 rw [e1]
 simp only [Option.bind_some]
 have hq : Int.tdiv v 11 = v / 11:=Int.tdiv_eq_ediv_of_nonneg g0
 have hq2 : 0 ≤ v / 11 ∧ v / 11 ≤ 2:=by omega
 rw [hq,w64 (x:=v / 11) (by omega) (by omega),w64 (x:=6 + v / 11) (by omega) (by omega),if_pos (by omega),if_pos (by show (6 : Int) + v / 11 ≤ ((8 : Nat) : Int);omega)]
 obtain ⟨x,a2,s2,e2,hx,g4,g5⟩:=among_tells l a1 s1 (([3,4,5,2,8,1,0,9] : List Int).take (6 + v / 11 : Int).toNat) hb (by omega) (by omega) (by rw [List.length_take];simp only [List.length_cons,List.length_nil];omega)
 rw [e2]
 have hm:=List.mem_of_mem_take hx
 have hr : 0 ≤ x ∧ x ≤ 9:=by
  simp only [List.mem_cons,List.not_mem_nil,or_false] at hm
  omega
 obtain ⟨n,rfl⟩:=Int.eq_ofNat_of_zero_le hr.1
 exact ⟨n,a2,s2,rfl,by omega,by omega,by omega⟩
theorem row3_l (l : List Int) (hb : byt l) (n : Nat) (hn : n ≤ 40) : ∀ (j i : Nat) (xs : List Int) (a sd : Int),i + j = min n 9 → xs.length = i → 0 ≤ a → a + 2 * j ≤ 2000000000 → ∃ r a' sd',Ev (fun k=>spec_l1Cur_row3.l0 k (n : Int) xs (i : Int) l a sd) (r,a',sd') ∧ r.length ≤ 10 ∧ a ≤ a' ∧ a' ≤ a + 2 * j + 4
|0,i,xs,a,sd,hj,hx,h0,h1=>by
  obtain ⟨b,a1,s1,e1,h2,h3⟩:=oneI_tells l a sd 60 hb h0 (by omega)
  have tl : ∃ r a' sd',Ev (fun k=>spec_l1Cur_row3.j1 k xs l a sd) (r,a',sd') ∧ r.length ≤ 10 ∧ a ≤ a' ∧ a' ≤ a + 2 * (0 : Nat) + 4:=by
   by_cases c : b = true
   ·obtain ⟨v,a2,s2,e2,_,g4,g5⟩:=among_tells l a1 s1 [0,2,(-1)] hb (by omega) (by omega) (by decide)
    refine ⟨xs ++ [v],a2,s2,Ev.step (f:=fun _=>some (xs ++ [v],a2,s2)) (fun k=>?_) (ev_const _),by simp;omega,by omega,by omega⟩
    rw [spec_l1Cur_row3.j1,e1]
    simp only [Option.bind_some]
    rw [if_pos c,e2]
    simp only [Option.bind_some]
    rw [if_pos (by omega)]
   ·refine ⟨xs,a1,s1,Ev.step (f:=fun _=>some (xs,a1,s1)) (fun k=>?_) (ev_const _),by omega,by omega,by omega⟩
    rw [spec_l1Cur_row3.j1,e1]
    simp only [Option.bind_some]
    rw [if_neg c]
  obtain ⟨r,a',sd',h,g⟩:=tl
  refine ⟨r,a',sd',Ev.step (fun k=>?_) h,g⟩
  rw [spec_l1Cur_row3.l0]
  by_cases c1 : (i : Int) < (n : Int)
  ·rw [if_pos c1,if_neg (by omega)]
  ·rw [if_neg c1]
|j + 1,i,xs,a,sd,hj,hx,h0,h1=>by
  obtain ⟨v,a1,s1,e1,_,_,h2,h3⟩:=pick_tells l a sd 2 hb h0 (by omega)
  obtain ⟨r,a',sd',h,g1,g2,g3⟩:=row3_l l hb n hn j (i + 1) (xs ++ [v]) a1 s1 (by omega) (by simp [hx]) (by omega) (by omega)
  refine ⟨r,a',sd',Ev.step (fun k=>?_) h,g1,by omega,by omega⟩
  rw [spec_l1Cur_row3.l0,if_pos (by omega),if_pos (by omega),e1]
  simp only [Option.bind_some]
  rw [if_pos (by omega),w64_nat (by omega)]
theorem row3_ev (l : List Int) (hb : byt l) (n : Nat) (hn : n ≤ 40) (a sd : Int) (h0 : 0 ≤ a) (h1 : a ≤ 1000000000) : ∃ r a' sd',Ev (fun k=>spec_l1Cur_row3.f k l a sd (n : Int)) (r,a',sd') ∧ r.length ≤ 10 ∧ a ≤ a' ∧ a' ≤ a + 24:=by
 obtain ⟨r,a',sd',h,g1,g2,g3⟩:=row3_l l hb n hn (min n 9) 0 [] a sd (by omega) rfl h0 (by omega)
 exact ⟨r,a',sd',h,g1,g2,by omega⟩
theorem rows3_l (l : List Int) (hb : byt l) (n : Nat) (hn : n ≤ 40) : ∀ (j : Nat) (xs : List (List Int)) (a sd : Int),xs.length + j ≤ 12 → (∀ r ∈ xs,r.length ≤ 10) → 0 ≤ a → a + 24 * j ≤ 1000000000 → ∃ rs a' sd',Ev (fun k=>spec_l1Cur_rows3.l0 k (n : Int) xs (j : Int) l a sd) (rs,a',sd') ∧ rs.length ≤ 12 ∧ (∀ r ∈ rs,r.length ≤ 10) ∧ a ≤ a' ∧ a' ≤ a + 24 * j
|0,xs,a,sd,hj,hx,h0,h1=>by
  refine ⟨xs,a,sd,Ev.step (f:=fun _=>some (xs,a,sd)) (fun k=>?_) (ev_const _),by omega,hx,by omega,by omega⟩
  rw [spec_l1Cur_rows3.l0,if_neg (by omega)]
|j + 1,xs,a,sd,hj,hx,h0,h1=>by
  obtain ⟨r,a1,s1,e1,g1,g2,g3⟩:=row3_ev l hb n hn a sd h0 (by omega)
  obtain ⟨rs,a2,s2,h,f1,f2,f3,f4⟩:=rows3_l l hb n hn j (xs ++ [r]) a1 s1 (by simp;omega) (fun x hx'=>by
   rcases List.mem_append.1 hx' with q|q
   ·exact hx x q
   ·rw [List.mem_singleton.1 q]
    exact g1) (by omega) (by omega)
  refine ⟨rs,a2,s2,?_,f1,f2,by omega,by omega⟩
  refine Ev.step (f:=fun k=>(spec_l1Cur_row3.f k l a sd (n : Int)).bind fun t=>if xs.length < 5864062014805 then spec_l1Cur_rows3.l0 k (n : Int) (xs ++ [t.1]) (wrap64 (((j + 1 : Nat) : Int) - 1)) l t.2.1 t.2.2 else none) (fun k=>by rw [spec_l1Cur_rows3.l0,if_pos (by omega)]) (Ev.bind e1 (ev_if_pos (by omega) ?_))
  rw [show wrap64 (((j + 1 : Nat) : Int) - 1) = (j : Int) by rw [w64 (by omega) (by omega)];omega]
  exact h
theorem rows3_ev (l : List Int) (hb : byt l) (n : Nat) (hn : n ≤ 40) (a sd : Int) (h0 : 0 ≤ a) (h1 : a ≤ 100000000) : ∃ rs a' sd',Ev (fun k=>spec_l1Cur_rows3.f k l a sd (n : Int)) (rs,a',sd') ∧ rs.length ≤ 12 ∧ (∀ r ∈ rs,r.length ≤ 10) ∧ a ≤ a' ∧ a' ≤ a + 300:=by
 obtain ⟨v,a1,s1,e1,g0,g1,g2,g3⟩:=pick_tells l a sd 12 hb h0 (by omega)
 obtain ⟨j,rfl⟩:=Int.eq_ofNat_of_zero_le g0
 obtain ⟨rs,a2,s2,h,f1,f2,f3,f4⟩:=rows3_l l hb n hn j [] a1 s1 (by simp;omega) (by simp) (by omega) (by omega)
 refine ⟨rs,a2,s2,?_,f1,f2,by omega,by omega⟩
 unfold spec_l1Cur_rows3.f
 exact Ev.bind (ev_of 0 fun k _=>e1) h
theorem drawOr_l (l : List Int) (hb : byt l) (n : Nat) (hn : n ≤ 9) : ∀ (j i : Nat) (xs : List Int) (a sd : Int),i + j = n → xs.length ≤ i → 0 ≤ a → a + 2 * j ≤ 10000000 → ∃ rows set,Ev (fun k=>spec_DrawOrAnswers.l0 k (n : Int) xs (i : Int) l a sd) ((n : Int),rows,set) ∧ rows.length ≤ 12 ∧ (∀ r ∈ rows,r.length ≤ 10) ∧ set.length ≤ 10
|0,i,xs,a,sd,hj,hx,h0,h1=>by
  obtain ⟨b,a1,s1,e1,h2,h3⟩:=oneI_tells l a sd 20 hb h0 (by omega)
  by_cases c : b = true
  ·obtain ⟨v,a2,s2,e2,_,g4,g5⟩:=among_tells l a1 s1 [(-1),0,9] hb (by omega) (by omega) (by decide)
   obtain ⟨rs,a3,s3,h,f1,f2,_,_⟩:=rows3_ev l hb n (by omega) a2 s2 (by omega) (by omega)
   refine ⟨rs,xs ++ [v],?_,f1,f2,by simp;omega⟩
   refine Ev.step (f:=fun k=>(spec_l1Cur_rows3.f k l a2 s2 (n : Int)).bind fun t=>some ((n : Int),t.1,xs ++ [v])) (fun k=>?_) (Ev.bind h (ev_const _))
   rw [spec_DrawOrAnswers.l0,if_neg (by omega),e1]
   simp only [Option.bind_some]
   rw [if_pos c,e2]
   simp only [Option.bind_some]
   rw [if_pos (by omega)]
  ·obtain ⟨rs,a3,s3,h,f1,f2,_,_⟩:=rows3_ev l hb n (by omega) a1 s1 (by omega) (by omega)
   refine ⟨rs,xs,?_,f1,f2,by omega⟩
   refine Ev.step (f:=fun k=>(spec_l1Cur_rows3.f k l a1 s1 (n : Int)).bind fun t=>some ((n : Int),t.1,xs)) (fun k=>?_) (Ev.bind h (ev_const _))
   rw [spec_DrawOrAnswers.l0,if_neg (by omega),e1]
   simp only [Option.bind_some]
   rw [if_neg c]
|j + 1,i,xs,a,sd,hj,hx,h0,h1=>by
  obtain ⟨b,a1,s1,e1,h2,h3⟩:=oneI_tells l a sd 3 hb h0 (by omega)
  by_cases c : b = true
  ·obtain ⟨rows,set,h,g⟩:=drawOr_l l hb n hn j (i + 1) (xs ++ [(i : Int)]) a1 s1 (by omega) (by simp;omega) (by omega) (by omega)
   refine ⟨rows,set,Ev.step (fun k=>?_) h,g⟩
   rw [spec_DrawOrAnswers.l0,if_pos (by omega),e1]
   simp only [Option.bind_some]
   rw [if_pos c,if_pos (by omega),w64_nat (by omega)]
  ·obtain ⟨rows,set,h,g⟩:=drawOr_l l hb n hn j (i + 1) xs a1 s1 (by omega) (by omega) (by omega) (by omega)
   refine ⟨rows,set,Ev.step (fun k=>?_) h,g⟩
   rw [spec_DrawOrAnswers.l0,if_pos (by omega),e1]
   simp only [Option.bind_some]
   rw [if_neg c,w64_nat (by omega)]
theorem drawOr_ev (l : List Int) (hb : byt l) : ∃ n rows set,Ev (fun k=>spec_DrawOrAnswers.f k l) (n,rows,set) ∧ rows.length ≤ 12 ∧ (∀ r ∈ rows,r.length ≤ 10) ∧ set.length ≤ 10:=by
 obtain ⟨n,a1,s1,e1,hn,g2,g3⟩:=features3_tells l 0 0 hb (by omega) (by omega)
 obtain ⟨rows,set,h,g⟩:=drawOr_l l hb n hn n 0 [] a1 s1 (by omega) (by simp) (by omega) (by omega)
 refine ⟨(n : Int),rows,set,?_,g⟩
 unfold spec_DrawOrAnswers.f
 exact Ev.bind (ev_of 0 fun k _=>e1) h
theorem drawBound_ev (l : List Int) (hb : byt l) : ∃ m k,spec_DrawWinnowBound.f l = some (m,k):=by
 obtain ⟨n,a1,s1,e1,hn,g2,g3⟩:=features3_tells l 0 0 hb (by omega) (by omega)
 unfold spec_DrawWinnowBound.f
 rw [e1,Option.bind_some,spec_l1Most_is,Option.bind_some]
 obtain ⟨v,a2,s2,e2,_,_,_,_⟩:=pick_tells l a1 s1 (max 1 (wrap64 ((n : Int) + 1))) hb (by omega) (by omega)
 rw [e2,Option.bind_some]
 obtain ⟨u,a3,s3,e3,_,_,_,_⟩:=pick_tells l a2 s2 24 hb (by omega) (by omega)
 rw [e3,Option.bind_some]
 exact ⟨_,_,rfl⟩
theorem vcut_ev (l : List Int) (hb : byt l) (hl : l.length ≤ 100000) (a : Int) (h0 : 0 ≤ a) (h1 : a ≤ 10) : ∃ z,laws_vCut.f l a = some z ∧ byt z:=by
 unfold laws_vCut.f
 by_cases c : a > (l.length : Int)
 ·rw [if_pos c]
  simp only [Option.bind_some]
  have e : l.drop ((l.length : Int)).toNat = []:=List.drop_of_length_le (by omega)
  rw [if_pos (by omega),if_pos (by omega),e]
  simp only [List.length_nil,List.append_nil,Nat.add_zero]
  rw [if_pos (by omega)]
  rw [if_pos (by first|omega|simp)]
  refine ⟨_,rfl,fun x hx=>?_⟩
  simp only [List.nil_append,List.mem_singleton] at hx
  omega
 ·rw [if_neg c]
  simp only [Option.bind_some]
  have hd : (l.drop a.toNat).length ≤ l.length:=by rw [List.length_drop];omega
  rw [if_pos h0,if_pos (by omega),if_pos (by simp only [List.length_nil];omega)]
  simp only [Option.bind_some,List.nil_append]
  rw [if_pos (by omega)]
  refine ⟨_,rfl,fun x hx=>?_⟩
  rcases List.mem_append.1 hx with hx|hx
  ·exact hb x (List.mem_of_mem_drop hx)
  ·rw [List.mem_singleton] at hx
   omega
theorem drawRun_ev (l : List Int) (hb : byt l) : ∃ n rows ans,Ev (fun k=>spec_DrawRunWinnow.f k l) (n,rows,ans) ∧ rows.length ≤ 12 ∧ (∀ r ∈ rows,r.length ≤ 10) ∧ ans.length ≤ 12:=by
 obtain ⟨n,a1,s1,e1,hn,g2,g3⟩:=features3_tells l 0 0 hb (by omega) (by omega)
 obtain ⟨rows,a2,s2,h2,f1,f2,f3,f4⟩:=rows3_ev l hb n (by omega) a1 s1 (by omega) (by omega)
 obtain ⟨v,a3,s3,e3,u0,u1,u2,u3⟩:=pick_tells l a2 s2 2 hb (by omega) (by omega)
 have w : wrap64 (1 + v) = 1 + v:=w64 (by omega) (by omega)
 have tl : (([0,2] : List Int).take ((1 + v : Int)).toNat).length ≤ 2:=by rw [List.length_take];simp only [List.length_cons,List.length_nil];omega
 have or_ : Ev (fun k=>spec_OrAnswers.f k (n : Int) rows (([0,2] : List Int).take ((1 + v : Int)).toNat)) (orA (n : Int) rows (([0,2] : List Int).take ((1 + v : Int)).toNat)):=ev_of 100000000 fun k hk=>spec_OrAnswers_is k _ rows _ (by omega) (fun r hr=>by have:=f2 r hr;omega) (by omega) hk
 have ol:=orA_length (n : Int) rows (([0,2] : List Int).take ((1 + v : Int)).toNat)
 obtain ⟨b,a4,s4,e4,q1,q2⟩:=oneI_tells l a3 s3 3 hb (by omega) (by omega)
 obtain ⟨r1,a5,s5,h5,z1,_,_⟩:=row3_ev l hb rows.length (by omega) a4 s4 (by omega) (by omega)
 obtain ⟨r2,a6,s6,h6,z2,_,_⟩:=row3_ev l hb rows.length (by omega) a3 s3 (by omega) (by omega)
 have fin : ∃ ans,ans.length ≤ 12 ∧ Ev (fun k=>(spec_OrAnswers.f k (n : Int) rows (([0,2] : List Int).take ((1 + v : Int)).toNat)).bind fun bt=>if bt.2 = true then ((spec_l1Cur_one.f l a3 s3 3).bind fun bt361=>(if bt361.1 = true then ((spec_l1Cur_row3.f k l bt361.2.1 bt361.2.2 (rows.length : Int)).bind fun bt364=>(some ((n : Int),rows,bt364.1))) else (some ((n : Int),rows,bt.1)))) else ((spec_l1Cur_row3.f k l a3 s3 (rows.length : Int)).bind fun bt369=>(some ((n : Int),rows,bt369.1)))) ((n : Int),rows,ans):=by
  by_cases c : (orA (n : Int) rows (([0,2] : List Int).take ((1 + v : Int)).toNat)).2 = true
  ·by_cases d : b = true
   ·exact ⟨r1,by omega,Ev.bind or_ (ev_if_pos c (Ev.bind (ev_of 0 fun k _=>e4) (ev_if_pos d (Ev.bind h5 (ev_const _)))))⟩
   ·exact ⟨_,by omega,Ev.bind or_ (ev_if_pos c (Ev.bind (ev_of 0 fun k _=>e4) (ev_if_neg d (ev_const _))))⟩
  ·exact ⟨r2,by omega,Ev.bind or_ (ev_if_neg c (Ev.bind h6 (ev_const _)))⟩
 obtain ⟨ans,ha,hf⟩:=fin
 refine ⟨(n : Int),rows,ans,?_,f1,f2,ha⟩
 unfold spec_DrawRunWinnow.f
 refine Ev.bind (ev_of 0 fun k _=>e1) (Ev.bind h2 ?_)
 simp only [Option.bind_some]
 refine Ev.bind (ev_of 0 fun k _=>e3) ?_
 refine ev_if_pos (by show 0 ≤ wrap64 (1 + v);omega) (ev_if_pos (by show wrap64 (1 + v) ≤ ((2 : Nat) : Int);omega) ?_)
 show Ev (fun k=>(spec_l1Own.f (([0,2] : List Int).take (wrap64 (1 + v) : Int).toNat)).bind _) _
 rw [w,spec_l1Own_is _ (by omega)]
 simp only [Option.bind_some]
 exact hf
theorem drawShares_l (l : List Int) (hb : byt l) : ∀ (j : Nat) (xs : List Int) (a sd : Int),xs.length + j ≤ 9 → 0 ≤ a → a + 2 * j ≤ 10000000 → ∃ r,Ev (fun k=>spec_DrawAreShares.l0 k xs (j : Int) l a sd) r ∧ r.length ≤ 9
|0,xs,a,sd,hj,h0,h1=>by
  obtain ⟨b,a1,s1,e1,h2,h3⟩:=oneI_tells l a sd 16 hb h0 (by omega)
  by_cases c : (xs.length : Int) > 0
  ·by_cases d : b = true
   ·obtain ⟨v,a2,s2,e2,_,g4,g5⟩:=among_tells l a1 s1 [(-1),17,3] hb (by omega) (by omega) (by decide)
    refine ⟨xs.set (0 : Int).toNat v,Ev.step (f:=fun _=>some (xs.set (0 : Int).toNat v)) (fun k=>?_) (ev_const _),by rw [List.length_set];omega⟩
    rw [spec_DrawAreShares.l0,if_neg (by omega),if_pos c,e1]
    simp only [Option.bind_some]
    rw [if_pos d,e2]
    simp only [Option.bind_some]
    rw [if_pos (by omega)]
   ·refine ⟨xs,Ev.step (f:=fun _=>some xs) (fun k=>?_) (ev_const _),by omega⟩
    rw [spec_DrawAreShares.l0,if_neg (by omega),if_pos c,e1]
    simp only [Option.bind_some]
    rw [if_neg d]
  ·refine ⟨xs,Ev.step (f:=fun _=>some xs) (fun k=>?_) (ev_const _),by omega⟩
   rw [spec_DrawAreShares.l0,if_neg (by omega),if_neg c]
|j + 1,xs,a,sd,hj,h0,h1=>by
  obtain ⟨v,a1,s1,e1,_,g4,g5⟩:=among_tells l a sd [1,2,0,4,8,16] hb h0 (by omega) (by decide)
  obtain ⟨r,h,hr⟩:=drawShares_l l hb j (xs ++ [v]) a1 s1 (by simp;omega) (by omega) (by omega)
  refine ⟨r,Ev.step (fun k=>?_) h,hr⟩
  rw [spec_DrawAreShares.l0,if_pos (by omega),e1]
  simp only [Option.bind_some]
  rw [if_pos (by omega),show wrap64 (((j + 1 : Nat) : Int) - 1) = (j : Int) by rw [w64 (by omega) (by omega)];omega]
theorem drawStep_ev (l : List Int) (hb : byt l) : ∃ sh row ans,Ev (fun k=>spec_DrawStepWinnow.f k l) (sh,row,ans) ∧ sh.length ≤ 9 ∧ row.length ≤ 10:=by
 obtain ⟨n,a1,s1,e1,hn,g2,g3⟩:=features3_tells l 0 0 hb (by omega) (by omega)
 obtain ⟨sh,h1,hs⟩:=drawShares_l l hb n [] a1 s1 (by simp;omega) (by omega) (by omega)
 have h2 : Ev (fun k=>spec_DrawAreShares.f k l) sh:=by
  unfold spec_DrawAreShares.f
  exact Ev.bind (ev_of 0 fun k _=>e1) h1
 obtain ⟨row,a2,s2,h3,hr,q1,q2⟩:=row3_ev l hb sh.length (by omega) 0 0 (by omega) (by omega)
 obtain ⟨v,a3,s3,e3,_,_,_,_⟩:=pick_tells l a2 s2 2 hb (by omega) (by omega)
 obtain ⟨u,a4,s4,e4,_,_,_,_⟩:=pick_tells l a3 s3 24 hb (by omega) (by omega)
 refine ⟨sh,row,wrap64 (v + (wrap64 (Int.tdiv u 23))),?_,hs,hr⟩
 unfold spec_DrawStepWinnow.f
 exact Ev.bind h2 (Ev.bind h3 (Ev.bind (ev_of 0 fun k _=>e3) (Ev.bind (ev_of 0 fun k _=>e4) (ev_const _))))
theorem rowB_all {n : Int} {r : List Int} (h : rowB n r = true) : r.all (inB 0 1) = true:=by
 unfold rowB at h
 exact (Bool.and_eq_true_iff.1 h).2
theorem all16 {sh : List Int} (h : sh.all (inB 0 16) = true) : ∀ i (hi : i < sh.length),0 ≤ sh[i] ∧ sh[i] ≤ 16:=fun i hi=>inB_iff.1 (List.all_eq_true.1 h _ (List.getElem_mem hi))
theorem wdot_plain {sh row : List Int} (hl : sh.length ≤ 8) (hs : sh.all (inB 0 16) = true) (hr : row.all (inB 0 1) = true) : wdot 0 sh row = dot sh row:=by
 have:=wdot_eq (M:=16) (by omega) sh row 0 (by omega) (fun i h h'=>by
  have a:=all16 hs i h
  have b:=inB_iff.1 (List.all_eq_true.1 hr _ (List.getElem_mem h'))
  rcases (show row[i] = 0 ∨ row[i] = 1 by omega) with e|e <;> rw [e] <;> omega) (by omega) (by omega)
 omega
theorem dot_nonneg : ∀ {sh row : List Int},sh.all (inB 0 16) = true → row.all (inB 0 1) = true → 0 ≤ dot sh row
|[],row,_,_=>by simp [dot]
|o :: sh,[],_,_=>by simp [dot]
|o :: sh,b :: row,hs,hr=>by
  simp only [List.all_cons,Bool.and_eq_true] at hs hr
  have a:=inB_iff.1 hs.1
  have c:=inB_iff.1 hr.1
  have ih:=dot_nonneg hs.2 hr.2
  rw [dot]
  rcases (show b = 0 ∨ b = 1 by omega) with e|e <;> rw [e] <;> omega
theorem dot_active : ∀ {sh row : List Int} (i : Nat),sh.all (inB 0 16) = true → row.all (inB 0 1) = true → i < sh.length → rd row (i : Int) = 1 → rd sh (i : Int) ≤ dot sh row
|[],row,i,_,_,h,_=>by simp at h
|o :: sh,[],i,_,_,_,h=>by simp [rd] at h
|o :: sh,b :: row,0,hs,hr,_,h=>by
  simp only [List.all_cons,Bool.and_eq_true] at hs hr
  have n:=dot_nonneg hs.2 hr.2
  have e : b = 1:=by simpa [rd] using h
  rw [dot,e]
  simp only [rd]
  simp
  omega
|o :: sh,b :: row,i + 1,hs,hr,hi,h=>by
  simp only [List.all_cons,Bool.and_eq_true] at hs hr
  have a:=inB_iff.1 hs.1
  have c:=inB_iff.1 hr.1
  have e1 : rd (b :: row) ((i + 1 : Nat) : Int) = rd row (i : Int):=by simp [rd]
  have e2 : rd (o :: sh) ((i + 1 : Nat) : Int) = rd sh (i : Int):=by simp [rd]
  rw [e1] at h
  rw [e2,dot]
  have ih:=dot_active i hs.2 hr.2 (by simpa using hi) h
  rcases (show b = 0 ∨ b = 1 by omega) with e|e <;> rw [e] <;> omega
theorem wturn_rd (c : Int) : ∀ (sh row : List Int) (i : Nat),i < sh.length → row.length = sh.length → rd (wturn c sh row) (i : Int) = if rd row (i : Int) = 1 then wrap64 (rd sh (i : Int) * c) else rd sh (i : Int)
|[],row,i,h,_=>by simp at h
|o :: sh,[],i,_,h=>by simp at h
|o :: sh,b :: row,0,_,_=>by simp [rd,wturn]
|o :: sh,b :: row,i + 1,h,hl=>by
  have ih:=wturn_rd c sh row i (by simpa using h) (by simpa using hl)
  have e1 : rd (b :: row) ((i + 1 : Nat) : Int) = rd row (i : Int):=by simp [rd]
  have e2 : rd (o :: sh) ((i + 1 : Nat) : Int) = rd sh (i : Int):=by simp [rd]
  have e3 : rd (wturn c (o :: sh) (b :: row)) ((i + 1 : Nat) : Int) = rd (wturn c sh row) (i : Int):=by simp [rd,wturn]
  rw [e1,e2,e3]
  exact ih
theorem wturn_sum2 : ∀ (sh row : List Int),sh.all (inB 0 16) = true → row.all (inB 0 1) = true → row.length = sh.length → (wturn 2 sh row).sum = sh.sum + dot sh row
|[],row,_,_,_=>by simp [wturn,dot]
|o :: sh,[],_,_,h=>by simp at h
|o :: sh,b :: row,hs,hr,hl=>by
  simp only [List.all_cons,Bool.and_eq_true] at hs hr
  have a:=inB_iff.1 hs.1
  have c:=inB_iff.1 hr.1
  have ih:=wturn_sum2 sh row hs.2 hr.2 (by simpa using hl)
  rw [wturn,List.sum_cons,List.sum_cons,dot,ih]
  rcases (show b = 0 ∨ b = 1 by omega) with e|e
  ·rw [e,if_neg (by omega)]
   omega
  ·rw [e,if_pos rfl,w64 (by omega) (by omega)]
   omega
theorem wturn_sum0 : ∀ (sh row : List Int),sh.all (inB 0 16) = true → row.all (inB 0 1) = true → row.length = sh.length → (wturn 0 sh row).sum = sh.sum - dot sh row
|[],row,_,_,_=>by simp [wturn,dot]
|o :: sh,[],_,_,h=>by simp at h
|o :: sh,b :: row,hs,hr,hl=>by
  simp only [List.all_cons,Bool.and_eq_true] at hs hr
  have a:=inB_iff.1 hs.1
  have c:=inB_iff.1 hr.1
  have ih:=wturn_sum0 sh row hs.2 hr.2 (by simpa using hl)
  rw [wturn,List.sum_cons,List.sum_cons,dot,ih]
  rcases (show b = 0 ∨ b = 1 by omega) with e|e
  ·rw [e,if_neg (by omega)]
   omega
  ·rw [e,if_pos rfl,w64 (by omega) (by omega)]
   omega
theorem wturn_all2 : ∀ (sh row : List Int),sh.all (inB 0 16) = true → row.all (inB 0 1) = true → dot sh row ≤ 7 → (wturn 2 sh row).all (inB 0 16) = true
|[],row,_,_,_=>by simp [wturn]
|o :: sh,[],hs,_,_=>by simpa [wturn] using hs
|o :: sh,b :: row,hs,hr,hd=>by
  simp only [List.all_cons,Bool.and_eq_true] at hs hr
  have a:=inB_iff.1 hs.1
  have c:=inB_iff.1 hr.1
  have n:=dot_nonneg hs.2 hr.2
  rw [dot] at hd
  rw [wturn,List.all_cons,Bool.and_eq_true]
  rcases (show b = 0 ∨ b = 1 by omega) with e|e
  ·rw [e] at hd ⊢
   rw [if_neg (by omega)]
   exact ⟨hs.1,wturn_all2 sh row hs.2 hr.2 (by omega)⟩
  ·rw [e] at hd ⊢
   rw [if_pos rfl,w64 (by omega) (by omega)]
   exact ⟨inB_iff.2 ⟨by omega,by omega⟩,wturn_all2 sh row hs.2 hr.2 (by omega)⟩
theorem wturn_all0 : ∀ (sh row : List Int),sh.all (inB 0 16) = true → (wturn 0 sh row).all (inB 0 16) = true
|[],row,_=>by simp [wturn]
|o :: sh,[],hs=>by simpa [wturn] using hs
|o :: sh,b :: row,hs=>by
  simp only [List.all_cons,Bool.and_eq_true] at hs
  rw [wturn,List.all_cons,Bool.and_eq_true]
  refine ⟨?_,wturn_all0 sh row hs.2⟩
  split
  ·rw [Int.mul_zero,w64 (by omega) (by omega)]
   exact inB_iff.2 ⟨by omega,by omega⟩
  ·exact hs.1
theorem w2 : wrap64 (2 * 1) = 2:=by unfold wrap64;omega
theorem w0 : wrap64 (2 * 0) = 0:=by unfold wrap64;omega
theorem turn_cases {sh row : List Int} {a : Int} (hl : sh.length ≤ 8) (hs : sh.all (inB 0 16) = true) (hr : row.all (inB 0 1) = true) (ha : a = 0 ∨ a = 1) :
  (winTurn sh row a = (sh,true)) ∨ (a = 1 ∧ dot sh row < (sh.length : Int) ∧ winTurn sh row a = (wturn 2 sh row,false)) ∨ (a = 0 ∧ (sh.length : Int) ≤ dot sh row ∧ winTurn sh row a = (wturn 0 sh row,false)):=by
 unfold winTurn
 rw [wdot_plain hl hs hr]
 rcases ha with rfl|rfl
 ·by_cases c : dot sh row ≥ (sh.length : Int)
  ·right;right
   rw [if_pos c,if_neg (by omega),w0]
   exact ⟨rfl,c,rfl⟩
  ·left
   rw [if_neg c,if_pos rfl]
 ·by_cases c : dot sh row ≥ (sh.length : Int)
  ·left
   rw [if_pos c,if_pos rfl]
  ·right;left
   rw [if_neg c,if_neg (by omega),w2]
   exact ⟨rfl,by omega,rfl⟩
theorem turn_all {sh row : List Int} {a : Int} (hl : sh.length ≤ 8) (hs : sh.all (inB 0 16) = true) (hr : row.all (inB 0 1) = true) (ha : a = 0 ∨ a = 1) : (winTurn sh row a).1.all (inB 0 16) = true:=by
 rcases turn_cases hl hs hr ha with e|⟨_,h,e⟩|⟨_,_,e⟩
 ·rw [e]
  exact hs
 ·rw [e]
  exact wturn_all2 sh row hs hr (by omega)
 ·rw [e]
  exact wturn_all0 sh row hs
theorem run_all (n : Nat) (hn : n ≤ 8) : ∀ (rs : List (List Int)) (az sh : List Int) (c : Int),sh.length = n → sh.all (inB 0 16) = true → (∀ r ∈ rs,rowB n r = true) → az.all (inB 0 1) = true → (runL sh c rs az).1.all (inB 0 16) = true
|[],_,sh,c,_,h,_,_=>by simpa [runL] using h
|r :: rs,[],sh,c,_,h,_,_=>by simpa [runL] using h
|r :: rs,a :: az,sh,c,hl,h,hr,ha=>by
  simp only [List.all_cons,Bool.and_eq_true] at ha
  have a1:=inB_iff.1 ha.1
  rw [runL]
  exact run_all n hn rs az _ _ (by rw [winTurn_length];exact hl) (turn_all (by omega) h (rowB_all (hr r (List.mem_cons_self ..))) (by omega)) (fun r hr'=>hr r (List.mem_cons_of_mem _ hr')) ha.2
theorem runW_shares {n : Int} {rows : List (List Int)} {ans : List Int} (h : (runW n rows ans).2.2 = true) : shB (runW n rows ans).1 = true:=by
 unfold runW at h ⊢
 by_cases c : (rowsB n rows && rowB rows.length ans) = true
 ·rw [if_pos c]
  have c2:=Bool.and_eq_true_iff.1 c
  obtain ⟨b1,b8,_,br⟩:=rowsB_parts c2.1
  have e : ((n.toNat : Nat) : Int) = n:=by omega
  unfold shB
  rw [runL_length,List.length_replicate,e,inB_iff.2 ⟨b1,b8⟩,Bool.true_and]
  refine run_all n.toNat (by omega) rows ans _ 0 (by simp) ?_ (fun r hr=>by rw [e];exact br r hr) (rowB_all c2.2)
  exact List.all_eq_true.2 fun x hx=>by rw [List.eq_of_mem_replicate hx];rfl
 ·rw [if_neg c] at h
  simp at h
theorem stepW_shares {sh row : List Int} {a : Int} (h : (stepW sh row a).2.2 = true) : shB (stepW sh row a).1 = true ∧ ((stepW sh row a).2.1 = true → (stepW sh row a).1 = sh):=by
 unfold stepW at h ⊢
 by_cases c : (shB sh && rowB sh.length row && inB 0 1 a) = true
 ·rw [if_pos c]
  have c2:=Bool.and_eq_true_iff.1 c
  have c3:=Bool.and_eq_true_iff.1 c2.1
  have c4:=c3.1
  unfold shB at c4
  have c5:=Bool.and_eq_true_iff.1 c4
  have l:=inB_iff.1 c5.1
  have a1:=inB_iff.1 c2.2
  refine ⟨?_,fun q=>?_⟩
  ·unfold shB
   simp only
   rw [winTurn_length,c5.1,Bool.true_and]
   exact turn_all (by omega) c5.2 (rowB_all c3.2) (by omega)
  ·rcases turn_cases (by omega) c5.2 (rowB_all c3.2) (show a = 0 ∨ a = 1 by omega) with e|⟨_,h',e⟩|⟨_,_,e⟩
   ·simp only [e]
   ·simp only [e] at q
    exact absurd q (by simp)
   ·simp only [e] at q
    exact absurd q (by simp)
 ·rw [if_neg c] at h
  simp at h
def gl (x : Int) : Int:=if x ≤ 1 then 0 else if x ≤ 2 then 1 else if x ≤ 4 then 2 else 3
theorem gl_range (x : Int) : 0 ≤ gl x ∧ gl x ≤ 3:=by
 unfold gl
 split
 ·omega
 ·split
  ·omega
  ·split <;> omega
def gsum (sh : List Int) : List Int → Int
|[]=>0
|s :: ss=>gl (rd sh s) + gsum sh ss
theorem gsum_le (sh : List Int) (m : Int) : ∀ (set : List Int),(∀ s ∈ set,gl (rd sh s) ≤ m) → gsum sh set ≤ (set.length : Int) * m
|[],_=>by simp [gsum]
|s :: ss,h=>by
  have a:=h s (List.mem_cons_self ..)
  have ih:=gsum_le sh m ss fun x hx=>h x (List.mem_cons_of_mem _ hx)
  rw [gsum,List.length_cons,show (((ss.length + 1 : Nat) : Int)) = (ss.length : Int) + 1 by omega,Int.add_mul,Int.one_mul]
  omega
def okS (n : Int) (x : Int) : Prop:=(x = 1 ∨ x = 2 ∨ x = 4 ∨ x = 8) ∧ gl x ≤ gl n
theorem okS_double {n x : Int} (h : okS n x) (hx : x < n) (hn : n ≤ 8) : okS n (wrap64 (x * 2)) ∧ gl (wrap64 (x * 2)) = gl x + 1:=by
 obtain ⟨h1,h2⟩:=h
 rw [w64 (by omega) (by omega)]
 unfold okS
 rcases h1 with rfl|rfl|rfl|rfl
 ·have e : gl n ≥ 1:=by unfold gl;rw [if_neg (by omega)];split;omega;split <;> omega
  exact ⟨⟨by omega,by show (1 : Int) ≤ _;exact e⟩,rfl⟩
 ·have e : gl n ≥ 2:=by unfold gl;rw [if_neg (by omega),if_neg (by omega)];split <;> omega
  exact ⟨⟨by omega,by show (2 : Int) ≤ _;exact e⟩,rfl⟩
 ·have e : gl n = 3:=by unfold gl;rw [if_neg (by omega),if_neg (by omega),if_neg (by omega)]
  exact ⟨⟨by omega,by rw [e];show (3 : Int) ≤ _;omega⟩,rfl⟩
 ·omega
theorem rd_bit {row : List Int} (hr : row.all (inB 0 1) = true) {s : Int} (h0 : 0 ≤ s) (h1 : s < (row.length : Int)) : rd row s = 0 ∨ rd row s = 1:=by
 obtain ⟨i,rfl⟩:=Int.eq_ofNat_of_zero_le h0
 rw [rd_nat row i (by omega)]
 have:=inB_iff.1 (List.all_eq_true.1 hr _ (List.getElem_mem (show i < row.length by omega)))
 omega
theorem orV_tells (row : List Int) : ∀ (set : List Int) (a : Int),(a = 0 ∨ a = 1) → (∀ s ∈ set,rd row s = 0 ∨ rd row s = 1) → (orV row a set = 0 ∧ a = 0 ∧ ∀ s ∈ set,rd row s = 0) ∨ (orV row a set = 1 ∧ (a = 1 ∨ ∃ s ∈ set,rd row s = 1))
|[],a,ha,_=>by
  rw [orV]
  rcases ha with rfl|rfl
  ·exact .inl ⟨rfl,rfl,by simp⟩
  ·exact .inr ⟨rfl,.inl rfl⟩
|s :: ss,a,ha,h=>by
  rw [orV]
  have hs:=h s (List.mem_cons_self ..)
  have hm : max a (rd row s) = 0 ∨ max a (rd row s) = 1:=by omega
  rcases orV_tells row ss (max a (rd row s)) hm (fun x hx=>h x (List.mem_cons_of_mem _ hx)) with ⟨e,e2,e3⟩|⟨e,e2⟩
  ·refine .inl ⟨e,by omega,fun x hx=>?_⟩
   rcases List.mem_cons.1 hx with rfl|hx
   ·omega
   ·exact e3 x hx
  ·refine .inr ⟨e,?_⟩
   rcases e2 with e2|⟨x,hx,e2⟩
   ·by_cases c : a = 1
    ·exact .inl c
    ·exact .inr ⟨s,List.mem_cons_self ..,by omega⟩
   ·exact .inr ⟨x,List.mem_cons_of_mem _ hx,e2⟩
theorem gsum_keep (sh sh' : List Int) : ∀ (set : List Int),(∀ s ∈ set,gl (rd sh s) ≤ gl (rd sh' s)) → gsum sh set ≤ gsum sh' set
|[],_=>by simp [gsum]
|s :: ss,h=>by
  have a:=h s (List.mem_cons_self ..)
  have ih:=gsum_keep sh sh' ss fun x hx=>h x (List.mem_cons_of_mem _ hx)
  rw [gsum,gsum]
  omega
theorem gsum_more (sh sh' : List Int) : ∀ (set : List Int),(∀ s ∈ set,gl (rd sh s) ≤ gl (rd sh' s)) → (∃ s ∈ set,gl (rd sh s) + 1 ≤ gl (rd sh' s)) → gsum sh set + 1 ≤ gsum sh' set
|[],_,⟨s,hs,_⟩=>by simp at hs
|s :: ss,h,⟨x,hx,he⟩=>by
  have a:=h s (List.mem_cons_self ..)
  have hk:=fun x hx=>h x (List.mem_cons_of_mem s hx)
  rw [gsum,gsum]
  rcases List.mem_cons.1 hx with rfl|hx
  ·have:=gsum_keep sh sh' ss hk
   omega
  ·have:=gsum_more sh sh' ss hk ⟨x,hx,he⟩
   omega
theorem sum_nonneg16 : ∀ {sh : List Int},sh.all (inB 0 16) = true → 0 ≤ sh.sum
|[],_=>by simp
|o :: sh,h=>by
  simp only [List.all_cons,Bool.and_eq_true] at h
  have a:=inB_iff.1 h.1
  have:=sum_nonneg16 h.2
  rw [List.sum_cons]
  omega
theorem run_bound (n : Nat) (h1 : 1 ≤ n) (hn : n ≤ 8) (set : List Int) (hset : ∀ s ∈ set,0 ≤ s ∧ s < (n : Int)) : ∀ (rs : List (List Int)) (sh : List Int) (c P D : Int),sh.length = n → sh.all (inB 0 16) = true → (∀ r ∈ rs,rowB n r = true) → (∀ s ∈ set,okS n (rd sh s)) → 0 ≤ P → 0 ≤ D → P ≤ gsum sh set → sh.sum + D * (n : Int) ≤ (n : Int) + P * (n : Int) → c = P + D → c + rs.length ≤ 1000 →
  (∀ s ∈ set,rd (runL sh c rs (rs.map fun r=>orV r 0 set)).1 s ≠ 0) ∧ (runL sh c rs (rs.map fun r=>orV r 0 set)).2.1 ≤ 1 + 2 * (set.length : Int) * gl n ∧ (runL sh c rs (rs.map fun r=>orV r 0 set)).2.2 = true
|[],sh,c,P,D,hl,hs,hr,ho,hP,hD,hg,hsum,hc,hb=>by
  simp only [List.map_nil,runL]
  refine ⟨fun s q=>?_,?_,trivial⟩
  ·obtain ⟨q1,_⟩:=ho s q
   omega
  ·have g:=gsum_le sh (gl n) set fun s q=>(ho s q).2
   have ns:=sum_nonneg16 hs
   have hDP : D ≤ 1 + P:=by
    refine Int.not_lt.1 fun q=>?_
    have : (2 + P) * (n : Int) ≤ D * (n : Int):=Int.mul_le_mul_of_nonneg_right (by omega) (by omega)
    rw [Int.add_mul] at this
    omega
   rw [Int.mul_assoc]
   omega
|r :: rs,sh,c,P,D,hl,hs,hr,ho,hP,hD,hg,hsum,hc,hb=>by
  have hrr:=hr r (List.mem_cons_self ..)
  have hbits:=rowB_all hrr
  have hrl:=rowB_length hrr
  have hset2 : ∀ s ∈ set,rd r s = 0 ∨ rd r s = 1:=fun s q=>rd_bit hbits (hset s q).1 (by have:=(hset s q).2;omega)
  simp only [List.length_cons] at hb
  rw [List.map_cons,runL]
  have rd_t : ∀ (f : Int) (s : Int),s ∈ set → rd (wturn f sh r) s = if rd r s = 1 then wrap64 (rd sh s * f) else rd sh s:=fun f s q=>by
   obtain ⟨q1,q2⟩:=hset s q
   obtain ⟨i,rfl⟩:=Int.eq_ofNat_of_zero_le q1
   exact wturn_rd f sh r i (by omega) (by omega)
  have ha : orV r 0 set = 0 ∨ orV r 0 set = 1:=by
   rcases orV_tells r set 0 (.inl rfl) hset2 with ⟨e,_,_⟩|⟨e,_⟩ <;> omega
  rcases turn_cases (by omega) hs hbits ha with e|⟨ea,hd,e⟩|⟨ea,hd,e⟩
  ·simp only [e,if_true]
   exact run_bound n h1 hn set hset rs sh c P D hl hs (fun x hx=>hr x (List.mem_cons_of_mem _ hx)) ho hP hD hg hsum hc (by omega)
  ·simp only [e,Bool.false_eq_true,if_false]
   rw [w64 (by have:=gsum_le sh 3 set (fun s _=>(gl_range _).2);omega) (by omega)]
   have act : ∀ s ∈ set,rd r s = 1 → rd sh s < (n : Int):=fun s q q1=>by
    obtain ⟨z1,z2⟩:=hset s q
    obtain ⟨i,rfl⟩:=Int.eq_ofNat_of_zero_le z1
    have:=dot_active i hs hbits (by omega) q1
    omega
   have ok2 : ∀ s ∈ set,okS n (rd (wturn 2 sh r) s) ∧ gl (rd sh s) ≤ gl (rd (wturn 2 sh r) s) ∧ (rd r s = 1 → gl (rd sh s) + 1 ≤ gl (rd (wturn 2 sh r) s)):=fun s q=>by
    rw [rd_t 2 s q]
    by_cases c1 : rd r s = 1
    ·rw [if_pos c1]
     obtain ⟨z1,z2⟩:=okS_double (ho s q) (act s q c1) (by omega)
     exact ⟨z1,by omega,fun _=>by omega⟩
    ·rw [if_neg c1]
     exact ⟨ho s q,Int.le_refl _,fun q=>absurd q c1⟩
   have some1 : ∃ s ∈ set,rd r s = 1:=by
    rcases orV_tells r set 0 (.inl rfl) hset2 with ⟨e',_,_⟩|⟨_,e'⟩
    ·omega
    ·rcases e' with e'|e'
     ·omega
     ·exact e'
   obtain ⟨s,q,q1⟩:=some1
   have gm:=gsum_more sh (wturn 2 sh r) set (fun s q=>(ok2 s q).2.1) ⟨s,q,(ok2 s q).2.2 q1⟩
   have sm:=wturn_sum2 sh r hs hbits (by omega)
   refine run_bound n h1 hn set hset rs (wturn 2 sh r) (c + 1) (P + 1) D (by rw [wturn_length];exact hl) (wturn_all2 sh r hs hbits (by omega)) (fun x hx=>hr x (List.mem_cons_of_mem _ hx)) (fun s q=>(ok2 s q).1) (by omega) hD (by omega) ?_ (by omega) (by omega)
   rw [sm,Int.add_mul,Int.one_mul]
   omega
  ·simp only [e,Bool.false_eq_true,if_false]
   rw [w64 (by omega) (by omega)]
   have none1 : ∀ s ∈ set,rd r s = 0:=by
    rcases orV_tells r set 0 (.inl rfl) hset2 with ⟨_,_,e'⟩|⟨e',_⟩
    ·exact e'
    ·omega
   have same : ∀ s ∈ set,rd (wturn 0 sh r) s = rd sh s:=fun s q=>by
    rw [rd_t 0 s q,none1 s q,if_neg (by omega)]
   have sm:=wturn_sum0 sh r hs hbits (by omega)
   have gk:=gsum_keep sh (wturn 0 sh r) set (fun s q=>by rw [same s q];exact Int.le_refl _)
   refine run_bound n h1 hn set hset rs (wturn 0 sh r) (c + 1) P (D + 1) (by rw [wturn_length];exact hl) (wturn_all0 sh r hs) (fun x hx=>hr x (List.mem_cons_of_mem _ hx)) (fun s q=>by rw [same s q];exact ho s q) hP (by omega) (by omega) ?_ (by omega) (by omega)
   rw [sm,Int.add_mul,Int.one_mul]
   omega
theorem vInts_l (x : List Int) (hx : x.length ≤ 1000000) : ∀ (j i : Nat),i + j = x.length → Ev (fun k=>laws_vInts.l0 k x x (i : Int)) true
|0,i,hj=>by
  refine Ev.step (f:=fun _=>some true) (fun k=>?_) (ev_const _)
  rw [laws_vInts.l0,if_neg (by omega)]
|j + 1,i,hj=>by
  refine Ev.step (fun k=>?_) (vInts_l x hx j (i + 1) (by omega))
  rw [laws_vInts.l0,if_pos (by omega),if_pos (by omega),if_pos (by omega),if_pos rfl,w64_nat (by omega)]
theorem vInts_ev (x : List Int) (hx : x.length ≤ 1000000) : Ev (fun k=>laws_vInts.f k x x) true:=by
 unfold laws_vInts.f
 exact ev_if_pos rfl (vInts_l x hx x.length 0 (by omega))
theorem fin_l (set en : List Int) (hz : ∀ s ∈ set,0 ≤ s ∧ s < (en.length : Int) ∧ rd en s ≠ 0) (hl : set.length ≤ 1000000) (m b : Int) (hmb : m ≤ b) : ∀ (j i : Nat),i + j = set.length → Ev (fun k=>laws_FnWinnow.l0 k set en m true b true (i : Int)) true
|0,i,hj=>by
  refine Ev.step (f:=fun k=>laws_FnWinnow.j3 k set en m true b true (i : Int) (decide ((i : Int) < (set.length : Int)))) (fun k=>by rw [laws_FnWinnow.l0,if_pos rfl]) ?_
  refine Ev.step (f:=fun _=>some true) (fun k=>?_) (ev_const _)
  rw [decide_eq_false (by omega),laws_FnWinnow.j3,if_neg (by simp),if_pos rfl,if_pos rfl,decide_eq_true hmb]
|j + 1,i,hj=>by
  have hi : i < set.length:=by omega
  obtain ⟨z1,z2,z3⟩:=hz set[i] (List.getElem_mem hi)
  refine Ev.step (f:=fun k=>laws_FnWinnow.j3 k set en m true b true (i : Int) (decide ((i : Int) < (set.length : Int)))) (fun k=>by rw [laws_FnWinnow.l0,if_pos rfl]) ?_
  refine Ev.step (fun k=>?_) (fin_l set en hz hl m b hmb j (i + 1) (by omega))
  rw [decide_eq_true (show (i : Int) < (set.length : Int) by omega),laws_FnWinnow.j3,if_pos rfl,if_pos (by omega),if_pos (by omega),rd_nat set i hi,if_pos z1,if_pos z2,if_neg z3,w64_nat (by omega)]
theorem rd_rep (n : Nat) {s : Int} (h0 : 0 ≤ s) (h1 : s < (n : Int)) : rd (List.replicate n 1) s = 1:=by
 obtain ⟨i,rfl⟩:=Int.eq_ofNat_of_zero_le h0
 rw [rd_nat _ i (by simp;omega)]
 simp
theorem rep_sum : ∀ n : Nat,(List.replicate n (1 : Int)).sum = (n : Int)
|0=>rfl
|n + 1=>by
  rw [List.replicate_succ,List.sum_cons,rep_sum n]
  omega
theorem j1_ev (n : Int) (rows : List (List Int)) (set : List Int) (hn : rows.length ≤ 12) (hr : ∀ r ∈ rows,r.length ≤ 10) (hm : set.length ≤ 10) : Ev (fun k=>laws_FnWinnow.j1 k n rows set (orA n rows set).1 (orA n rows set).2 false) true:=by
 by_cases c : (rowsB n rows && (set.all (inB 0 (wrap64 (n - 1))) && upB set)) = true
 ·have e : orA n rows set = (rows.map fun row=>orV row 0 set,true):=by unfold orA;rw [if_pos c]
  rw [e]
  have c1:=Bool.and_eq_true_iff.1 c
  have c2:=Bool.and_eq_true_iff.1 c1.2
  obtain ⟨b1,b8,b40,br⟩:=rowsB_parts c1.1
  have hset:=c2.1
  rw [w64 (by omega) (by omega)] at hset
  have hs : ∀ s ∈ set,0 ≤ s ∧ s < n:=fun s q=>by
   have:=inB_iff.1 (List.all_eq_true.1 hset s q)
   omega
  obtain ⟨N,rfl⟩:=Int.eq_ofNat_of_zero_le (show 0 ≤ n by omega)
  have sl:=upB_length ((N : Int) - 1) set 0 hset c2.2 (by omega)
  have bits : ∀ r ∈ rows,∀ s ∈ set,rd r s = 0 ∨ rd r s = 1:=fun r hr' s q=>rd_bit (rowB_all (br r hr')) (hs s q).1 (by have:=rowB_length (br r hr');have:=(hs s q).2;omega)
  have ansB : rowB rows.length (rows.map fun row=>orV row 0 set) = true:=by
   unfold rowB
   rw [Bool.and_eq_true_iff]
   refine ⟨decide_eq_true (by rw [List.length_map]),List.all_eq_true.2 fun x hx=>?_⟩
   obtain ⟨r,q,rfl⟩:=List.mem_map.1 hx
   rcases orV_tells r set 0 (.inl rfl) (bits r q) with ⟨e,_⟩|⟨e,_⟩ <;> rw [e] <;> rfl
  have rb:=run_bound N (by omega) (by omega) set hs rows (List.replicate N 1) 0 0 0 (by simp) (List.all_eq_true.2 fun x hx=>by rw [List.eq_of_mem_replicate hx];rfl) br (fun s q=>by
   rw [rd_rep N (hs s q).1 (hs s q).2]
   exact ⟨.inl rfl,(gl_range _).1⟩) (by omega) (by omega) (by
   have : ∀ l : List Int,0 ≤ gsum (List.replicate N 1) l:=fun l=>by
    induction l with
   |nil=>simp [gsum]
   |cons s l ih =>
     have:=gl_range (rd (List.replicate N 1) s)
     rw [gsum]
     omega
   exact this set) (by rw [rep_sum];omega) (by omega) (by omega)
  have er : runW (N : Int) rows (rows.map fun row=>orV row 0 set) = runL (List.replicate N 1) 0 rows (rows.map fun row=>orV row 0 set):=by
   unfold runW
   rw [if_pos (Bool.and_eq_true_iff.2 ⟨c1.1,ansB⟩),Int.toNat_natCast]
  have hlen : (runL (List.replicate N 1) 0 rows (rows.map fun row=>orV row 0 set)).1.length = N:=by rw [runL_length];simp
  have wb : winB (N : Int) (set.length : Int) = (1 + 2 * (set.length : Int) * gl N,true):=by
   unfold winB
   rw [if_pos (Bool.and_eq_true_iff.2 ⟨inB_iff.2 ⟨b1,b8⟩,inB_iff.2 ⟨by omega,by omega⟩⟩)]
   rfl
  have h1 : Ev (fun k=>impl_RunWinnow.f k (N : Int) rows (rows.map fun row=>orV row 0 set)) (runL (List.replicate N 1) 0 rows (rows.map fun row=>orV row 0 set)):=ev_of 2097200 fun k hk=>by rw [impl_RunWinnow_is k _ rows _ (by omega) (fun r q=>by have:=hr r q;omega) (by rw [List.length_map];omega) hk,er]
  have h2 : Ev (fun k=>impl_WinnowBound.f k (N : Int) (set.length : Int)) (1 + 2 * (set.length : Int) * gl N,true):=ev_of 5 fun k hk=>by rw [impl_WinnowBound_is k _ _ (by omega),wb]
  refine Ev.step (fun k=>by rw [laws_FnWinnow.j1,if_neg (by simp),if_pos rfl]) (Ev.bind h1 (Ev.bind h2 ?_))
  have f:=fin_l set (runL (List.replicate N 1) 0 rows (rows.map fun row=>orV row 0 set)).1 (fun s q=>⟨(hs s q).1,by rw [hlen];exact (hs s q).2,rb.1 s q⟩) (by omega) _ _ rb.2.1 set.length 0 (by omega)
  rw [rb.2.2]
  exact f
 ·have e : orA n rows set = ([],false):=by unfold orA;rw [if_neg c]
  rw [e]
  refine Ev.step (f:=fun _=>some true) (fun k=>?_) (ev_const _)
  rw [laws_FnWinnow.j1,if_neg (by simp),if_neg (by simp)]
theorem FnWinnow : ∀ (l0 : List Int),l0.length ≤ maxLen → (∀ x ∈ l0,(Lit.int .u8 x).wf = true) → ∃ k,laws_FnWinnow.f k l0 = some true:=by
 intro l hl hw
 have hb:=byt_wf hw
 refine Ev.rounds (g:=fun k=>laws_FnWinnow.f k l) ?_
 unfold laws_FnWinnow.f laws_vBig.f
 refine Ev.bind (ev_const _) ?_
 by_cases c : decide ((l.length : Int) > 65536) = true
 ·exact ev_if_pos c (ev_const _)
 refine ev_if_neg c ?_
 have hl2 : l.length ≤ 65536:=by
  have : ¬ ((l.length : Int) > 65536):=fun h=>c (decide_eq_true h)
  omega
 obtain ⟨n,rows,set,d1,a1,a2,a3⟩:=drawOr_ev l hb
 obtain ⟨u1,v1,hb1⟩:=vcut_ev l hb (by omega) 1 (by omega) (by omega)
 obtain ⟨m,x,d2⟩:=drawBound_ev u1 hb1
 obtain ⟨u2,v2,hb2⟩:=vcut_ev l hb (by omega) 2 (by omega) (by omega)
 obtain ⟨n3,rows3,ans3,d3,r1,r2,r3⟩:=drawRun_ev u2 hb2
 obtain ⟨sh,row,ans,d4,s1,s2⟩:=drawStep_ev l hb
 have i1 : Ev (fun k=>impl_OrAnswers.f k n rows set) (orA n rows set):=ev_of 100000000 fun k hk=>impl_OrAnswers_is k n rows set (by omega) (fun r q=>by have:=a2 r q;omega) (by omega) hk
 have i1' : Ev (fun k=>spec_OrAnswers.f k n rows set) (orA n rows set):=ev_of 100000000 fun k hk=>spec_OrAnswers_is k n rows set (by omega) (fun r q=>by have:=a2 r q;omega) (by omega) hk
 have i2 : Ev (fun k=>impl_WinnowBound.f k m x) (winB m x):=ev_of 5 fun k hk=>impl_WinnowBound_is k m x (by omega)
 have i2' : Ev (fun k=>spec_WinnowBound.f k m x) (winB m x):=ev_of 5 fun k hk=>spec_WinnowBound_is k m x (by omega)
 have i3 : Ev (fun k=>impl_RunWinnow.f k n3 rows3 ans3) (runW n3 rows3 ans3):=ev_of 2097200 fun k hk=>impl_RunWinnow_is k n3 rows3 ans3 (by omega) (fun r q=>by have:=r2 r q;omega) (by omega) hk
 have i3' : Ev (fun k=>spec_RunWinnow.f k n3 rows3 ans3) (runW n3 rows3 ans3):=ev_of 2097200 fun k hk=>spec_RunWinnow_is k n3 rows3 ans3 (by omega) (fun r q=>by have:=r2 r q;omega) (by omega) hk
 have i4 : Ev (fun k=>impl_StepWinnow.f k sh row ans) (stepW sh row ans):=ev_of 100 fun k hk=>impl_StepWinnow_is k sh row ans (by omega) (by omega) (by omega)
 have i4' : Ev (fun k=>spec_StepWinnow.f k sh row ans) (stepW sh row ans):=ev_of 100 fun k hk=>spec_StepWinnow_is k sh row ans (by omega) (by omega) (by omega)
 have i5 : Ev (fun k=>impl_AreShares.f k sh) (shB sh):=ev_of 100 fun k hk=>impl_AreShares_is k sh (by omega) (by omega)
 have i5' : Ev (fun k=>spec_AreShares.f k sh) (shB sh):=ev_of 100 fun k hk=>spec_AreShares_is k sh (by omega) (by omega)
 have l1:=orA_length n rows set
 have l2:=runW_length n3 rows3 ans3
 have l3:=stepW_length sh row ans
 have q1:=vInts_ev (orA n rows set).1 (by omega)
 have q2:=vInts_ev (runW n3 rows3 ans3).1 (by omega)
 have q3:=vInts_ev (stepW sh row ans).1 (by omega)
 have J:=j1_ev n rows set a1 a2 a3
 have rw_:=@runW_shares n3 rows3 ans3
 have st_:=@stepW_shares sh row ans
 have ar : Ev (fun k=>impl_AreShares.f k (runW n3 rows3 ans3).1) (shB (runW n3 rows3 ans3).1):=ev_of 100 fun k hk=>impl_AreShares_is k _ (by omega) (by omega)
 have as_ : Ev (fun k=>impl_AreShares.f k (stepW sh row ans).1) (shB (stepW sh row ans).1):=ev_of 100 fun k hk=>impl_AreShares_is k _ (by omega) (by omega)
 have j0 : Ev (fun k=>laws_FnWinnow.j0 k n rows set (orA n rows set).1 (orA n rows set).2 (runW n3 rows3 ans3).1 (runW n3 rows3 ans3).2.2 sh (stepW sh row ans).1 (stepW sh row ans).2.1 (stepW sh row ans).2.2 (shB sh != shB sh)) true:=by
  have tail : Ev (fun k=>if (runW n3 rows3 ans3).2.2 = true then ((impl_AreShares.f k (runW n3 rows3 ans3).1).bind fun t=>laws_FnWinnow.j1 k n rows set (orA n rows set).1 (orA n rows set).2 (!t)) else laws_FnWinnow.j1 k n rows set (orA n rows set).1 (orA n rows set).2 false) true:=by
   by_cases c : (runW n3 rows3 ans3).2.2 = true
   ·rw [rw_ c] at ar
    exact ev_if_pos c (Ev.bind ar J)
   ·exact ev_if_neg c J
  rw [bne_self_eq_false]
  refine Ev.step (fun k=>by rw [laws_FnWinnow.j0,if_neg (by simp)]) ?_
  by_cases c : (stepW sh row ans).2.2 = true
  ·obtain ⟨g1,g2⟩:=st_ c
   rw [g1] at as_
   refine ev_if_pos c (Ev.bind as_ (ev_if_pos rfl ?_))
   by_cases d : (stepW sh row ans).2.1 = true
   ·have q4:=q3
    rw [g2 d] at q4
    refine ev_if_pos d ?_
    rw [g2 d]
    exact Ev.bind q4 (ev_if_pos rfl tail)
   ·exact ev_if_neg d tail
  ·exact ev_if_neg c tail
 refine Ev.bind d1 (Ev.bind i1 (Ev.bind i1' (Ev.bind (ev_of 0 fun k _=>v1) (Ev.bind (ev_of 0 fun k _=>d2) (Ev.bind i2 (Ev.bind i2' (Ev.bind (ev_of 0 fun k _=>v2) (Ev.bind d3 (Ev.bind i3 (Ev.bind i3' (Ev.bind d4 (Ev.bind i4 (Ev.bind i4' ?_)))))))))))))
 refine ev_if_neg (by simp) (Ev.bind q1 (ev_if_pos rfl (ev_if_pos rfl (ev_if_neg (by simp) (ev_if_neg (by simp) (ev_if_pos rfl (Ev.bind q2 (ev_if_pos rfl (ev_if_neg (by simp) (ev_if_neg (by simp) (Ev.bind q3 (ev_if_pos rfl (Ev.bind i5 (Ev.bind i5' j0))))))))))))))
end Go.Proofs.Ytgbgkifddjeabaa.Pure
end
