/- Proved: the law FnExactParseSample answers true for every text; no condition. -/
import Derived.Lib.Atoi
import Derived.Lib.IndexBytes
import Derived.Lib.IndexLaws
import Derived.Lib.ItoaLen
import Derived.Lib.ItoaNum
import Derived.Lib.Join
import Derived.Lib.SplitLaws
import Derived.Test.YtkgjacacldcacaaDoorVFnExactParseSample
import Derived.Test.YtkgjacacldcacaaDoorZFnExactParseSamplex10
section
set_option linter.unusedVariables false
set_option linter.unusedSimpArgs false
namespace Go.Proofs.YtkgjacacldcacaaDoor.Base
open Go.RowKit Go.Proofs.YtkgjacacldcacaaDoorW.PrintWords Go.Proofs.YtkgjacacldcacaaDoorW.PrintLast Go.Proofs.YtkgjacacldcacaaDoorW.PrintMore
theorem w64 {x : Int} (h1 : -9223372036854775808 ≤ x) (h2 : x ≤ 9223372036854775807) : wrap64 x = x:=by
 unfold wrap64
 omega
theorem w64_nat {n : Nat} (h : n ≤ 4611686018427387904) : wrap64 ((n : Int) + 1) = ((n + 1 : Nat) : Int):=by
 rw [w64 (by omega) (by omega)]
 omega
theorem rd_nat (l : List Int) (i : Nat) (h : i < l.length) : rd l (i : Int) = l[i]:=by
 simp [rd,h]
def inB (lo hi x : Int) : Bool:=decide (lo ≤ x ∧ x ≤ hi)
theorem inB_iff {lo hi x : Int} : inB lo hi x = true ↔ lo ≤ x ∧ x ≤ hi:=by simp [inB]
theorem within_is (a lo hi : Int) : (if a ≥ lo then (some (decide (a ≤ hi))) else (some false)) = some (inB lo hi a):=by
 unfold inB
 by_cases h : a ≥ lo
 ·rw [if_pos h]
  congr 1
  by_cases h2 : a ≤ hi <;> simp [h2]
  omega
 ·rw [if_neg h]
  congr 1
  simp
  omega
def marks : Int → Nat → List Int
|_,0=>[]
|a,n + 1=>a :: marks (a + 1) n
theorem marks_length : ∀ (n : Nat) (a : Int),(marks a n).length = n
|0,_=>rfl
|n + 1,a=>by simp [marks,marks_length n]
theorem marks_get : ∀ (n : Nat) (a : Int) (i : Nat) (h : i < (marks a n).length),(marks a n)[i] = a + i
|0,_,i,h=>by simp [marks] at h
|n + 1,a,0,h=>by simp [marks]
|n + 1,a,i + 1,h=>by
  simp only [marks,List.getElem_cons_succ]
  rw [marks_get n (a + 1) i]
  omega
def ptB (x : List Int) : Bool:=inB 1 4 x.length && x.all (inB (-9) 9)
theorem all_range {l : List Int} {lo hi : Int} (h : l.all (inB lo hi) = true) (i : Nat) (hi' : i < l.length) : lo ≤ l[i] ∧ l[i] ≤ hi:=by
 have:=List.all_eq_true.1 h l[i] (List.getElem_mem hi')
 exact inB_iff.1 this
theorem set_mid (pre post : List Int) (x y : Int) (n : Nat) (h : n = pre.length) : (pre ++ x :: post).set n y = pre ++ y :: post:=by
 subst h
 simp
theorem rd_mid (pre post : List Int) (x : Int) (n : Nat) (h : n = pre.length) : rd (pre ++ x :: post) (n : Int) = x:=by
 subst h
 simp [rd]
def lbB (x : Int) : Bool:=decide (x = 1 ∨ x = -1)
def smB (ps : List (List Int)) (ls : List Int) : Bool:=decide (ps.length ≤ 16) && decide (ls.length = ps.length) && ls.all lbB && ps.all (fun x=>ptB x && decide (x.length = (ps.headD []).length))
theorem ptB_parts {x : List Int} (h : ptB x = true) : x.all (inB (-9) 9) = true ∧ 1 ≤ x.length ∧ x.length ≤ 4:=by
 unfold ptB at h
 have h2:=Bool.and_eq_true_iff.1 h
 have:=inB_iff.1 h2.1
 exact ⟨h2.2,by omega,by omega⟩
theorem smB_parts {ps : List (List Int)} {ls : List Int} (h : smB ps ls = true) : ps.length ≤ 16 ∧ ls.length = ps.length ∧ ls.all lbB = true ∧ ∀ x ∈ ps,ptB x = true ∧ x.length = (ps.headD []).length:=by
 unfold smB at h
 have h2:=Bool.and_eq_true_iff.1 h
 have h3:=Bool.and_eq_true_iff.1 h2.1
 have h4:=Bool.and_eq_true_iff.1 h3.1
 refine ⟨of_decide_eq_true h4.1,of_decide_eq_true h4.2,h3.2,fun x hx=>?_⟩
 have q:=Bool.and_eq_true_iff.1 (List.all_eq_true.1 h2.2 x hx)
 exact ⟨q.1,of_decide_eq_true q.2⟩
end Go.Proofs.YtkgjacacldcacaaDoor.Base
end
section
set_option linter.unusedVariables false
set_option linter.unusedSimpArgs false
namespace Go.Proofs.YtkgjacacldcacaaDoor.Pure
open Go.RowKit Go.Proofs.YtkgjacacldcacaaDoor.QFnExactParseSample Go.Proofs.YtkgjacacldcacaaDoorW.PrintWords Go.Proofs.YtkgjacacldcacaaDoorW.PrintLast Go.Proofs.YtkgjacacldcacaaDoorW.PrintMore Go.Proofs.YtkgjacacldcacaaDoor.Base
theorem laws_eqIntS_l : ∀ (k i : Nat) (l r : List Int),l.length ≤ 4611686018427387904 → r.length = l.length → i ≤ l.length → l.length < i + k → laws_eqIntS.l0 k l r (i : Int) = some (decide (l.drop i = r.drop i))
|0,i,l,r,_,_,_,hk=>by omega
|k + 1,i,l,r,hn,hl,hi,hk=>by
  simp only [laws_eqIntS.l0]
  by_cases h : i < l.length
  ·rw [if_pos (by omega),if_pos (by omega),if_pos (by omega),rd_nat l i h,rd_nat r i (by omega),w64_nat (by omega),laws_eqIntS_l k (i + 1) l r hn hl (by omega) (by omega),List.drop_eq_getElem_cons h,List.drop_eq_getElem_cons (show i < r.length by omega)]
   by_cases e : l[i] = r[i]'(by omega)
   ·rw [if_pos e,e]
    simp only [List.cons.injEq,true_and]
   ·rw [if_neg e]
    simp only [List.cons.injEq,e,false_and,decide_false]
  ·rw [if_neg (by omega),List.drop_of_length_le (by omega),List.drop_of_length_le (by omega)]
   simp
theorem laws_eqIntS_is (k : Nat) (l r : List Int) (hn : l.length ≤ 4611686018427387904) (hk : l.length < k) : laws_eqIntS.f k l r = some (decide (l = r)):=by
 unfold laws_eqIntS.f
 by_cases h : l.length = r.length
 ·rw [if_pos (by omega)]
  have:=laws_eqIntS_l k 0 l r hn (by omega) (by omega) (by omega)
  simpa using this
 ·rw [if_neg (by omega)]
  have : l ≠ r:=fun e=>h (by rw [e])
  simp [this]
theorem laws_eqIntS_same (k : Nat) (l : List Int) (hn : l.length ≤ 4611686018427387904) (hk : l.length < k) : laws_eqIntS.f k l l = some true:=by
 rw [laws_eqIntS_is k l l hn hk]
 simp
theorem laws_eqIntSS_l : ∀ (k i : Nat) (l : List (List Int)),l.length ≤ 1048576 → (∀ r ∈ l,r.length ≤ 1048576) → i ≤ l.length → l.length + 1048576 < i + k → laws_eqIntSS.l0 k l l (i : Int) = some true
|0,i,l,_,_,_,hk=>by omega
|k + 1,i,l,hn,hr,hi,hk=>by
  simp only [laws_eqIntSS.l0]
  by_cases h : i < l.length
  ·have e : rd_L1 l (i : Int) = l[i]:=by simp [rd_L1,h]
   have hx:=hr l[i] (List.getElem_mem h)
   rw [if_pos (by omega),if_pos (by omega),if_pos (by omega),e,laws_eqIntS_same k l[i] (by omega) (by omega)]
   simp only [Option.bind_some,if_true]
   rw [w64_nat (by omega)]
   exact laws_eqIntSS_l k (i + 1) l hn hr (by omega) (by omega)
  ·rw [if_neg (by omega)]
theorem laws_eqIntSS_same (k : Nat) (l : List (List Int)) (hn : l.length ≤ 1048576) (hr : ∀ r ∈ l,r.length ≤ 1048576) (hk : 2097152 < k) : laws_eqIntSS.f k l l = some true:=by
 unfold laws_eqIntSS.f
 rw [if_pos rfl]
 exact laws_eqIntSS_l k 0 l hn hr (by omega) (by omega)
theorem laws_eqSample_same (k : Nat) (l : List (List Int)) (m : List Int) (hn : l.length ≤ 1048576) (hr : ∀ r ∈ l,r.length ≤ 1048576) (hm : m.length ≤ 1048576) (hk : 2097152 < k) : laws_eqSample.f k l m l m = some true:=by
 unfold laws_eqSample.f
 rw [laws_eqIntSS_same k l hn hr hk,laws_eqIntS_same k m (by omega) (by omega)]
 rfl
theorem spec_l2Labels_l : ∀ (k i : Nat) (l : List Int),l.length ≤ 4611686018427387904 → i ≤ l.length → l.length < i + k → spec_l2Labels.l0 k l (i : Int) = some ((l.drop i).all lbB)
|0,_,_,_,_,hk=>by omega
|k + 1,i,l,hn,hi',hk=>by
  simp only [spec_l2Labels.l0]
  by_cases h : i < l.length
  ·rw [if_pos (by omega),if_pos (by omega),rd_nat l i h,w64_nat (by omega),List.drop_eq_getElem_cons h,List.all_cons,spec_l2Labels_l k (i + 1) l hn (by omega) (by omega)]
   by_cases e1 : l[i] = 1
   ·rw [if_pos e1]
    simp [lbB,e1]
   ·by_cases e2 : l[i] = -1
    ·rw [if_neg e1,if_pos e2]
     simp [lbB,e2]
    ·rw [if_neg e1,if_neg e2]
     simp [lbB,e1,e2]
  ·rw [if_neg (by omega),List.drop_of_length_le (by omega)]
   simp
theorem spec_l2Labels_is (k : Nat) (l : List Int) (hn : l.length ≤ 4611686018427387904) (hk : l.length < k) : spec_l2Labels.f k l = some (l.all lbB):=by
 unfold spec_l2Labels.f
 have:=spec_l2Labels_l k 0 l hn (by omega) (by omega)
 simpa using this
theorem spec_l1In_is (a lo hi : Int) : spec_l1In.f a lo hi = some (inB lo hi a):=by
 unfold spec_l1In.f
 exact within_is a lo hi
theorem spec_l2Numbers_l : ∀ (k i : Nat) (l : List Int) (m : Int),-4611686018427387904 ≤ m → m ≤ 4611686018427387904 → l.length ≤ 4611686018427387904 → i ≤ l.length → l.length < i + k → spec_l2Numbers.l0 k l m (i : Int) = some ((l.drop i).all (inB (-m) m))
|0,_,_,_,_,_,_,_,hk=>by omega
|k + 1,i,l,m,h1,h2,hn,hi,hk=>by
  simp only [spec_l2Numbers.l0]
  by_cases h : i < l.length
  ·rw [if_pos (by omega),if_pos (by omega),spec_l1In_is,rd_nat l i h,w64_nat (by omega),w64 (by omega) (by omega),List.drop_eq_getElem_cons h,List.all_cons,spec_l2Numbers_l k (i + 1) l m h1 h2 hn (by omega) (by omega)]
   simp only [Option.bind_some]
   by_cases e : inB (-m) m l[i] = true
   ·rw [if_pos e,e]
    simp
   ·rw [if_neg e]
    simp [e]
  ·rw [if_neg (by omega),List.drop_of_length_le (by omega)]
   simp
theorem spec_l2Numbers_is (k : Nat) (l : List Int) (m : Int) (h1 : -4611686018427387904 ≤ m) (h2 : m ≤ 4611686018427387904) (hn : l.length ≤ 4611686018427387904) (hk : l.length < k) : spec_l2Numbers.f k l m = some (l.all (inB (-m) m)):=by
 unfold spec_l2Numbers.f
 have:=spec_l2Numbers_l k 0 l m h1 h2 hn (by omega) (by omega)
 simpa using this
theorem spec_l2Point_is (k : Nat) (l : List Int) (hn : l.length ≤ 4611686018427387904) (hk : l.length < k) : spec_l2Point.f k l = some (ptB l):=by
 unfold spec_l2Point.f ptB
 rw [spec_l1In_is,spec_l2Numbers_is k l 9 (by omega) (by omega) hn hk]
 simp only [Option.bind_some]
 cases inB 1 4 (l.length : Int) <;> simp
theorem spec_l2Sample_l (k0 : Nat) (hk0 : 1048576 < k0) : ∀ (k i : Nat) (l : List (List Int)) (m : List Int),l.length ≤ 16 → (∀ r ∈ l,r.length ≤ 1048576) → i ≤ l.length → l.length < i + k → spec_l2Sample.l0 (k + k0) (i : Int) l m = some ((l.drop i).all fun x=>ptB x && decide (x.length = (l.headD []).length))
|0,i,l,m,_,_,_,hk=>by omega
|k + 1,i,l,m,hn,hr,hi,hk=>by
  rw [show k + 1 + k0 = (k + k0) + 1 by omega]
  simp only [spec_l2Sample.l0]
  by_cases h : i < l.length
  ·have e : rd_L1 l (i : Int) = l[i]:=by simp [rd_L1,h]
   have e0 : rd_L1 l 0 = l.headD []:=by cases l <;> simp [rd_L1]
   have hx:=hr l[i] (List.getElem_mem h)
   rw [if_pos (by omega),if_pos (by omega),e,spec_l2Point_is (k + k0) l[i] (by omega) (by omega),e0]
   simp only [Option.bind_some]
   rw [List.drop_eq_getElem_cons h,List.all_cons]
   by_cases c1 : ptB l[i] = true
   ·rw [if_pos c1,if_pos (by omega),c1,Bool.true_and]
    by_cases c2 : l[i].length = (l.headD []).length
    ·rw [if_pos (by omega),w64_nat (by omega),spec_l2Sample_l k0 hk0 k (i + 1) l m hn hr (by omega) (by omega)]
     simp [c2]
    ·rw [if_neg (by omega)]
     simp only [c2,decide_false,Bool.false_and,Bool.and_false]
   ·rw [if_neg c1]
    simp [c1]
  ·rw [if_neg (by omega),List.drop_of_length_le (by omega)]
   simp
theorem spec_l2Sample_is (k : Nat) (l : List (List Int)) (m : List Int) (hr : ∀ r ∈ l,r.length ≤ 1048576) (hm : m.length ≤ 1048576) (hk : 1048600 < k) : spec_l2Sample.f k l m = some (smB l m):=by
 obtain ⟨k,rfl⟩ : ∃ q,k = q + 1:=⟨k - 1,by omega⟩
 unfold spec_l2Sample.f smB
 by_cases c1 : l.length ≤ 16
 ·rw [if_neg (by omega)]
  by_cases c2 : m.length = l.length
  ·rw [if_pos (by omega),spec_l2Labels_is _ m (by omega) (by omega)]
   simp only [Option.bind_some,spec_l2Sample.j0]
   have:=spec_l2Sample_l (k - 17) (by omega) 17 0 l m c1 hr (by omega) (by omega)
   rw [show 17 + (k - 17) = k by omega] at this
   rw [show ((0 : Nat) : Int) = 0 from rfl] at this
   rw [this]
   cases e : m.all lbB
   ·simp
   ·simp [c1,c2]
  ·rw [if_neg (by omega)]
   simp [spec_l2Sample.j0,c2]
 ·rw [if_pos (by omega)]
  simp [spec_l2Sample.j0,c1]
theorem impl_within_is (a lo hi : Int) : impl_within.f a lo hi = some (inB lo hi a):=by
 unfold impl_within.f
 exact within_is a lo hi
theorem impl_allWithin_l : ∀ (k i : Nat) (l : List Int) (lo hi : Int),l.length ≤ 4611686018427387904 → i ≤ l.length → l.length < i + k → impl_allWithin.l0 k lo hi l (l.length : Int) (i : Int) = some ((l.drop i).all (inB lo hi))
|0,_,_,_,_,_,_,hk=>by omega
|k + 1,i,l,lo,hi,hn,hi',hk=>by
  simp only [impl_allWithin.l0]
  by_cases h : i < l.length
  ·rw [if_pos (by omega),if_pos (by omega),if_pos (by omega),impl_within_is,rd_nat l i h,w64_nat (by omega),List.drop_eq_getElem_cons h,List.all_cons,impl_allWithin_l k (i + 1) l lo hi hn (by omega) (by omega)]
   simp only [Option.bind_some]
   by_cases e : inB lo hi l[i] = true
   ·rw [if_pos e,e]
    simp
   ·rw [if_neg e]
    simp [e]
  ·rw [if_neg (by omega),List.drop_of_length_le (by omega)]
   simp
theorem impl_allWithin_is (k : Nat) (l : List Int) (lo hi : Int) (hn : l.length ≤ 4611686018427387904) (hk : l.length < k) : impl_allWithin.f k l lo hi = some (l.all (inB lo hi)):=by
 unfold impl_allWithin.f
 have:=impl_allWithin_l k 0 l lo hi hn (by omega) (by omega)
 simpa using this
theorem impl_IsPoint_is (k : Nat) (l : List Int) (hn : l.length ≤ 4611686018427387904) (hk : l.length < k) : impl_IsPoint.f k l = some (ptB l):=by
 unfold impl_IsPoint.f ptB
 rw [impl_within_is,impl_allWithin_is k l (-9) 9 hn hk]
 simp only [Option.bind_some]
 cases inB 1 4 (l.length : Int) <;> simp
theorem impl_isLabel_is (a : Int) : impl_isLabel.f a = some (lbB a):=by
 unfold impl_isLabel.f lbB
 by_cases e1 : a = 1
 ·rw [if_pos e1]
  simp [e1]
 ·rw [if_neg e1]
  congr 1
  by_cases e2 : a = -1
  ·simp [e2]
  ·simp [e1,e2]
theorem impl_IsSample_l (k0 : Nat) (hk0 : 1048576 < k0) : ∀ (k i : Nat) (l : List (List Int)) (m : List Int),l.length ≤ 16 → m.length = l.length → (∀ r ∈ l,r.length ≤ 1048576) → i ≤ l.length → l.length < i + k → impl_IsSample.l0 (k + k0) l (l.length : Int) (i : Int) l m = some ((m.drop i).all lbB && (l.drop i).all fun x=>ptB x && decide (x.length = (l.headD []).length))
|0,i,l,m,_,_,_,_,hk=>by omega
|k + 1,i,l,m,hn,hm,hr,hi,hk=>by
  rw [show k + 1 + k0 = (k + k0) + 1 by omega]
  simp only [impl_IsSample.l0]
  by_cases h : i < l.length
  ·have h' : i < m.length:=by omega
   have e : rd_L1 l (i : Int) = l[i]:=by simp [rd_L1,h]
   have e0 : rd_L1 l 0 = l.headD []:=by cases l <;> simp [rd_L1]
   have hx:=hr l[i] (List.getElem_mem h)
   rw [if_pos (by omega),if_pos (by omega),if_pos (by omega),e,impl_IsPoint_is (k + k0) l[i] (by omega) (by omega),e0]
   simp only [Option.bind_some]
   rw [List.drop_eq_getElem_cons h,List.all_cons,List.drop_eq_getElem_cons h',List.all_cons]
   by_cases c1 : ptB l[i] = true
   ·rw [if_pos c1,if_pos (by omega),c1,Bool.true_and]
    by_cases c2 : l[i].length = (l.headD []).length
    ·rw [if_pos (by omega),if_pos (by omega),impl_isLabel_is,rd_nat m i h',w64_nat (by omega),impl_IsSample_l k0 hk0 k (i + 1) l m hn hm hr (by omega) (by omega)]
     simp only [Option.bind_some]
     by_cases c3 : lbB m[i] = true
     ·rw [if_pos c3,c3]
      simp [c2]
     ·rw [if_neg c3]
      simp [c3]
    ·rw [if_neg (by omega)]
     simp only [c2,decide_false,Bool.false_and,Bool.and_false]
   ·rw [if_neg c1]
    simp [c1]
  ·rw [if_neg (by omega),List.drop_of_length_le (by omega),List.drop_of_length_le (by omega)]
   simp
theorem impl_IsSample_is (k : Nat) (l : List (List Int)) (m : List Int) (hr : ∀ r ∈ l,r.length ≤ 1048576) (hm : m.length ≤ 1048576) (hk : 1048600 < k) : impl_IsSample.f k l m = some (smB l m):=by
 obtain ⟨k,rfl⟩ : ∃ q,k = q + 1:=⟨k - 1,by omega⟩
 unfold impl_IsSample.f smB
 by_cases c1 : l.length ≤ 16
 ·rw [if_neg (by omega)]
  simp only [impl_IsSample.j0]
  by_cases c2 : m.length = l.length
  ·rw [if_neg (by simp [c2])]
   have:=impl_IsSample_l (k - 17) (by omega) 17 0 l m c1 c2 hr (by omega) (by omega)
   rw [show 17 + (k - 17) = k by omega] at this
   rw [show ((0 : Nat) : Int) = 0 from rfl] at this
   rw [this]
   simp [c1,c2]
  ·rw [if_pos (by simp;omega)]
   simp [c2]
 ·rw [if_pos (by omega)]
  simp [impl_IsSample.j0,c1]
theorem laws_markIntS_l : ∀ (k : Nat) (post pre : List Int) (a : Int),-4611686018427387904 ≤ a → a + post.length ≤ 4611686018427387904 → pre.length + post.length ≤ 4611686018427387904 → post.length < k → laws_markIntS.l0 k (pre ++ post) a (pre.length : Int) = some (a + post.length,pre ++ marks a post.length)
|0,_,_,_,_,_,_,hk=>by omega
|k + 1,[],pre,a,_,_,_,_=>by
  simp only [laws_markIntS.l0]
  rw [if_neg (by simp)]
  simp [marks]
|k + 1,x :: post,pre,a,h1,h2,h3,hk=>by
  simp only [laws_markIntS.l0]
  simp only [List.length_cons] at h2 h3 hk
  rw [if_pos (by simp;omega),if_pos (by omega),w64_nat (by omega),w64 (by omega) (by omega)]
  rw [set_mid pre post x a _ (by simp)]
  have:=laws_markIntS_l k post (pre ++ [a]) (a + 1) (by omega) (by omega) (by simp;omega) (by omega)
  simp only [List.append_assoc,List.singleton_append,List.length_append,List.length_cons,List.length_nil,Nat.zero_add] at this
  rw [this]
  simp only [List.length_cons,marks]
  congr 2
  omega
theorem laws_markIntS_is (k : Nat) (l : List Int) (a : Int) (h1 : -4611686018427387904 ≤ a) (h2 : a + l.length ≤ 4611686018427387904) (h3 : l.length ≤ 4611686018427387904) (hk : l.length < k) : laws_markIntS.f k l a = some (a + l.length,marks a l.length):=by
 unfold laws_markIntS.f
 exact laws_markIntS_l k l [] a h1 h2 (by simpa using h3) hk
theorem laws_heldIntS_l : ∀ (k n i : Nat) (a b : Int),-4611686018427387904 ≤ a → a + n ≤ 4611686018427387904 → n ≤ 4611686018427387904 → i ≤ n → n < i + k → b = a + i → laws_heldIntS.l0 k (marks a n) b (i : Int) = some (a + n)
|0,_,_,_,_,_,_,_,_,hk,_=>by omega
|k + 1,n,i,a,b,h1,h2,h3,hi,hk,hb=>by
  simp only [laws_heldIntS.l0,marks_length]
  by_cases h : i < n
  ·rw [if_pos (by omega),if_pos (by omega),rd_nat _ i (by rw [marks_length];exact h),marks_get,if_pos hb.symm,w64_nat (by omega),w64 (by omega) (by omega)]
   exact laws_heldIntS_l k n (i + 1) a _ h1 h2 h3 (by omega) (by omega) (by omega)
  ·rw [if_neg (by omega)]
   congr 1
   omega
theorem laws_heldIntS_is (k n : Nat) (a : Int) (h1 : -4611686018427387904 ≤ a) (h2 : a + n ≤ 4611686018427387904) (h3 : n ≤ 4611686018427387904) (hk : n < k) : laws_heldIntS.f k (marks a n) a = some (a + n):=by
 unfold laws_heldIntS.f
 exact laws_heldIntS_l k n 0 a a h1 h2 h3 (by omega) (by omega) (by omega)
theorem ev_of {α : Type} {g : Nat → Option α} {r : α} (B : Nat) (h : ∀ k,B < k → g k = some r) : Ev g r:=⟨B + 1,fun k hk=>h k (by omega)⟩
theorem ev_const {α : Type} (r : α) : Ev (fun _=>some r) r:=Ev.now r
theorem ev_if_pos {α : Type} {c : Prop} [Decidable c] {f g : Nat → Option α} {r : α} (h : c) (k : Ev f r) : Ev (fun n=>if c then f n else g n) r:=Ev.congr (fun n=>if_pos h) k
theorem ev_if_neg {α : Type} {c : Prop} [Decidable c] {f g : Nat → Option α} {r : α} (h : ¬ c) (k : Ev g r) : Ev (fun n=>if c then f n else g n) r:=Ev.congr (fun n=>if_neg h) k
def numB (n : Int) : ByteArray:=⟨(Go.Lib.itoa n).toArray⟩
theorem dig_is : ∀ (u : Nat),u < 10 → (⟨#[48,49,50,51,52,53,54,55,56,57]⟩ : ByteArray).extract u (u + 1) = ⟨[UInt8.ofNat (48 + u)].toArray⟩
|0,_=>rfl
|1,_=>rfl
|2,_=>rfl
|3,_=>rfl
|4,_=>rfl
|5,_=>rfl
|6,_=>rfl
|7,_=>rfl
|8,_=>rfl
|9,_=>rfl
|n + 10,h=>by omega
theorem decDigits_le (u : Nat) : (Go.Lib.decDigits u).length ≤ u + 1:=by
 induction u using Nat.strongRecOn with
|_ u ih =>
  rw [Go.Lib.decDigits]
  split
  ·simp
  ·have:=ih (u / 10) (by omega)
   rw [List.length_append]
   simp only [List.length_singleton]
   omega
theorem bytes_app (a b : List UInt8) : (⟨a.toArray⟩ ++ ⟨b.toArray⟩ : ByteArray) = ⟨(a ++ b).toArray⟩:=by
 apply ByteArray.ext
 simp [ByteArray.data_append]
theorem bytes_size (a : List UInt8) : (⟨a.toArray⟩ : ByteArray).size = a.length:=by
 show a.toArray.size = _
 simp
theorem l1Num_nat (u : Nat) (hu : u ≤ 4611686018427387904) : Ev (fun k=>spec_l1Num.f k (u : Int)) (⟨(Go.Lib.decDigits u).toArray⟩ : ByteArray):=by
 induction u using Nat.strongRecOn with
|_ u ih =>
  by_cases c : u < 10
  ·rw [Go.Lib.decDigits,dif_pos c,← dig_is u c]
   have e1 : wrap64 ((u : Int) + 1) = ((u + 1 : Nat) : Int):=w64_nat (by omega)
   refine Ev.step (f:=fun _=>some ((⟨#[48,49,50,51,52,53,54,55,56,57]⟩ : ByteArray).extract u (u + 1))) (fun k=>?_) (ev_const _)
   rw [spec_l1Num.f,if_neg (by omega),if_pos (by omega),if_pos (by omega),e1,if_pos (by omega),if_pos (by omega)]
   rfl
  ·have ih2:=ih (u / 10) (by omega) (by omega)
   have ed : wrap64 (Int.tdiv (u : Int) 10) = ((u / 10 : Nat) : Int):=by
    rw [show Int.tdiv (u : Int) 10 = ((u / 10 : Nat) : Int) from rfl]
    exact w64 (by omega) (by omega)
   have em : Int.tmod (u : Int) 10 = ((u % 10 : Nat) : Int):=rfl
   have e1 : wrap64 (((u % 10 : Nat) : Int) + 1) = ((u % 10 + 1 : Nat) : Int):=w64_nat (by omega)
   have hx:=dig_is (u % 10) (Nat.mod_lt _ (by omega))
   have hl:=decDigits_le (u / 10)
   rw [Go.Lib.decDigits,dif_neg c]
   refine Ev.step (f:=fun k=>(spec_l1Num.f k ((u / 10 : Nat) : Int)).bind fun t=>if t.size + 1 ≤ 9223372036854775807 then some (t ++ ⟨[UInt8.ofNat (48 + u % 10)].toArray⟩) else none) (fun k=>?_) (Ev.bind ih2 (ev_if_pos ?_ ?_))
   ·rw [spec_l1Num.f,if_neg (by omega),if_neg (by omega),ed,em,e1]
    congr 1
    funext t
    rw [if_pos (by omega),if_pos (by omega),if_pos (by omega),Int.toNat_natCast,Int.toNat_natCast,hx,bytes_size]
    rfl
   ·rw [bytes_size]
    omega
   ·rw [bytes_app]
    exact ev_const _
theorem l1Num_ev (n : Int) (h : -4611686018427387904 ≤ n ∧ n ≤ 4611686018427387904) : Ev (fun k=>spec_l1Num.f k n) (numB n):=by
 unfold numB Go.Lib.itoa
 by_cases c : n < 0
 ·rw [if_pos c]
  obtain ⟨u,rfl⟩ : ∃ u : Nat,n = -(u : Int):=⟨n.natAbs,by omega⟩
  have hx:=l1Num_nat u (by omega)
  have hl:=decDigits_le u
  rw [show (-(u : Int)).natAbs = u by omega]
  refine Ev.step (f:=fun k=>(spec_l1Num.f k (u : Int)).bind fun t=>if 1 + t.size ≤ 9223372036854775807 then some ((⟨#[45]⟩ : ByteArray) ++ t) else none) (fun k=>?_) (Ev.bind hx (ev_if_pos ?_ ?_))
  ·rw [spec_l1Num.f,if_pos c,Int.neg_neg,w64 (x:=(u : Int)) (by omega) (by omega)]
  ·rw [bytes_size]
   omega
  ·rw [show (⟨#[45]⟩ : ByteArray) = ⟨([45] : List UInt8).toArray⟩ from rfl,bytes_app]
   exact ev_const _
 ·rw [if_neg c]
  obtain ⟨u,rfl⟩:=Int.eq_ofNat_of_zero_le (show 0 ≤ n by omega)
  exact l1Num_nat u (by omega)
theorem itoa_ev (n : Int) (h : -9223372036854775808 ≤ n ∧ n ≤ 9223372036854775807) : Ev (fun k=>strconv_Itoa.f k n) (numB n):=by
 unfold strconv_Itoa.f
 exact ev_if_pos h.1 (ev_if_pos h.2 (ev_const _))
theorem bt_get (s : ByteArray) (i : Nat) (h : i < s.size) : bt s (i : Int) = (((s.data.toList[i]'h).toNat : Nat) : Int):=by
 rw [← bt_at s (i : Int) h]
 rfl
theorem u8_ne {a b : UInt8} (h : a ≠ b) : ¬ ((a.toNat : Nat) : Int) = ((b.toNat : Nat) : Int):=fun e=>h (UInt8.toNat_inj.1 (by omega))
theorem bsize (s : ByteArray) : s.data.toList.length = s.size:=rfl
def bsOf (l : List UInt8) : ByteArray:=⟨l.toArray⟩
theorem bsOf_data (s : ByteArray) : bsOf s.data.toList = s:=by
 unfold bsOf
 rw [Array.toArray_toList]
theorem ext_list (s : ByteArray) (i j : Nat) : s.extract i j = bsOf ((s.data.toList.take j).drop i):=by
 apply ByteArray.ext
 rw [ByteArray.data_extract]
 unfold bsOf
 apply Array.toList_inj.1
 simp [List.drop_take]
def splL (c : UInt8) : List UInt8 → List (List UInt8)
|[]=>[[]]
|b :: l=>if b = c then [] :: splL c l else match splL c l with
 |[]=>[[b]]
 |p :: ps=>(b :: p) :: ps
def glue (p : List UInt8) : List (List UInt8) → List (List UInt8)
|[]=>[p]
|q :: qs=>(p ++ q) :: qs
theorem spl_ne (c : UInt8) : ∀ l,splL c l ≠ []
|[]=>by simp [splL]
|b :: l=>by
  rw [splL]
  split
  ·simp
  ·split <;> simp
theorem glue_nil : ∀ l,l ≠ [] → glue [] l = l
|[],h=>absurd rfl h
|q :: qs,_=>rfl
theorem glue_cons (c b : UInt8) (h : b ≠ c) (p : List UInt8) (l : List UInt8) : glue p (splL c (b :: l)) = glue (p ++ [b]) (splL c l):=by
 rw [splL,if_neg h]
 cases e : splL c l with
|nil=>exact absurd e (spl_ne c l)
|cons q qs=>simp [glue]
theorem spl_length_le (c : UInt8) : ∀ l,(splL c l).length ≤ l.length + 1
|[]=>by simp [splL]
|b :: l=>by
  have:=spl_length_le c l
  rw [splL]
  split
  ·simp;omega
  ·split
   ·simp
   ·rename_i e;rw [e] at this;simp at this ⊢;omega
theorem split_l (s : ByteArray) (c : UInt8) (hs : s.size ≤ 1048576) : ∀ (j i m : Nat) (out : List ByteArray),i + j = s.size → m ≤ i → out.length ≤ i → Ev (fun k=>spec_l1Split.l0 k s ((c.toNat : Nat) : Int) out (m : Int) (i : Int)) (out ++ (glue ((s.data.toList.take i).drop m) (splL c (s.data.toList.drop i))).map bsOf)
|0,i,m,out,hj,hm,ho=>by
  rw [show s.data.toList.drop i = [] from List.drop_of_length_le (by rw [bsize];omega)]
  refine Ev.step (f:=fun _=>some (out ++ [s.extract m s.size])) (fun k=>?_) ?_
  ·rw [spec_l1Split.l0,if_neg (by omega),if_pos (by omega),if_pos (by omega),if_pos (by omega),Int.toNat_natCast]
  ·rw [ext_list,show s.size = i by omega]
   simp only [splL,glue,List.append_nil,List.map_cons,List.map_nil]
   exact ev_const _
|j + 1,i,m,out,hj,hm,ho=>by
  have hi : i < s.data.toList.length:=by rw [bsize];omega
  have e:=bt_get s i hi
  rw [List.drop_eq_getElem_cons hi]
  by_cases c1 : s.data.toList[i] = c
  ·have ih:=split_l s c hs j (i + 1) (i + 1) (out ++ [s.extract m i]) (by omega) (by omega) (by rw [List.length_append,List.length_singleton];omega)
   refine Ev.step (f:=fun k=>spec_l1Split.l0 k s ((c.toNat : Nat) : Int) (out ++ [s.extract m i]) ((i + 1 : Nat) : Int) ((i + 1 : Nat) : Int)) (fun k=>?_) ?_
   ·rw [spec_l1Split.l0,if_pos (by omega),if_pos (by omega),e,if_pos (by rw [c1]),if_pos (by omega),if_pos (by omega),if_pos (by omega),if_pos (by omega),Int.toNat_natCast,Int.toNat_natCast,w64_nat (by omega)]
   ·rw [splL,if_pos c1]
    rw [show (s.data.toList.take (i + 1)).drop (i + 1) = [] from List.drop_of_length_le (by rw [List.length_take];omega),glue_nil _ (spl_ne c _)] at ih
    simp only [glue,List.append_nil,List.map_cons]
    rw [← ext_list]
    rw [List.append_assoc,List.singleton_append] at ih
    exact ih
  ·have ih:=split_l s c hs j (i + 1) m out (by omega) (by omega) (by omega)
   refine Ev.step (f:=fun k=>spec_l1Split.l0 k s ((c.toNat : Nat) : Int) out (m : Int) ((i + 1 : Nat) : Int)) (fun k=>?_) ?_
   ·rw [spec_l1Split.l0,if_pos (by omega),if_pos (by omega),e,if_neg (u8_ne c1),w64_nat (by omega)]
   ·rw [glue_cons c _ c1]
    rw [List.take_succ_eq_append_getElem hi,List.drop_append_of_le_length (by rw [List.length_take];omega)] at ih
    exact ih
theorem split_ev (s : ByteArray) (c : UInt8) (hs : s.size ≤ 1048576) : Ev (fun k=>spec_l1Split.f k s ((c.toNat : Nat) : Int)) ((splL c s.data.toList).map bsOf):=by
 have:=split_l s c hs s.size 0 0 [] (by omega) (by omega) (by simp)
 rw [List.drop_zero,List.take_zero,List.drop_zero,glue_nil _ (spl_ne c _),List.nil_append] at this
 exact this
def rdN (s : ByteArray) (neg : Bool) : Option Nat → Int × Bool
|none=>(0,false)
|some v=>if (numB (if neg then -(v : Int) else (v : Int))).toList = s.toList then ((if neg then -(v : Int) else (v : Int)),true) else (0,false)
theorem digit_lt {b : UInt8} (h : ((b.toNat : Nat) : Int) < 48) : Go.Lib.digitVal b = none:=by
 unfold Go.Lib.digitVal
 rw [if_neg (by omega)]
theorem digit_gt {b : UInt8} (h : ((b.toNat : Nat) : Int) > 57) : Go.Lib.digitVal b = none:=by
 unfold Go.Lib.digitVal
 rw [if_neg (by omega)]
theorem digit_in {b : UInt8} (h : ¬ ((b.toNat : Nat) : Int) < 48) (h2 : ¬ ((b.toNat : Nat) : Int) > 57) : Go.Lib.digitVal b = some (b.toNat - 48):=by
 unfold Go.Lib.digitVal
 rw [if_pos (by omega)]
theorem read_l (s t : ByteArray) (neg : Bool) (h6 : t.size ≤ 6) (hn : neg = decide ((t.size : Int) < (s.size : Int))) : ∀ (j i v : Nat),i + j = t.size → v < 10 ^ i → Ev (fun k=>spec_l1Read.l0 k s t (v : Int) (i : Int)) (rdN s neg (Go.Lib.decFrom v (t.data.toList.drop i)))
|0,i,v,hj,hv=>by
  rw [List.drop_of_length_le (by rw [bsize];omega),Go.Lib.decFrom]
  have hb : 10 ^ i ≤ 10 ^ 6:=Nat.pow_le_pow_right (by omega) (by omega)
  have hv6 : v < 1000000:=Nat.lt_of_lt_of_le hv hb
  by_cases c : (t.size : Int) < (s.size : Int)
  ·obtain rfl : neg = true:=by rw [hn];exact decide_eq_true c
   refine Ev.step (f:=fun k=>(spec_l1Num.f k (-(v : Int))).bind fun u=>if u.toList = s.toList then some (-(v : Int),true) else some (0,false)) (fun k=>?_) (Ev.bind (l1Num_ev (-(v : Int)) (by omega)) (Ev.congr (f:=fun _=>some (rdN s true (some v))) (fun _=>?_) (ev_const _)))
   ·rw [spec_l1Read.l0,if_neg (by omega),if_pos c,w64 (x:=-(v : Int)) (by omega) (by omega)]
   ·simp only [rdN,if_true]
    by_cases e : (numB (-(v : Int))).toList = s.toList <;> simp [e]
  ·obtain rfl : neg = false:=by rw [hn];exact decide_eq_false c
   refine Ev.step (f:=fun k=>(spec_l1Num.f k (v : Int)).bind fun u=>if u.toList = s.toList then some ((v : Int),true) else some (0,false)) (fun k=>?_) (Ev.bind (l1Num_ev (v : Int) (by omega)) (Ev.congr (f:=fun _=>some (rdN s false (some v))) (fun _=>?_) (ev_const _)))
   ·rw [spec_l1Read.l0,if_neg (by omega),if_neg c]
   ·simp only [rdN,Bool.false_eq_true,if_false]
    by_cases e : (numB (v : Int)).toList = s.toList <;> simp [e]
|j + 1,i,v,hj,hv=>by
  have hi : i < t.data.toList.length:=by rw [bsize];omega
  have e:=bt_get t i hi
  have hb : 10 ^ (i + 1) ≤ 10 ^ 6:=Nat.pow_le_pow_right (by omega) (by omega)
  rw [List.drop_eq_getElem_cons hi,Go.Lib.decFrom]
  by_cases c1 : ((t.data.toList[i].toNat : Nat) : Int) < 48
  ·rw [digit_lt c1]
   refine Ev.step (f:=fun _=>some (0,false)) (fun k=>?_) (ev_const _)
   rw [spec_l1Read.l0,if_pos (by omega),if_pos (by omega),e,if_pos c1]
  ·by_cases c2 : ((t.data.toList[i].toNat : Nat) : Int) > 57
   ·rw [digit_gt c2]
    refine Ev.step (f:=fun _=>some (0,false)) (fun k=>?_) (ev_const _)
    rw [spec_l1Read.l0,if_pos (by omega),if_pos (by omega),e,if_neg c1,if_pos c2]
   ·rw [digit_in c1 c2]
    have h10 : v * 10 + (t.data.toList[i].toNat - 48) < 10 ^ (i + 1):=by rw [Nat.pow_succ];omega
    have ih:=read_l s t neg h6 hn j (i + 1) (v * 10 + (t.data.toList[i].toNat - 48)) (by omega) h10
    refine Ev.step (fun k=>?_) ih
    rw [spec_l1Read.l0,if_pos (by omega),if_pos (by omega),e,if_neg c1,if_neg c2,w64_nat (by omega),show (((t.data.toList[i].toNat : Nat) : Int) - 48) % 256 = ((t.data.toList[i].toNat - 48 : Nat) : Int) by omega,w64 (x:=10 * (v : Int)) (by omega) (by omega),w64 (x:=10 * (v : Int) + ((t.data.toList[i].toNat - 48 : Nat) : Int)) (by omega) (by omega),show 10 * (v : Int) + ((t.data.toList[i].toNat - 48 : Nat) : Int) = ((v * 10 + (t.data.toList[i].toNat - 48) : Nat) : Int) by omega]
def rdS (s : ByteArray) (t : ByteArray) : Int × Bool:=if 1 ≤ t.size ∧ t.size ≤ 6 then rdN s (decide ((t.size : Int) < (s.size : Int))) (Go.Lib.decFrom 0 t.data.toList) else (0,false)
def unsign (s : ByteArray) : ByteArray:=if (s.size : Int) > 1 ∧ (bt s 0) = 45 then s.extract 1 s.size else s
theorem l1Read_ev (s : ByteArray) (hs : s.size ≤ 1048576) : Ev (fun k=>spec_l1Read.f k s) (rdS s (unsign s)):=by
 have tail : ∀ t : ByteArray,t.size ≤ s.size → Ev (fun k=>spec_l1Read.j1 k s t) (rdS s t):=fun t ht=>by
  unfold rdS
  refine Ev.step (f:=fun k=>if inB 1 6 (t.size : Int) = true then spec_l1Read.l0 k s t 0 0 else some (0,false)) (fun k=>by rw [spec_l1Read.j1,spec_l1In_is];rfl) ?_
  by_cases c : inB 1 6 (t.size : Int) = true
  ·have q:=inB_iff.1 c
   rw [if_pos (by omega)]
   have:=read_l s t _ (by omega) rfl t.size 0 0 (by omega) (by simp)
   rw [List.drop_zero] at this
   exact ev_if_pos c this
  ·have q : ¬ (1 ≤ t.size ∧ t.size ≤ 6):=fun q=>c (inB_iff.2 ⟨by omega,by omega⟩)
   rw [if_neg q]
   exact ev_if_neg c (ev_const _)
 unfold spec_l1Read.f unsign
 by_cases c1 : (s.size : Int) > 1
 ·refine ev_if_pos c1 (ev_if_pos (by omega) ?_)
  by_cases c2 : bt s 0 = 45
  ·rw [if_pos ⟨c1,c2⟩]
   refine Ev.step (f:=fun k=>spec_l1Read.j1 k s (s.extract 1 s.size)) (fun k=>?_) (tail _ (by rw [ByteArray.size_extract];omega))
   rw [spec_l1Read.j0,if_pos (by rw [c2];rfl),if_pos (by omega)]
  ·rw [if_neg (fun h=>c2 h.2)]
   refine Ev.step (f:=fun k=>spec_l1Read.j1 k s s) (fun k=>?_) (tail _ (Nat.le_refl _))
   rw [spec_l1Read.j0,if_neg (by simpa using c2)]
 ·rw [if_neg (fun h=>c1 h.1)]
  refine ev_if_neg c1 (Ev.step (f:=fun k=>spec_l1Read.j1 k s s) (fun k=>?_) (tail _ (Nat.le_refl _)))
  rw [spec_l1Read.j0,if_neg (by simp)]
theorem toList_data (s : ByteArray) : s.toList = s.data.toList:=ByteArray.toList_eq s
theorem dec_digit : ∀ (u : Nat),∀ b ∈ Go.Lib.decDigits u,48 ≤ b.toNat ∧ b.toNat ≤ 57:=fun u=>by
 induction u using Nat.strongRecOn with
|_ u ih =>
  intro b hb
  have small : ∀ d : Nat,d < 10 → 48 ≤ (UInt8.ofNat (48 + d)).toNat ∧ (UInt8.ofNat (48 + d)).toNat ≤ 57:=fun d hd=>by
   rw [UInt8.toNat_ofNat']
   omega
  rw [Go.Lib.decDigits] at hb
  split at hb
  ·rw [List.mem_singleton.1 hb]
   exact small u (by omega)
  ·rcases List.mem_append.1 hb with hb|hb
   ·exact ih (u / 10) (by omega) b hb
   ·rw [List.mem_singleton.1 hb]
    exact small (u % 10) (Nat.mod_lt _ (by omega))
theorem dec_short : ∀ (k u : Nat),u < 10 ^ (k + 1) → (Go.Lib.decDigits u).length ≤ k + 1
|0,u,h=>by
  rw [Go.Lib.decDigits,dif_pos (by simpa using h)]
  simp
|k + 1,u,h=>by
  rw [Go.Lib.decDigits]
  split
  ·simp
  ·have:=dec_short k (u / 10) (by rw [Nat.pow_succ] at h;omega)
   rw [List.length_append,List.length_singleton]
   omega
theorem numB_list (n : Int) : (numB n).toList = Go.Lib.itoa n:=by
 rw [toList_data]
 unfold numB
 simp
def rdI (s : ByteArray) : Int × Bool:=if (s.size : Int) > 7 then (0,false) else match Go.Lib.atoi s.data.toList with
|none=>(0,false)
|some n=>if inB (-999999) 999999 n = true then (if (numB n).toList = s.toList then (n,true) else (0,false)) else (0,false)
theorem impl_parse_ev (s : ByteArray) : Ev (fun k=>impl_ParseInt.f k s) (rdI s):=by
 unfold impl_ParseInt.f rdI
 by_cases c : (s.size : Int) > 7
 ·rw [if_pos c]
  exact ev_if_pos c (ev_const _)
 ·rw [if_neg c]
  refine ev_if_neg c ?_
  cases ha : Go.Lib.atoi s.data.toList with
 |none=>exact ev_const _
 |some n =>
   simp only []
   rw [impl_within_is]
   refine Ev.bind (ev_const _) ?_
   by_cases d : inB (-999999) 999999 n = true
   ·have q:=inB_iff.1 d
    rw [if_pos d]
    refine ev_if_pos d (Ev.bind (itoa_ev n (by omega)) (Ev.congr (f:=fun _=>some (if (numB n).toList = s.toList then (n,true) else (0,false))) (fun _=>by by_cases e : (numB n).toList = s.toList <;> simp [e]) (ev_const _)))
   ·rw [if_neg d]
    exact ev_if_neg d (ev_const _)
theorem dec_lt6 {l : List UInt8} {v : Nat} (h : Go.Lib.decFrom 0 l = some v) (hl : l.length ≤ 6) : v ≤ 999999:=by
 have:=Go.Lib.decFrom_lt l 0 v h
 have hp : 10 ^ l.length ≤ 10 ^ 6:=Nat.pow_le_pow_right (by omega) hl
 omega
theorem rd_same (s : ByteArray) : rdI s = rdS s (unsign s):=by
 obtain ⟨l,hl⟩ : ∃ l,s.data.toList = l:=⟨_,rfl⟩
 have hz : s.size = l.length:=by rw [← hl];rfl
 have hs : s.toList = l:=by rw [toList_data,hl]
 unfold rdI
 rw [hl,hs]
 match l,hl,hz,hs with
|[],hl,hz,hs =>
  have hu : unsign s = s:=by unfold unsign;rw [if_neg (fun h=>by have:=h.1;rw [hz] at this;simp at this)]
  rw [hu]
  unfold rdS
  rw [if_neg (by rw [hz];simp),if_neg (by rw [hz];simp)]
  rfl
|b :: r,hl,hz,hs =>
  have h0 : bt s 0 = ((b.toNat : Nat) : Int):=by
   have:=bt_get s 0 (by rw [hz];simp)
   rw [show ((0 : Nat) : Int) = 0 from rfl] at this
   rw [this]
   simp [hl]
  have hlen : s.size = r.length + 1:=by rw [hz];rfl
  by_cases cb : b = 45
  ·subst cb
   have ea : Go.Lib.atoi (45 :: r) = (Go.Lib.decNat r).map fun (m : Nat)=>-(m : Int):=rfl
   rw [ea]
   cases r with
  |nil =>
    have hu : unsign s = s:=by unfold unsign;rw [if_neg (fun h=>by have:=h.1;rw [hz] at this;simp at this)]
    rw [hu]
    unfold rdS
    rw [if_neg (by rw [hz];simp),if_pos (by rw [hz];simp),hl]
    rfl
  |cons d r' =>
    have hu : unsign s = bsOf (d :: r'):=by
     unfold unsign
     rw [if_pos ⟨by rw [hz];simp;omega,by rw [h0];rfl⟩,ext_list,hl,hz,List.take_of_length_le (by simp)]
     rfl
    have hus : (bsOf (d :: r')).size = r'.length + 1:=by unfold bsOf;rw [bytes_size];rfl
    have hud : (bsOf (d :: r')).data.toList = d :: r':=by unfold bsOf;simp
    rw [hu]
    unfold rdS
    rw [hus,hud,show Go.Lib.decNat (d :: r') = Go.Lib.decFrom 0 (d :: r') from rfl,hlen]
    simp only [List.length_cons]
    by_cases c6 : r'.length + 1 ≤ 6
    ·rw [if_neg (by omega),if_pos ⟨by omega,c6⟩,decide_eq_true (by omega)]
     cases hd : Go.Lib.decFrom 0 (d :: r') with
    |none=>rfl
    |some v =>
      have hv:=dec_lt6 hd (by simpa using c6)
      simp only [Option.map_some,rdN,if_true,hs]
      rw [if_pos (inB_iff.2 ⟨by omega,by omega⟩)]
    ·rw [if_pos (by omega),if_neg (fun h=>c6 h.2)]
  ·have hu : unsign s = s:=by
    unfold unsign
    rw [if_neg (fun h=>u8_ne cb (by rw [← h0,h.2];rfl))]
   have nz : (b == (45 : UInt8)) = false:=beq_eq_false_iff_ne.2 cb
   rw [hu]
   unfold rdS
   rw [hl,hlen,decide_eq_false (by omega)]
   by_cases cp : b = 43
   ·subst cp
    have ed : Go.Lib.decFrom 0 (43 :: r) = none:=rfl
    have ea : Go.Lib.atoi (43 :: r) = (Go.Lib.decNat r).map fun (m : Nat)=>(m : Int):=rfl
    rw [ed,ea]
    have e2 : (if 1 ≤ r.length + 1 ∧ r.length + 1 ≤ 6 then rdN s false none else ((0 : Int),false)) = (0,false):=by split <;> rfl
    rw [e2]
    by_cases c7 : ((r.length + 1 : Nat) : Int) > 7
    ·rw [if_pos c7]
    ·rw [if_neg c7]
     cases Go.Lib.decNat r with
    |none=>rfl
    |some v =>
      simp only [Option.map_some]
      have hn : ¬ (numB (v : Int)).toList = 43 :: r:=fun e=>by
       rw [numB_list] at e
       have:=dec_digit v 43 (by
        have : Go.Lib.itoa (v : Int) = Go.Lib.decDigits v:=by unfold Go.Lib.itoa;rw [if_neg (by omega)];simp
        rw [← this,e]
        exact List.mem_cons_self ..)
       revert this
       decide
      rw [if_neg hn]
      split <;> rfl
   ·have np : (b == (43 : UInt8)) = false:=beq_eq_false_iff_ne.2 cp
    have ea : Go.Lib.atoi (b :: r) = (Go.Lib.decFrom 0 (b :: r)).map fun (m : Nat)=>(m : Int):=by
     show (if (b == 45) = true then _ else if (b == 43) = true then _ else _) = _
     rw [nz,np]
     rfl
    rw [ea]
    by_cases c6 : r.length + 1 ≤ 6
    ·rw [if_neg (by omega),if_pos ⟨by omega,c6⟩]
     cases hd : Go.Lib.decFrom 0 (b :: r) with
    |none=>rfl
    |some v =>
      have hv:=dec_lt6 hd (by simpa using c6)
      simp only [Option.map_some,rdN,Bool.false_eq_true,if_false,hs]
      rw [if_pos (inB_iff.2 ⟨by omega,by omega⟩)]
    ·rw [if_neg (show ¬ (1 ≤ r.length + 1 ∧ r.length + 1 ≤ 6) from fun h=>c6 h.2)]
     by_cases c7 : ((r.length + 1 : Nat) : Int) > 7
     ·rw [if_pos c7]
     ·rw [if_neg c7]
      cases hd : Go.Lib.decFrom 0 (b :: r) with
     |none=>rfl
     |some v =>
       simp only [Option.map_some]
       by_cases q : inB (-999999) 999999 (v : Int) = true
       ·have q2:=inB_iff.1 q
        have hn : ¬ (numB (v : Int)).toList = b :: r:=fun e=>by
         rw [numB_list] at e
         have e3 : Go.Lib.itoa (v : Int) = Go.Lib.decDigits v:=by unfold Go.Lib.itoa;rw [if_neg (by omega)];simp
         have:=dec_short 5 v (by omega)
         rw [← e3,e,List.length_cons] at this
         omega
        rw [if_neg hn]
        split <;> rfl
       ·rw [if_neg q]
theorem bsOf_app (a b : List UInt8) : bsOf a ++ bsOf b = bsOf (a ++ b):=bytes_app a b
theorem bsOf_size (a : List UInt8) : (bsOf a).size = a.length:=bytes_size a
theorem bsOf_list (a : List UInt8) : (bsOf a).data.toList = a:=by unfold bsOf;simp
theorem numB_of (n : Int) : numB n = bsOf (Go.Lib.itoa n):=rfl
theorem itoa_len (n : Int) (h : -9 ≤ n ∧ n ≤ 9) : (Go.Lib.itoa n).length ≤ 21:=Go.Lib.itoa_length_le n (by omega) (by omega)
def numsL (p : List Int) : List UInt8:=Go.Lib.join (p.map Go.Lib.itoa) [44]
def wordT (l : Int) (p : List Int) : List UInt8:=(if l = 1 then 43 else 45) :: numsL p
def wordsT (ps : List (List Int)) (ls : List Int) : List (List UInt8):=List.zipWith wordT ls ps
def textT (ps : List (List Int)) (ls : List Int) : List UInt8:=if ps = [] then [110,111,110,101] else Go.Lib.join (wordsT ps ls) [32]
theorem nums_len (p : List Int) (hp : ptB p = true) : (numsL p).length ≤ 88:=by
 obtain ⟨h1,h2,h3⟩:=ptB_parts hp
 have key : ∀ l : List Int,l.all (inB (-9) 9) = true → (Go.Lib.joinTail [44] (l.map Go.Lib.itoa)).length ≤ 22 * l.length:=fun l hl=>by
  induction l with
 |nil=>simp [Go.Lib.joinTail]
 |cons x t ih =>
   simp only [List.all_cons,Bool.and_eq_true] at hl
   have hx:=itoa_len x (inB_iff.1 hl.1)
   have:=ih hl.2
   simp only [Go.Lib.joinTail,List.map_cons,List.flatten_cons,List.length_append,List.length_cons] at this ⊢
   simp only [List.length_nil]
   omega
 cases p with
|nil=>simp at h2
|cons x t =>
  simp only [List.all_cons,Bool.and_eq_true] at h1
  have hx:=itoa_len x (inB_iff.1 h1.1)
  have:=key t h1.2
  unfold numsL
  rw [List.map_cons,Go.Lib.join_cons,List.length_append]
  simp only [List.length_cons] at h3
  omega
theorem txt_l1 (ps : List (List Int)) (ls : List Int) (i : Nat) (p : List Int) (hi : i < ps.length) (hp : rd_L1 ps (i : Int) = p) (hb : p.all (inB (-9) 9) = true) (h4 : p.length ≤ 4) (out : ByteArray) : ∀ (j' j : Nat) (a : List UInt8),j + j' = p.length → 1 ≤ j → a.length + 22 * j' ≤ 1000000 → ps.length ≤ 1000 →
  Ev (fun k=>spec_l2Text.l0 k (bsOf (a ++ Go.Lib.joinTail [44] ((p.drop j).map Go.Lib.itoa))) ((i + 1 : Nat) : Int) ps ls) out → Ev (fun k=>spec_l2Text.l1 k (bsOf a) (i : Int) (j : Int) ps ls) out
|0,j,a,hj,h1,ha,hl,h=>by
  rw [List.drop_of_length_le (by omega)] at h
  simp only [List.map_nil,Go.Lib.joinTail,List.flatten_nil,List.append_nil] at h
  refine Ev.step (fun k=>?_) h
  rw [spec_l2Text.l1,if_pos (by omega),if_pos (by omega),hp,if_neg (by omega),w64_nat (by omega)]
|j' + 1,j,a,hj,h1,ha,hl,h=>by
  have hjl : j < p.length:=by omega
  have q:=all_range hb j hjl
  have z:=itoa_len p[j] q
  have ih:=txt_l1 ps ls i p hi hp hb h4 out j' (j + 1) (a ++ (44 :: Go.Lib.itoa p[j])) (by omega) (by omega) (by rw [List.length_append,List.length_cons];omega) hl (by
   rw [List.drop_eq_getElem_cons hjl] at h
   simp only [List.map_cons,Go.Lib.joinTail,List.flatten_cons,List.singleton_append] at h
   simp only [Go.Lib.joinTail,List.singleton_append,List.append_assoc]
   exact h)
  have e1 : bsOf a ++ (⟨#[44]⟩ : ByteArray) = bsOf (a ++ [44]):=bsOf_app a [44]
  have s1 : (bsOf (a ++ [44]) : ByteArray).size = a.length + 1:=by rw [bsOf_size,List.length_append];rfl
  refine Ev.step (f:=fun k=>(spec_l1Num.f k p[j]).bind fun t=>if (bsOf (a ++ [44])).size + t.size ≤ 9223372036854775807 then spec_l2Text.l1 k (bsOf (a ++ [44]) ++ t) (i : Int) ((j + 1 : Nat) : Int) ps ls else none) (fun k=>?_) (Ev.bind (l1Num_ev p[j] (by omega)) (ev_if_pos ?_ ?_))
  ·rw [spec_l2Text.l1,if_pos (by omega),if_pos (by omega),hp,if_pos (by omega),if_pos (by omega),if_pos (by rw [bsOf_size];omega),if_pos (by omega),rd_nat p j hjl,e1,w64_nat (by omega)]
  ·rw [s1,numB_of,bsOf_size]
   omega
  ·rw [numB_of,bsOf_app]
   rw [List.append_assoc,List.singleton_append]
   exact ih
theorem txt_j1 (ps : List (List Int)) (ls : List Int) (i : Nat) (hs : smB ps ls = true) (hi : i < ps.length) (out : ByteArray) (a : List UInt8) (ha : a.length ≤ 900000) (hil : i < ls.length)
  (h : Ev (fun k=>spec_l2Text.l0 k (bsOf (a ++ wordT ls[i] ps[i])) ((i + 1 : Nat) : Int) ps ls) out) : Ev (fun k=>spec_l2Text.j1 k (bsOf a) (i : Int) ps ls) out:=by
 obtain ⟨h16,hlen,hlab,hrow⟩:=smB_parts hs
 have hp : rd_L1 ps (i : Int) = ps[i]:=by simp [rd_L1,hi]
 obtain ⟨q1,q2⟩:=hrow ps[i] (List.getElem_mem hi)
 obtain ⟨hb,hn1,hn4⟩:=ptB_parts q1
 have body : ∀ (c : UInt8),c = (if ls[i] = 1 then 43 else 45) → Ev (fun k=>spec_l2Text.j2 k (bsOf (a ++ [c])) (i : Int) ps ls) out:=fun c hc=>by
  have h0 : 0 < ps[i].length:=by omega
  have q:=all_range hb 0 h0
  have z:=itoa_len ps[i][0] q
  have e0 : wordT ls[i] ps[i] = c :: (Go.Lib.itoa ps[i][0] ++ Go.Lib.joinTail [44] ((ps[i].drop 1).map Go.Lib.itoa)):=by
   unfold wordT numsL
   rw [← hc]
   congr 1
   have : ps[i] = ps[i][0] :: ps[i].drop 1:=by
    have:=List.drop_eq_getElem_cons h0
    rwa [List.drop_zero] at this
   conv=>lhs;rw [this]
   rw [List.map_cons,Go.Lib.join_cons]
  have l1:=txt_l1 ps ls i ps[i] hi hp hb hn4 out (ps[i].length - 1) 1 (a ++ [c] ++ Go.Lib.itoa ps[i][0]) (by omega) (by omega) (by rw [List.length_append,List.length_append,List.length_singleton];omega) (by omega) (by
   rw [e0] at h
   simp only [List.append_assoc,List.singleton_append] at h ⊢
   exact h)
  have s1 : (bsOf (a ++ [c]) : ByteArray).size = a.length + 1:=by rw [bsOf_size,List.length_append];rfl
  have r0 : rd ps[i] 0 = ps[i][0]:=rd_nat ps[i] 0 h0
  refine Ev.step (fun k=>by rw [spec_l2Text.j2]) ?_
  refine Ev.step (f:=fun k=>(spec_l1Num.f k ps[i][0]).bind fun t=>if (bsOf (a ++ [c])).size + t.size ≤ 9223372036854775807 then spec_l2Text.l1 k (bsOf (a ++ [c]) ++ t) (i : Int) ((1 : Nat) : Int) ps ls else none) (fun k=>?_) (Ev.bind (l1Num_ev ps[i][0] (by omega)) (ev_if_pos ?_ ?_))
  ·rw [spec_l2Text.l1,if_pos (by omega),if_pos (by omega),hp,if_pos (by omega),if_neg (by omega),if_pos (by omega),r0,w64 (x:=0 + 1) (by omega) (by omega)]
   rfl
  ·rw [s1,numB_of,bsOf_size]
   omega
  ·rw [numB_of,bsOf_app]
   exact l1
 have rl:=rd_nat ls i hil
 have e43 : bsOf a ++ (⟨#[43]⟩ : ByteArray) = bsOf (a ++ [43]):=bsOf_app a [43]
 have e45 : bsOf a ++ (⟨#[45]⟩ : ByteArray) = bsOf (a ++ [45]):=bsOf_app a [45]
 by_cases c : ls[i] = 1
 ·refine Ev.step (fun k=>?_) (body 43 (by rw [if_pos c]))
  rw [spec_l2Text.j1,if_pos (by omega),if_pos (by omega),rl,if_pos c,if_pos (by rw [bsOf_size];omega),e43]
 ·refine Ev.step (fun k=>?_) (body 45 (by rw [if_neg c]))
  rw [spec_l2Text.j1,if_pos (by omega),if_pos (by omega),rl,if_neg c,if_pos (by rw [bsOf_size];omega),e45]
theorem words_get (ps : List (List Int)) (ls : List Int) (i : Nat) (hi : i < ps.length) (hil : i < ls.length) : ∃ h : i < (wordsT ps ls).length,(wordsT ps ls)[i] = wordT ls[i] ps[i]:=by
 have h : i < (wordsT ps ls).length:=by unfold wordsT;rw [List.length_zipWith];omega
 exact ⟨h,by simp only [wordsT,List.getElem_zipWith]⟩
theorem word_len (l : Int) (p : List Int) (hp : ptB p = true) : (wordT l p).length ≤ 89:=by
 have:=nums_len p hp
 unfold wordT
 rw [List.length_cons]
 omega
theorem txt_l0 (ps : List (List Int)) (ls : List Int) (hs : smB ps ls = true) : ∀ (m i : Nat) (a : List UInt8),i + m = ps.length → 1 ≤ i → a.length + 90 * m ≤ 900000 → Ev (fun k=>spec_l2Text.l0 k (bsOf a) (i : Int) ps ls) (bsOf (a ++ Go.Lib.joinTail [32] ((wordsT ps ls).drop i)))
|0,i,a,hm,h1,ha=>by
  obtain ⟨h16,hlen,hlab,hrow⟩:=smB_parts hs
  have hw : (wordsT ps ls).length = ps.length:=by unfold wordsT;rw [List.length_zipWith];omega
  rw [List.drop_of_length_le (by omega)]
  simp only [Go.Lib.joinTail,List.map_nil,List.flatten_nil,List.append_nil]
  refine Ev.step (f:=fun _=>some (bsOf a)) (fun k=>?_) (ev_const _)
  rw [spec_l2Text.l0,if_neg (by omega),if_neg (by omega)]
|m + 1,i,a,hm,h1,ha=>by
  obtain ⟨h16,hlen,hlab,hrow⟩:=smB_parts hs
  have hi : i < ps.length:=by omega
  have hil : i < ls.length:=by omega
  obtain ⟨hw,ew⟩:=words_get ps ls i hi hil
  have wl:=word_len ls[i] ps[i] (hrow ps[i] (List.getElem_mem hi)).1
  have ih:=txt_l0 ps ls hs m (i + 1) (a ++ [32] ++ wordT ls[i] ps[i]) (by omega) (by omega) (by rw [List.length_append,List.length_append,List.length_singleton];omega)
  have e32 : bsOf a ++ (⟨#[32]⟩ : ByteArray) = bsOf (a ++ [32]):=bsOf_app a [32]
  have j1:=txt_j1 ps ls i hs hi _ (a ++ [32]) (by rw [List.length_append,List.length_singleton];omega) hil ih
  rw [List.drop_eq_getElem_cons hw,ew]
  refine Ev.step (fun k=>?_) (f:=fun k=>spec_l2Text.j1 k (bsOf (a ++ [32])) (i : Int) ps ls) ?_
  ·rw [spec_l2Text.l0,if_pos (by omega),if_pos (by omega),if_pos (by rw [bsOf_size];omega),e32]
  ·simp only [Go.Lib.joinTail,List.map_cons,List.flatten_cons,List.append_assoc,List.singleton_append] at j1 ⊢
   exact j1
theorem l2Text_ev (ps : List (List Int)) (ls : List Int) (hs : smB ps ls = true) : Ev (fun k=>spec_l2Text.f k ps ls) (bsOf (textT ps ls)):=by
 obtain ⟨h16,hlen,hlab,hrow⟩:=smB_parts hs
 unfold spec_l2Text.f textT
 cases ps with
|nil =>
  rw [if_pos rfl]
  refine Ev.step (f:=fun _=>some (bsOf [110,111,110,101])) (fun k=>?_) (ev_const _)
  rw [spec_l2Text.l0,if_neg (by simp),if_pos (by simp)]
  rfl
|cons p ps' =>
  rw [if_neg (by simp)]
  have hi : 0 < (p :: ps').length:=by simp
  have hil : 0 < ls.length:=by rw [hlen];exact hi
  obtain ⟨hw,ew⟩:=words_get (p :: ps') ls 0 hi hil
  have wl:=word_len ls[0] (p :: ps')[0] (hrow _ (List.getElem_mem hi)).1
  have t1:=txt_l0 (p :: ps') ls hs (p :: ps').length.pred 1 (wordT ls[0] (p :: ps')[0]) (by simp;omega) (by omega) (by have w2:=wl;simp only [List.getElem_cons_zero] at w2 ⊢;simp only [List.length_cons,Nat.pred_succ] at h16 ⊢;omega)
  have j1:=txt_j1 (p :: ps') ls 0 hs hi _ [] (by simp) hil t1
  have e : wordsT (p :: ps') ls = wordT ls[0] (p :: ps')[0] :: (wordsT (p :: ps') ls).drop 1:=by
   have:=List.drop_eq_getElem_cons hw
   rw [List.drop_zero,ew] at this
   exact this
  rw [e,Go.Lib.join_cons]
  refine Ev.step (fun k=>?_) (f:=fun k=>spec_l2Text.j1 k (bsOf []) ((0 : Nat) : Int) (p :: ps') ls) j1
  rw [spec_l2Text.l0,if_pos (by first|(simp;done)|(simp;omega)),if_neg (by omega)]
  rfl
theorem join_len (sep : List UInt8) (B : Nat) : ∀ (xs : List (List UInt8)),(∀ x ∈ xs,x.length ≤ B) → (Go.Lib.join xs sep).length ≤ (B + sep.length) * xs.length
|[],_=>by simp [Go.Lib.join_nil]
|x :: xs,h=>by
  rw [Go.Lib.join_cons,List.length_append,Go.Lib.joinTail_length]
  have h1:=h x (List.mem_cons_self ..)
  have h2 : Go.Lib.lens xs ≤ B * xs.length:=by
   have : ∀ l : List (List UInt8),(∀ x ∈ l,x.length ≤ B) → Go.Lib.lens l ≤ B * l.length:=fun l hl=>by
    induction l with
   |nil=>simp [Go.Lib.lens]
   |cons y l ih =>
     have:=hl y (List.mem_cons_self ..)
     have:=ih fun x hx=>hl x (List.mem_cons_of_mem _ hx)
     simp only [Go.Lib.lens,List.map_cons,List.sum_cons,List.length_cons,Nat.mul_succ] at this ⊢
     omega
   exact this xs fun x hx=>h x (List.mem_cons_of_mem _ hx)
  rw [List.length_cons,Nat.mul_succ,Nat.add_mul]
  omega
theorem join_ev (xs : List ByteArray) (sep : ByteArray) (h1 : xs.length ≤ 140737488355328) (h2 : (Go.Lib.join (xs.map (·.data.toList)) sep.data.toList).length ≤ 140737488355328) : Ev (fun k=>strings_Join.f k xs sep) (bsOf (Go.Lib.join (xs.map (·.data.toList)) sep.data.toList)):=by
 unfold strings_Join.f
 exact ev_if_pos h1 (ev_if_pos h2 (ev_const _))
theorem map_bs (l : List (List UInt8)) : (l.map bsOf).map (fun s=>s.data.toList) = l:=by
 rw [List.map_map]
 have : ((fun s : ByteArray=>s.data.toList) ∘ bsOf) = id:=by funext x;exact bsOf_list x
 rw [this,List.map_id]
theorem imp_l1 (ps : List (List Int)) (ls : List Int) (i : Nat) (hs : smB ps ls = true) (hi : i < ps.length) (hil : i < ls.length) (W : List ByteArray) (hW : W.length ≤ 1000) (out : ByteArray) (h : Ev (fun k=>impl_sampleText.l0 k (W ++ [bsOf (wordT ls[i] ps[i])]) ps (ps.length : Int) ((i + 1 : Nat) : Int) ps ls) out) : ∀ (j' j : Nat) (acc : List ByteArray),j + j' = ps[i].length → acc = (ps[i].take j).map (fun x=>bsOf (Go.Lib.itoa x)) → Ev (fun k=>impl_sampleText.l1 k W (i : Int) acc ps (ps.length : Int) (i : Int) ps[i] (ps[i].length : Int) (j : Int) ps ls) out
|0,j,acc,hj,ha=>by
  obtain ⟨h16,hlen,hlab,hrow⟩:=smB_parts hs
  obtain ⟨q1,q2⟩:=hrow ps[i] (List.getElem_mem hi)
  obtain ⟨hb,hn1,hn4⟩:=ptB_parts q1
  have ea : acc = (ps[i].map Go.Lib.itoa).map bsOf:=by
   rw [ha,List.take_of_length_le (by omega),List.map_map]
   rfl
  have ln:=nums_len ps[i] q1
  have em : (acc.map (fun s=>s.data.toList)) = ps[i].map Go.Lib.itoa:=by rw [ea,map_bs]
  have je:=join_ev acc (⟨#[44]⟩ : ByteArray) (by rw [ea];simp;omega) (by
   rw [em]
   show (numsL ps[i]).length ≤ _
   omega)
  rw [em] at je
  have je2 : Ev (fun k=>strings_Join.f k acc (⟨#[44]⟩ : ByteArray)) (bsOf (numsL ps[i])):=je
  have hl1 : ls[i] = 1 ∨ ls[i] = -1:=by
   have:=List.all_eq_true.1 hlab ls[i] (List.getElem_mem hil)
   simpa [lbB] using this
  have rl:=rd_nat ls i hil
  have wT : ∀ c : UInt8,c = (if ls[i] = 1 then 43 else 45) → (⟨#[c]⟩ : ByteArray) ++ bsOf (numsL ps[i]) = bsOf (wordT ls[i] ps[i]):=fun c hc=>by
   rw [show (⟨#[c]⟩ : ByteArray) = bsOf [c] from rfl,bsOf_app]
   unfold wordT
   rw [← hc]
   rfl
  rcases hl1 with c|c
  ·have w:=wT 43 (by rw [if_pos c])
   refine Ev.step (f:=fun k=>(strings_Join.f k acc (⟨#[44]⟩ : ByteArray)).bind fun t=>if 1 + t.size ≤ 9223372036854775807 then (if W.length < 8796093022208 then impl_sampleText.l0 k (W ++ [(⟨#[43]⟩ : ByteArray) ++ t]) ps (ps.length : Int) ((i + 1 : Nat) : Int) ps ls else none) else none) (fun k=>?_) (Ev.bind je2 (ev_if_pos ?_ (ev_if_pos ?_ ?_)))
   ·rw [impl_sampleText.l1,if_neg (by omega),if_pos (by omega),if_pos (by omega),rl,if_neg (by omega),w64_nat (by omega)]
   ·rw [bsOf_size];omega
   ·omega
   ·rw [w];exact h
  ·have w:=wT 45 (by rw [if_neg (by omega)])
   refine Ev.step (f:=fun k=>(strings_Join.f k acc (⟨#[44]⟩ : ByteArray)).bind fun t=>if 1 + t.size ≤ 9223372036854775807 then (if W.length < 8796093022208 then impl_sampleText.l0 k (W ++ [(⟨#[45]⟩ : ByteArray) ++ t]) ps (ps.length : Int) ((i + 1 : Nat) : Int) ps ls else none) else none) (fun k=>?_) (Ev.bind je2 (ev_if_pos ?_ (ev_if_pos ?_ ?_)))
   ·rw [impl_sampleText.l1,if_neg (by omega),if_pos (by omega),if_pos (by omega),rl,if_pos (by omega),w64_nat (by omega)]
   ·rw [bsOf_size];omega
   ·omega
   ·rw [w];exact h
|j' + 1,j,acc,hj,ha=>by
  obtain ⟨h16,hlen,hlab,hrow⟩:=smB_parts hs
  obtain ⟨q1,q2⟩:=hrow ps[i] (List.getElem_mem hi)
  obtain ⟨hb,hn1,hn4⟩:=ptB_parts q1
  have hjl : j < ps[i].length:=by omega
  have q:=all_range hb j hjl
  have la : acc.length ≤ 4:=by rw [ha,List.length_map,List.length_take];omega
  have ih:=imp_l1 ps ls i hs hi hil W hW out h j' (j + 1) (acc ++ [bsOf (Go.Lib.itoa ps[i][j])]) (by omega) (by rw [ha,List.take_succ_eq_append_getElem hjl,List.map_append];rfl)
  refine Ev.step (f:=fun k=>(strconv_Itoa.f k ps[i][j]).bind fun t=>if acc.length < 8796093022208 then impl_sampleText.l1 k W (i : Int) (acc ++ [t]) ps (ps.length : Int) (i : Int) ps[i] (ps[i].length : Int) ((j + 1 : Nat) : Int) ps ls else none) (fun k=>?_) (Ev.bind (itoa_ev ps[i][j] (by omega)) (ev_if_pos (by omega) ?_))
  ·rw [impl_sampleText.l1,if_pos (by omega),if_pos (by omega),if_pos (by omega),rd_nat ps[i] j hjl,w64_nat (by omega)]
  ·rw [numB_of]
   exact ih
theorem imp_l0 (ps : List (List Int)) (ls : List Int) (hs : smB ps ls = true) : ∀ (m i : Nat) (W : List ByteArray),i + m = ps.length → W = ((wordsT ps ls).take i).map bsOf → Ev (fun k=>impl_sampleText.l0 k W ps (ps.length : Int) (i : Int) ps ls) (bsOf (textT ps ls))
|0,i,W,hm,hW=>by
  obtain ⟨h16,hlen,hlab,hrow⟩:=smB_parts hs
  have hw : (wordsT ps ls).length = ps.length:=by unfold wordsT;rw [List.length_zipWith];omega
  have eW : W = (wordsT ps ls).map bsOf:=by rw [hW,List.take_of_length_le (by omega)]
  have lW : W.length = ps.length:=by rw [eW,List.length_map,hw]
  unfold textT
  by_cases c : ps = []
  ·rw [if_pos c]
   refine Ev.step (f:=fun _=>some (bsOf [110,111,110,101])) (fun k=>?_) (ev_const _)
   have : ps.length = 0:=by rw [c];rfl
   rw [impl_sampleText.l0,if_neg (by omega),if_pos (by omega)]
   rfl
  ·rw [if_neg c]
   have hp : ps.length ≠ 0:=fun e=>c (List.length_eq_zero_iff.1 e)
   have em : (W.map (fun s=>s.data.toList)) = wordsT ps ls:=by rw [eW,map_bs]
   have jl:=join_len [32] 89 (wordsT ps ls) (fun x hx=>by
    obtain ⟨j,hj,rfl⟩:=List.mem_iff_getElem.1 hx
    obtain ⟨_,e⟩:=words_get ps ls j (by omega) (by omega)
    rw [e]
    exact word_len _ _ (hrow _ (List.getElem_mem _)).1)
   rw [hw] at jl
   have je:=join_ev W (⟨#[32]⟩ : ByteArray) (by omega) (by
    rw [em]
    show (Go.Lib.join (wordsT ps ls) [32]).length ≤ _
    have : (89 + [(32 : UInt8)].length) * ps.length ≤ 90 * 16:=by simp only [List.length_singleton];omega
    omega)
   rw [em] at je
   have je2 : Ev (fun k=>strings_Join.f k W (⟨#[32]⟩ : ByteArray)) (bsOf (Go.Lib.join (wordsT ps ls) [32])):=je
   refine Ev.step (f:=fun k=>(strings_Join.f k W (⟨#[32]⟩ : ByteArray)).bind fun t=>some t) (fun k=>?_) (Ev.bind je2 (ev_const _))
   rw [impl_sampleText.l0,if_neg (by omega),if_neg (by omega)]
|m + 1,i,W,hm,hW=>by
  obtain ⟨h16,hlen,hlab,hrow⟩:=smB_parts hs
  have hi : i < ps.length:=by omega
  have hil : i < ls.length:=by omega
  obtain ⟨hw,ew⟩:=words_get ps ls i hi hil
  have hp : rd_L1 ps (i : Int) = ps[i]:=by simp [rd_L1,hi]
  have ih:=imp_l0 ps ls hs m (i + 1) (W ++ [bsOf (wordT ls[i] ps[i])]) (by omega) (by rw [hW,List.take_succ_eq_append_getElem hw,List.map_append,ew];rfl)
  have lW : W.length ≤ 16:=by rw [hW,List.length_map,List.length_take];omega
  have l1:=imp_l1 ps ls i hs hi hil W (by omega) _ ih ps[i].length 0 [] (by omega) rfl
  refine Ev.step (fun k=>?_) l1
  rw [impl_sampleText.l0,if_pos (by omega),if_pos (by omega),if_pos (by omega),hp]
  rfl
theorem sampleText_ev (ps : List (List Int)) (ls : List Int) (hs : smB ps ls = true) : Ev (fun k=>impl_sampleText.f k ps ls) (bsOf (textT ps ls)):=imp_l0 ps ls hs ps.length 0 [] (by omega) rfl
theorem rdO (l : List ByteArray) (i : Nat) (h : i < l.length) : rdOf ByteArray.empty l (i : Int) = l[i]:=by
 unfold rdOf
 rw [Int.toNat_natCast,List.getD_eq_getElem?_getD,List.getElem?_eq_getElem h]
 rfl
theorem spl_index (c : UInt8) : ∀ l : List UInt8,splL c l = if Go.Lib.indexByte l c = -1 then [l] else l.take (Go.Lib.indexByte l c).toNat :: splL c (l.drop ((Go.Lib.indexByte l c).toNat + 1))
|[]=>rfl
|b :: l=>by
  have ih:=spl_index c l
  have g:=Go.Lib.indexByte_ge l c
  by_cases h : b = c
  ·have e : Go.Lib.indexByte (b :: l) c = 0:=by
    unfold Go.Lib.indexByte
    rw [if_pos (by simp [h])]
   rw [e,if_neg (by omega),splL,if_pos h]
   rfl
  ·have hb : (b == c) = false:=beq_eq_false_iff_ne.2 h
   have e : Go.Lib.indexByte (b :: l) c = if Go.Lib.indexByte l c == -1 then -1 else Go.Lib.indexByte l c + 1:=by
    conv=>lhs;unfold Go.Lib.indexByte
    rw [hb]
    rfl
   rw [splL,if_neg h,ih]
   by_cases k : Go.Lib.indexByte l c = -1
   ·rw [e,k]
    rfl
   ·have hk : (Go.Lib.indexByte l c == -1) = false:=beq_eq_false_iff_ne.2 k
    rw [e,hk,if_neg k]
    simp only [Bool.false_eq_true,if_false]
    rw [if_neg (by omega),show (Go.Lib.indexByte l c + 1).toNat = (Go.Lib.indexByte l c).toNat + 1 by omega]
    rfl
theorem splitB_is (c : UInt8) : ∀ (n : Nat) (s : ByteArray),s.size ≤ n → Go.Lib.splitB (⟨#[c]⟩ : ByteArray) 0 (Go.Lib.countB s (⟨#[c]⟩ : ByteArray)) s = (splL c s.data.toList).map bsOf:=fun n=>by
 induction n with
|zero =>
  intro s hs
  have h0 : s.data.toList = []:=List.length_eq_zero_iff.1 (by show s.size = 0;omega)
  have hi : Go.Lib.indexB s (⟨#[c]⟩ : ByteArray) = -1:=by
   show Go.Lib.index s.data.toList [c] = -1
   rw [Go.Lib.index_one,h0]
   rfl
  rw [Go.Lib.splitB_miss _ _ _ _ hi,h0]
  show [s] = [bsOf []]
  rw [← h0,bsOf_data]
|succ n ih =>
  intro s hs
  have ei : Go.Lib.indexB s (⟨#[c]⟩ : ByteArray) = Go.Lib.indexByte s.data.toList c:=Go.Lib.index_one _ _
  have g:=Go.Lib.indexByte_ge s.data.toList c
  rw [spl_index]
  by_cases k : Go.Lib.indexByte s.data.toList c = -1
  ·rw [if_pos k,Go.Lib.splitB_miss _ _ _ _ (ei.trans k),List.map_cons,List.map_nil,bsOf_data]
  ·obtain ⟨i,hi⟩:=Int.eq_ofNat_of_zero_le (show 0 ≤ Go.Lib.indexByte s.data.toList c by omega)
   have hit : Go.Lib.indexB s (⟨#[c]⟩ : ByteArray) = i:=ei.trans hi
   have hat:=(Go.Lib.indexByte_some hi).1
   have hlt : i < s.data.toList.length:=(List.getElem?_eq_some_iff.1 hat).1
   have hls : s.data.toList.length = s.size:=rfl
   have one : (⟨#[c]⟩ : ByteArray).size = 1:=rfl
   rw [if_neg k,Go.Lib.countB_hit s _ i (by rw [one];omega) hit,Nat.add_comm 1,Go.Lib.splitB_hit _ _ _ _ i hit,one,Nat.add_zero]
   have sz : (s.extract (i + 1) s.size).size ≤ n:=by rw [ByteArray.size_extract];omega
   rw [ih _ sz,ext_list s 0 i,ext_list s (i + 1) s.size,hi,List.map_cons,Int.toNat_natCast]
   congr 1
   unfold bsOf
   simp only [List.drop_zero,hls ▸ List.take_length]
def partsB (w : ByteArray) : List ByteArray:=(splL 44 (w.extract 1 w.size).data.toList).map bsOf
def labB (w : ByteArray) : Int:=if bt w 0 = 45 then -1 else 1
def sPart (b : ByteArray) : Int × Bool:=if (b.size : Int) > 1 ∧ bt b 0 = 45 then (-(rdI (b.extract 1 b.size)).1,(rdI (b.extract 1 b.size)).2) else rdI b
def rowOf (f : ByteArray → Int × Bool) : List ByteArray → Option (List Int)
|[]=>some []
|b :: bs=>if (f b).2 = true then (rowOf f bs).map ((f b).1 :: ·) else none
def rdWS (w : ByteArray) : Option (List Int × Int):=if (w.size : Int) < 2 then none else (rowOf sPart ((partsB w).take 5)).map fun r=>(r,labB w)
def rowsOf : List ByteArray → Option (List (List Int × Int))
|[]=>some []
|w :: ws=>match rdWS w with
 |none=>none
 |some q=>(rowsOf ws).map (q :: ·)
def rowsI : Nat → List ByteArray → Option (List (List Int × Int))
|_,[]=>some []
|0,_ :: _=>none
|n + 1,w :: ws=>if w.size = 0 then none else match rowOf rdI (partsB w) with
 |none=>none
 |some r=>(rowsI n ws).map ((r,labB w) :: ·)
def finP (t : ByteArray) (ps : List (List Int)) (ls : List Int) : List (List Int) × List Int × Bool:=if smB ps ls = true ∧ bsOf (textT ps ls) = t then (ps,ls,true) else ([],[],false)
def noP : List (List Int) × List Int × Bool:=([],[],false)
theorem rowOf_length {f : ByteArray → Int × Bool} : ∀ {L : List ByteArray} {r : List Int},rowOf f L = some r → r.length = L.length
|[],r,h=>by simp only [rowOf,Option.some.injEq] at h;subst h;rfl
|b :: bs,r,h=>by
  rw [rowOf] at h
  split at h
  ·obtain ⟨q,hq,rfl⟩:=Option.map_eq_some_iff.1 h
   rw [List.length_cons,List.length_cons,rowOf_length hq]
  ·cases h
theorem rdI_small (b : ByteArray) : -999999 ≤ (rdI b).1 ∧ (rdI b).1 ≤ 999999:=by
 unfold rdI
 split
 ·simp
 ·split
  ·simp
  ·split
   ·rename_i h
    have:=inB_iff.1 h
    split
    ·exact this
    ·simp
   ·simp
theorem ext1_size (w : ByteArray) (h : 1 ≤ w.size) : (w.extract 1 w.size).size = w.size - 1:=by
 rw [ByteArray.size_extract]
 omega
theorem parts_size (c : UInt8) : ∀ (l : List UInt8),∀ p ∈ splL c l,p.length ≤ l.length
|[],p,hp=>by simp only [splL,List.mem_singleton] at hp;subst hp;simp
|b :: l,p,hp=>by
  rw [splL] at hp
  split at hp
  ·rcases List.mem_cons.1 hp with rfl|hp
   ·simp
   ·have:=parts_size c l p hp
    rw [List.length_cons];omega
  ·split at hp
   ·rw [List.mem_singleton.1 hp];simp
   ·rename_i q qs e
    rcases List.mem_cons.1 hp with rfl|hp
    ·have:=parts_size c l q (by rw [e];simp)
     rw [List.length_cons,List.length_cons];omega
    ·have:=parts_size c l p (by rw [e];simp [hp])
     rw [List.length_cons];omega
theorem spl_bytes (c : UInt8) (s : ByteArray) (n : Nat) (h : s.size ≤ n) : ∀ b ∈ (splL c s.data.toList).map bsOf,b.size ≤ n:=by
 intro b hb
 obtain ⟨p,hp,rfl⟩:=List.mem_map.1 hb
 have:=parts_size c _ p hp
 have e : s.data.toList.length = s.size:=rfl
 rw [bsOf_size]
 omega
theorem partsB_count (w : ByteArray) (h : w.size ≤ 1048576) (h1 : 1 ≤ w.size) : (partsB w).length ≤ 1048576:=by
 unfold partsB
 rw [List.length_map]
 have:=spl_length_le 44 (w.extract 1 w.size).data.toList
 have e : (w.extract 1 w.size).data.toList.length = w.size - 1:=ext1_size w h1
 omega
theorem partsB_size (w : ByteArray) (h : w.size ≤ 1048576) : ∀ b ∈ partsB w,b.size ≤ 1048576:=spl_bytes 44 _ _ (by rw [ByteArray.size_extract];omega)
theorem read_ev (b : ByteArray) (h : b.size ≤ 1048576) : Ev (fun k=>spec_l1Read.f k b) (rdI b):=by
 rw [rd_same]
 exact l1Read_ev b h
def badP : List Int × Int × Bool:=([],0,false)
theorem j3_f (L : List ByteArray) (lab : Int) (i : Nat) (acc : List Int) (hi : i < 5) (ha : acc.length ≤ i) (G : Int → List Int × Int × Bool) (next : ∀ v : Int,Ev (fun k=>spec_l2ReadPoint.l0 k (acc ++ [v]) lab L ((i + 1 : Nat) : Int)) (G v)) (b : ByteArray) (hb : b.size ≤ 1048576) (hn : ¬ ((b.size : Int) > 1 ∧ bt b 0 = 45)) :
  Ev (fun k=>spec_l2ReadPoint.j3 k acc lab L (i : Int) b 1 false) (if (sPart b).2 = true then G (sPart b).1 else badP):=by
 have es : sPart b = rdI b:=by unfold sPart;rw [if_neg hn]
 rw [es]
 have sm:=rdI_small b
 have rd:=read_ev b hb
 generalize rdI b = q at sm rd
 refine Ev.step (f:=fun k=>(spec_l1Read.f k b).bind fun bt160=>if bt160.2 = true then (if acc.length < 17592186044416 then spec_l2ReadPoint.l0 k (acc ++ [wrap64 (1 * bt160.1)]) lab L (wrap64 ((i : Int) + 1)) else none) else some ([],0,false)) (fun k=>by rw [spec_l2ReadPoint.j3,if_neg (by simp)]) (Ev.bind rd ?_)
 by_cases c : q.2 = true
 ·rw [if_pos c]
  refine ev_if_pos c (ev_if_pos (by omega) ?_)
  rw [Int.one_mul,w64 (by omega) (by omega),w64_nat (by omega)]
  exact next _
 ·rw [if_neg c]
  exact ev_if_neg c (ev_const _)
theorem j3_t (L : List ByteArray) (lab : Int) (i : Nat) (acc : List Int) (hi : i < 5) (ha : acc.length ≤ i) (G : Int → List Int × Int × Bool) (next : ∀ v : Int,Ev (fun k=>spec_l2ReadPoint.l0 k (acc ++ [v]) lab L ((i + 1 : Nat) : Int)) (G v)) (b : ByteArray) (hb : b.size ≤ 1048576) (hn : (b.size : Int) > 1 ∧ bt b 0 = 45) :
  Ev (fun k=>spec_l2ReadPoint.j3 k acc lab L (i : Int) b 1 true) (if (sPart b).2 = true then G (sPart b).1 else badP):=by
 have es : sPart b = (-(rdI (b.extract 1 b.size)).1,(rdI (b.extract 1 b.size)).2):=by unfold sPart;rw [if_pos hn]
 rw [es]
 have hb' : (b.extract 1 b.size).size ≤ 1048576:=by rw [ByteArray.size_extract];omega
 have sm:=rdI_small (b.extract 1 b.size)
 have rd:=read_ev (b.extract 1 b.size) hb'
 have h1 : 1 ≤ (b.size : Int):=by omega
 generalize rdI (b.extract 1 b.size) = q at sm rd
 refine Ev.step (f:=fun k=>(spec_l1Read.f k (b.extract 1 b.size)).bind fun bt152=>if bt152.2 = true then (if acc.length < 17592186044416 then spec_l2ReadPoint.l0 k (acc ++ [wrap64 ((-1) * bt152.1)]) lab L (wrap64 ((i : Int) + 1)) else none) else some ([],0,false)) (fun k=>by rw [spec_l2ReadPoint.j3,if_pos rfl,if_pos h1]) (Ev.bind rd ?_)
 by_cases c : q.2 = true
 ·rw [if_pos c]
  refine ev_if_pos c (ev_if_pos (by omega) ?_)
  rw [show (-1 : Int) * q.1 = -q.1 by omega,w64 (by omega) (by omega),w64_nat (by omega)]
  exact next _
 ·rw [if_neg c]
  exact ev_if_neg c (ev_const _)
def outP (acc : List Int) (lab : Int) : Option (List Int) → List Int × Int × Bool
|none=>badP
|some r=>(acc ++ r,lab,true)
theorem srow_l (L : List ByteArray) (lab : Int) (hL : L.length ≤ 2000000) (hs : ∀ b ∈ L,b.size ≤ 1048576) : ∀ (m i : Nat) (acc : List Int),i + m = 5 → acc.length ≤ i →
  Ev (fun k=>spec_l2ReadPoint.l0 k acc lab L (i : Int)) (outP acc lab (rowOf sPart ((L.drop i).take m)))
|0,i,acc,hi,ha=>by
  rw [List.take_zero,rowOf,outP,List.append_nil]
  have e : Ev (fun k=>spec_l2ReadPoint.j2 k acc lab L (i : Int) false) (acc,lab,true):=by
   refine Ev.step (f:=fun _=>some (acc,lab,true)) (fun k=>?_) (ev_const _)
   rw [spec_l2ReadPoint.j2,if_neg (by simp)]
  refine Ev.step (f:=fun k=>spec_l2ReadPoint.j2 k acc lab L (i : Int) false) (fun k=>?_) e
  rw [spec_l2ReadPoint.l0,decide_eq_false (by omega)]
  split <;> rfl
|m + 1,i,acc,hi,ha=>by
  by_cases h : i < L.length
  ·have hb:=hs L[i] (List.getElem_mem h)
   have hrd:=rdO L i h
   rw [List.drop_eq_getElem_cons h,List.take_succ_cons,rowOf]
   generalize L[i] = b at hb hrd
   have next : ∀ v : Int,Ev (fun k=>spec_l2ReadPoint.l0 k (acc ++ [v]) lab L ((i + 1 : Nat) : Int)) (outP acc lab ((rowOf sPart ((L.drop (i + 1)).take m)).map (v :: ·))):=fun v=>by
    have ih:=srow_l L lab hL hs m (i + 1) (acc ++ [v]) (by omega) (by rw [List.length_append,List.length_singleton];omega)
    cases e : rowOf sPart ((L.drop (i + 1)).take m) with
   |none=>rw [e] at ih;exact ih
   |some r =>
     rw [e,outP,List.append_assoc,List.singleton_append] at ih
     exact ih
   have e1 : outP acc lab (if (sPart b).2 = true then (rowOf sPart ((L.drop (i + 1)).take m)).map ((sPart b).1 :: ·) else none) = if (sPart b).2 = true then outP acc lab ((rowOf sPart ((L.drop (i + 1)).take m)).map ((sPart b).1 :: ·)) else badP:=by
    split <;> rfl
   rw [e1]
   have two : Ev (fun k=>spec_l2ReadPoint.j2 k acc lab L (i : Int) true) (if (sPart b).2 = true then outP acc lab ((rowOf sPart ((L.drop (i + 1)).take m)).map ((sPart b).1 :: ·)) else badP):=by
    have t1:=j3_t L lab i acc (by omega) ha _ next b hb
    have t2:=j3_f L lab i acc (by omega) ha _ next b hb
    by_cases c1 : (b.size : Int) > 1
    ·by_cases c2 : bt b 0 = 45
     ·refine Ev.step (f:=fun k=>spec_l2ReadPoint.j3 k acc lab L (i : Int) b 1 true) (fun k=>?_) (t1 ⟨c1,c2⟩)
      rw [spec_l2ReadPoint.j2,if_pos rfl,if_pos (by omega),if_pos (by omega),hrd,if_pos c1,if_pos (by omega),c2]
      rfl
     ·refine Ev.step (f:=fun k=>spec_l2ReadPoint.j3 k acc lab L (i : Int) b 1 false) (fun k=>?_) (t2 (fun q=>c2 q.2))
      rw [spec_l2ReadPoint.j2,if_pos rfl,if_pos (by omega),if_pos (by omega),hrd,if_pos c1,if_pos (by omega),beq_eq_false_iff_ne.2 c2]
    ·refine Ev.step (f:=fun k=>spec_l2ReadPoint.j3 k acc lab L (i : Int) b 1 false) (fun k=>?_) (t2 (fun q=>c1 q.1))
     rw [spec_l2ReadPoint.j2,if_pos rfl,if_pos (by omega),if_pos (by omega),hrd,if_neg c1]
   refine Ev.step (f:=fun k=>spec_l2ReadPoint.j2 k acc lab L (i : Int) true) (fun k=>?_) two
   rw [spec_l2ReadPoint.l0,if_pos (by omega),decide_eq_true (by omega)]
  ·rw [List.drop_of_length_le (by omega),List.take_nil,rowOf,outP,List.append_nil]
   have e : Ev (fun k=>spec_l2ReadPoint.j2 k acc lab L (i : Int) false) (acc,lab,true):=by
    refine Ev.step (f:=fun _=>some (acc,lab,true)) (fun k=>?_) (ev_const _)
    rw [spec_l2ReadPoint.j2,if_neg (by simp)]
   refine Ev.step (f:=fun k=>spec_l2ReadPoint.j2 k acc lab L (i : Int) false) (fun k=>?_) e
   rw [spec_l2ReadPoint.l0,if_neg (by omega)]
theorem point_ev (w : ByteArray) (h : w.size ≤ 1048576) : Ev (fun k=>spec_l2ReadPoint.f k w) (match rdWS w with|none=>([],0,false)|some q=>(q.1,q.2,true)):=by
 unfold spec_l2ReadPoint.f rdWS
 refine Ev.bind (ev_const _) ?_
 by_cases c : (w.size : Int) < 2
 ·rw [if_pos c]
  exact ev_if_pos c (ev_const _)
 ·rw [if_neg c]
  refine ev_if_neg c (ev_if_pos (by omega) ?_)
  have hz : (w.extract 1 w.size).size ≤ 1048576:=by rw [ByteArray.size_extract];omega
  have hsp : Ev (fun k=>spec_l1Split.f k (w.extract 1 w.size) 44) (partsB w):=split_ev (w.extract 1 w.size) 44 hz
  have go : ∀ lab : Int,Ev (fun k=>spec_l2ReadPoint.j0 k w [] lab) (match (rowOf sPart ((partsB w).take 5)).map (fun r=>(r,lab)) with|none=>([],0,false)|some q=>(q.1,q.2,true)):=fun lab=>by
   have sl:=srow_l (partsB w) lab (by have:=partsB_count w h (by omega);omega) (partsB_size w h) 5 0 [] rfl (Nat.le_refl _)
   rw [List.drop_zero] at sl
   refine Ev.step (f:=fun k=>(spec_l1Split.f k (w.extract 1 w.size) 44).bind fun t148=>spec_l2ReadPoint.l0 k [] lab t148 0) (fun k=>by rw [spec_l2ReadPoint.j0,if_pos (by omega)]) (Ev.bind hsp ?_)
   cases e : rowOf sPart ((partsB w).take 5) with
  |none=>rw [e] at sl;exact sl
  |some r=>rw [e] at sl;exact sl
  unfold labB
  by_cases d : bt w 0 = 45
  ·rw [if_pos d]
   exact ev_if_pos d (go (-1))
  ·rw [if_neg d]
   exact ev_if_neg d (go 1)
theorem toL_eq (a b : ByteArray) : (a.toList = b.toList) ↔ a = b:=by
 constructor
 ·intro h
  rw [toList_data,toList_data] at h
  rw [← bsOf_data a,← bsOf_data b,h]
 ·rintro rfl
  rfl
theorem sfin_ev (t : ByteArray) (W : List ByteArray) (i : Int) (ps : List (List Int)) (ls : List Int) (hr : ∀ r ∈ ps,r.length ≤ 1048576) (hm : ls.length ≤ 1048576) : Ev (fun k=>spec_ParseSample.j1 k t W i false ps ls) (finP t ps ls):=by
 have e2 : Ev (fun k=>spec_l2Sample.f k ps ls) (smB ps ls):=ev_of 3000000 fun k hk=>spec_l2Sample_is k ps ls hr hm (by omega)
 refine Ev.step (f:=fun k=>(spec_l2Sample.f k ps ls).bind fun t191=>if t191 = true then ((spec_l2Text.f k ps ls).bind fun t192=>if t192.toList = t.toList then some (ps,ls,true) else some ([],[],false)) else some ([],[],false)) (fun k=>by rw [spec_ParseSample.j1,if_neg (by simp)]) (Ev.bind e2 ?_)
 by_cases c : smB ps ls = true
 ·refine ev_if_pos c (Ev.bind (l2Text_ev ps ls c) ?_)
  by_cases d : bsOf (textT ps ls) = t
  ·rw [show finP t ps ls = (ps,ls,true) from if_pos ⟨c,d⟩]
   exact ev_if_pos ((toL_eq _ _).2 d) (ev_const _)
  ·rw [show finP t ps ls = ([],[],false) from if_neg (fun h=>d h.2)]
   exact ev_if_neg (fun h=>d ((toL_eq _ _).1 h)) (ev_const _)
 ·rw [show finP t ps ls = ([],[],false) from if_neg (fun h=>c h.1)]
  exact ev_if_neg c (ev_const _)
theorem rdWS_small {w : ByteArray} {q : List Int × Int} (h : rdWS w = some q) : q.1.length ≤ 1048576:=by
 unfold rdWS at h
 split at h
 ·cases h
 ·obtain ⟨r,hr,rfl⟩:=Option.map_eq_some_iff.1 h
  have:=rowOf_length hr
  rw [List.length_take] at this
  show r.length ≤ 1048576
  omega
theorem s_l (t : ByteArray) (W : List ByteArray) (hW : W.length ≤ 2000000) (hs : ∀ b ∈ W,b.size ≤ 1048576) : ∀ (m i : Nat) (A : List (List Int)) (B : List Int),i + m = 17 → A.length = i → B.length = i → (∀ r ∈ A,r.length ≤ 1048576) →
  Ev (fun k=>spec_ParseSample.l0 k t W (i : Int) A B) (match rowsOf ((W.drop i).take m) with|none=>noP|some rs=>finP t (A ++ rs.map (·.1)) (B ++ rs.map (·.2)))
|0,i,A,B,hi,hA,hB,hr=>by
  simp only [List.take_zero,rowsOf,List.map_nil,List.append_nil]
  refine Ev.step (f:=fun k=>spec_ParseSample.j1 k t W (i : Int) false A B) (fun k=>?_) (sfin_ev t W _ A B hr (by omega))
  rw [spec_ParseSample.l0,decide_eq_false (by omega)]
  split <;> rfl
|m + 1,i,A,B,hi,hA,hB,hr=>by
  by_cases h : i < W.length
  ·have hb:=hs W[i] (List.getElem_mem h)
   rw [List.drop_eq_getElem_cons h,List.take_succ_cons,rowsOf]
   have two : Ev (fun k=>spec_ParseSample.j1 k t W (i : Int) true A B) (match (match rdWS W[i] with|none=>none|some q=>(rowsOf ((W.drop (i + 1)).take m)).map (q :: ·)) with|none=>noP|some rs=>finP t (A ++ rs.map (·.1)) (B ++ rs.map (·.2))):=by
    refine Ev.step (f:=fun k=>(spec_l2ReadPoint.f k W[i]).bind fun bt180=>if bt180.2.2 = true then (if A.length < 5864062014805 then (if B.length < 17592186044416 then spec_ParseSample.l0 k t W (wrap64 ((i : Int) + 1)) (A ++ [bt180.1]) (B ++ [bt180.2.1]) else none) else none) else some ([],[],false)) (fun k=>by rw [spec_ParseSample.j1,if_pos rfl,if_pos (by omega),if_pos (by omega),rdO W i h]) (Ev.bind (point_ev W[i] hb) ?_)
    cases e : rdWS W[i] with
   |none=>exact ev_if_neg (by simp) (ev_const _)
   |some q =>
     have ih:=s_l t W hW hs m (i + 1) (A ++ [q.1]) (B ++ [q.2]) (by omega) (by rw [List.length_append,List.length_singleton];omega) (by rw [List.length_append,List.length_singleton];omega) (fun r hr'=>by
      rcases List.mem_append.1 hr' with h1|h1
      ·exact hr r h1
      ·rw [List.mem_singleton.1 h1];exact rdWS_small e)
     refine ev_if_pos rfl (ev_if_pos (by omega) (ev_if_pos (by omega) ?_))
     rw [w64_nat (by omega)]
     cases e2 : rowsOf ((W.drop (i + 1)).take m) with
    |none=>rw [e2] at ih;exact ih
    |some rs=>rw [e2] at ih;simpa using ih
   refine Ev.step (f:=fun k=>spec_ParseSample.j1 k t W (i : Int) true A B) (fun k=>?_) two
   rw [spec_ParseSample.l0,if_pos (by omega),decide_eq_true (by omega)]
  ·rw [List.drop_of_length_le (by omega),List.take_nil]
   simp only [rowsOf,List.map_nil,List.append_nil]
   refine Ev.step (f:=fun k=>spec_ParseSample.j1 k t W (i : Int) false A B) (fun k=>?_) (sfin_ev t W _ A B hr (by omega))
   rw [spec_ParseSample.l0,if_neg (by omega)]
theorem ifin_ev (t : ByteArray) (ps : List (List Int)) (ls : List Int) (hr : ∀ r ∈ ps,r.length ≤ 1048576) (hm : ls.length ≤ 1048576) (W : List ByteArray) (n i : Int) (hi : ¬ i < n) : Ev (fun k=>impl_ParseSample.l0 k t W n i ps ls) (finP t ps ls):=by
 have e1 : Ev (fun k=>impl_IsSample.f k ps ls) (smB ps ls):=ev_of 3000000 fun k hk=>impl_IsSample_is k ps ls hr hm (by omega)
 refine Ev.step (f:=fun k=>(impl_IsSample.f k ps ls).bind fun t271=>if t271 = true then ((impl_sampleText.f k ps ls).bind fun t272=>if t272.toList = t.toList then some (ps,ls,true) else some ([],[],false)) else some ([],[],false)) (fun k=>by rw [impl_ParseSample.l0,if_neg hi]) (Ev.bind e1 ?_)
 by_cases c : smB ps ls = true
 ·refine ev_if_pos c (Ev.bind (sampleText_ev ps ls c) ?_)
  by_cases d : bsOf (textT ps ls) = t
  ·rw [show finP t ps ls = (ps,ls,true) from if_pos ⟨c,d⟩]
   exact ev_if_pos ((toL_eq _ _).2 d) (ev_const _)
  ·rw [show finP t ps ls = ([],[],false) from if_neg (fun h=>d h.2)]
   exact ev_if_neg (fun h=>d ((toL_eq _ _).1 h)) (ev_const _)
 ·rw [show finP t ps ls = ([],[],false) from if_neg (fun h=>c h.1)]
  exact ev_if_neg c (ev_const _)
def outI (G : List Int → List (List Int) × List Int × Bool) (acc : List Int) : Option (List Int) → List (List Int) × List Int × Bool
|none=>noP
|some r=>G (acc ++ r)
theorem irow_l (t w : ByteArray) (hw : 1 ≤ w.size) (W : List ByteArray) (n i : Int) (P : List ByteArray) (hP : P.length ≤ 1048576) (A : List (List Int)) (B : List Int) (hA : A.length ≤ 100) (hB : B.length ≤ 100) (G : List Int → List (List Int) × List Int × Bool)
  (next : ∀ r : List Int,r.length ≤ 1048576 → Ev (fun k=>impl_ParseSample.l0 k t W n (wrap64 (i + 1)) (A ++ [r]) (B ++ [labB w])) (G r)) : ∀ (m j : Nat) (acc : List Int),j + m = P.length → acc.length = j →
  Ev (fun k=>impl_ParseSample.l1 k t w acc W n i P (P.length : Int) (j : Int) A B) (outI G acc (rowOf rdI (P.drop j)))
|0,j,acc,hj,ha=>by
  rw [List.drop_of_length_le (by omega),rowOf,outI,List.append_nil]
  have nx:=next acc (by omega)
  unfold labB at nx
  by_cases c : bt w 0 = 45
  ·rw [if_pos c] at nx
   refine Ev.step (f:=fun k=>impl_ParseSample.l0 k t W n (wrap64 (i + 1)) (A ++ [acc]) (B ++ [-1])) (fun k=>?_) nx
   rw [impl_ParseSample.l1,if_neg (by omega),if_pos (by omega),if_pos c]
   simp only [Option.bind_some,List.length_singleton]
   rw [if_pos (by omega),if_pos (by omega)]
  ·rw [if_neg c] at nx
   refine Ev.step (f:=fun k=>impl_ParseSample.l0 k t W n (wrap64 (i + 1)) (A ++ [acc]) (B ++ [1])) (fun k=>?_) nx
   rw [impl_ParseSample.l1,if_neg (by omega),if_pos (by omega),if_neg c]
   simp only [Option.bind_some,List.length_singleton]
   rw [if_pos (by omega),if_pos (by omega)]
|m + 1,j,acc,hj,ha=>by
  have h : j < P.length:=by omega
  have hrd:=rdO P j h
  rw [List.drop_eq_getElem_cons h,rowOf]
  generalize P[j] = b at hrd
  have ih:=irow_l t w hw W n i P hP A B hA hB G next m (j + 1) (acc ++ [(rdI b).1]) (by omega) (by rw [List.length_append,List.length_singleton];omega)
  have rd:=impl_parse_ev b
  generalize rdI b = q at ih rd
  refine Ev.step (f:=fun k=>(impl_ParseInt.f k b).bind fun bt239=>if bt239.2 = true then ((some ([bt239.1] : List Int)).bind fun y241=>if acc.length + y241.length < 17592186044416 then impl_ParseSample.l1 k t w (acc ++ y241) W n i P (P.length : Int) (wrap64 ((j : Int) + 1)) A B else none) else some ([],[],false)) (fun k=>by rw [impl_ParseSample.l1,if_pos (by omega),if_pos (by omega),if_pos (by omega),hrd]) (Ev.bind rd ?_)
  by_cases c : q.2 = true
  ·rw [if_pos c]
   refine ev_if_pos c (Ev.bind (ev_const _) (ev_if_pos (by rw [List.length_singleton];omega) ?_))
   rw [w64_nat (by omega)]
   cases e : rowOf rdI (P.drop (j + 1)) with
  |none=>rw [e] at ih;exact ih
  |some r =>
    rw [e,outI,List.append_assoc,List.singleton_append] at ih
    exact ih
  ·rw [if_neg c]
   exact ev_if_neg c (ev_const _)
theorem split_imp (s : ByteArray) (c : UInt8) : Ev (fun k=>strings_Split.f k s (⟨#[c]⟩ : ByteArray)) ((splL c s.data.toList).map bsOf) ∨ ¬ s.size ≤ 1048576:=by
 by_cases h : s.size ≤ 1048576
 ·left
  unfold strings_Split.f
  refine ev_if_pos (by omega) (ev_if_pos (show 1 ≤ (1 : Nat) from Nat.le_refl _) ?_)
  rw [splitB_is c s.size s (Nat.le_refl _)]
  exact ev_const _
 ·exact Or.inr h
def outR (t : ByteArray) (A : List (List Int)) (B : List Int) : Option (List (List Int × Int)) → List (List Int) × List Int × Bool
|none=>noP
|some rs=>finP t (A ++ rs.map (·.1)) (B ++ rs.map (·.2))
theorem i_l (t : ByteArray) (W : List ByteArray) (hW : W.length ≤ 2000000) (hs : ∀ b ∈ W,b.size ≤ 1048576) : ∀ (m i : Nat) (A : List (List Int)) (B : List Int),i + m = 16 → A.length = i → B.length = i → (∀ r ∈ A,r.length ≤ 1048576) →
  Ev (fun k=>impl_ParseSample.l0 k t W (W.length : Int) (i : Int) A B) (outR t A B (rowsI m (W.drop i)))
|m,i,A,B,hi,hA,hB,hr=>by
  by_cases h : i < W.length
  ·have hb:=hs W[i] (List.getElem_mem h)
   have hrd:=rdO W i h
   rw [List.drop_eq_getElem_cons h]
   generalize W[i] = w at hb hrd
   have bad : ∀ x : Bool,x = true → Ev (fun k=>impl_ParseSample.j1 k t w W (W.length : Int) (i : Int) x A B) noP:=fun x hx=>by
    refine Ev.step (f:=fun _=>some ([],[],false)) (fun k=>?_) (ev_const _)
    rw [impl_ParseSample.j1,if_pos hx]
   by_cases hz : w.size = 0
   ·have hl : w.toList = ([] : List UInt8):=by
     rw [toList_data]
     exact List.length_eq_zero_iff.1 hz
    have e0 : rowsI m (w :: W.drop (i + 1)) = none:=by
     match m with
    |0=>rfl
    |m + 1=>rw [rowsI,if_pos hz]
    rw [e0,outR]
    refine Ev.step (f:=fun k=>impl_ParseSample.j1 k t w W (W.length : Int) (i : Int) true A B) (fun k=>?_) (bad true rfl)
    rw [impl_ParseSample.l0,if_pos (by omega),if_pos (by omega),if_pos (by omega),hrd,if_pos hl]
   ·have hl : ¬ w.toList = ([] : List UInt8):=by
     rw [toList_data]
     intro e
     exact hz (by show w.data.toList.length = 0;rw [e];rfl)
    have st : ∀ k,impl_ParseSample.l0 (k + 1) t W (W.length : Int) (i : Int) A B = impl_ParseSample.j1 k t w W (W.length : Int) (i : Int) ((A.length : Int) == 16) A B:=fun k=>by
     rw [impl_ParseSample.l0,if_pos (by omega),if_pos (by omega),if_pos (by omega),hrd,if_neg hl]
    match m,hi with
   |0,hi =>
     have e0 : rowsI 0 (w :: W.drop (i + 1)) = none:=rfl
     rw [e0,outR]
     refine Ev.step st (bad _ ?_)
     rw [hA]
     simp only [beq_iff_eq]
     omega
   |m + 1,hi =>
     rw [rowsI,if_neg hz]
     have hA16 : ((A.length : Int) == 16) = false:=by
      rw [beq_eq_false_iff_ne]
      omega
     have sp : Ev (fun k=>strings_Split.f k (w.extract 1 w.size) (⟨#[44]⟩ : ByteArray)) (partsB w):=by
      rcases split_imp (w.extract 1 w.size) 44 with h1|h1
      ·exact h1
      ·exact absurd (show (w.extract 1 w.size).size ≤ 1048576 by rw [ByteArray.size_extract];omega) h1
     have ir:=irow_l t w (by omega) W (W.length : Int) (i : Int) (partsB w) (partsB_count w hb (by omega)) A B (by omega) (by omega) (fun r=>outR t (A ++ [r]) (B ++ [labB w]) (rowsI m (W.drop (i + 1)))) (fun r hr2=>by
      rw [w64_nat (by omega)]
      exact i_l t W hW hs m (i + 1) (A ++ [r]) (B ++ [labB w]) (by omega) (by rw [List.length_append,List.length_singleton];omega) (by rw [List.length_append,List.length_singleton];omega) (fun q hq=>by
       rcases List.mem_append.1 hq with h1|h1
       ·exact hr q h1
       ·rw [List.mem_singleton.1 h1];exact hr2)) (partsB w).length 0 [] (by omega) rfl
     refine Ev.step st ?_
     refine Ev.step (f:=fun k=>(strings_Split.f k (w.extract 1 w.size) (⟨#[44]⟩ : ByteArray)).bind fun t235=>impl_ParseSample.l1 k t w [] W (W.length : Int) (i : Int) t235 (t235.length : Int) 0 A B) (fun k=>by rw [impl_ParseSample.j1,hA16,if_neg (by simp),if_pos (by omega)]) (Ev.bind sp ?_)
     rw [List.drop_zero] at ir
     cases e : rowOf rdI (partsB w) with
    |none=>rw [e] at ir;exact ir
    |some r =>
      rw [e,outI,List.nil_append] at ir
      cases e2 : rowsI m (W.drop (i + 1)) with
     |none=>rw [e2] at ir;exact ir
     |some rs =>
       rw [e2,outR,List.append_assoc,List.append_assoc,List.singleton_append,List.singleton_append] at ir
       exact ir
  ·rw [List.drop_of_length_le (by omega)]
   have e0 : rowsI m [] = some []:=by cases m <;> rfl
   rw [e0,outR,List.map_nil,List.map_nil,List.append_nil,List.append_nil]
   exact ifin_ev t A B hr (by omega) W _ _ (by omega)
 termination_by m=>m
theorem glue_glue (a b : List UInt8) (X : List (List UInt8)) : glue a (glue b X) = glue (a ++ b) X:=by
 cases X with
|nil=>rfl
|cons q qs=>simp [glue]
theorem spl_app (c : UInt8) : ∀ (w l : List UInt8),c ∉ w → splL c (w ++ l) = glue w (splL c l)
|[],l,_=>(glue_nil _ (spl_ne c l)).symm
|b :: w,l,h=>by
  have hb : b ≠ c:=fun e=>h (by rw [e];simp)
  have ih:=spl_app c w l (fun e=>h (by simp [e]))
  have e1:=glue_cons c b hb [] (w ++ l)
  rw [glue_nil _ (spl_ne c _)] at e1
  rw [List.cons_append,e1,ih,glue_glue]
  rfl
theorem spl_last (c : UInt8) (w : List UInt8) (h : c ∉ w) : splL c w = [w]:=by
 have:=spl_app c w [] h
 rw [List.append_nil] at this
 rw [this]
 simp [splL,glue]
theorem spl_sep (c : UInt8) (w l : List UInt8) (h : c ∉ w) : splL c (w ++ c :: l) = w :: splL c l:=by
 rw [spl_app c w _ h,splL,if_pos rfl]
 simp [glue]
theorem spl_join (c : UInt8) : ∀ (r : List (List UInt8)) (x : List UInt8),(∀ w ∈ x :: r,c ∉ w) → splL c (Go.Lib.join (x :: r) [c]) = x :: r
|[],x,h=>by
  rw [Go.Lib.join_one]
  exact spl_last c x (h x (by simp))
|y :: r,x,h=>by
  have ih:=spl_join c r y (fun w hw=>h w (by simp [hw]))
  rw [Go.Lib.join_cons] at ih ⊢
  have e : Go.Lib.joinTail [c] (y :: r) = c :: (y ++ Go.Lib.joinTail [c] r):=by simp [Go.Lib.joinTail]
  rw [e,spl_sep c x _ (h x (by simp)),ih]
theorem atoi_one : ∀ m : Fin 10,Go.Lib.atoi [UInt8.ofNat (48 + m.val)] = some (m.val : Int):=by decide
theorem atoi_two : ∀ m : Fin 10,Go.Lib.atoi [45,UInt8.ofNat (48 + m.val)] = some (-(m.val : Int)):=by decide
theorem itoa_pos (n : Int) (h0 : 0 ≤ n) (h9 : n ≤ 9) : Go.Lib.itoa n = [UInt8.ofNat (48 + n.toNat)]:=by
 unfold Go.Lib.itoa
 rw [if_neg (by omega),Go.Lib.decDigits_one (by omega)]
theorem itoa_neg (n : Int) (h0 : n < 0) (h9 : -9 ≤ n) : Go.Lib.itoa n = [45,UInt8.ofNat (48 + n.natAbs)]:=by
 unfold Go.Lib.itoa
 rw [if_pos h0,Go.Lib.decDigits_one (by omega)]
theorem rdI_of (l : List UInt8) (n : Int) (hl : l.length ≤ 7) (ha : Go.Lib.atoi l = some n) (hn : -9 ≤ n ∧ n ≤ 9) (hi : Go.Lib.itoa n = l) : rdI (bsOf l) = (n,true):=by
 have e1 : (numB n).toList = (bsOf l).toList:=by rw [numB_list,hi,toList_data,bsOf_list]
 unfold rdI
 rw [if_neg (by rw [bsOf_size];omega),bsOf_list,ha]
 simp only []
 rw [if_pos (inB_iff.2 ⟨by omega,by omega⟩),if_pos e1]
theorem rdI_itoa (n : Int) (hn : -9 ≤ n ∧ n ≤ 9) : rdI (bsOf (Go.Lib.itoa n)) = (n,true):=by
 by_cases h : n < 0
 ·have a:=atoi_two ⟨n.natAbs,by omega⟩
  have e:=itoa_neg n h hn.1
  rw [e]
  refine rdI_of _ n (by simp) ?_ hn e
  rw [a]
  congr 1
  show -((n.natAbs : Nat) : Int) = n
  omega
 ·have a:=atoi_one ⟨n.toNat,by omega⟩
  have e:=itoa_pos n (by omega) hn.2
  rw [e]
  refine rdI_of _ n (by simp) ?_ hn e
  rw [a]
  congr 1
  show ((n.toNat : Nat) : Int) = n
  omega
theorem bt0 (b : UInt8) (l : List UInt8) : bt (bsOf (b :: l)) 0 = ((b.toNat : Nat) : Int):=by
 have:=bt_get (bsOf (b :: l)) 0 (by first|(rw [bsOf_size];simp)|(rw [bsOf_list];simp))
 rw [show ((0 : Nat) : Int) = 0 from rfl] at this
 rw [this]
 simp [bsOf_list]
theorem ext_tail (b : UInt8) (l : List UInt8) : (bsOf (b :: l)).extract 1 (bsOf (b :: l)).size = bsOf l:=by
 rw [ext_list,bsOf_list,bsOf_size,List.take_of_length_le (by simp)]
 rfl
theorem digit_byte (m : Nat) (h : m < 10) : ((UInt8.ofNat (48 + m)).toNat : Int) = 48 + m:=by
 have : (UInt8.ofNat (48 + m)).toNat = 48 + m:=by
  rw [UInt8.toNat_ofNat']
  omega
 omega
theorem sPart_itoa (n : Int) (hn : -9 ≤ n ∧ n ≤ 9) : sPart (bsOf (Go.Lib.itoa n)) = (n,true):=by
 unfold sPart
 by_cases h : n < 0
 ·have e:=itoa_neg n h hn.1
  have e2:=itoa_pos (-n) (by omega) (by omega)
  have a:=rdI_itoa (-n) (by omega)
  have en : (-n).toNat = n.natAbs:=by omega
  rw [e,if_pos ⟨by rw [bsOf_size];simp,by rw [bt0];rfl⟩,ext_tail,← en,← e2,a]
  simp
 ·rw [if_neg (fun q=>?_)]
  ·exact rdI_itoa n hn
  ·rw [itoa_pos n (by omega) hn.2,bsOf_size] at q
   have:=q.1
   simp at this
theorem rowOf_text (f : ByteArray → Int × Bool) (hf : ∀ n : Int,-9 ≤ n ∧ n ≤ 9 → f (bsOf (Go.Lib.itoa n)) = (n,true)) : ∀ p : List Int,p.all (inB (-9) 9) = true → rowOf f ((p.map Go.Lib.itoa).map bsOf) = some p
|[],_=>rfl
|n :: p,h=>by
  have hn:=inB_iff.1 (List.all_eq_true.1 h n (by simp))
  have ih:=rowOf_text f hf p (List.all_eq_true.2 (fun x hx=>List.all_eq_true.1 h x (by simp [hx])))
  rw [List.map_cons,List.map_cons,rowOf,hf n hn,if_pos rfl,ih]
  rfl
theorem itoa_free (c : UInt8) (hc : c = 32 ∨ c = 44) (n : Int) (hn : -9 ≤ n ∧ n ≤ 9) : c ∉ Go.Lib.itoa n:=by
 have free : ∀ m : Nat,m < 10 → c ≠ UInt8.ofNat (48 + m):=fun m hm e=>by
  have:=digit_byte m hm
  rw [← e] at this
  rcases hc with rfl|rfl
  ·have h32 : ((32 : UInt8).toNat : Int) = 32:=rfl
   omega
  ·have h44 : ((44 : UInt8).toNat : Int) = 44:=rfl
   omega
 have m45 : c ≠ 45:=by rcases hc with rfl|rfl <;> decide
 by_cases h : n < 0
 ·rw [itoa_neg n h hn.1]
  intro q
  rcases List.mem_cons.1 q with q|q
  ·exact m45 q
  ·exact free n.natAbs (by omega) (List.mem_singleton.1 q)
 ·rw [itoa_pos n (by omega) hn.2]
  intro q
  exact free n.toNat (by omega) (List.mem_singleton.1 q)
theorem nums_parts (p : List Int) (hp : ptB p = true) : splL 44 (numsL p) = p.map Go.Lib.itoa:=by
 obtain ⟨hb,h1,h4⟩:=ptB_parts hp
 unfold numsL
 cases p with
|nil=>simp at h1
|cons n p =>
  rw [List.map_cons]
  refine spl_join 44 _ _ (fun w hw=>?_)
  rw [← List.map_cons] at hw
  obtain ⟨m,hm,rfl⟩:=List.mem_map.1 hw
  exact itoa_free 44 (Or.inr rfl) m (inB_iff.1 (List.all_eq_true.1 hb m hm))
theorem join_free (c d : UInt8) (hcd : c ≠ d) : ∀ (r : List (List UInt8)) (x : List UInt8),(∀ w ∈ x :: r,c ∉ w) → c ∉ Go.Lib.join (x :: r) [d]
|[],x,h=>by
  rw [Go.Lib.join_one]
  exact h x (by simp)
|y :: r,x,h=>by
  have ih:=join_free c d hcd r y (fun w hw=>h w (by simp [hw]))
  rw [Go.Lib.join_cons] at ih ⊢
  have e : Go.Lib.joinTail [d] (y :: r) = d :: (y ++ Go.Lib.joinTail [d] r):=by simp [Go.Lib.joinTail]
  rw [e]
  intro q
  rcases List.mem_append.1 q with q|q
  ·exact h x (by simp) q
  ·rcases List.mem_cons.1 q with q|q
   ·exact hcd q
   ·exact ih q
theorem word_free (l : Int) (p : List Int) (hp : ptB p = true) : (32 : UInt8) ∉ wordT l p:=by
 obtain ⟨hb,h1,h4⟩:=ptB_parts hp
 unfold wordT numsL
 intro q
 rcases List.mem_cons.1 q with q|q
 ·split at q <;> exact absurd q (by decide)
 ·cases p with
 |nil=>simp at h1
 |cons n p =>
   rw [List.map_cons] at q
   refine join_free 32 44 (by decide) _ _ (fun w hw=>?_) q
   rw [← List.map_cons] at hw
   obtain ⟨m,hm,rfl⟩:=List.mem_map.1 hw
   exact itoa_free 32 (Or.inl rfl) m (inB_iff.1 (List.all_eq_true.1 hb m hm))
theorem parts_word (l : Int) (p : List Int) (hp : ptB p = true) : partsB (bsOf (wordT l p)) = (p.map Go.Lib.itoa).map bsOf:=by
 unfold partsB wordT
 rw [ext_tail,bsOf_list,nums_parts p hp]
theorem lab_word (l : Int) (p : List Int) (hl : lbB l = true) : labB (bsOf (wordT l p)) = l:=by
 have hl2 : l = 1 ∨ l = -1:=of_decide_eq_true hl
 unfold labB wordT
 rw [bt0]
 rcases hl2 with rfl|rfl <;> rfl
theorem itoa_ne (n : Int) (hn : -9 ≤ n ∧ n ≤ 9) : 1 ≤ (Go.Lib.itoa n).length:=by
 by_cases h : n < 0
 ·rw [itoa_neg n h hn.1];simp
 ·rw [itoa_pos n (by omega) hn.2];simp
theorem word_two (l : Int) (p : List Int) (hp : ptB p = true) : 2 ≤ (wordT l p).length:=by
 obtain ⟨hb,h1,h4⟩:=ptB_parts hp
 unfold wordT numsL
 cases p with
|nil=>simp at h1
|cons n p =>
  have:=itoa_ne n (inB_iff.1 (List.all_eq_true.1 hb n (by simp)))
  rw [List.map_cons,Go.Lib.join_cons,List.length_cons,List.length_append]
  omega
theorem rdWS_word (l : Int) (p : List Int) (hl : lbB l = true) (hp : ptB p = true) : rdWS (bsOf (wordT l p)) = some (p,l):=by
 obtain ⟨hb,h1,h4⟩:=ptB_parts hp
 have h2:=word_two l p hp
 unfold rdWS
 rw [if_neg (by rw [bsOf_size];omega),parts_word l p hp,List.take_of_length_le (by rw [List.length_map,List.length_map];omega),rowOf_text sPart sPart_itoa p hb,lab_word l p hl]
 rfl
theorem rows_text : ∀ (ps : List (List Int)) (ls : List Int),ls.length = ps.length → (∀ p ∈ ps,ptB p = true) → ls.all lbB = true → rowsOf ((wordsT ps ls).map bsOf) = some (ps.zip ls)
|[],ls,hl,_,_=>by
  have : ls = []:=List.length_eq_zero_iff.1 (by simpa using hl)
  subst this
  rfl
|p :: ps,[],hl,_,_=>by simp at hl
|p :: ps,l :: ls,hl,hp,hb=>by
  have ih:=rows_text ps ls (by simpa using hl) (fun q hq=>hp q (by simp [hq])) (List.all_eq_true.2 (fun x hx=>List.all_eq_true.1 hb x (by simp [hx])))
  have e : wordsT (p :: ps) (l :: ls) = wordT l p :: wordsT ps ls:=rfl
  rw [e,List.map_cons,rowsOf,rdWS_word l p (List.all_eq_true.1 hb l (by simp)) (hp p (by simp))]
  simp only []
  rw [ih]
  rfl
theorem rowsI_text : ∀ (ps : List (List Int)) (ls : List Int) (m : Nat),ps.length ≤ m → ls.length = ps.length → (∀ p ∈ ps,ptB p = true) → ls.all lbB = true → rowsI m ((wordsT ps ls).map bsOf) = some (ps.zip ls)
|[],ls,m,_,hl,_,_=>by
  have : ls = []:=List.length_eq_zero_iff.1 (by simpa using hl)
  subst this
  cases m <;> rfl
|p :: ps,[],_,_,hl,_,_=>by simp at hl
|p :: ps,l :: ls,0,hm,_,_,_=>by simp at hm
|p :: ps,l :: ls,m + 1,hm,hl,hp,hb=>by
  have hpp:=hp p (by simp)
  have ih:=rowsI_text ps ls m (by simpa using hm) (by simpa using hl) (fun q hq=>hp q (by simp [hq])) (List.all_eq_true.2 (fun x hx=>List.all_eq_true.1 hb x (by simp [hx])))
  have e : wordsT (p :: ps) (l :: ls) = wordT l p :: wordsT ps ls:=rfl
  have h2:=word_two l p hpp
  rw [e,List.map_cons,rowsI,if_neg (by rw [bsOf_size];omega),parts_word l p hpp,rowOf_text rdI rdI_itoa p (ptB_parts hpp).1]
  simp only []
  rw [ih,lab_word l p (List.all_eq_true.1 hb l (by simp))]
  rfl
theorem words_text (ps : List (List Int)) (ls : List Int) (hs : smB ps ls = true) (hne : ps ≠ []) : splL 32 (textT ps ls) = wordsT ps ls:=by
 obtain ⟨h16,hlen,hlab,hrow⟩:=smB_parts hs
 unfold textT
 rw [if_neg hne]
 have hw : ∀ w ∈ wordsT ps ls,(32 : UInt8) ∉ w:=fun w hw=>by
  unfold wordsT at hw
  obtain ⟨i,hi,rfl⟩:=List.getElem_of_mem hw
  rw [List.getElem_zipWith]
  exact word_free _ _ (hrow _ (List.getElem_mem _)).1
 have hl : (wordsT ps ls).length = ps.length:=by unfold wordsT;rw [List.length_zipWith];omega
 cases e : wordsT ps ls with
|nil =>
  rw [e] at hl
  exact absurd (List.length_eq_zero_iff.1 hl.symm) hne
|cons x r =>
  rw [e] at hw
  exact spl_join 32 r x hw
def msS : List (List Int) → Int → List (List Int)
|[],_=>[]
|r :: rs,a=>marks a r.length :: msS rs (a + r.length)
def totS : List (List Int) → Nat
|[]=>0
|r :: rs=>r.length + totS rs
theorem totS_le : ∀ (l : List (List Int)),(∀ r ∈ l,r.length ≤ 1000) → totS l ≤ 1000 * l.length
|[],_=>Nat.le_refl _
|r :: rs,h=>by
  have h1:=h r (by simp)
  have h2:=totS_le rs (fun q hq=>h q (by simp [hq]))
  simp only [totS,List.length_cons]
  omega
theorem rd_mid (pre post : List (List Int)) (r : List Int) : rd_L1 (pre ++ r :: post) (pre.length : Int) = r:=by simp [rd_L1]
theorem set_midS (pre post : List (List Int)) (r v : List Int) : (pre ++ r :: post).set ((pre.length : Int)).toNat v = pre ++ v :: post:=by simp
theorem markSS_l : ∀ (post pre : List (List Int)) (a : Int),0 ≤ a → (∀ r ∈ post,r.length ≤ 1000) → pre.length + post.length ≤ 100000 → a + 1000 * post.length ≤ 2000000000 → Ev (fun k=>laws_markIntSS.l0 k (pre ++ post) a (pre.length : Int)) (a + totS post,pre ++ msS post a)
|[],pre,a,_,_,_,_=>by
  refine Ev.step (f:=fun _=>some (a,pre ++ [])) (fun k=>?_) ?_
  ·rw [laws_markIntSS.l0,if_neg (by simp)]
  ·simp only [totS,msS,Int.natCast_zero,Int.add_zero]
   exact ev_const _
|r :: post,pre,a,ha,hr,hl,hb=>by
  have h1:=hr r (by simp)
  simp only [List.length_cons] at hl hb
  have ih:=markSS_l post (pre ++ [marks a r.length]) (a + r.length) (by omega) (fun q hq=>hr q (by simp [hq])) (by rw [List.length_append,List.length_singleton];omega) (by omega)
  rw [List.append_assoc,List.singleton_append,List.length_append,List.length_singleton] at ih
  have hm : Ev (fun k=>laws_markIntS.f k r a) (a + r.length,marks a r.length):=ev_of r.length (fun k hk=>laws_markIntS_is k r a (by omega) (by omega) (by omega) hk)
  refine Ev.step (f:=fun k=>(laws_markIntS.f k r a).bind fun bt=>laws_markIntSS.l0 k ((pre ++ r :: post).set ((pre.length : Int)).toNat bt.2) bt.1 ((pre.length + 1 : Nat) : Int)) (fun k=>?_) ?_
  ·rw [laws_markIntSS.l0,if_pos (by rw [List.length_append,List.length_cons];omega),if_pos (by omega),rd_mid,w64_nat (by omega)]
  ·refine Ev.bind hm ?_
   have e1 : totS (r :: post) = r.length + totS post:=rfl
   have e2 : a + ((totS (r :: post) : Nat) : Int) = a + (r.length : Int) + ((totS post : Nat) : Int):=by rw [e1];omega
   rw [e2,msS]
   rw [show (pre ++ r :: post).set ((pre.length : Int)).toNat (a + (r.length : Int),marks a r.length).2 = pre ++ marks a r.length :: post from set_midS pre post r _]
   rw [List.append_assoc,List.singleton_append] at ih
   exact ih
theorem heldSS_l : ∀ (post : List (List Int)) (pre : List (List Int)) (a : Int),0 ≤ a → (∀ r ∈ post,r.length ≤ 1000) → pre.length + post.length ≤ 100000 → a + 1000 * post.length ≤ 2000000000 → Ev (fun k=>laws_heldIntSS.l0 k (pre ++ msS post a) a (pre.length : Int)) (a + totS post)
|[],pre,a,_,_,_,_=>by
  refine Ev.step (f:=fun _=>some a) (fun k=>?_) ?_
  ·rw [laws_heldIntSS.l0,if_neg (by simp [msS])]
  ·simp only [totS,Int.natCast_zero,Int.add_zero]
   exact ev_const _
|r :: post,pre,a,ha,hr,hl,hb=>by
  have h1:=hr r (by simp)
  simp only [List.length_cons] at hl hb
  have ih:=heldSS_l post (pre ++ [marks a r.length]) (a + r.length) (by omega) (fun q hq=>hr q (by simp [hq])) (by rw [List.length_append,List.length_singleton];omega) (by omega)
  rw [List.append_assoc,List.singleton_append,List.length_append,List.length_singleton] at ih
  have hm : Ev (fun k=>laws_heldIntS.f k (marks a r.length) a) (a + r.length):=ev_of r.length (fun k hk=>laws_heldIntS_is k r.length a (by omega) (by omega) (by omega) hk)
  rw [msS]
  refine Ev.step (f:=fun k=>(laws_heldIntS.f k (marks a r.length) a).bind fun t=>if t < 0 then some (-1) else laws_heldIntSS.l0 k (pre ++ marks a r.length :: msS post (a + r.length)) t ((pre.length + 1 : Nat) : Int)) (fun k=>?_) ?_
  ·rw [laws_heldIntSS.l0,if_pos (by rw [List.length_append,List.length_cons];omega),if_pos (by omega),rd_mid,w64_nat (by omega)]
  ·refine Ev.bind hm (ev_if_neg (by omega) ?_)
   have e2 : a + ((totS (r :: post) : Nat) : Int) = a + (r.length : Int) + ((totS post : Nat) : Int):=by simp only [totS];omega
   rw [e2]
   exact ih
theorem markHeld_ev (ps : List (List Int)) (ls : List Int) (hr : ∀ r ∈ ps,r.length ≤ 1000) (hp : ps.length ≤ 100000) (hl : ls.length ≤ 100000) :
  ∃ (v : Int) (ms : List (List Int)) (mk : List Int),1 ≤ v ∧ Ev (fun k=>laws_markSample.f k ps ls 1) (v,ms,mk) ∧ Ev (fun k=>laws_heldSample.f k ms mk 1) v:=by
 have ht:=totS_le ps hr
 have m1:=markSS_l ps [] 1 (by omega) hr (by simpa using hp) (by omega)
 have h1:=heldSS_l ps [] 1 (by omega) hr (by simpa using hp) (by omega)
 simp only [List.nil_append,List.length_nil,Int.natCast_zero] at m1 h1
 have m2 : Ev (fun k=>laws_markIntS.f k ls (1 + (totS ps : Int))) (1 + (totS ps : Int) + ls.length,marks (1 + (totS ps : Int)) ls.length):=ev_of ls.length (fun k hk=>laws_markIntS_is k ls _ (by omega) (by omega) (by omega) hk)
 have h2 : Ev (fun k=>laws_heldIntS.f k (marks (1 + (totS ps : Int)) ls.length) (1 + (totS ps : Int))) (1 + (totS ps : Int) + ls.length):=ev_of ls.length (fun k hk=>laws_heldIntS_is k ls.length _ (by omega) (by omega) (by omega) hk)
 refine ⟨1 + (totS ps : Int) + ls.length,msS ps 1,marks (1 + (totS ps : Int)) ls.length,by omega,?_,?_⟩
 ·unfold laws_markSample.f laws_markIntSS.f
  exact Ev.bind m1 (Ev.bind m2 (ev_const _))
 ·unfold laws_heldSample.f laws_heldIntSS.f
  exact Ev.bind h1 (ev_if_neg (by omega) (Ev.bind h2 (ev_if_neg (by omega) (ev_const _))))
theorem eqSam_ev (ps : List (List Int)) (ls : List Int) (hr : ∀ r ∈ ps,r.length ≤ 1000) (hp : ps.length ≤ 100000) (hl : ls.length ≤ 100000) : Ev (fun k=>laws_eqSample.f k ps ls ps ls) true :=
 ev_of 2097152 (fun k hk=>laws_eqSample_same k ps ls (by omega) (fun r h=>Nat.le_trans (hr r h) (by omega)) (by omega) hk)
def wordsB (t : ByteArray) : List ByteArray:=(splL 32 t.data.toList).map bsOf
def noneB (t : ByteArray) : Prop:=t.toList = ([110,111,110,101] : List UInt8)
instance (t : ByteArray) : Decidable (noneB t):=by unfold noneB;infer_instance
def specR (t : ByteArray) : List (List Int) × List Int × Bool:=if noneB t then ([],[],true) else outR t [] [] (rowsOf ((wordsB t).take 17))
def implR (t : ByteArray) : List (List Int) × List Int × Bool:=if noneB t then ([],[],true) else outR t [] [] (rowsI 16 (wordsB t))
theorem wordsB_small (t : ByteArray) (h : t.size ≤ 1048576) : (wordsB t).length ≤ 2000000 ∧ ∀ b ∈ wordsB t,b.size ≤ 1048576:=by
 refine ⟨?_,spl_bytes 32 t _ h⟩
 unfold wordsB
 rw [List.length_map]
 have:=spl_length_le 32 t.data.toList
 have e : t.data.toList.length = t.size:=rfl
 omega
theorem specR_ev (t : ByteArray) (h : t.size ≤ 1048576) : Ev (fun k=>spec_ParseSample.f k t) (specR t):=by
 obtain ⟨h1,h2⟩:=wordsB_small t h
 have sp : Ev (fun k=>spec_l1Split.f k t 32) (wordsB t):=split_ev t 32 h
 have sl:=s_l t (wordsB t) h1 h2 17 0 [] [] rfl rfl rfl (fun r hr=>absurd hr (by simp))
 rw [List.drop_zero] at sl
 unfold spec_ParseSample.f specR
 refine Ev.bind (ev_const _) (Ev.bind (ev_const _) ?_)
 by_cases c : noneB t
 ·rw [if_pos c]
  exact ev_if_pos c (ev_const _)
 ·rw [if_neg c]
  refine ev_if_neg c (Ev.bind sp ?_)
  cases e : rowsOf ((wordsB t).take 17) with
 |none=>rw [e] at sl;exact sl
 |some rs=>rw [e] at sl;exact sl
theorem implR_ev (t : ByteArray) (h : t.size ≤ 1048576) : Ev (fun k=>impl_ParseSample.f k t) (implR t):=by
 obtain ⟨h1,h2⟩:=wordsB_small t h
 have sp : Ev (fun k=>strings_Split.f k t (⟨#[32]⟩ : ByteArray)) (wordsB t):=by
  rcases split_imp t 32 with q|q
  ·exact q
  ·exact absurd h q
 have sl:=i_l t (wordsB t) h1 h2 16 0 [] [] rfl rfl rfl (fun r hr=>absurd hr (by simp))
 rw [List.drop_zero] at sl
 unfold impl_ParseSample.f implR
 by_cases c : noneB t
 ·rw [if_pos c]
  exact ev_if_pos c (ev_const _)
 ·rw [if_neg c]
  exact ev_if_neg c (Ev.bind sp sl)
theorem read_back (t : ByteArray) (hn : ¬ noneB t) (ps : List (List Int)) (ls : List Int) (hs : smB ps ls = true) (ht : bsOf (textT ps ls) = t) : rowsOf ((wordsB t).take 17) = some (ps.zip ls) ∧ rowsI 16 (wordsB t) = some (ps.zip ls):=by
 obtain ⟨h16,hlen,hlab,hrow⟩:=smB_parts hs
 have hne : ps ≠ []:=fun e=>hn (by
  unfold noneB
  rw [← ht,toList_data,bsOf_list]
  unfold textT
  rw [if_pos e])
 have ew : wordsB t = (wordsT ps ls).map bsOf:=by
  unfold wordsB
  rw [← ht,bsOf_list,words_text ps ls hs hne]
 have hl : (wordsT ps ls).length = ps.length:=by unfold wordsT;rw [List.length_zipWith];omega
 rw [ew]
 refine ⟨?_,rowsI_text ps ls 16 h16 hlen (fun p hp=>(hrow p hp).1) hlab⟩
 rw [List.take_of_length_le (by rw [List.length_map];omega)]
 exact rows_text ps ls hlen (fun p hp=>(hrow p hp).1) hlab
theorem zip_back (ps : List (List Int)) (ls : List Int) (h : ls.length = ps.length) : (ps.zip ls).map (·.1) = ps ∧ (ps.zip ls).map (·.2) = ls :=
 ⟨List.map_fst_zip (by omega),List.map_snd_zip (by omega)⟩
theorem fin_cases (t : ByteArray) (ps : List (List Int)) (ls : List Int) : (smB ps ls = true ∧ bsOf (textT ps ls) = t ∧ finP t ps ls = (ps,ls,true)) ∨ finP t ps ls = noP:=by
 by_cases c : smB ps ls = true ∧ bsOf (textT ps ls) = t
 ·exact Or.inl ⟨c.1,c.2,if_pos c⟩
 ·exact Or.inr (if_neg c)
theorem outR_cases (t : ByteArray) (o : Option (List (List Int × Int))) : (∃ ps ls,smB ps ls = true ∧ bsOf (textT ps ls) = t ∧ outR t [] [] o = (ps,ls,true)) ∨ outR t [] [] o = noP:=by
 cases o with
|none=>exact Or.inr rfl
|some rs =>
  rcases fin_cases t ([] ++ rs.map (·.1)) ([] ++ rs.map (·.2)) with ⟨h1,h2,h3⟩|h
  ·exact Or.inl ⟨_,_,h1,h2,h3⟩
  ·exact Or.inr h
theorem outR_good (t : ByteArray) (ps : List (List Int)) (ls : List Int) (hs : smB ps ls = true) (ht : bsOf (textT ps ls) = t) : outR t [] [] (some (ps.zip ls)) = (ps,ls,true):=by
 obtain ⟨h16,hlen,hlab,hrow⟩:=smB_parts hs
 obtain ⟨z1,z2⟩:=zip_back ps ls hlen
 rw [outR,List.nil_append,List.nil_append,z1,z2]
 exact if_pos ⟨hs,ht⟩
theorem same_R (t : ByteArray) : specR t = implR t:=by
 unfold specR implR
 by_cases c : noneB t
 ·rw [if_pos c,if_pos c]
 rw [if_neg c,if_neg c]
 rcases outR_cases t (rowsOf ((wordsB t).take 17)) with ⟨ps,ls,hs,ht,e⟩|e
 ·obtain ⟨_,r2⟩:=read_back t c ps ls hs ht
  rw [e,r2,outR_good t ps ls hs ht]
 ·rcases outR_cases t (rowsI 16 (wordsB t)) with ⟨ps,ls,hs,ht,e2⟩|e2
  ·obtain ⟨r1,_⟩:=read_back t c ps ls hs ht
   rw [e2,r1,outR_good t ps ls hs ht]
  ·rw [e,e2]
theorem specR_small (t : ByteArray) : (∀ r ∈ (specR t).1,r.length ≤ 1000) ∧ (specR t).1.length ≤ 100000 ∧ (specR t).2.1.length ≤ 100000:=by
 unfold specR
 by_cases c : noneB t
 ·rw [if_pos c]
  simp
 ·rw [if_neg c]
  rcases outR_cases t (rowsOf ((wordsB t).take 17)) with ⟨ps,ls,hs,ht,e⟩|e
  ·obtain ⟨h16,hlen,hlab,hrow⟩:=smB_parts hs
   rw [e]
   refine ⟨fun r hr=>?_,by show ps.length ≤ 100000;omega,by show ls.length ≤ 100000;omega⟩
   have:=(ptB_parts (hrow r hr).1).2.2
   omega
  ·rw [e]
   simp [noP]
theorem FnExactParseSample : ∀ (a0 : ByteArray),a0.size ≤ maxLen → ∃ k,laws_FnExactParseSample.f k a0 = some true:=by
 intro t _
 refine Ev.rounds (g:=fun k=>laws_FnExactParseSample.f k t) ?_
 unfold laws_FnExactParseSample.f
 by_cases c : (t.size : Int) > 1048576
 ·exact ev_if_pos c (ev_const _)
 refine ev_if_neg c ?_
 have s:=specR_ev t (by omega)
 have g:=implR_ev t (by omega)
 obtain ⟨z1,z2,z3⟩:=specR_small t
 rw [← same_R] at g
 generalize specR t = R at s g z1 z2 z3
 obtain ⟨ps,ls,b⟩:=R
 have es:=eqSam_ev ps ls z1 z2 z3
 obtain ⟨v,ms,mk,hv,hm,hh⟩:=markHeld_ev ps ls z1 z2 z3
 refine Ev.bind s (Ev.bind g (Ev.bind es (ev_if_pos rfl ?_)))
 refine Ev.step (fun k=>by rw [laws_FnExactParseSample.j0,if_neg (by simp)]) (Ev.bind hm (Ev.bind hh (ev_if_neg (show ¬ v < 0 by omega) (ev_if_pos rfl (Ev.bind g (Ev.bind es (ev_if_pos rfl ?_)))))))
 exact Ev.step (fun k=>by rw [laws_FnExactParseSample.j1,if_neg (by simp)]) (Ev.bind hh (ev_if_neg (show ¬ v < 0 by omega) (ev_if_pos rfl (ev_const _))))
end Go.Proofs.YtkgjacacldcacaaDoor.Pure
end
