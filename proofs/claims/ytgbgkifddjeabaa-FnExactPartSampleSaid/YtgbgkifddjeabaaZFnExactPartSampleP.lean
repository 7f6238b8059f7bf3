/- Proved: the law FnExactPartSample answers true for every sample and list of whole numbers; no condition. -/
import Derived.Test.YtgbgkifddjeabaaVFnExactPartSample
import Derived.Test.YtgbgkifddjeabaaZFnExactPartSamplex8
section
set_option linter.unusedVariables false
set_option linter.unusedSimpArgs false
namespace Go.Proofs.Ytgbgkifddjeabaa.Base
open Go.RowKit Go.Proofs.YtgbgkifddjeabaaW.PrintWords Go.Proofs.YtgbgkifddjeabaaW.PrintLast Go.Proofs.YtgbgkifddjeabaaW.PrintMore
theorem w64 {x : Int} (h1 : -9223372036854775808 ≤ x) (h2 : x ≤ 9223372036854775807) : wrap64 x = x:=by
 unfold wrap64
 omega
theorem w64_nat {n : Nat} (h : n ≤ 4611686018427387904) : wrap64 ((n : Int) + 1) = ((n + 1 : Nat) : Int):=by
 rw [w64 (by omega) (by omega)]
 omega
theorem rd_nat (l : List Int) (i : Nat) (h : i < l.length) : rd l (i : Int) = l[i]:=by
 simp [rd,h]
def inB (lo hi x : Int) : Bool:=decide (lo ≤ x ∧ x ≤ hi)
theorem inB_iff {lo hi x : Int} : inB lo hi x = true ↔ lo ≤ x ∧ x ≤ hi:=by simp [inB]
theorem within_is (a lo hi : Int) : (if a ≥ lo then (some (decide (a ≤ hi))) else (some false)) = some (inB lo hi a):=by
 unfold inB
 by_cases h : a ≥ lo
 ·rw [if_pos h]
  congr 1
  by_cases h2 : a ≤ hi <;> simp [h2]
  omega
 ·rw [if_neg h]
  congr 1
  simp
  omega
def marks : Int → Nat → List Int
|_,0=>[]
|a,n + 1=>a :: marks (a + 1) n
theorem marks_length : ∀ (n : Nat) (a : Int),(marks a n).length = n
|0,_=>rfl
|n + 1,a=>by simp [marks,marks_length n]
theorem marks_get : ∀ (n : Nat) (a : Int) (i : Nat) (h : i < (marks a n).length),(marks a n)[i] = a + i
|0,_,i,h=>by simp [marks] at h
|n + 1,a,0,h=>by simp [marks]
|n + 1,a,i + 1,h=>by
  simp only [marks,List.getElem_cons_succ]
  rw [marks_get n (a + 1) i]
  omega
def ptB (x : List Int) : Bool:=inB 1 4 x.length && x.all (inB (-9) 9)
theorem set_mid (pre post : List Int) (x y : Int) (n : Nat) (h : n = pre.length) : (pre ++ x :: post).set n y = pre ++ y :: post:=by
 subst h
 simp
theorem rd_mid (pre post : List Int) (x : Int) (n : Nat) (h : n = pre.length) : rd (pre ++ x :: post) (n : Int) = x:=by
 subst h
 simp [rd]
def lbB (x : Int) : Bool:=decide (x = 1 ∨ x = -1)
def smB (ps : List (List Int)) (ls : List Int) : Bool:=decide (ps.length ≤ 16) && decide (ls.length = ps.length) && ls.all lbB && ps.all (fun x=>ptB x && decide (x.length = (ps.headD []).length))
theorem ptB_parts {x : List Int} (h : ptB x = true) : x.all (inB (-9) 9) = true ∧ 1 ≤ x.length ∧ x.length ≤ 4:=by
 unfold ptB at h
 have h2:=Bool.and_eq_true_iff.1 h
 have:=inB_iff.1 h2.1
 exact ⟨h2.2,by omega,by omega⟩
theorem smB_parts {ps : List (List Int)} {ls : List Int} (h : smB ps ls = true) : ps.length ≤ 16 ∧ ls.length = ps.length ∧ ls.all lbB = true ∧ ∀ x ∈ ps,ptB x = true ∧ x.length = (ps.headD []).length:=by
 unfold smB at h
 have h2:=Bool.and_eq_true_iff.1 h
 have h3:=Bool.and_eq_true_iff.1 h2.1
 have h4:=Bool.and_eq_true_iff.1 h3.1
 refine ⟨of_decide_eq_true h4.1,of_decide_eq_true h4.2,h3.2,fun x hx=>?_⟩
 have q:=Bool.and_eq_true_iff.1 (List.all_eq_true.1 h2.2 x hx)
 exact ⟨q.1,of_decide_eq_true q.2⟩
end Go.Proofs.Ytgbgkifddjeabaa.Base
end
section
set_option linter.unusedVariables false
set_option linter.unusedSimpArgs false
namespace Go.Proofs.Ytgbgkifddjeabaa.Pure
open Go.RowKit Go.Proofs.Ytgbgkifddjeabaa.QFnExactPartSample Go.Proofs.YtgbgkifddjeabaaW.PrintWords Go.Proofs.YtgbgkifddjeabaaW.PrintLast Go.Proofs.YtgbgkifddjeabaaW.PrintMore Go.Proofs.Ytgbgkifddjeabaa.Base
theorem laws_toIntS_l : ∀ (k i : Nat) (l acc : List Int),l.length ≤ 4611686018427387904 → acc.length = l.length → i ≤ l.length → l.length < i + k → (∀ j,j < i → acc[j]? = l[j]?) → laws_toIntS.l0 k l acc (i : Int) = some l
|0,i,l,acc,_,_,_,hk,_=>by omega
|k + 1,i,l,acc,hn,hl,hi,hk,hj=>by
  simp only [laws_toIntS.l0]
  by_cases h : i < l.length
  ·rw [if_pos (by omega),if_pos (by omega),if_pos (by omega),rd_nat l i h,w64_nat (by omega)]
   refine laws_toIntS_l k (i + 1) l _ hn (by simp [hl]) (by omega) (by omega) fun j hj'=>?_
   rw [List.getElem?_set]
   by_cases e : i = j
   ·subst e
    simp [h,hl]
   ·simp only [Int.toNat_natCast]
    rw [if_neg e]
    exact hj j (by omega)
  ·rw [if_neg (by omega)]
   congr 1
   refine List.ext_getElem? fun j=>?_
   by_cases e : j < i
   ·exact hj j e
   ·rw [List.getElem?_eq_none (by omega),List.getElem?_eq_none (by omega)]
theorem laws_toIntS_is (k : Nat) (l : List Int) (hn : l.length ≤ 35184372088832) (hk : l.length < k) : laws_toIntS.f k l = some l:=by
 unfold laws_toIntS.f
 rw [if_pos (by omega),if_pos (by omega)]
 exact laws_toIntS_l k 0 l _ (by omega) (by simp) (by omega) (by omega) fun j hj=>by omega
theorem laws_eqIntS_l : ∀ (k i : Nat) (l r : List Int),l.length ≤ 4611686018427387904 → r.length = l.length → i ≤ l.length → l.length < i + k → laws_eqIntS.l0 k l r (i : Int) = some (decide (l.drop i = r.drop i))
|0,i,l,r,_,_,_,hk=>by omega
|k + 1,i,l,r,hn,hl,hi,hk=>by
  simp only [laws_eqIntS.l0]
  by_cases h : i < l.length
  ·rw [if_pos (by omega),if_pos (by omega),if_pos (by omega),rd_nat l i h,rd_nat r i (by omega),w64_nat (by omega),laws_eqIntS_l k (i + 1) l r hn hl (by omega) (by omega),List.drop_eq_getElem_cons h,List.drop_eq_getElem_cons (show i < r.length by omega)]
   by_cases e : l[i] = r[i]'(by omega)
   ·rw [if_pos e,e]
    simp only [List.cons.injEq,true_and]
   ·rw [if_neg e]
    simp only [List.cons.injEq,e,false_and,decide_false]
  ·rw [if_neg (by omega),List.drop_of_length_le (by omega),List.drop_of_length_le (by omega)]
   simp
theorem laws_eqIntS_is (k : Nat) (l r : List Int) (hn : l.length ≤ 4611686018427387904) (hk : l.length < k) : laws_eqIntS.f k l r = some (decide (l = r)):=by
 unfold laws_eqIntS.f
 by_cases h : l.length = r.length
 ·rw [if_pos (by omega)]
  have:=laws_eqIntS_l k 0 l r hn (by omega) (by omega) (by omega)
  simpa using this
 ·rw [if_neg (by omega)]
  have : l ≠ r:=fun e=>h (by rw [e])
  simp [this]
theorem laws_eqIntS_same (k : Nat) (l : List Int) (hn : l.length ≤ 4611686018427387904) (hk : l.length < k) : laws_eqIntS.f k l l = some true:=by
 rw [laws_eqIntS_is k l l hn hk]
 simp
theorem laws_markIntS_l : ∀ (k : Nat) (post pre : List Int) (a : Int),-4611686018427387904 ≤ a → a + post.length ≤ 4611686018427387904 → pre.length + post.length ≤ 4611686018427387904 → post.length < k → laws_markIntS.l0 k (pre ++ post) a (pre.length : Int) = some (a + post.length,pre ++ marks a post.length)
|0,_,_,_,_,_,_,hk=>by omega
|k + 1,[],pre,a,_,_,_,_=>by
  simp only [laws_markIntS.l0]
  rw [if_neg (by simp)]
  simp [marks]
|k + 1,x :: post,pre,a,h1,h2,h3,hk=>by
  simp only [laws_markIntS.l0]
  simp only [List.length_cons] at h2 h3 hk
  rw [if_pos (by simp;omega),if_pos (by omega),w64_nat (by omega),w64 (by omega) (by omega)]
  rw [set_mid pre post x a _ (by simp)]
  have:=laws_markIntS_l k post (pre ++ [a]) (a + 1) (by omega) (by omega) (by simp;omega) (by omega)
  simp only [List.append_assoc,List.singleton_append,List.length_append,List.length_cons,List.length_nil,Nat.zero_add] at this
  rw [this]
  simp only [List.length_cons,marks]
  congr 2
  omega
theorem laws_markIntS_is (k : Nat) (l : List Int) (a : Int) (h1 : -4611686018427387904 ≤ a) (h2 : a + l.length ≤ 4611686018427387904) (h3 : l.length ≤ 4611686018427387904) (hk : l.length < k) : laws_markIntS.f k l a = some (a + l.length,marks a l.length):=by
 unfold laws_markIntS.f
 exact laws_markIntS_l k l [] a h1 h2 (by simpa using h3) hk
theorem laws_szIntS_is (l : List Int) (a : Int) (h0 : 0 ≤ a) (h1 : a ≤ 4611686018427387904) (hl : l.length ≤ 9223372036854775807) : laws_szIntS.f l a = some (if (l.length : Int) ≤ a then a - l.length else -1):=by
 unfold laws_szIntS.f
 rw [w64 (by omega) (by omega)]
 by_cases h : (l.length : Int) ≤ a
 ·rw [if_neg (by omega),if_pos h]
 ·rw [if_pos (by omega),if_neg h]
theorem laws_szIntSS_l : ∀ (k i : Nat) (x : List (List Int)) (a : Int),0 ≤ a → a ≤ 1048576 → x.length ≤ 1048576 → (∀ r ∈ x,r.length ≤ 9223372036854775807) → i ≤ x.length → x.length < i + k → ∃ v,laws_szIntSS.l0 k x a (i : Int) = some v ∧ (v < 0 ∨ (0 ≤ v ∧ v ≤ a ∧ ∀ r ∈ x.drop i,r.length ≤ 1048576))
|0,_,_,_,_,_,_,_,_,hk=>by omega
|k + 1,i,x,a,h0,h1,hn,hr,hi,hk=>by
  simp only [laws_szIntSS.l0]
  by_cases h : i < x.length
  ·have e : rd_L1 x (i : Int) = x[i]:=by simp [rd_L1,h]
   have hx:=hr x[i] (List.getElem_mem h)
   rw [if_pos (by omega),if_pos (by omega),e,laws_szIntS_is x[i] a h0 (by omega) hx]
   simp only [Option.bind_some]
   by_cases c : (x[i].length : Int) ≤ a
   ·rw [if_pos c,if_neg (by omega),w64_nat (by omega)]
    obtain ⟨v,hv,hc⟩:=laws_szIntSS_l k (i + 1) x (a - x[i].length) (by omega) (by omega) hn hr (by omega) (by omega)
    refine ⟨v,hv,?_⟩
    rcases hc with hc|⟨a1,a2,a3⟩
    ·exact .inl hc
    ·refine .inr ⟨a1,by omega,fun r hr'=>?_⟩
     rw [List.drop_eq_getElem_cons h] at hr'
     rcases List.mem_cons.1 hr' with rfl|hr'
     ·omega
     ·exact a3 r hr'
   ·rw [if_neg c,if_pos (by omega)]
    exact ⟨-1,rfl,.inl (by omega)⟩
  ·rw [if_neg (by omega)]
   refine ⟨a,rfl,.inr ⟨h0,Int.le_refl _,fun r hr'=>?_⟩⟩
   rw [List.drop_of_length_le (by omega)] at hr'
   simp at hr'
theorem laws_szIntSS_tells (k : Nat) (x : List (List Int)) (a : Int) (h0 : 0 ≤ a) (h1 : a ≤ 1048576) (hn : x.length ≤ 9223372036854775807) (hr : ∀ r ∈ x,r.length ≤ 9223372036854775807) (hk : 1048576 < k) : ∃ v,laws_szIntSS.f k x a = some v ∧ (v < 0 ∨ (0 ≤ v ∧ v ≤ a ∧ x.length ≤ 1048576 ∧ ∀ r ∈ x,r.length ≤ 1048576)):=by
 unfold laws_szIntSS.f
 rw [w64 (by omega) (by omega)]
 by_cases c : (x.length : Int) ≤ a
 ·rw [if_neg (by omega)]
  obtain ⟨v,hv,hc⟩:=laws_szIntSS_l k 0 x (a - x.length) (by omega) (by omega) (by omega) hr (by omega) (by omega)
  refine ⟨v,hv,?_⟩
  rcases hc with hc|⟨a1,a2,a3⟩
  ·exact .inl hc
  ·exact .inr ⟨a1,by omega,by omega,by simpa using a3⟩
 ·rw [if_pos (by omega)]
  exact ⟨-1,rfl,.inl (by omega)⟩
theorem laws_szSample_tells (k : Nat) (x : List (List Int)) (m : List Int) (a : Int) (h0 : 0 ≤ a) (h1 : a ≤ 1048576) (hn : x.length ≤ 9223372036854775807) (hr : ∀ r ∈ x,r.length ≤ 9223372036854775807) (hm : m.length ≤ 9223372036854775807) (hk : 1048576 < k) : ∃ v,laws_szSample.f k x m a = some v ∧ (v < 0 ∨ (0 ≤ v ∧ v ≤ a ∧ x.length ≤ 1048576 ∧ (∀ r ∈ x,r.length ≤ 1048576) ∧ m.length ≤ 1048576)):=by
 unfold laws_szSample.f
 obtain ⟨v,hv,hc⟩:=laws_szIntSS_tells k x a h0 h1 hn hr hk
 rw [hv]
 simp only [Option.bind_some]
 rcases hc with hc|⟨a1,a2,a3,a4⟩
 ·rw [if_pos hc]
  exact ⟨-1,rfl,.inl (by omega)⟩
 ·rw [if_neg (by omega),laws_szIntS_is m v a1 (by omega) hm]
  simp only [Option.bind_some]
  by_cases c : (m.length : Int) ≤ v
  ·rw [if_pos c,if_neg (by omega)]
   exact ⟨_,rfl,.inr ⟨by omega,by omega,a3,a4,by omega⟩⟩
  ·rw [if_neg c,if_pos (by omega)]
   exact ⟨-1,rfl,.inl (by omega)⟩
theorem laws_toIntSS_l : ∀ (k i : Nat) (l acc : List (List Int)),l.length ≤ 1048576 → (∀ r ∈ l,r.length ≤ 1048576) → acc.length = l.length → i ≤ l.length → l.length + 1048576 < i + k → (∀ j,j < i → acc[j]? = l[j]?) → laws_toIntSS.l0 k l acc (i : Int) = some l
|0,i,l,acc,_,_,_,_,hk,_=>by omega
|k + 1,i,l,acc,hn,hr,hl,hi,hk,hj=>by
  simp only [laws_toIntSS.l0]
  by_cases h : i < l.length
  ·have e : rd_L1 l (i : Int) = l[i]:=by simp [rd_L1,h]
   have hx:=hr l[i] (List.getElem_mem h)
   rw [if_pos (by omega),if_pos (by omega),e,laws_toIntS_is k l[i] (by omega) (by omega)]
   simp only [Option.bind_some]
   rw [if_pos (by omega),w64_nat (by omega)]
   refine laws_toIntSS_l k (i + 1) l _ hn hr (by simp [hl]) (by omega) (by omega) fun j hj'=>?_
   rw [List.getElem?_set]
   by_cases e : i = j
   ·subst e
    simp [h,hl]
   ·simp only [Int.toNat_natCast]
    rw [if_neg e]
    exact hj j (by omega)
  ·rw [if_neg (by omega)]
   congr 1
   refine List.ext_getElem? fun j=>?_
   by_cases e : j < i
   ·exact hj j e
   ·rw [List.getElem?_eq_none (by omega),List.getElem?_eq_none (by omega)]
theorem laws_toIntSS_is (k : Nat) (l : List (List Int)) (hn : l.length ≤ 1048576) (hr : ∀ r ∈ l,r.length ≤ 1048576) (hk : 2097152 < k) : laws_toIntSS.f k l = some l:=by
 unfold laws_toIntSS.f
 rw [if_pos (by omega),if_pos (by omega)]
 exact laws_toIntSS_l k 0 l _ hn hr (by simp) (by omega) (by omega) fun j hj=>by omega
theorem laws_toSample_is (k : Nat) (l : List (List Int)) (m : List Int) (hn : l.length ≤ 1048576) (hr : ∀ r ∈ l,r.length ≤ 1048576) (hm : m.length ≤ 1048576) (hk : 2097152 < k) : laws_toSample.f k l m = some (l,m):=by
 unfold laws_toSample.f
 rw [laws_toIntSS_is k l hn hr hk,Option.bind_some,laws_toIntS_is k m (by omega) (by omega)]
 rfl
theorem laws_eqIntSS_l : ∀ (k i : Nat) (l : List (List Int)),l.length ≤ 1048576 → (∀ r ∈ l,r.length ≤ 1048576) → i ≤ l.length → l.length + 1048576 < i + k → laws_eqIntSS.l0 k l l (i : Int) = some true
|0,i,l,_,_,_,hk=>by omega
|k + 1,i,l,hn,hr,hi,hk=>by
  simp only [laws_eqIntSS.l0]
  by_cases h : i < l.length
  ·have e : rd_L1 l (i : Int) = l[i]:=by simp [rd_L1,h]
   have hx:=hr l[i] (List.getElem_mem h)
   rw [if_pos (by omega),if_pos (by omega),if_pos (by omega),e,laws_eqIntS_same k l[i] (by omega) (by omega)]
   simp only [Option.bind_some,if_true]
   rw [w64_nat (by omega)]
   exact laws_eqIntSS_l k (i + 1) l hn hr (by omega) (by omega)
  ·rw [if_neg (by omega)]
theorem laws_eqIntSS_same (k : Nat) (l : List (List Int)) (hn : l.length ≤ 1048576) (hr : ∀ r ∈ l,r.length ≤ 1048576) (hk : 2097152 < k) : laws_eqIntSS.f k l l = some true:=by
 unfold laws_eqIntSS.f
 rw [if_pos rfl]
 exact laws_eqIntSS_l k 0 l hn hr (by omega) (by omega)
theorem laws_eqSample_same (k : Nat) (l : List (List Int)) (m : List Int) (hn : l.length ≤ 1048576) (hr : ∀ r ∈ l,r.length ≤ 1048576) (hm : m.length ≤ 1048576) (hk : 2097152 < k) : laws_eqSample.f k l m l m = some true:=by
 unfold laws_eqSample.f
 rw [laws_eqIntSS_same k l hn hr hk,laws_eqIntS_same k m (by omega) (by omega)]
 rfl
theorem laws_markIntSS_l : ∀ (m k i : Nat) (l : List (List Int)) (a : Int),i + m = l.length → l.length ≤ 1048576 → (∀ r ∈ l,r.length ≤ 1048576) → 0 ≤ a → a + m * 1048576 ≤ 4611686018427387904 → 1048576 + m < k → ∃ v l',laws_markIntSS.l0 k l a (i : Int) = some (v,l') ∧ a ≤ v ∧ v ≤ a + m * 1048576
|0,k,i,l,a,hi,hn,hr,ha,hb,hk=>by
  obtain ⟨k,rfl⟩ : ∃ q,k = q + 1:=⟨k - 1,by omega⟩
  rw [laws_markIntSS.l0,if_neg (by omega)]
  exact ⟨a,l,rfl,by omega,by omega⟩
|m + 1,k,i,l,a,hi,hn,hr,ha,hb,hk=>by
  obtain ⟨k,rfl⟩ : ∃ q,k = q + 1:=⟨k - 1,by omega⟩
  have h : i < l.length:=by omega
  have e : rd_L1 l (i : Int) = l[i]:=by simp [rd_L1,h]
  have hx:=hr l[i] (List.getElem_mem h)
  rw [laws_markIntSS.l0,if_pos (by omega),if_pos (by omega),e,laws_markIntS_is k l[i] a (by omega) (by omega) (by omega) (by omega)]
  simp only [Option.bind_some]
  rw [w64_nat (by omega)]
  obtain ⟨v,l',hv,h1,h2⟩:=laws_markIntSS_l m k (i + 1) (l.set (i : Int).toNat (marks a l[i].length)) (a + l[i].length) (by simp;omega) (by simpa using hn) (fun r hr'=>by
   rcases List.mem_or_eq_of_mem_set hr' with h|rfl
   ·exact hr r h
   ·rw [marks_length];omega) (by omega) (by omega) (by omega)
  exact ⟨v,l',hv,by omega,by omega⟩
theorem laws_markIntSS_tells (k : Nat) (l : List (List Int)) (hn : l.length ≤ 1048576) (hr : ∀ r ∈ l,r.length ≤ 1048576) (hk : 2097152 < k) : ∃ v l',laws_markIntSS.f k l 1 = some (v,l') ∧ 1 ≤ v ∧ v ≤ 1099511627777:=by
 unfold laws_markIntSS.f
 obtain ⟨v,l',hv,h1,h2⟩:=laws_markIntSS_l l.length k 0 l 1 (by omega) hn hr (by omega) (by omega) (by omega)
 exact ⟨v,l',hv,by omega,by omega⟩
theorem laws_markSample_tells (k : Nat) (l : List (List Int)) (m : List Int) (hn : l.length ≤ 1048576) (hr : ∀ r ∈ l,r.length ≤ 1048576) (hm : m.length ≤ 1048576) (hk : 2097152 < k) : ∃ v l' m',laws_markSample.f k l m 1 = some (v,l',m') ∧ 1 ≤ v ∧ v ≤ 1099512676353:=by
 unfold laws_markSample.f
 obtain ⟨v,l',hv,h1,h2⟩:=laws_markIntSS_tells k l hn hr hk
 rw [hv,Option.bind_some,laws_markIntS_is k m v (by omega) (by omega) (by omega) (by omega)]
 exact ⟨_,_,_,rfl,by omega,by omega⟩
theorem spec_l1In_is (a lo hi : Int) : spec_l1In.f a lo hi = some (inB lo hi a):=by
 unfold spec_l1In.f
 exact within_is a lo hi
def upB : List Int → Bool
|x :: y :: r=>decide (x < y) && upB (y :: r)
|_=>true
theorem w64_pred {i : Nat} (h : 1 ≤ i) (h2 : i ≤ 4611686018427387904) : wrap64 ((i : Int) - 1) = ((i - 1 : Nat) : Int):=by
 rw [w64 (by omega) (by omega)]
 omega
theorem upB_drop (l : List Int) (j : Nat) (h : j + 1 < l.length) : upB (l.drop j) = (decide (l[j] < l[j + 1]) && upB (l.drop (j + 1))):=by
 rw [List.drop_eq_getElem_cons (show j < l.length by omega),List.drop_eq_getElem_cons h,upB]
theorem upB_step (l : List Int) (i : Nat) (h1 : 1 ≤ i) (h : i < l.length) : upB (l.drop (i - 1)) = (decide (l[i - 1] < l[i]) && upB (l.drop i)):=by
 obtain ⟨j,rfl⟩ : ∃ j,i = j + 1:=⟨i - 1,by omega⟩
 exact upB_drop l j h
theorem upB_end (l : List Int) (j : Nat) (h : l.length ≤ j + 1) : upB (l.drop j) = true:=by
 by_cases c : j < l.length
 ·rw [List.drop_eq_getElem_cons c,List.drop_of_length_le (by omega)]
  rfl
 ·rw [List.drop_of_length_le (by omega)]
  rfl
theorem spec_l1Rising_l (lo hi : Int) (l : List Int) (hn : l.length ≤ 1048576) : ∀ (k i : Nat),i ≤ l.length → l.length < i + k → spec_l1Rising.l0 k l lo hi (i : Int) = some ((l.drop i).all (inB lo hi) && upB (l.drop (i - 1)))
|0,i,_,hk=>by omega
|k + 1,i,hi',hk=>by
  simp only [spec_l1Rising.l0]
  by_cases h : i < l.length
  ·rw [if_pos (by omega),if_pos (by omega),spec_l1In_is,rd_nat l i h,w64_nat (by omega),spec_l1Rising_l lo hi l hn k (i + 1) (by omega) (by omega),List.drop_eq_getElem_cons h,List.all_cons,show i + 1 - 1 = i by omega]
   simp only [Option.bind_some]
   by_cases c : inB lo hi l[i] = true
   ·rw [if_pos c,c,Bool.true_and]
    by_cases z : i = 0
    ·subst z
     rw [if_neg (by omega)]
    ·rw [if_pos (by omega),w64_pred (by omega) (by omega),if_pos (by omega),if_pos (by omega),rd_nat l (i - 1) (by omega),upB_step l i (by omega) h]
     by_cases d : l[i - 1] ≥ l[i]
     ·rw [if_pos d,decide_eq_false (by omega)]
      simp
     ·rw [if_neg d,decide_eq_true (show l[i - 1] < l[i] by omega),Bool.true_and]
   ·rw [if_neg c]
    simp [c]
  ·rw [if_neg (by omega),List.drop_of_length_le (by omega),upB_end l (i - 1) (by omega)]
   rfl
theorem spec_l1Rising_is (k : Nat) (l : List Int) (lo hi : Int) (hn : l.length ≤ 1048576) (hk : 1048577 < k) : spec_l1Rising.f k l lo hi = some (l.all (inB lo hi) && upB l):=by
 unfold spec_l1Rising.f
 have:=spec_l1Rising_l lo hi l hn k 0 (by omega) (by omega)
 simpa using this
theorem spec_l2Labels_l : ∀ (k i : Nat) (l : List Int),l.length ≤ 4611686018427387904 → i ≤ l.length → l.length < i + k → spec_l2Labels.l0 k l (i : Int) = some ((l.drop i).all lbB)
|0,_,_,_,_,hk=>by omega
|k + 1,i,l,hn,hi',hk=>by
  simp only [spec_l2Labels.l0]
  by_cases h : i < l.length
  ·rw [if_pos (by omega),if_pos (by omega),rd_nat l i h,w64_nat (by omega),List.drop_eq_getElem_cons h,List.all_cons,spec_l2Labels_l k (i + 1) l hn (by omega) (by omega)]
   by_cases e1 : l[i] = 1
   ·rw [if_pos e1]
    simp [lbB,e1]
   ·by_cases e2 : l[i] = -1
    ·rw [if_neg e1,if_pos e2]
     simp [lbB,e2]
    ·rw [if_neg e1,if_neg e2]
     simp [lbB,e1,e2]
  ·rw [if_neg (by omega),List.drop_of_length_le (by omega)]
   simp
theorem spec_l2Labels_is (k : Nat) (l : List Int) (hn : l.length ≤ 4611686018427387904) (hk : l.length < k) : spec_l2Labels.f k l = some (l.all lbB):=by
 unfold spec_l2Labels.f
 have:=spec_l2Labels_l k 0 l hn (by omega) (by omega)
 simpa using this
theorem spec_l2Numbers_l : ∀ (k i : Nat) (l : List Int) (m : Int),-4611686018427387904 ≤ m → m ≤ 4611686018427387904 → l.length ≤ 4611686018427387904 → i ≤ l.length → l.length < i + k → spec_l2Numbers.l0 k l m (i : Int) = some ((l.drop i).all (inB (-m) m))
|0,_,_,_,_,_,_,_,hk=>by omega
|k + 1,i,l,m,h1,h2,hn,hi,hk=>by
  simp only [spec_l2Numbers.l0]
  by_cases h : i < l.length
  ·rw [if_pos (by omega),if_pos (by omega),spec_l1In_is,rd_nat l i h,w64_nat (by omega),w64 (by omega) (by omega),List.drop_eq_getElem_cons h,List.all_cons,spec_l2Numbers_l k (i + 1) l m h1 h2 hn (by omega) (by omega)]
   simp only [Option.bind_some]
   by_cases e : inB (-m) m l[i] = true
   ·rw [if_pos e,e]
    simp
   ·rw [if_neg e]
    simp [e]
  ·rw [if_neg (by omega),List.drop_of_length_le (by omega)]
   simp
theorem spec_l2Numbers_is (k : Nat) (l : List Int) (m : Int) (h1 : -4611686018427387904 ≤ m) (h2 : m ≤ 4611686018427387904) (hn : l.length ≤ 4611686018427387904) (hk : l.length < k) : spec_l2Numbers.f k l m = some (l.all (inB (-m) m)):=by
 unfold spec_l2Numbers.f
 have:=spec_l2Numbers_l k 0 l m h1 h2 hn (by omega) (by omega)
 simpa using this
theorem spec_l2Point_is (k : Nat) (l : List Int) (hn : l.length ≤ 4611686018427387904) (hk : l.length < k) : spec_l2Point.f k l = some (ptB l):=by
 unfold spec_l2Point.f ptB
 rw [spec_l1In_is,spec_l2Numbers_is k l 9 (by omega) (by omega) hn hk]
 simp only [Option.bind_some]
 cases inB 1 4 (l.length : Int) <;> simp
theorem spec_l2Sample_l (k0 : Nat) (hk0 : 1048576 < k0) : ∀ (k i : Nat) (l : List (List Int)) (m : List Int),l.length ≤ 16 → (∀ r ∈ l,r.length ≤ 1048576) → i ≤ l.length → l.length < i + k → spec_l2Sample.l0 (k + k0) (i : Int) l m = some ((l.drop i).all fun x=>ptB x && decide (x.length = (l.headD []).length))
|0,i,l,m,_,_,_,hk=>by omega
|k + 1,i,l,m,hn,hr,hi,hk=>by
  rw [show k + 1 + k0 = (k + k0) + 1 by omega]
  simp only [spec_l2Sample.l0]
  by_cases h : i < l.length
  ·have e : rd_L1 l (i : Int) = l[i]:=by simp [rd_L1,h]
   have e0 : rd_L1 l 0 = l.headD []:=by cases l <;> simp [rd_L1]
   have hx:=hr l[i] (List.getElem_mem h)
   rw [if_pos (by omega),if_pos (by omega),e,spec_l2Point_is (k + k0) l[i] (by omega) (by omega),e0]
   simp only [Option.bind_some]
   rw [List.drop_eq_getElem_cons h,List.all_cons]
   by_cases c1 : ptB l[i] = true
   ·rw [if_pos c1,if_pos (by omega),c1,Bool.true_and]
    by_cases c2 : l[i].length = (l.headD []).length
    ·rw [if_pos (by omega),w64_nat (by omega),spec_l2Sample_l k0 hk0 k (i + 1) l m hn hr (by omega) (by omega)]
     simp [c2]
    ·rw [if_neg (by omega)]
     simp only [c2,decide_false,Bool.false_and,Bool.and_false]
   ·rw [if_neg c1]
    simp [c1]
  ·rw [if_neg (by omega),List.drop_of_length_le (by omega)]
   simp
theorem spec_l2Sample_is (k : Nat) (l : List (List Int)) (m : List Int) (hr : ∀ r ∈ l,r.length ≤ 1048576) (hm : m.length ≤ 1048576) (hk : 1048600 < k) : spec_l2Sample.f k l m = some (smB l m):=by
 obtain ⟨k,rfl⟩ : ∃ q,k = q + 1:=⟨k - 1,by omega⟩
 unfold spec_l2Sample.f smB
 by_cases c1 : l.length ≤ 16
 ·rw [if_neg (by omega)]
  by_cases c2 : m.length = l.length
  ·rw [if_pos (by omega),spec_l2Labels_is _ m (by omega) (by omega)]
   simp only [Option.bind_some,spec_l2Sample.j0]
   have:=spec_l2Sample_l (k - 17) (by omega) 17 0 l m c1 hr (by omega) (by omega)
   rw [show 17 + (k - 17) = k by omega] at this
   rw [show ((0 : Nat) : Int) = 0 from rfl] at this
   rw [this]
   cases e : m.all lbB
   ·simp
   ·simp [c1,c2]
  ·rw [if_neg (by omega)]
   simp [spec_l2Sample.j0,c2]
 ·rw [if_pos (by omega)]
  simp [spec_l2Sample.j0,c1]
theorem spec_l1Own_is (l : List Int) (h : l.length < 17592186044416) : spec_l1Own.f l = some l:=by
 unfold spec_l1Own.f
 simp only [Option.bind_some]
 rw [if_pos (by simpa using h)]
 simp
theorem impl_rising_l (l : List Int) (hn : l.length ≤ 1048576) : ∀ (k i : Nat),1 ≤ i → i ≤ l.length + 1 → l.length + 1 < i + k → impl_rising.l0 k l (i : Int) = some (upB (l.drop (i - 1)))
|0,i,_,_,hk=>by omega
|k + 1,i,h1,hi',hk=>by
  simp only [impl_rising.l0]
  by_cases h : i < l.length
  ·rw [if_pos (by omega),w64_pred (by omega) (by omega),if_pos (by omega),if_pos (by omega),if_pos (by omega),rd_nat l (i - 1) (by omega),rd_nat l i h,w64_nat (by omega),impl_rising_l l hn k (i + 1) (by omega) (by omega) (by omega),upB_step l i (by omega) h,show i + 1 - 1 = i by omega]
   by_cases d : l[i - 1] ≥ l[i]
   ·rw [if_pos d,decide_eq_false (by omega)]
    simp
   ·rw [if_neg d,decide_eq_true (show l[i - 1] < l[i] by omega),Bool.true_and]
  ·rw [if_neg (by omega),upB_end l (i - 1) (by omega)]
theorem impl_rising_is (k : Nat) (l : List Int) (hn : l.length ≤ 1048576) (hk : 1048577 < k) : impl_rising.f k l = some (upB l):=by
 unfold impl_rising.f
 have:=impl_rising_l l hn k 1 (by omega) (by omega) (by omega)
 simpa using this
theorem impl_within_is (a lo hi : Int) : impl_within.f a lo hi = some (inB lo hi a):=by
 unfold impl_within.f
 exact within_is a lo hi
theorem impl_allWithin_l : ∀ (k i : Nat) (l : List Int) (lo hi : Int),l.length ≤ 4611686018427387904 → i ≤ l.length → l.length < i + k → impl_allWithin.l0 k lo hi l (l.length : Int) (i : Int) = some ((l.drop i).all (inB lo hi))
|0,_,_,_,_,_,_,hk=>by omega
|k + 1,i,l,lo,hi,hn,hi',hk=>by
  simp only [impl_allWithin.l0]
  by_cases h : i < l.length
  ·rw [if_pos (by omega),if_pos (by omega),if_pos (by omega),impl_within_is,rd_nat l i h,w64_nat (by omega),List.drop_eq_getElem_cons h,List.all_cons,impl_allWithin_l k (i + 1) l lo hi hn (by omega) (by omega)]
   simp only [Option.bind_some]
   by_cases e : inB lo hi l[i] = true
   ·rw [if_pos e,e]
    simp
   ·rw [if_neg e]
    simp [e]
  ·rw [if_neg (by omega),List.drop_of_length_le (by omega)]
   simp
theorem impl_allWithin_is (k : Nat) (l : List Int) (lo hi : Int) (hn : l.length ≤ 4611686018427387904) (hk : l.length < k) : impl_allWithin.f k l lo hi = some (l.all (inB lo hi)):=by
 unfold impl_allWithin.f
 have:=impl_allWithin_l k 0 l lo hi hn (by omega) (by omega)
 simpa using this
theorem impl_isLabel_is (a : Int) : impl_isLabel.f a = some (lbB a):=by
 unfold impl_isLabel.f lbB
 by_cases e1 : a = 1
 ·rw [if_pos e1]
  simp [e1]
 ·rw [if_neg e1]
  congr 1
  by_cases e2 : a = -1
  ·simp [e2]
  ·simp [e1,e2]
theorem impl_IsPoint_is (k : Nat) (l : List Int) (hn : l.length ≤ 4611686018427387904) (hk : l.length < k) : impl_IsPoint.f k l = some (ptB l):=by
 unfold impl_IsPoint.f ptB
 rw [impl_within_is,impl_allWithin_is k l (-9) 9 hn hk]
 simp only [Option.bind_some]
 cases inB 1 4 (l.length : Int) <;> simp
theorem impl_IsSample_l (k0 : Nat) (hk0 : 1048576 < k0) : ∀ (k i : Nat) (l : List (List Int)) (m : List Int),l.length ≤ 16 → m.length = l.length → (∀ r ∈ l,r.length ≤ 1048576) → i ≤ l.length → l.length < i + k → impl_IsSample.l0 (k + k0) l (l.length : Int) (i : Int) l m = some ((m.drop i).all lbB && (l.drop i).all fun x=>ptB x && decide (x.length = (l.headD []).length))
|0,i,l,m,_,_,_,_,hk=>by omega
|k + 1,i,l,m,hn,hm,hr,hi,hk=>by
  rw [show k + 1 + k0 = (k + k0) + 1 by omega]
  simp only [impl_IsSample.l0]
  by_cases h : i < l.length
  ·have h' : i < m.length:=by omega
   have e : rd_L1 l (i : Int) = l[i]:=by simp [rd_L1,h]
   have e0 : rd_L1 l 0 = l.headD []:=by cases l <;> simp [rd_L1]
   have hx:=hr l[i] (List.getElem_mem h)
   rw [if_pos (by omega),if_pos (by omega),if_pos (by omega),e,impl_IsPoint_is (k + k0) l[i] (by omega) (by omega),e0]
   simp only [Option.bind_some]
   rw [List.drop_eq_getElem_cons h,List.all_cons,List.drop_eq_getElem_cons h',List.all_cons]
   by_cases c1 : ptB l[i] = true
   ·rw [if_pos c1,if_pos (by omega),c1,Bool.true_and]
    by_cases c2 : l[i].length = (l.headD []).length
    ·rw [if_pos (by omega),if_pos (by omega),impl_isLabel_is,rd_nat m i h',w64_nat (by omega),impl_IsSample_l k0 hk0 k (i + 1) l m hn hm hr (by omega) (by omega)]
     simp only [Option.bind_some]
     by_cases c3 : lbB m[i] = true
     ·rw [if_pos c3,c3]
      simp [c2]
     ·rw [if_neg c3]
      simp [c3]
    ·rw [if_neg (by omega)]
     simp only [c2,decide_false,Bool.false_and,Bool.and_false]
   ·rw [if_neg c1]
    simp [c1]
  ·rw [if_neg (by omega),List.drop_of_length_le (by omega),List.drop_of_length_le (by omega)]
   simp
theorem impl_IsSample_is (k : Nat) (l : List (List Int)) (m : List Int) (hr : ∀ r ∈ l,r.length ≤ 1048576) (hm : m.length ≤ 1048576) (hk : 1048600 < k) : impl_IsSample.f k l m = some (smB l m):=by
 obtain ⟨k,rfl⟩ : ∃ q,k = q + 1:=⟨k - 1,by omega⟩
 unfold impl_IsSample.f smB
 by_cases c1 : l.length ≤ 16
 ·rw [if_neg (by omega)]
  simp only [impl_IsSample.j0]
  by_cases c2 : m.length = l.length
  ·rw [if_neg (by simp [c2])]
   have:=impl_IsSample_l (k - 17) (by omega) 17 0 l m c1 c2 hr (by omega) (by omega)
   rw [show 17 + (k - 17) = k by omega] at this
   rw [show ((0 : Nat) : Int) = 0 from rfl] at this
   rw [this]
   simp [c1,c2]
  ·rw [if_pos (by simp;omega)]
   simp [c2]
 ·rw [if_pos (by omega)]
  simp [impl_IsSample.j0,c1]
theorem impl_copied_is (l : List Int) (h : l.length < 17592186044416) : impl_copied.f l = some l:=by
 unfold impl_copied.f
 simp only [Option.bind_some]
 rw [if_pos (by simpa using h)]
 simp
theorem laws_heldIntS_l : ∀ (k n i : Nat) (a b : Int),-4611686018427387904 ≤ a → a + n ≤ 4611686018427387904 → n ≤ 4611686018427387904 → i ≤ n → n < i + k → b = a + i → laws_heldIntS.l0 k (marks a n) b (i : Int) = some (a + n)
|0,_,_,_,_,_,_,_,_,hk,_=>by omega
|k + 1,n,i,a,b,h1,h2,h3,hi,hk,hb=>by
  simp only [laws_heldIntS.l0,marks_length]
  by_cases h : i < n
  ·rw [if_pos (by omega),if_pos (by omega),rd_nat _ i (by rw [marks_length];exact h),marks_get,if_pos hb.symm,w64_nat (by omega),w64 (by omega) (by omega)]
   exact laws_heldIntS_l k n (i + 1) a _ h1 h2 h3 (by omega) (by omega) (by omega)
  ·rw [if_neg (by omega)]
   congr 1
   omega
theorem laws_heldIntS_is (k n : Nat) (a : Int) (h1 : -4611686018427387904 ≤ a) (h2 : a + n ≤ 4611686018427387904) (h3 : n ≤ 4611686018427387904) (hk : n < k) : laws_heldIntS.f k (marks a n) a = some (a + n):=by
 unfold laws_heldIntS.f
 exact laws_heldIntS_l k n 0 a a h1 h2 h3 (by omega) (by omega) (by omega)
theorem ev_of {α : Type} {g : Nat → Option α} {r : α} (B : Nat) (h : ∀ k,B < k → g k = some r) : Ev g r:=⟨B + 1,fun k hk=>h k (by omega)⟩
theorem ev_const {α : Type} (r : α) : Ev (fun _=>some r) r:=Ev.now r
theorem ev_if_pos {α : Type} {c : Prop} [Decidable c] {f g : Nat → Option α} {r : α} (h : c) (k : Ev f r) : Ev (fun n=>if c then f n else g n) r:=Ev.congr (fun n=>if_pos h) k
theorem ev_if_neg {α : Type} {c : Prop} [Decidable c] {f g : Nat → Option α} {r : α} (h : ¬ c) (k : Ev g r) : Ev (fun n=>if c then f n else g n) r:=Ev.congr (fun n=>if_neg h) k
def msS : List (List Int) → Int → List (List Int)
|[],_=>[]
|r :: rs,a=>marks a r.length :: msS rs (a + r.length)
def totS : List (List Int) → Nat
|[]=>0
|r :: rs=>r.length + totS rs
theorem totS_le : ∀ (l : List (List Int)),(∀ r ∈ l,r.length ≤ 1000) → totS l ≤ 1000 * l.length
|[],_=>Nat.le_refl _
|r :: rs,h=>by
  have h1:=h r (by simp)
  have h2:=totS_le rs (fun q hq=>h q (by simp [hq]))
  simp only [totS,List.length_cons]
  omega
theorem rd_mid (pre post : List (List Int)) (r : List Int) : rd_L1 (pre ++ r :: post) (pre.length : Int) = r:=by simp [rd_L1]
theorem set_midS (pre post : List (List Int)) (r v : List Int) : (pre ++ r :: post).set ((pre.length : Int)).toNat v = pre ++ v :: post:=by simp
theorem markSS_l : ∀ (post pre : List (List Int)) (a : Int),0 ≤ a → (∀ r ∈ post,r.length ≤ 1000) → pre.length + post.length ≤ 1048576 → a + 1000 * post.length ≤ 2000000000 → Ev (fun k=>laws_markIntSS.l0 k (pre ++ post) a (pre.length : Int)) (a + totS post,pre ++ msS post a)
|[],pre,a,_,_,_,_=>by
  refine Ev.step (f:=fun _=>some (a,pre ++ [])) (fun k=>?_) ?_
  ·rw [laws_markIntSS.l0,if_neg (by simp)]
  ·simp only [totS,msS,Int.natCast_zero,Int.add_zero]
   exact ev_const _
|r :: post,pre,a,ha,hr,hl,hb=>by
  have h1:=hr r (by simp)
  simp only [List.length_cons] at hl hb
  have ih:=markSS_l post (pre ++ [marks a r.length]) (a + r.length) (by omega) (fun q hq=>hr q (by simp [hq])) (by rw [List.length_append,List.length_singleton];omega) (by omega)
  rw [List.append_assoc,List.singleton_append,List.length_append,List.length_singleton] at ih
  have hm : Ev (fun k=>laws_markIntS.f k r a) (a + r.length,marks a r.length):=ev_of r.length (fun k hk=>laws_markIntS_is k r a (by omega) (by omega) (by omega) hk)
  refine Ev.step (f:=fun k=>(laws_markIntS.f k r a).bind fun bt=>laws_markIntSS.l0 k ((pre ++ r :: post).set ((pre.length : Int)).toNat bt.2) bt.1 ((pre.length + 1 : Nat) : Int)) (fun k=>?_) ?_
  ·rw [laws_markIntSS.l0,if_pos (by rw [List.length_append,List.length_cons];omega),if_pos (by omega),rd_mid,w64_nat (by omega)]
  ·refine Ev.bind hm ?_
   have e1 : totS (r :: post) = r.length + totS post:=rfl
   have e2 : a + ((totS (r :: post) : Nat) : Int) = a + (r.length : Int) + ((totS post : Nat) : Int):=by rw [e1];omega
   rw [e2,msS]
   rw [show (pre ++ r :: post).set ((pre.length : Int)).toNat (a + (r.length : Int),marks a r.length).2 = pre ++ marks a r.length :: post from set_midS pre post r _]
   rw [List.append_assoc,List.singleton_append] at ih
   exact ih
theorem heldSS_l : ∀ (post : List (List Int)) (pre : List (List Int)) (a : Int),0 ≤ a → (∀ r ∈ post,r.length ≤ 1000) → pre.length + post.length ≤ 1048576 → a + 1000 * post.length ≤ 2000000000 → Ev (fun k=>laws_heldIntSS.l0 k (pre ++ msS post a) a (pre.length : Int)) (a + totS post)
|[],pre,a,_,_,_,_=>by
  refine Ev.step (f:=fun _=>some a) (fun k=>?_) ?_
  ·rw [laws_heldIntSS.l0,if_neg (by simp [msS])]
  ·simp only [totS,Int.natCast_zero,Int.add_zero]
   exact ev_const _
|r :: post,pre,a,ha,hr,hl,hb=>by
  have h1:=hr r (by simp)
  simp only [List.length_cons] at hl hb
  have ih:=heldSS_l post (pre ++ [marks a r.length]) (a + r.length) (by omega) (fun q hq=>hr q (by simp [hq])) (by rw [List.length_append,List.length_singleton];omega) (by omega)
  rw [List.append_assoc,List.singleton_append,List.length_append,List.length_singleton] at ih
  have hm : Ev (fun k=>laws_heldIntS.f k (marks a r.length) a) (a + r.length):=ev_of r.length (fun k hk=>laws_heldIntS_is k r.length a (by omega) (by omega) (by omega) hk)
  rw [msS]
  refine Ev.step (f:=fun k=>(laws_heldIntS.f k (marks a r.length) a).bind fun t=>if t < 0 then some (-1) else laws_heldIntSS.l0 k (pre ++ marks a r.length :: msS post (a + r.length)) t ((pre.length + 1 : Nat) : Int)) (fun k=>?_) ?_
  ·rw [laws_heldIntSS.l0,if_pos (by rw [List.length_append,List.length_cons];omega),if_pos (by omega),rd_mid,w64_nat (by omega)]
  ·refine Ev.bind hm (ev_if_neg (by omega) ?_)
   have e2 : a + ((totS (r :: post) : Nat) : Int) = a + (r.length : Int) + ((totS post : Nat) : Int):=by simp only [totS];omega
   rw [e2]
   exact ih
theorem markHeld_ev (ps : List (List Int)) (ls : List Int) (hr : ∀ r ∈ ps,r.length ≤ 1000) (hp : ps.length ≤ 1048576) (hl : ls.length ≤ 1048576) :
  ∃ (v : Int) (ms : List (List Int)) (mk : List Int),1 ≤ v ∧ Ev (fun k=>laws_markSample.f k ps ls 1) (v,ms,mk) ∧ Ev (fun k=>laws_heldSample.f k ms mk 1) v:=by
 have ht:=totS_le ps hr
 have m1:=markSS_l ps [] 1 (by omega) hr (by simpa using hp) (by omega)
 have h1:=heldSS_l ps [] 1 (by omega) hr (by simpa using hp) (by omega)
 simp only [List.nil_append,List.length_nil,Int.natCast_zero] at m1 h1
 have m2 : Ev (fun k=>laws_markIntS.f k ls (1 + (totS ps : Int))) (1 + (totS ps : Int) + ls.length,marks (1 + (totS ps : Int)) ls.length):=ev_of ls.length (fun k hk=>laws_markIntS_is k ls _ (by omega) (by omega) (by omega) hk)
 have h2 : Ev (fun k=>laws_heldIntS.f k (marks (1 + (totS ps : Int)) ls.length) (1 + (totS ps : Int))) (1 + (totS ps : Int) + ls.length):=ev_of ls.length (fun k hk=>laws_heldIntS_is k ls.length _ (by omega) (by omega) (by omega) hk)
 refine ⟨1 + (totS ps : Int) + ls.length,msS ps 1,marks (1 + (totS ps : Int)) ls.length,by omega,?_,?_⟩
 ·unfold laws_markSample.f laws_markIntSS.f
  exact Ev.bind m1 (Ev.bind m2 (ev_const _))
 ·unfold laws_heldSample.f laws_heldIntSS.f
  exact Ev.bind h1 (ev_if_neg (by omega) (Ev.bind h2 (ev_if_neg (by omega) (ev_const _))))
theorem eqSam_ev (ps : List (List Int)) (ls : List Int) (hr : ∀ r ∈ ps,r.length ≤ 1000) (hp : ps.length ≤ 1048576) (hl : ls.length ≤ 1048576) : Ev (fun k=>laws_eqSample.f k ps ls ps ls) true :=
 ev_of 2097152 (fun k hk=>laws_eqSample_same k ps ls (by omega) (fun r h=>Nat.le_trans (hr r h) (by omega)) (by omega) hk)
theorem rdl_len (ps : List (List Int)) (h : ∀ r ∈ ps,r.length ≤ 4) (x : Int) : (rd_L1 ps x).length ≤ 4:=by
 unfold rd_L1
 by_cases c : x.toNat < ps.length
 ·rw [List.getD_eq_getElem?_getD,List.getElem?_eq_getElem c]
  exact h _ (List.getElem_mem c)
 ·rw [List.getD_eq_getElem?_getD,List.getElem?_eq_none (by omega)]
  simp
def ptP (ps : List (List Int)) (L : List Int) : List (List Int):=L.map fun x=>rd_L1 ps x
def ptL (ls L : List Int) : List Int:=L.map fun x=>rd ls x
def ptR (ps : List (List Int)) (ls L : List Int) : List (List Int) × List Int × Bool:=if smB ps ls = true ∧ (L.all (inB 0 ((ps.length : Int) - 1)) && upB L) = true then (ptP ps L,ptL ls L,true) else ([],[],false)
theorem part_l (ps : List (List Int)) (ls : List Int) (hlen : ls.length = ps.length) (hps : ps.length ≤ 16) (hrow : ∀ r ∈ ps,r.length ≤ 4) (L : List Int) (hL : L.length ≤ 1048576) (hb : L.all (inB 0 ((ps.length : Int) - 1)) = true) : ∀ (m i : Nat) (A : List (List Int)) (B : List Int),i + m = L.length → A.length = i → B.length = i →
  Ev (fun k=>spec_l2Part.l0 k L (i : Int) ps ls A B) (A ++ ptP ps (L.drop i),B ++ ptL ls (L.drop i))
|0,i,A,B,hi,_,_=>by
  rw [show L.drop i = [] from List.drop_of_length_le (by omega)]
  refine Ev.step (f:=fun _=>some (A,B)) (fun k=>?_) ?_
  ·rw [spec_l2Part.l0,if_neg (by omega)]
  ·simp only [ptP,ptL,List.map_nil,List.append_nil]
   exact ev_const _
|m + 1,i,A,B,hi,hA,hB=>by
  have h : i < L.length:=by omega
  have hx:=inB_iff.1 (List.all_eq_true.1 hb _ (List.getElem_mem h))
  have ih:=part_l ps ls hlen hps hrow L hL hb m (i + 1) (A ++ [rd_L1 ps L[i]]) (B ++ [rd ls L[i]]) (by omega) (by rw [List.length_append,List.length_singleton];omega) (by rw [List.length_append,List.length_singleton];omega)
  have hr:=rdl_len ps hrow L[i]
  refine Ev.step (f:=fun k=>spec_l2Part.l0 k L ((i + 1 : Nat) : Int) ps ls (A ++ [rd_L1 ps L[i]]) (B ++ [rd ls L[i]])) (fun k=>?_) ?_
  ·rw [spec_l2Part.l0,if_pos (by omega),if_pos (by omega),rd_nat L i h,if_pos (by omega),if_pos (by omega),spec_l1Own_is _ (by omega)]
   simp only [Option.bind_some]
   rw [if_pos (by omega),if_pos (by omega),if_pos (by omega),w64_nat (by omega)]
  ·rw [List.append_assoc,List.singleton_append,List.append_assoc,List.singleton_append] at ih
   rw [List.drop_eq_getElem_cons h]
   exact ih
theorem ipart_l (ps : List (List Int)) (ls : List Int) (hlen : ls.length = ps.length) (hps : ps.length ≤ 16) (hrow : ∀ r ∈ ps,r.length ≤ 4) (L : List Int) (hL : L.length ≤ 1048576) (hb : L.all (inB 0 ((ps.length : Int) - 1)) = true) : ∀ (m i : Nat) (A : List (List Int)) (B : List Int),i + m = L.length → A.length = i → B.length = i →
  Ev (fun k=>impl_Sample_part.l0 k L (L.length : Int) (i : Int) ps ls A B) (A ++ ptP ps (L.drop i),B ++ ptL ls (L.drop i))
|0,i,A,B,hi,_,_=>by
  rw [show L.drop i = [] from List.drop_of_length_le (by omega)]
  refine Ev.step (f:=fun _=>some (A,B)) (fun k=>?_) ?_
  ·rw [impl_Sample_part.l0,if_neg (by omega)]
  ·simp only [ptP,ptL,List.map_nil,List.append_nil]
   exact ev_const _
|m + 1,i,A,B,hi,hA,hB=>by
  have h : i < L.length:=by omega
  have hx:=inB_iff.1 (List.all_eq_true.1 hb _ (List.getElem_mem h))
  have ih:=ipart_l ps ls hlen hps hrow L hL hb m (i + 1) (A ++ [rd_L1 ps L[i]]) (B ++ [rd ls L[i]]) (by omega) (by rw [List.length_append,List.length_singleton];omega) (by rw [List.length_append,List.length_singleton];omega)
  have hr:=rdl_len ps hrow L[i]
  refine Ev.step (f:=fun k=>impl_Sample_part.l0 k L (L.length : Int) ((i + 1 : Nat) : Int) ps ls (A ++ [rd_L1 ps L[i]]) (B ++ [rd ls L[i]])) (fun k=>?_) ?_
  ·rw [impl_Sample_part.l0,if_pos (by omega),if_pos (by omega),if_pos (by omega),rd_nat L i h,if_pos (by omega),if_pos (by omega),impl_copied_is _ (by omega)]
   simp only [Option.bind_some,List.length_singleton]
   rw [if_pos (by omega),if_pos (by omega),if_pos (by omega),w64_nat (by omega)]
  ·rw [List.append_assoc,List.singleton_append,List.append_assoc,List.singleton_append] at ih
   rw [List.drop_eq_getElem_cons h]
   exact ih
theorem spec_pt (ps : List (List Int)) (ls L : List Int) (hr : ∀ r ∈ ps,r.length ≤ 1048576) (hm : ls.length ≤ 1048576) (hL : L.length ≤ 1048576) : Ev (fun k=>spec_PartSample.f k ps ls L) (ptR ps ls L):=by
 have e2 : Ev (fun k=>spec_l2Sample.f k ps ls) (smB ps ls):=ev_of 3000000 fun k hk=>spec_l2Sample_is k ps ls hr hm (by omega)
 unfold spec_PartSample.f ptR
 refine Ev.bind e2 ?_
 by_cases c : smB ps ls = true
 ·obtain ⟨h16,hlen,hlab,hrow⟩:=smB_parts c
  have h4 : ∀ r ∈ ps,r.length ≤ 4:=fun r h=>(ptB_parts (hrow r h).1).2.2
  have e3 : Ev (fun k=>spec_l1Rising.f k L 0 ((ps.length : Int) - 1)) (L.all (inB 0 ((ps.length : Int) - 1)) && upB L):=ev_of 1048577 fun k hk=>spec_l1Rising_is k L 0 _ hL hk
  refine ev_if_pos c ?_
  rw [w64 (by omega) (by omega)]
  refine Ev.bind e3 ?_
  by_cases d : (L.all (inB 0 ((ps.length : Int) - 1)) && upB L) = true
  ·rw [if_pos ⟨c,d⟩]
   have e:=part_l ps ls hlen h16 h4 L hL (Bool.and_eq_true_iff.1 d).1 L.length 0 [] [] (by omega) rfl rfl
   refine ev_if_pos d ?_
   unfold spec_l2Part.f
   exact Ev.bind e (ev_const _)
  ·rw [if_neg (fun h=>d h.2)]
   exact ev_if_neg d (ev_const _)
 ·rw [if_neg (fun h=>c h.1)]
  exact ev_if_neg c (ev_const _)
theorem impl_pt (ps : List (List Int)) (ls L : List Int) (hr : ∀ r ∈ ps,r.length ≤ 1048576) (hm : ls.length ≤ 1048576) (hL : L.length ≤ 1048576) : Ev (fun k=>impl_PartSample.f k ps ls L) (ptR ps ls L):=by
 have e2 : Ev (fun k=>impl_IsSample.f k ps ls) (smB ps ls):=ev_of 3000000 fun k hk=>impl_IsSample_is k ps ls hr hm (by omega)
 unfold impl_PartSample.f ptR
 refine Ev.bind e2 ?_
 by_cases c : smB ps ls = true
 ·obtain ⟨h16,hlen,hlab,hrow⟩:=smB_parts c
  have h4 : ∀ r ∈ ps,r.length ≤ 4:=fun r h=>(ptB_parts (hrow r h).1).2.2
  have e3 : Ev (fun k=>impl_rising.f k L) (upB L):=ev_of 1048577 fun k hk=>impl_rising_is k L hL hk
  have e4 : Ev (fun k=>impl_allWithin.f k L 0 ((ps.length : Int) - 1)) (L.all (inB 0 ((ps.length : Int) - 1))):=ev_of L.length fun k hk=>impl_allWithin_is k L 0 _ (by omega) hk
  refine ev_if_pos c (Ev.bind e3 ?_)
  by_cases u : upB L = true
  ·refine ev_if_pos u ?_
   rw [w64 (by omega) (by omega)]
   refine Ev.bind e4 ?_
   by_cases d : L.all (inB 0 ((ps.length : Int) - 1)) = true
   ·rw [if_pos ⟨c,Bool.and_eq_true_iff.2 ⟨d,u⟩⟩]
    have e:=ipart_l ps ls hlen h16 h4 L hL d L.length 0 [] [] (by omega) rfl rfl
    refine ev_if_pos d ?_
    unfold impl_Sample_part.f
    exact Ev.bind e (ev_const _)
   ·rw [if_neg (fun h=>d (Bool.and_eq_true_iff.1 h.2).1)]
    exact ev_if_neg d (ev_const _)
  ·rw [if_neg (fun h=>u (Bool.and_eq_true_iff.1 h.2).2)]
   exact ev_if_neg u (ev_const _)
 ·rw [if_neg (fun h=>c h.1)]
  exact ev_if_neg c (ev_const _)
theorem ptR_small (ps : List (List Int)) (ls L : List Int) (hL : L.length ≤ 1048576) : (∀ r ∈ (ptR ps ls L).1,r.length ≤ 1000) ∧ (ptR ps ls L).1.length ≤ 1048576 ∧ (ptR ps ls L).2.1.length ≤ 1048576:=by
 unfold ptR
 by_cases d : smB ps ls = true ∧ (L.all (inB 0 ((ps.length : Int) - 1)) && upB L) = true
 ·obtain ⟨h16,hlen,hlab,hrow⟩:=smB_parts d.1
  rw [if_pos d]
  refine ⟨fun r hr=>?_,by simp only [ptP,List.length_map];exact hL,by simp only [ptL,List.length_map];exact hL⟩
  obtain ⟨x,_,rfl⟩:=List.mem_map.1 hr
  have:=rdl_len ps (fun r h=>(ptB_parts (hrow r h).1).2.2) x
  omega
 ·rw [if_neg d]
  simp
theorem FnExactPartSample : ∀ (l0 : List (List Int)) (m0 : List Int) (l1 : List Int),l0.length ≤ maxLen → (∀ r ∈ l0,r.length ≤ maxLen ∧ ∀ x ∈ r,(Lit.int .i64 x).wf = true) → m0.length ≤ maxLen → (∀ x ∈ m0,(Lit.int .i64 x).wf = true) → l1.length ≤ maxLen → (∀ x ∈ l1,(Lit.int .i64 x).wf = true) → ∃ k,laws_FnExactPartSample.f k l0 m0 l1 = some true:=by
 intro l m L hl hr hm _ hL _
 unfold maxLen at hl hr hm
 refine Ev.rounds (g:=fun k=>laws_FnExactPartSample.f k l m L) ?_
 unfold laws_FnExactPartSample.f
 by_cases c : (L.length : Int) > 1048576
 ·exact ev_if_pos c (ev_const _)
 refine ev_if_neg c ?_
 obtain ⟨v,hv0,hc⟩:=laws_szSample_tells 1048577 l m 1048576 (by omega) (by omega) (by omega) (fun r h=>by have:=(hr r h).1;omega) (by omega) (by omega)
 have hv : Ev (fun k=>laws_szSample.f k l m 1048576) v:=Ev.of (fun k=>laws_szSample.mono _ _ _ k) hv0
 refine Ev.bind hv ?_
 rcases hc with hc|⟨a1,a2,a3,a4,a5⟩
 ·exact ev_if_pos hc (ev_const _)
 have hL2 : L.length ≤ 1048576:=by omega
 have ts : Ev (fun k=>laws_toSample.f k l m) (l,m):=ev_of 3000000 fun k hk=>laws_toSample_is k l m a3 a4 a5 (by omega)
 have e0 : Ev (fun k=>laws_eqSample.f k l m l m) true:=ev_of 3000000 fun k hk=>laws_eqSample_same k l m a3 a4 a5 (by omega)
 have t:=(ev_of L.length (fun k hk=>laws_toIntS_is k L (by omega) hk) : Ev (fun k=>laws_toIntS.f k L) L)
 have el:=(ev_of L.length (fun k hk=>laws_eqIntS_same k L (by omega) hk) : Ev (fun k=>laws_eqIntS.f k L L) true)
 obtain ⟨y,l',m',hmk0,y1,y2⟩:=laws_markSample_tells 2097153 l m a3 a4 a5 (by omega)
 have hmk : Ev (fun k=>laws_markSample.f k l m 1) (y,l',m'):=Ev.of (fun k=>laws_markSample.mono _ _ _ k) hmk0
 have ml:=(ev_of L.length (fun k hk=>laws_markIntS_is k L y (by omega) (by omega) (by omega) hk) : Ev (fun k=>laws_markIntS.f k L y) (y + L.length,marks y L.length))
 have s:=spec_pt l m L a4 a5 hL2
 have g:=impl_pt l m L a4 a5 hL2
 obtain ⟨z1,z2,z3⟩:=ptR_small l m L hL2
 generalize ptR l m L = R at s g z1 z2 z3
 obtain ⟨ps,ls,b⟩:=R
 have es:=eqSam_ev ps ls z1 z2 z3
 obtain ⟨w,ms,mk,hw,hm1,hh⟩:=markHeld_ev ps ls z1 z2 z3
 refine ev_if_neg (by omega) (Ev.bind ts (Ev.bind t (Ev.bind s (Ev.bind ts (Ev.bind t (Ev.bind g (Ev.bind es (ev_if_pos rfl ?_))))))))
 refine Ev.step (fun k=>by rw [laws_FnExactPartSample.j0,if_neg (by simp)]) (Ev.bind ts (Ev.bind e0 (ev_if_pos rfl (Ev.bind t (Ev.bind el (ev_if_pos rfl (Ev.bind hmk (Ev.bind ml (ev_if_neg (by show ¬ (y + (L.length : Int)) < 0;omega) (Ev.bind es (ev_if_pos rfl ?_)))))))))))
 refine Ev.step (fun k=>by rw [laws_FnExactPartSample.j1,if_neg (by simp)]) (Ev.bind hm1 (Ev.bind hh (ev_if_neg (show ¬ w < 0 by omega) (ev_if_pos rfl (Ev.bind ts (Ev.bind t (Ev.bind g (Ev.bind es (ev_if_pos rfl ?_)))))))))
 exact Ev.step (fun k=>by rw [laws_FnExactPartSample.j2,if_neg (by simp)]) (Ev.bind hh (ev_if_neg (show ¬ w < 0 by omega) (ev_if_pos rfl (ev_const _))))
end Go.Proofs.Ytgbgkifddjeabaa.Pure
end
