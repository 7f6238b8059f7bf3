/- Proved: the law FnExactSmallPlane answers true for every sample and number; no condition. -/
import Derived.Test.YtdjclffkidoohaaVFnExactSmallPlane
import Derived.Test.YtdjclffkidoohaaZFnExactSmallPlanex9
section
set_option linter.unusedVariables false
set_option linter.unusedSimpArgs false
namespace Go.Proofs.Ytdjclffkidoohaa.Base
open Go.RowKit Go.Proofs.YtdjclffkidoohaaW.PrintWords Go.Proofs.YtdjclffkidoohaaW.PrintLast Go.Proofs.YtdjclffkidoohaaW.PrintMore
theorem w64 {x : Int} (h1 : -9223372036854775808 ≤ x) (h2 : x ≤ 9223372036854775807) : wrap64 x = x:=by
 unfold wrap64
 omega
theorem w64_nat {n : Nat} (h : n ≤ 4611686018427387904) : wrap64 ((n : Int) + 1) = ((n + 1 : Nat) : Int):=by
 rw [w64 (by omega) (by omega)]
 omega
theorem rd_nat (l : List Int) (i : Nat) (h : i < l.length) : rd l (i : Int) = l[i]:=by
 simp [rd,h]
def inB (lo hi x : Int) : Bool:=decide (lo ≤ x ∧ x ≤ hi)
theorem inB_iff {lo hi x : Int} : inB lo hi x = true ↔ lo ≤ x ∧ x ≤ hi:=by simp [inB]
theorem within_is (a lo hi : Int) : (if a ≥ lo then (some (decide (a ≤ hi))) else (some false)) = some (inB lo hi a):=by
 unfold inB
 by_cases h : a ≥ lo
 ·rw [if_pos h]
  congr 1
  by_cases h2 : a ≤ hi <;> simp [h2]
  omega
 ·rw [if_neg h]
  congr 1
  simp
  omega
def marks : Int → Nat → List Int
|_,0=>[]
|a,n + 1=>a :: marks (a + 1) n
theorem marks_length : ∀ (n : Nat) (a : Int),(marks a n).length = n
|0,_=>rfl
|n + 1,a=>by simp [marks,marks_length n]
theorem marks_get : ∀ (n : Nat) (a : Int) (i : Nat) (h : i < (marks a n).length),(marks a n)[i] = a + i
|0,_,i,h=>by simp [marks] at h
|n + 1,a,0,h=>by simp [marks]
|n + 1,a,i + 1,h=>by
  simp only [marks,List.getElem_cons_succ]
  rw [marks_get n (a + 1) i]
  omega
def ptB (x : List Int) : Bool:=inB 1 4 x.length && x.all (inB (-9) 9)
def plB (ws : List Int) (b : Int) : Bool:=inB 1 4 ws.length && ws.all (inB (-99) 99) && inB (-99) 99 b
theorem all_range {l : List Int} {lo hi : Int} (h : l.all (inB lo hi) = true) (i : Nat) (hi' : i < l.length) : lo ≤ l[i] ∧ l[i] ≤ hi:=by
 have:=List.all_eq_true.1 h l[i] (List.getElem_mem hi')
 exact inB_iff.1 this
theorem set_mid (pre post : List Int) (x y : Int) (n : Nat) (h : n = pre.length) : (pre ++ x :: post).set n y = pre ++ y :: post:=by
 subst h
 simp
def sqd : List Int → List Int → Int
|x :: xs,y :: ys=>(x - y) * (x - y) + sqd xs ys
|_,_=>0
def wdot : Int → List Int → List Int → Int
|s,a :: as_,b :: bs=>wdot (wrap64 (s + wrap64 (a * b))) as_ bs
|s,_,_=>s
def lbB (x : Int) : Bool:=decide (x = 1 ∨ x = -1)
def smB (ps : List (List Int)) (ls : List Int) : Bool:=decide (ps.length ≤ 16) && decide (ls.length = ps.length) && ls.all lbB && ps.all (fun x=>ptB x && decide (x.length = (ps.headD []).length))
theorem ptB_parts {x : List Int} (h : ptB x = true) : x.all (inB (-9) 9) = true ∧ 1 ≤ x.length ∧ x.length ≤ 4:=by
 unfold ptB at h
 have h2:=Bool.and_eq_true_iff.1 h
 have:=inB_iff.1 h2.1
 exact ⟨h2.2,by omega,by omega⟩
theorem smB_parts {ps : List (List Int)} {ls : List Int} (h : smB ps ls = true) : ps.length ≤ 16 ∧ ls.length = ps.length ∧ ls.all lbB = true ∧ ∀ x ∈ ps,ptB x = true ∧ x.length = (ps.headD []).length:=by
 unfold smB at h
 have h2:=Bool.and_eq_true_iff.1 h
 have h3:=Bool.and_eq_true_iff.1 h2.1
 have h4:=Bool.and_eq_true_iff.1 h3.1
 refine ⟨of_decide_eq_true h4.1,of_decide_eq_true h4.2,h3.2,fun x hx=>?_⟩
 have q:=Bool.and_eq_true_iff.1 (List.all_eq_true.1 h2.2 x hx)
 exact ⟨q.1,of_decide_eq_true q.2⟩
theorem mul_range {a b A B : Int} (ha : -A ≤ a ∧ a ≤ A) (hb : -B ≤ b ∧ b ≤ B) : -(A * B) ≤ a * b ∧ a * b ≤ A * B:=by
 have h1 : 0 ≤ (A - a) * (B + b):=Int.mul_nonneg (by omega) (by omega)
 have h2 : 0 ≤ (A + a) * (B - b):=Int.mul_nonneg (by omega) (by omega)
 have h3 : 0 ≤ (A - a) * (B - b):=Int.mul_nonneg (by omega) (by omega)
 have h4 : 0 ≤ (A + a) * (B + b):=Int.mul_nonneg (by omega) (by omega)
 rw [Int.sub_mul,Int.mul_add,Int.mul_add] at h1
 rw [Int.add_mul,Int.mul_sub,Int.mul_sub] at h2
 rw [Int.sub_mul,Int.mul_sub,Int.mul_sub] at h3
 rw [Int.add_mul,Int.mul_add,Int.mul_add] at h4
 omega
def dot : List Int → List Int → Int
|a :: as_,b :: bs=>a * b + dot as_ bs
|_,_=>0
theorem wdot_eq {M : Int} (hM : M ≤ 1000000000000) : ∀ (x y : List Int) (s : Int),x.length ≤ 100 → (∀ i (h : i < x.length) (h' : i < y.length),-M ≤ x[i] * y[i] ∧ x[i] * y[i] ≤ M) → -(1000000000000 * (100 - x.length)) ≤ s → s ≤ 1000000000000 * (100 - x.length) → wdot s x y = s + dot x y
|[],y,s,_,_,_,_=>by simp [wdot,dot]
|a :: x,[],s,_,_,_,_=>by simp [wdot,dot]
|a :: x,b :: y,s,hl,h,h1,h2=>by
  have q:=h 0 (by simp) (by simp)
  simp only [List.getElem_cons_zero,List.length_cons] at q h1 h2 hl
  simp only [wdot,dot]
  rw [w64 (x:=a * b) (by omega) (by omega),w64 (by omega) (by omega)]
  rw [wdot_eq hM x y (s + a * b) (by omega) (fun i h0 h0'=>by
   have:=h (i + 1) (by simp;omega) (by simp;omega)
   simpa using this) (by omega) (by omega)]
  omega
theorem dot_range {M : Int} (h0 : 0 ≤ M) : ∀ (x y : List Int) (n : Nat),x.length ≤ n → (∀ i (h : i < x.length) (h' : i < y.length),-M ≤ x[i] * y[i] ∧ x[i] * y[i] ≤ M) → -(n * M) ≤ dot x y ∧ dot x y ≤ n * M
|[],y,n,_,_=>by
  simp only [dot]
  have : 0 ≤ (n : Int) * M:=Int.mul_nonneg (by omega) h0
  omega
|a :: x,[],n,_,_=>by
  simp only [dot]
  have : 0 ≤ (n : Int) * M:=Int.mul_nonneg (by omega) h0
  omega
|a :: x,b :: y,0,hl,_=>by simp at hl
|a :: x,b :: y,n + 1,hl,h=>by
  have q:=h 0 (by simp) (by simp)
  simp only [List.getElem_cons_zero,List.length_cons] at q hl
  have ih:=dot_range h0 x y n (by omega) (fun i h0 h0'=>by
   have:=h (i + 1) (by simp;omega) (by simp;omega)
   simpa using this)
  simp only [dot]
  have e : ((n + 1 : Nat) : Int) * M = n * M + M:=by
   rw [show ((n + 1 : Nat) : Int) = (n : Int) + 1 by omega,Int.add_mul,Int.one_mul]
  omega
end Go.Proofs.Ytdjclffkidoohaa.Base
end
section
set_option linter.unusedVariables false
set_option linter.unusedSimpArgs false
namespace Go.Proofs.Ytdjclffkidoohaa.Pure
open Go.RowKit Go.Proofs.Ytdjclffkidoohaa.QFnExactSmallPlane Go.Proofs.YtdjclffkidoohaaW.PrintWords Go.Proofs.YtdjclffkidoohaaW.PrintLast Go.Proofs.YtdjclffkidoohaaW.PrintMore Go.Proofs.Ytdjclffkidoohaa.Base
theorem laws_szIntS_is (l : List Int) (a : Int) (h0 : 0 ≤ a) (h1 : a ≤ 4611686018427387904) (hl : l.length ≤ 9223372036854775807) : laws_szIntS.f l a = some (if (l.length : Int) ≤ a then a - l.length else -1):=by
 unfold laws_szIntS.f
 rw [w64 (by omega) (by omega)]
 by_cases h : (l.length : Int) ≤ a
 ·rw [if_neg (by omega),if_pos h]
 ·rw [if_pos (by omega),if_neg h]
theorem laws_szIntSS_l : ∀ (k i : Nat) (x : List (List Int)) (a : Int),0 ≤ a → a ≤ 1048576 → x.length ≤ 1048576 → (∀ r ∈ x,r.length ≤ 9223372036854775807) → i ≤ x.length → x.length < i + k → ∃ v,laws_szIntSS.l0 k x a (i : Int) = some v ∧ (v < 0 ∨ (0 ≤ v ∧ v ≤ a ∧ ∀ r ∈ x.drop i,r.length ≤ 1048576))
|0,_,_,_,_,_,_,_,_,hk=>by omega
|k + 1,i,x,a,h0,h1,hn,hr,hi,hk=>by
  simp only [laws_szIntSS.l0]
  by_cases h : i < x.length
  ·have e : rd_L1 x (i : Int) = x[i]:=by simp [rd_L1,h]
   have hx:=hr x[i] (List.getElem_mem h)
   rw [if_pos (by omega),if_pos (by omega),e,laws_szIntS_is x[i] a h0 (by omega) hx]
   simp only [Option.bind_some]
   by_cases c : (x[i].length : Int) ≤ a
   ·rw [if_pos c,if_neg (by omega),w64_nat (by omega)]
    obtain ⟨v,hv,hc⟩:=laws_szIntSS_l k (i + 1) x (a - x[i].length) (by omega) (by omega) hn hr (by omega) (by omega)
    refine ⟨v,hv,?_⟩
    rcases hc with hc|⟨a1,a2,a3⟩
    ·exact .inl hc
    ·refine .inr ⟨a1,by omega,fun r hr'=>?_⟩
     rw [List.drop_eq_getElem_cons h] at hr'
     rcases List.mem_cons.1 hr' with rfl|hr'
     ·omega
     ·exact a3 r hr'
   ·rw [if_neg c,if_pos (by omega)]
    exact ⟨-1,rfl,.inl (by omega)⟩
  ·rw [if_neg (by omega)]
   refine ⟨a,rfl,.inr ⟨h0,Int.le_refl _,fun r hr'=>?_⟩⟩
   rw [List.drop_of_length_le (by omega)] at hr'
   simp at hr'
theorem laws_szIntSS_tells (k : Nat) (x : List (List Int)) (a : Int) (h0 : 0 ≤ a) (h1 : a ≤ 1048576) (hn : x.length ≤ 9223372036854775807) (hr : ∀ r ∈ x,r.length ≤ 9223372036854775807) (hk : 1048576 < k) : ∃ v,laws_szIntSS.f k x a = some v ∧ (v < 0 ∨ (0 ≤ v ∧ v ≤ a ∧ x.length ≤ 1048576 ∧ ∀ r ∈ x,r.length ≤ 1048576)):=by
 unfold laws_szIntSS.f
 rw [w64 (by omega) (by omega)]
 by_cases c : (x.length : Int) ≤ a
 ·rw [if_neg (by omega)]
  obtain ⟨v,hv,hc⟩:=laws_szIntSS_l k 0 x (a - x.length) (by omega) (by omega) (by omega) hr (by omega) (by omega)
  refine ⟨v,hv,?_⟩
  rcases hc with hc|⟨a1,a2,a3⟩
  ·exact .inl hc
  ·exact .inr ⟨a1,by omega,by omega,by simpa using a3⟩
 ·rw [if_pos (by omega)]
  exact ⟨-1,rfl,.inl (by omega)⟩
theorem laws_szSample_tells (k : Nat) (x : List (List Int)) (m : List Int) (a : Int) (h0 : 0 ≤ a) (h1 : a ≤ 1048576) (hn : x.length ≤ 9223372036854775807) (hr : ∀ r ∈ x,r.length ≤ 9223372036854775807) (hm : m.length ≤ 9223372036854775807) (hk : 1048576 < k) : ∃ v,laws_szSample.f k x m a = some v ∧ (v < 0 ∨ (0 ≤ v ∧ v ≤ a ∧ x.length ≤ 1048576 ∧ (∀ r ∈ x,r.length ≤ 1048576) ∧ m.length ≤ 1048576)):=by
 unfold laws_szSample.f
 obtain ⟨v,hv,hc⟩:=laws_szIntSS_tells k x a h0 h1 hn hr hk
 rw [hv]
 simp only [Option.bind_some]
 rcases hc with hc|⟨a1,a2,a3,a4⟩
 ·rw [if_pos hc]
  exact ⟨-1,rfl,.inl (by omega)⟩
 ·rw [if_neg (by omega),laws_szIntS_is m v a1 (by omega) hm]
  simp only [Option.bind_some]
  by_cases c : (m.length : Int) ≤ v
  ·rw [if_pos c,if_neg (by omega)]
   exact ⟨_,rfl,.inr ⟨by omega,by omega,a3,a4,by omega⟩⟩
  ·rw [if_neg c,if_pos (by omega)]
   exact ⟨-1,rfl,.inl (by omega)⟩
theorem laws_toIntS_l : ∀ (k i : Nat) (l acc : List Int),l.length ≤ 4611686018427387904 → acc.length = l.length → i ≤ l.length → l.length < i + k → (∀ j,j < i → acc[j]? = l[j]?) → laws_toIntS.l0 k l acc (i : Int) = some l
|0,i,l,acc,_,_,_,hk,_=>by omega
|k + 1,i,l,acc,hn,hl,hi,hk,hj=>by
  simp only [laws_toIntS.l0]
  by_cases h : i < l.length
  ·rw [if_pos (by omega),if_pos (by omega),if_pos (by omega),rd_nat l i h,w64_nat (by omega)]
   refine laws_toIntS_l k (i + 1) l _ hn (by simp [hl]) (by omega) (by omega) fun j hj'=>?_
   rw [List.getElem?_set]
   by_cases e : i = j
   ·subst e
    simp [h,hl]
   ·simp only [Int.toNat_natCast]
    rw [if_neg e]
    exact hj j (by omega)
  ·rw [if_neg (by omega)]
   congr 1
   refine List.ext_getElem? fun j=>?_
   by_cases e : j < i
   ·exact hj j e
   ·rw [List.getElem?_eq_none (by omega),List.getElem?_eq_none (by omega)]
theorem laws_toIntS_is (k : Nat) (l : List Int) (hn : l.length ≤ 35184372088832) (hk : l.length < k) : laws_toIntS.f k l = some l:=by
 unfold laws_toIntS.f
 rw [if_pos (by omega),if_pos (by omega)]
 exact laws_toIntS_l k 0 l _ (by omega) (by simp) (by omega) (by omega) fun j hj=>by omega
theorem laws_toIntSS_l : ∀ (k i : Nat) (l acc : List (List Int)),l.length ≤ 1048576 → (∀ r ∈ l,r.length ≤ 1048576) → acc.length = l.length → i ≤ l.length → l.length + 1048576 < i + k → (∀ j,j < i → acc[j]? = l[j]?) → laws_toIntSS.l0 k l acc (i : Int) = some l
|0,i,l,acc,_,_,_,_,hk,_=>by omega
|k + 1,i,l,acc,hn,hr,hl,hi,hk,hj=>by
  simp only [laws_toIntSS.l0]
  by_cases h : i < l.length
  ·have e : rd_L1 l (i : Int) = l[i]:=by simp [rd_L1,h]
   have hx:=hr l[i] (List.getElem_mem h)
   rw [if_pos (by omega),if_pos (by omega),e,laws_toIntS_is k l[i] (by omega) (by omega)]
   simp only [Option.bind_some]
   rw [if_pos (by omega),w64_nat (by omega)]
   refine laws_toIntSS_l k (i + 1) l _ hn hr (by simp [hl]) (by omega) (by omega) fun j hj'=>?_
   rw [List.getElem?_set]
   by_cases e : i = j
   ·subst e
    simp [h,hl]
   ·simp only [Int.toNat_natCast]
    rw [if_neg e]
    exact hj j (by omega)
  ·rw [if_neg (by omega)]
   congr 1
   refine List.ext_getElem? fun j=>?_
   by_cases e : j < i
   ·exact hj j e
   ·rw [List.getElem?_eq_none (by omega),List.getElem?_eq_none (by omega)]
theorem laws_toIntSS_is (k : Nat) (l : List (List Int)) (hn : l.length ≤ 1048576) (hr : ∀ r ∈ l,r.length ≤ 1048576) (hk : 2097152 < k) : laws_toIntSS.f k l = some l:=by
 unfold laws_toIntSS.f
 rw [if_pos (by omega),if_pos (by omega)]
 exact laws_toIntSS_l k 0 l _ hn hr (by simp) (by omega) (by omega) fun j hj=>by omega
theorem laws_toSample_is (k : Nat) (l : List (List Int)) (m : List Int) (hn : l.length ≤ 1048576) (hr : ∀ r ∈ l,r.length ≤ 1048576) (hm : m.length ≤ 1048576) (hk : 2097152 < k) : laws_toSample.f k l m = some (l,m):=by
 unfold laws_toSample.f
 rw [laws_toIntSS_is k l hn hr hk,Option.bind_some,laws_toIntS_is k m (by omega) (by omega)]
 rfl
theorem laws_eqIntS_l : ∀ (k i : Nat) (l r : List Int),l.length ≤ 4611686018427387904 → r.length = l.length → i ≤ l.length → l.length < i + k → laws_eqIntS.l0 k l r (i : Int) = some (decide (l.drop i = r.drop i))
|0,i,l,r,_,_,_,hk=>by omega
|k + 1,i,l,r,hn,hl,hi,hk=>by
  simp only [laws_eqIntS.l0]
  by_cases h : i < l.length
  ·rw [if_pos (by omega),if_pos (by omega),if_pos (by omega),rd_nat l i h,rd_nat r i (by omega),w64_nat (by omega),laws_eqIntS_l k (i + 1) l r hn hl (by omega) (by omega),List.drop_eq_getElem_cons h,List.drop_eq_getElem_cons (show i < r.length by omega)]
   by_cases e : l[i] = r[i]'(by omega)
   ·rw [if_pos e,e]
    simp only [List.cons.injEq,true_and]
   ·rw [if_neg e]
    simp only [List.cons.injEq,e,false_and,decide_false]
  ·rw [if_neg (by omega),List.drop_of_length_le (by omega),List.drop_of_length_le (by omega)]
   simp
theorem laws_eqIntS_is (k : Nat) (l r : List Int) (hn : l.length ≤ 4611686018427387904) (hk : l.length < k) : laws_eqIntS.f k l r = some (decide (l = r)):=by
 unfold laws_eqIntS.f
 by_cases h : l.length = r.length
 ·rw [if_pos (by omega)]
  have:=laws_eqIntS_l k 0 l r hn (by omega) (by omega) (by omega)
  simpa using this
 ·rw [if_neg (by omega)]
  have : l ≠ r:=fun e=>h (by rw [e])
  simp [this]
theorem laws_eqIntS_same (k : Nat) (l : List Int) (hn : l.length ≤ 4611686018427387904) (hk : l.length < k) : laws_eqIntS.f k l l = some true:=by
 rw [laws_eqIntS_is k l l hn hk]
 simp
theorem laws_eqIntSS_l : ∀ (k i : Nat) (l : List (List Int)),l.length ≤ 1048576 → (∀ r ∈ l,r.length ≤ 1048576) → i ≤ l.length → l.length + 1048576 < i + k → laws_eqIntSS.l0 k l l (i : Int) = some true
|0,i,l,_,_,_,hk=>by omega
|k + 1,i,l,hn,hr,hi,hk=>by
  simp only [laws_eqIntSS.l0]
  by_cases h : i < l.length
  ·have e : rd_L1 l (i : Int) = l[i]:=by simp [rd_L1,h]
   have hx:=hr l[i] (List.getElem_mem h)
   rw [if_pos (by omega),if_pos (by omega),if_pos (by omega),e,laws_eqIntS_same k l[i] (by omega) (by omega)]
   simp only [Option.bind_some,if_true]
   rw [w64_nat (by omega)]
   exact laws_eqIntSS_l k (i + 1) l hn hr (by omega) (by omega)
  ·rw [if_neg (by omega)]
theorem laws_eqIntSS_same (k : Nat) (l : List (List Int)) (hn : l.length ≤ 1048576) (hr : ∀ r ∈ l,r.length ≤ 1048576) (hk : 2097152 < k) : laws_eqIntSS.f k l l = some true:=by
 unfold laws_eqIntSS.f
 rw [if_pos rfl]
 exact laws_eqIntSS_l k 0 l hn hr (by omega) (by omega)
theorem laws_eqSample_same (k : Nat) (l : List (List Int)) (m : List Int) (hn : l.length ≤ 1048576) (hr : ∀ r ∈ l,r.length ≤ 1048576) (hm : m.length ≤ 1048576) (hk : 2097152 < k) : laws_eqSample.f k l m l m = some true:=by
 unfold laws_eqSample.f
 rw [laws_eqIntSS_same k l hn hr hk,laws_eqIntS_same k m (by omega) (by omega)]
 rfl
theorem laws_markIntS_l : ∀ (k : Nat) (post pre : List Int) (a : Int),-4611686018427387904 ≤ a → a + post.length ≤ 4611686018427387904 → pre.length + post.length ≤ 4611686018427387904 → post.length < k → laws_markIntS.l0 k (pre ++ post) a (pre.length : Int) = some (a + post.length,pre ++ marks a post.length)
|0,_,_,_,_,_,_,hk=>by omega
|k + 1,[],pre,a,_,_,_,_=>by
  simp only [laws_markIntS.l0]
  rw [if_neg (by simp)]
  simp [marks]
|k + 1,x :: post,pre,a,h1,h2,h3,hk=>by
  simp only [laws_markIntS.l0]
  simp only [List.length_cons] at h2 h3 hk
  rw [if_pos (by simp;omega),if_pos (by omega),w64_nat (by omega),w64 (by omega) (by omega)]
  rw [set_mid pre post x a _ (by simp)]
  have:=laws_markIntS_l k post (pre ++ [a]) (a + 1) (by omega) (by omega) (by simp;omega) (by omega)
  simp only [List.append_assoc,List.singleton_append,List.length_append,List.length_cons,List.length_nil,Nat.zero_add] at this
  rw [this]
  simp only [List.length_cons,marks]
  congr 2
  omega
theorem laws_markIntS_is (k : Nat) (l : List Int) (a : Int) (h1 : -4611686018427387904 ≤ a) (h2 : a + l.length ≤ 4611686018427387904) (h3 : l.length ≤ 4611686018427387904) (hk : l.length < k) : laws_markIntS.f k l a = some (a + l.length,marks a l.length):=by
 unfold laws_markIntS.f
 exact laws_markIntS_l k l [] a h1 h2 (by simpa using h3) hk
theorem laws_markIntSS_l : ∀ (m k i : Nat) (l : List (List Int)) (a : Int),i + m = l.length → l.length ≤ 1048576 → (∀ r ∈ l,r.length ≤ 1048576) → 0 ≤ a → a + m * 1048576 ≤ 4611686018427387904 → 1048576 + m < k → ∃ v l',laws_markIntSS.l0 k l a (i : Int) = some (v,l') ∧ a ≤ v ∧ v ≤ a + m * 1048576
|0,k,i,l,a,hi,hn,hr,ha,hb,hk=>by
  obtain ⟨k,rfl⟩ : ∃ q,k = q + 1:=⟨k - 1,by omega⟩
  rw [laws_markIntSS.l0,if_neg (by omega)]
  exact ⟨a,l,rfl,by omega,by omega⟩
|m + 1,k,i,l,a,hi,hn,hr,ha,hb,hk=>by
  obtain ⟨k,rfl⟩ : ∃ q,k = q + 1:=⟨k - 1,by omega⟩
  have h : i < l.length:=by omega
  have e : rd_L1 l (i : Int) = l[i]:=by simp [rd_L1,h]
  have hx:=hr l[i] (List.getElem_mem h)
  rw [laws_markIntSS.l0,if_pos (by omega),if_pos (by omega),e,laws_markIntS_is k l[i] a (by omega) (by omega) (by omega) (by omega)]
  simp only [Option.bind_some]
  rw [w64_nat (by omega)]
  obtain ⟨v,l',hv,h1,h2⟩:=laws_markIntSS_l m k (i + 1) (l.set (i : Int).toNat (marks a l[i].length)) (a + l[i].length) (by simp;omega) (by simpa using hn) (fun r hr'=>by
   rcases List.mem_or_eq_of_mem_set hr' with h|rfl
   ·exact hr r h
   ·rw [marks_length];omega) (by omega) (by omega) (by omega)
  exact ⟨v,l',hv,by omega,by omega⟩
theorem laws_markIntSS_tells (k : Nat) (l : List (List Int)) (hn : l.length ≤ 1048576) (hr : ∀ r ∈ l,r.length ≤ 1048576) (hk : 2097152 < k) : ∃ v l',laws_markIntSS.f k l 1 = some (v,l') ∧ 1 ≤ v ∧ v ≤ 1099511627777:=by
 unfold laws_markIntSS.f
 obtain ⟨v,l',hv,h1,h2⟩:=laws_markIntSS_l l.length k 0 l 1 (by omega) hn hr (by omega) (by omega) (by omega)
 exact ⟨v,l',hv,by omega,by omega⟩
theorem laws_markSample_tells (k : Nat) (l : List (List Int)) (m : List Int) (hn : l.length ≤ 1048576) (hr : ∀ r ∈ l,r.length ≤ 1048576) (hm : m.length ≤ 1048576) (hk : 2097152 < k) : ∃ v l' m',laws_markSample.f k l m 1 = some (v,l',m') ∧ 1 ≤ v ∧ v ≤ 1099512676353:=by
 unfold laws_markSample.f
 obtain ⟨v,l',hv,h1,h2⟩:=laws_markIntSS_tells k l hn hr hk
 rw [hv,Option.bind_some,laws_markIntS_is k m v (by omega) (by omega) (by omega) (by omega)]
 exact ⟨_,_,_,rfl,by omega,by omega⟩
theorem spec_l1In_is (a lo hi : Int) : spec_l1In.f a lo hi = some (inB lo hi a):=by
 unfold spec_l1In.f
 exact within_is a lo hi
theorem spec_l1Own_is (l : List Int) (h : l.length < 17592186044416) : spec_l1Own.f l = some l:=by
 unfold spec_l1Own.f
 simp only [Option.bind_some]
 rw [if_pos (by simpa using h)]
 simp
theorem spec_l2Dot_l : ∀ (k i : Nat) (x y : List Int) (s : Int),x.length ≤ 4611686018427387904 → x.length ≤ y.length → i ≤ x.length → x.length < i + k → spec_l2Dot.l0 k x y s (i : Int) = some (wdot s (x.drop i) (y.drop i))
|0,_,_,_,_,_,_,_,hk=>by omega
|k + 1,i,x,y,s,hn,hl,hi,hk=>by
  simp only [spec_l2Dot.l0]
  by_cases h : i < x.length
  ·have hy' : i < y.length:=by omega
   rw [if_pos (by omega),if_pos (by omega),if_pos (by omega),rd_nat x i h,rd_nat y i hy',w64_nat (by omega)]
   rw [spec_l2Dot_l k (i + 1) x y _ hn hl (by omega) (by omega),List.drop_eq_getElem_cons h,List.drop_eq_getElem_cons hy']
   simp only [wdot]
  ·rw [if_neg (by omega),List.drop_of_length_le (by omega)]
   simp [wdot]
theorem spec_l2Dot_is (k : Nat) (x y : List Int) (hn : x.length ≤ 4611686018427387904) (hl : x.length ≤ y.length) (hk : x.length < k) : spec_l2Dot.f k x y = some (wdot 0 x y):=by
 unfold spec_l2Dot.f
 have:=spec_l2Dot_l k 0 x y 0 hn hl (by omega) (by omega)
 simpa using this
theorem spec_l1Most_is (a b : Int) : spec_l1Most.f a b = some (max a b):=by
 unfold spec_l1Most.f
 by_cases h : a > b
 ·rw [if_pos h]
  congr 1
  omega
 ·rw [if_neg h]
  congr 1
  omega
theorem spec_l1Least_is (a b : Int) : spec_l1Least.f a b = some (min a b):=by
 unfold spec_l1Least.f
 by_cases h : a < b
 ·rw [if_pos h]
  congr 1
  omega
 ·rw [if_neg h]
  congr 1
  omega
def endsL (ws : List Int) : List (List Int) → List Int → Int → Int → Int × Int
|x :: xs,l :: ls,lo,hi=>if l = 1 then endsL ws xs ls (min lo (wdot 0 ws x)) hi else endsL ws xs ls lo (max hi (wdot 0 ws x))
|_,_,lo,hi=>(lo,hi)
theorem spec_l4Ends_l (ws : List Int) (ps : List (List Int)) (ls : List Int) (h16 : ps.length ≤ 16) (hl : ls.length = ps.length) (hw : ws.length ≤ 4) (hx : ∀ x ∈ ps,x.length = ws.length) : ∀ (m k i : Nat) (lo hi : Int),i + m = ps.length → 10 ≤ k → spec_l4Ends.l0 (k + m + 1) ws lo hi (i : Int) ps ls = some (endsL ws (ps.drop i) (ls.drop i) lo hi)
|0,k,i,lo,hi,hi',hk=>by
  rw [spec_l4Ends.l0,if_neg (by omega),List.drop_of_length_le (by omega)]
  rfl
|m + 1,k,i,lo,hi,hi',hk=>by
  have h1 : i < ps.length:=by omega
  have h2 : i < ls.length:=by omega
  have e : rd_L1 ps (i : Int) = ps[i]:=by simp [rd_L1,h1]
  have q:=hx ps[i] (List.getElem_mem h1)
  rw [show k + (m + 1) + 1 = (k + m + 1) + 1 by omega,spec_l4Ends.l0,if_pos (by omega),if_pos (by omega),e,spec_l2Dot_is _ ws _ (by omega) (by omega) (by omega),w64_nat (by omega),rd_nat ls i h2]
  simp only [Option.bind_some]
  rw [if_pos (by omega),spec_l1Least_is,spec_l1Most_is]
  simp only [Option.bind_some]
  rw [spec_l4Ends_l ws ps ls h16 hl hw hx m k (i + 1) _ _ (by omega) hk,spec_l4Ends_l ws ps ls h16 hl hw hx m k (i + 1) _ _ (by omega) hk,List.drop_eq_getElem_cons h1,List.drop_eq_getElem_cons h2]
  simp only [endsL]
  split <;> rfl
theorem spec_l4Ends_is (k : Nat) (ps : List (List Int)) (ls ws : List Int) (h16 : ps.length ≤ 16) (hl : ls.length = ps.length) (hw : ws.length ≤ 4) (hx : ∀ x ∈ ps,x.length = ws.length) (hk : 100 < k) : spec_l4Ends.f k ps ls ws = some (endsL ws ps ls 100000 (-100000)):=by
 unfold spec_l4Ends.f
 have:=spec_l4Ends_l ws ps ls h16 hl hw hx ps.length (k - ps.length - 1) 0 100000 (-100000) (by omega) (by omega)
 rw [show k - ps.length - 1 + ps.length + 1 = k by omega] at this
 exact this
theorem point_prod {ws x : List Int} (hw : ws.all (inB (-99) 99) = true) (h4 : ws.length ≤ 4) (hx : x.all (inB (-9) 9) = true) : wdot 0 ws x = dot ws x ∧ -3564 ≤ wdot 0 ws x ∧ wdot 0 ws x ≤ 3564:=by
 have b : ∀ i (h : i < ws.length) (h' : i < x.length),-891 ≤ ws[i] * x[i] ∧ ws[i] * x[i] ≤ 891:=fun i h h'=>by
  have q1:=all_range hw i h
  have q2:=all_range hx i h'
  have:=mul_range (a:=ws[i]) (b:=x[i]) (A:=99) (B:=9) (by omega) (by omega)
  omega
 have e:=wdot_eq (M:=891) (by omega) ws x 0 (by omega) b (by omega) (by omega)
 have r:=dot_range (M:=891) (by omega) ws x 4 h4 b
 rw [e]
 refine ⟨by omega,by omega,by omega⟩
theorem spec_l2Labels_l : ∀ (k i : Nat) (l : List Int),l.length ≤ 4611686018427387904 → i ≤ l.length → l.length < i + k → spec_l2Labels.l0 k l (i : Int) = some ((l.drop i).all lbB)
|0,_,_,_,_,hk=>by omega
|k + 1,i,l,hn,hi',hk=>by
  simp only [spec_l2Labels.l0]
  by_cases h : i < l.length
  ·rw [if_pos (by omega),if_pos (by omega),rd_nat l i h,w64_nat (by omega),List.drop_eq_getElem_cons h,List.all_cons,spec_l2Labels_l k (i + 1) l hn (by omega) (by omega)]
   by_cases e1 : l[i] = 1
   ·rw [if_pos e1]
    simp [lbB,e1]
   ·by_cases e2 : l[i] = -1
    ·rw [if_neg e1,if_pos e2]
     simp [lbB,e2]
    ·rw [if_neg e1,if_neg e2]
     simp [lbB,e1,e2]
  ·rw [if_neg (by omega),List.drop_of_length_le (by omega)]
   simp
theorem spec_l2Labels_is (k : Nat) (l : List Int) (hn : l.length ≤ 4611686018427387904) (hk : l.length < k) : spec_l2Labels.f k l = some (l.all lbB):=by
 unfold spec_l2Labels.f
 have:=spec_l2Labels_l k 0 l hn (by omega) (by omega)
 simpa using this
theorem spec_l2Numbers_l : ∀ (k i : Nat) (l : List Int) (m : Int),-4611686018427387904 ≤ m → m ≤ 4611686018427387904 → l.length ≤ 4611686018427387904 → i ≤ l.length → l.length < i + k → spec_l2Numbers.l0 k l m (i : Int) = some ((l.drop i).all (inB (-m) m))
|0,_,_,_,_,_,_,_,hk=>by omega
|k + 1,i,l,m,h1,h2,hn,hi,hk=>by
  simp only [spec_l2Numbers.l0]
  by_cases h : i < l.length
  ·rw [if_pos (by omega),if_pos (by omega),spec_l1In_is,rd_nat l i h,w64_nat (by omega),w64 (by omega) (by omega),List.drop_eq_getElem_cons h,List.all_cons,spec_l2Numbers_l k (i + 1) l m h1 h2 hn (by omega) (by omega)]
   simp only [Option.bind_some]
   by_cases e : inB (-m) m l[i] = true
   ·rw [if_pos e,e]
    simp
   ·rw [if_neg e]
    simp [e]
  ·rw [if_neg (by omega),List.drop_of_length_le (by omega)]
   simp
theorem spec_l2Numbers_is (k : Nat) (l : List Int) (m : Int) (h1 : -4611686018427387904 ≤ m) (h2 : m ≤ 4611686018427387904) (hn : l.length ≤ 4611686018427387904) (hk : l.length < k) : spec_l2Numbers.f k l m = some (l.all (inB (-m) m)):=by
 unfold spec_l2Numbers.f
 have:=spec_l2Numbers_l k 0 l m h1 h2 hn (by omega) (by omega)
 simpa using this
theorem spec_l2Point_is (k : Nat) (l : List Int) (hn : l.length ≤ 4611686018427387904) (hk : l.length < k) : spec_l2Point.f k l = some (ptB l):=by
 unfold spec_l2Point.f ptB
 rw [spec_l1In_is,spec_l2Numbers_is k l 9 (by omega) (by omega) hn hk]
 simp only [Option.bind_some]
 cases inB 1 4 (l.length : Int) <;> simp
theorem spec_l2Sample_l (k0 : Nat) (hk0 : 1048576 < k0) : ∀ (k i : Nat) (l : List (List Int)) (m : List Int),l.length ≤ 16 → (∀ r ∈ l,r.length ≤ 1048576) → i ≤ l.length → l.length < i + k → spec_l2Sample.l0 (k + k0) (i : Int) l m = some ((l.drop i).all fun x=>ptB x && decide (x.length = (l.headD []).length))
|0,i,l,m,_,_,_,hk=>by omega
|k + 1,i,l,m,hn,hr,hi,hk=>by
  rw [show k + 1 + k0 = (k + k0) + 1 by omega]
  simp only [spec_l2Sample.l0]
  by_cases h : i < l.length
  ·have e : rd_L1 l (i : Int) = l[i]:=by simp [rd_L1,h]
   have e0 : rd_L1 l 0 = l.headD []:=by cases l <;> simp [rd_L1]
   have hx:=hr l[i] (List.getElem_mem h)
   rw [if_pos (by omega),if_pos (by omega),e,spec_l2Point_is (k + k0) l[i] (by omega) (by omega),e0]
   simp only [Option.bind_some]
   rw [List.drop_eq_getElem_cons h,List.all_cons]
   by_cases c1 : ptB l[i] = true
   ·rw [if_pos c1,if_pos (by omega),c1,Bool.true_and]
    by_cases c2 : l[i].length = (l.headD []).length
    ·rw [if_pos (by omega),w64_nat (by omega),spec_l2Sample_l k0 hk0 k (i + 1) l m hn hr (by omega) (by omega)]
     simp [c2]
    ·rw [if_neg (by omega)]
     simp only [c2,decide_false,Bool.false_and,Bool.and_false]
   ·rw [if_neg c1]
    simp [c1]
  ·rw [if_neg (by omega),List.drop_of_length_le (by omega)]
   simp
theorem spec_l2Sample_is (k : Nat) (l : List (List Int)) (m : List Int) (hr : ∀ r ∈ l,r.length ≤ 1048576) (hm : m.length ≤ 1048576) (hk : 1048600 < k) : spec_l2Sample.f k l m = some (smB l m):=by
 obtain ⟨k,rfl⟩ : ∃ q,k = q + 1:=⟨k - 1,by omega⟩
 unfold spec_l2Sample.f smB
 by_cases c1 : l.length ≤ 16
 ·rw [if_neg (by omega)]
  by_cases c2 : m.length = l.length
  ·rw [if_pos (by omega),spec_l2Labels_is _ m (by omega) (by omega)]
   simp only [Option.bind_some,spec_l2Sample.j0]
   have:=spec_l2Sample_l (k - 17) (by omega) 17 0 l m c1 hr (by omega) (by omega)
   rw [show 17 + (k - 17) = k by omega] at this
   rw [show ((0 : Nat) : Int) = 0 from rfl] at this
   rw [this]
   cases e : m.all lbB
   ·simp
   ·simp [c1,c2]
  ·rw [if_neg (by omega)]
   simp [spec_l2Sample.j0,c2]
 ·rw [if_pos (by omega)]
  simp [spec_l2Sample.j0,c1]
theorem spec_l2Plane_is (k : Nat) (ws : List Int) (b : Int) (hn : ws.length ≤ 4611686018427387904) (hk : ws.length < k) : spec_l2Plane.f k ws b = some (plB ws b):=by
 unfold spec_l2Plane.f plB
 rw [spec_l1In_is,spec_l2Numbers_is k ws 99 (by omega) (by omega) hn hk,spec_l1In_is]
 simp only [Option.bind_some]
 cases inB 1 4 (ws.length : Int) <;> cases ws.all (inB (-99) 99) <;> simp
theorem impl_within_is (a lo hi : Int) : impl_within.f a lo hi = some (inB lo hi a):=by
 unfold impl_within.f
 exact within_is a lo hi
theorem impl_allWithin_l : ∀ (k i : Nat) (l : List Int) (lo hi : Int),l.length ≤ 4611686018427387904 → i ≤ l.length → l.length < i + k → impl_allWithin.l0 k lo hi l (l.length : Int) (i : Int) = some ((l.drop i).all (inB lo hi))
|0,_,_,_,_,_,_,hk=>by omega
|k + 1,i,l,lo,hi,hn,hi',hk=>by
  simp only [impl_allWithin.l0]
  by_cases h : i < l.length
  ·rw [if_pos (by omega),if_pos (by omega),if_pos (by omega),impl_within_is,rd_nat l i h,w64_nat (by omega),List.drop_eq_getElem_cons h,List.all_cons,impl_allWithin_l k (i + 1) l lo hi hn (by omega) (by omega)]
   simp only [Option.bind_some]
   by_cases e : inB lo hi l[i] = true
   ·rw [if_pos e,e]
    simp
   ·rw [if_neg e]
    simp [e]
  ·rw [if_neg (by omega),List.drop_of_length_le (by omega)]
   simp
theorem impl_allWithin_is (k : Nat) (l : List Int) (lo hi : Int) (hn : l.length ≤ 4611686018427387904) (hk : l.length < k) : impl_allWithin.f k l lo hi = some (l.all (inB lo hi)):=by
 unfold impl_allWithin.f
 have:=impl_allWithin_l k 0 l lo hi hn (by omega) (by omega)
 simpa using this
theorem impl_IsPoint_is (k : Nat) (l : List Int) (hn : l.length ≤ 4611686018427387904) (hk : l.length < k) : impl_IsPoint.f k l = some (ptB l):=by
 unfold impl_IsPoint.f ptB
 rw [impl_within_is,impl_allWithin_is k l (-9) 9 hn hk]
 simp only [Option.bind_some]
 cases inB 1 4 (l.length : Int) <;> simp
theorem impl_isLabel_is (a : Int) : impl_isLabel.f a = some (lbB a):=by
 unfold impl_isLabel.f lbB
 by_cases e1 : a = 1
 ·rw [if_pos e1]
  simp [e1]
 ·rw [if_neg e1]
  congr 1
  by_cases e2 : a = -1
  ·simp [e2]
  ·simp [e1,e2]
theorem impl_IsSample_l (k0 : Nat) (hk0 : 1048576 < k0) : ∀ (k i : Nat) (l : List (List Int)) (m : List Int),l.length ≤ 16 → m.length = l.length → (∀ r ∈ l,r.length ≤ 1048576) → i ≤ l.length → l.length < i + k → impl_IsSample.l0 (k + k0) l (l.length : Int) (i : Int) l m = some ((m.drop i).all lbB && (l.drop i).all fun x=>ptB x && decide (x.length = (l.headD []).length))
|0,i,l,m,_,_,_,_,hk=>by omega
|k + 1,i,l,m,hn,hm,hr,hi,hk=>by
  rw [show k + 1 + k0 = (k + k0) + 1 by omega]
  simp only [impl_IsSample.l0]
  by_cases h : i < l.length
  ·have h' : i < m.length:=by omega
   have e : rd_L1 l (i : Int) = l[i]:=by simp [rd_L1,h]
   have e0 : rd_L1 l 0 = l.headD []:=by cases l <;> simp [rd_L1]
   have hx:=hr l[i] (List.getElem_mem h)
   rw [if_pos (by omega),if_pos (by omega),if_pos (by omega),e,impl_IsPoint_is (k + k0) l[i] (by omega) (by omega),e0]
   simp only [Option.bind_some]
   rw [List.drop_eq_getElem_cons h,List.all_cons,List.drop_eq_getElem_cons h',List.all_cons]
   by_cases c1 : ptB l[i] = true
   ·rw [if_pos c1,if_pos (by omega),c1,Bool.true_and]
    by_cases c2 : l[i].length = (l.headD []).length
    ·rw [if_pos (by omega),if_pos (by omega),impl_isLabel_is,rd_nat m i h',w64_nat (by omega),impl_IsSample_l k0 hk0 k (i + 1) l m hn hm hr (by omega) (by omega)]
     simp only [Option.bind_some]
     by_cases c3 : lbB m[i] = true
     ·rw [if_pos c3,c3]
      simp [c2]
     ·rw [if_neg c3]
      simp [c3]
    ·rw [if_neg (by omega)]
     simp only [c2,decide_false,Bool.false_and,Bool.and_false]
   ·rw [if_neg c1]
    simp [c1]
  ·rw [if_neg (by omega),List.drop_of_length_le (by omega),List.drop_of_length_le (by omega)]
   simp
theorem impl_IsSample_is (k : Nat) (l : List (List Int)) (m : List Int) (hr : ∀ r ∈ l,r.length ≤ 1048576) (hm : m.length ≤ 1048576) (hk : 1048600 < k) : impl_IsSample.f k l m = some (smB l m):=by
 obtain ⟨k,rfl⟩ : ∃ q,k = q + 1:=⟨k - 1,by omega⟩
 unfold impl_IsSample.f smB
 by_cases c1 : l.length ≤ 16
 ·rw [if_neg (by omega)]
  simp only [impl_IsSample.j0]
  by_cases c2 : m.length = l.length
  ·rw [if_neg (by simp [c2])]
   have:=impl_IsSample_l (k - 17) (by omega) 17 0 l m c1 c2 hr (by omega) (by omega)
   rw [show 17 + (k - 17) = k by omega] at this
   rw [show ((0 : Nat) : Int) = 0 from rfl] at this
   rw [this]
   simp [c1,c2]
  ·rw [if_pos (by simp;omega)]
   simp [c2]
 ·rw [if_pos (by omega)]
  simp [impl_IsSample.j0,c1]
theorem impl_product_l : ∀ (k i : Nat) (x y : List Int) (s : Int),x.length ≤ 4611686018427387904 → x.length ≤ y.length → i ≤ x.length → x.length < i + k → impl_product.l0 k y s x (x.length : Int) (i : Int) = some (wdot s (x.drop i) (y.drop i))
|0,_,_,_,_,_,_,_,hk=>by omega
|k + 1,i,x,y,s,hn,hl,hi,hk=>by
  simp only [impl_product.l0]
  by_cases h : i < x.length
  ·have hy' : i < y.length:=by omega
   rw [if_pos (by omega),if_pos (by omega),if_pos (by omega),if_pos (by omega),rd_nat x i h,rd_nat y i hy',w64_nat (by omega)]
   rw [impl_product_l k (i + 1) x y _ hn hl (by omega) (by omega),List.drop_eq_getElem_cons h,List.drop_eq_getElem_cons hy']
   simp only [wdot]
  ·rw [if_neg (by omega),List.drop_of_length_le (by omega)]
   simp [wdot]
theorem impl_product_is (k : Nat) (x y : List Int) (hn : x.length ≤ 4611686018427387904) (hl : x.length ≤ y.length) (hk : x.length < k) : impl_product.f k x y = some (wdot 0 x y):=by
 unfold impl_product.f
 have:=impl_product_l k 0 x y 0 hn hl (by omega) (by omega)
 simpa using this
theorem impl_Sample_between_l (ws : List Int) (ps : List (List Int)) (ls : List Int) (h16 : ps.length ≤ 16) (hl : ls.length = ps.length) (hw : ws.length ≤ 4) (hx : ∀ x ∈ ps,x.length = ws.length) : ∀ (m k i : Nat) (lo hi : Int),i + m = ps.length → 10 ≤ k → impl_Sample_between.l0 (k + m + 1) ws hi lo ps (ps.length : Int) (i : Int) ps ls = some ((endsL ws (ps.drop i) (ls.drop i) lo hi).2,(endsL ws (ps.drop i) (ls.drop i) lo hi).1)
|0,k,i,lo,hi,hi',hk=>by
  rw [impl_Sample_between.l0,if_neg (by omega),List.drop_of_length_le (by omega)]
  rfl
|m + 1,k,i,lo,hi,hi',hk=>by
  have h1 : i < ps.length:=by omega
  have h2 : i < ls.length:=by omega
  have e : rd_L1 ps (i : Int) = ps[i]:=by simp [rd_L1,h1]
  have q:=hx ps[i] (List.getElem_mem h1)
  have e1 : mn lo (wdot 0 ws ps[i]) = min lo (wdot 0 ws ps[i]):=by
   unfold mn
   split <;> omega
  have e2 : mx hi (wdot 0 ws ps[i]) = max hi (wdot 0 ws ps[i]):=by
   unfold mx
   split <;> omega
  rw [show k + (m + 1) + 1 = (k + m + 1) + 1 by omega,impl_Sample_between.l0,if_pos (by omega),if_pos (by omega),if_pos (by omega),e,impl_product_is _ ws _ (by omega) (by omega) (by omega),w64_nat (by omega),rd_nat ls i h2]
  simp only [Option.bind_some]
  rw [if_pos (by omega),e1,e2]
  rw [impl_Sample_between_l ws ps ls h16 hl hw hx m k (i + 1) _ _ (by omega) hk,impl_Sample_between_l ws ps ls h16 hl hw hx m k (i + 1) _ _ (by omega) hk,List.drop_eq_getElem_cons h1,List.drop_eq_getElem_cons h2]
  simp only [endsL]
  split <;> rfl
theorem impl_Sample_between_is (k : Nat) (ps : List (List Int)) (ls ws : List Int) (h16 : ps.length ≤ 16) (hl : ls.length = ps.length) (hw : ws.length ≤ 4) (hx : ∀ x ∈ ps,x.length = ws.length) (hk : 100 < k) : impl_Sample_between.f k ps ls ws = some ((endsL ws ps ls 1000000000 (-1000000000)).2,(endsL ws ps ls 1000000000 (-1000000000)).1):=by
 unfold impl_Sample_between.f
 have:=impl_Sample_between_l ws ps ls h16 hl hw hx ps.length (k - ps.length - 1) 0 1000000000 (-1000000000) (by omega) (by omega)
 rw [show k - ps.length - 1 + ps.length + 1 = k by omega] at this
 exact this
theorem impl_copied_is (l : List Int) (h : l.length < 17592186044416) : impl_copied.f l = some l:=by
 unfold impl_copied.f
 simp only [Option.bind_some]
 rw [if_pos (by simpa using h)]
 simp
theorem laws_eqPlane_same (k : Nat) (ws : List Int) (b : Int) (hn : ws.length ≤ 4611686018427387904) (hk : ws.length < k) : laws_eqPlane.f k ws b ws b = some true:=by
 unfold laws_eqPlane.f
 rw [laws_eqIntS_same k ws hn hk]
 simp
theorem laws_markPlane_is (k : Nat) (l : List Int) (b a : Int) (h1 : -4611686018427387904 ≤ a) (h2 : a + l.length ≤ 4611686018427387904) (h3 : l.length ≤ 4611686018427387904) (hk : l.length < k) : laws_markPlane.f k l b a = some (a + l.length,marks a l.length):=by
 unfold laws_markPlane.f
 rw [laws_markIntS_is k l a h1 h2 h3 hk]
 rfl
theorem laws_heldIntS_l : ∀ (k n i : Nat) (a b : Int),-4611686018427387904 ≤ a → a + n ≤ 4611686018427387904 → n ≤ 4611686018427387904 → i ≤ n → n < i + k → b = a + i → laws_heldIntS.l0 k (marks a n) b (i : Int) = some (a + n)
|0,_,_,_,_,_,_,_,_,hk,_=>by omega
|k + 1,n,i,a,b,h1,h2,h3,hi,hk,hb=>by
  simp only [laws_heldIntS.l0,marks_length]
  by_cases h : i < n
  ·rw [if_pos (by omega),if_pos (by omega),rd_nat _ i (by rw [marks_length];exact h),marks_get,if_pos hb.symm,w64_nat (by omega),w64 (by omega) (by omega)]
   exact laws_heldIntS_l k n (i + 1) a _ h1 h2 h3 (by omega) (by omega) (by omega)
  ·rw [if_neg (by omega)]
   congr 1
   omega
theorem laws_heldIntS_is (k n : Nat) (a : Int) (h1 : -4611686018427387904 ≤ a) (h2 : a + n ≤ 4611686018427387904) (h3 : n ≤ 4611686018427387904) (hk : n < k) : laws_heldIntS.f k (marks a n) a = some (a + n):=by
 unfold laws_heldIntS.f
 exact laws_heldIntS_l k n 0 a a h1 h2 h3 (by omega) (by omega) (by omega)
theorem laws_heldPlane_is (k n : Nat) (b a : Int) (h0 : 0 ≤ a) (h2 : a + n ≤ 4611686018427387904) (h3 : n ≤ 4611686018427387904) (hk : n < k) : laws_heldPlane.f k (marks a n) b a = some (a + n):=by
 unfold laws_heldPlane.f
 rw [laws_heldIntS_is k n a (by omega) h2 h3 hk]
 simp only [Option.bind_some]
 rw [if_neg (by omega)]
theorem ev_of {α : Type} {g : Nat → Option α} {r : α} (B : Nat) (h : ∀ k,B < k → g k = some r) : Ev g r:=⟨B + 1,fun k hk=>h k (by omega)⟩
theorem ev_const {α : Type} (r : α) : Ev (fun _=>some r) r:=Ev.now r
theorem ev_if_pos {α : Type} {c : Prop} [Decidable c] {f g : Nat → Option α} {r : α} (h : c) (k : Ev f r) : Ev (fun n=>if c then f n else g n) r:=Ev.congr (fun n=>if_pos h) k
theorem ev_if_neg {α : Type} {c : Prop} [Decidable c] {f g : Nat → Option α} {r : α} (h : ¬ c) (k : Ev g r) : Ev (fun n=>if c then f n else g n) r:=Ev.congr (fun n=>if_neg h) k
def wtL (m : Nat) : Nat → List Int → List (List Int)
|0,b=>[b]
|d + 1,b=>(List.range (2 * m + 1)).flatMap fun i : Nat=>wtL m d (b ++ [(i : Int) - m])
def wtF (m d : Nat) (b : List Int) : Nat → Nat → List (List Int)
|0,_=>[]
|j + 1,i=>wtL m d (b ++ [(i : Int) - m]) ++ wtF m d b j (i + 1)
theorem wtF_range (m d : Nat) (b : List Int) : ∀ j i,wtF m d b j i = (List.range' i j).flatMap fun i : Nat=>wtL m d (b ++ [(i : Int) - m])
|0,i=>rfl
|j + 1,i=>by
  rw [wtF,wtF_range m d b j (i + 1),List.range'_succ,List.flatMap_cons]
theorem wtL_succ (m d : Nat) (b : List Int) : wtL m (d + 1) b = wtF m d b (2 * m + 1) 0:=by
 rw [wtF_range,wtL,List.range_eq_range']
theorem wtF_snoc (m d : Nat) (b : List Int) : ∀ i j,wtF m d b (i + 1) j = wtF m d b i j ++ wtL m d (b ++ [((j + i : Nat) : Int) - m])
|0,j=>by simp [wtF]
|i + 1,j=>by
  rw [wtF,wtF_snoc m d b i (j + 1),wtF,List.append_assoc,show j + 1 + i = j + (i + 1) by omega]
section
variable {σ : Type} {V : Nat → σ → List Int → Option σ} {st : σ → List Int → σ} {N m : Nat}
def swC (V : Nat → σ → List Int → Option σ) (N m : Nat) (s : σ) (b : List Int) (d : Nat) (out : σ) : Prop :=
 ∃ r : List Int × Int,Ev (fun k=>impl_smallWeights.g0 (N : Int) (m : Int) k (b ++ List.replicate d (-(m : Int))) ((b.length : Int) - 1)) r ∧ Ev (fun k=>if r.2 < 0 then some s else (if r.2 < (N : Int) then impl_smallWeights.l0 V (N : Int) (m : Int) k s (r.1.set r.2.toNat (wrap64 (rd r.1 r.2 + 1))) else none)) out
theorem sw_row (b : List Int) (v : Int) (t : List Int) : rd (b ++ v :: t) (b.length : Int) = v:=by
 simp [rd]
theorem sw_put (b : List Int) (v u : Int) (t : List Int) : (b ++ v :: t).set b.length u = b ++ u :: t:=by
 simp
theorem sw_all (hm : m ≤ 1000) (hN : N ≤ 1000) (hV : ∀ s S,S.length = N → (∀ x ∈ S,-(m : Int) ≤ x ∧ x ≤ (m : Int)) → Ev (fun k=>V k s S) (st s S)) : ∀ (d : Nat) (b : List Int) (s : σ) (out : σ),b.length + d = N → (∀ x ∈ b,-(m : Int) ≤ x ∧ x ≤ (m : Int)) →
  swC V N m ((wtL m d b).foldl st s) b d out → Ev (fun k=>impl_smallWeights.l0 V (N : Int) (m : Int) k s (b ++ List.replicate d (-(m : Int)))) out
|0,b,s,out,hd,hb,⟨r,h1,h2⟩=>by
  rw [List.replicate_zero,List.append_nil] at h1 ⊢
  rw [show (b.length : Int) - 1 = wrap64 ((N : Int) - 1) by rw [w64 (x:=(N : Int) - 1) (by omega) (by omega)];omega] at h1
  exact Ev.step (f:=fun k=>(V k s b).bind fun s1=>(impl_smallWeights.g0 (N : Int) (m : Int) k b (wrap64 ((N : Int) - 1))).bind fun r=>(if r.2 < 0 then some s1 else (if r.2 < (N : Int) then impl_smallWeights.l0 V (N : Int) (m : Int) k s1 (r.1.set r.2.toNat (wrap64 (rd r.1 r.2 + 1))) else none))) (fun k=>by rw [impl_smallWeights.l0]) (Ev.bind (hV s b (by omega) hb) (Ev.bind h1 h2))
|d + 1,b,s,out,hd,hb,h=>by
  have hb2 : ∀ i : Nat,i ≤ 2 * m → ∀ x ∈ b ++ [(i : Int) - m],-(m : Int) ≤ x ∧ x ≤ (m : Int):=fun i hi x hx=>by
   rcases List.mem_append.1 hx with hx|hx
   ·exact hb x hx
   ·rw [List.mem_singleton.1 hx]
    omega
  have go : ∀ (j i : Nat) (s : σ),i + (j + 1) = 2 * m + 1 → swC V N m ((wtF m d b (j + 1) i).foldl st s) b (d + 1) out → Ev (fun k=>impl_smallWeights.l0 V (N : Int) (m : Int) k s (b ++ ((i : Int) - m) :: List.replicate d (-(m : Int)))) out:=fun j=>by
   induction j with
  |zero =>
    intro i s hi h
    rw [wtF,wtF,List.append_nil] at h
    obtain ⟨r,h1,h2⟩:=h
    have:=sw_all hm hN hV d (b ++ [(i : Int) - m]) s out (by rw [List.length_append,List.length_singleton];omega) (hb2 i (by omega)) ?_
    ·rwa [List.append_assoc,List.singleton_append] at this
    ·refine ⟨r,Ev.step (fun k=>?_) h1,h2⟩
     rw [List.append_assoc,List.singleton_append,List.length_append,List.length_singleton,show ((b.length + 1 : Nat) : Int) - 1 = (b.length : Int) by omega]
     rw [impl_smallWeights.g0,if_pos (by omega),if_pos (by omega),sw_row,if_pos (by omega),Int.toNat_natCast,sw_put,w64 (x:=-(m : Int)) (by omega) (by omega),w64 (x:=(b.length : Int) - 1) (by omega) (by omega),List.replicate_succ]
  |succ j ih =>
    intro i s hi h
    rw [wtF,List.foldl_append] at h
    have rest:=ih (i + 1) _ (by omega) h
    have:=sw_all hm hN hV d (b ++ [(i : Int) - m]) s out (by rw [List.length_append,List.length_singleton];omega) (hb2 i (by omega)) ?_
    ·rwa [List.append_assoc,List.singleton_append] at this
    ·refine ⟨(b ++ ((i : Int) - m) :: List.replicate d (-(m : Int)),(b.length : Int)),Ev.step (f:=fun _=>some (b ++ ((i : Int) - m) :: List.replicate d (-(m : Int)),(b.length : Int))) (fun k=>?_) (ev_const _),?_⟩
     ·rw [List.append_assoc,List.singleton_append,List.length_append,List.length_singleton,show ((b.length + 1 : Nat) : Int) - 1 = (b.length : Int) by omega]
      rw [impl_smallWeights.g0,if_pos (by omega),if_pos (by omega),sw_row,if_neg (by omega)]
     ·refine ev_if_neg (by show ¬ ((b.length : Int) < 0);omega) (ev_if_pos (by show (b.length : Int) < (N : Int);omega) ?_)
      show Ev (fun k=>impl_smallWeights.l0 V (N : Int) (m : Int) k _ ((b ++ ((i : Int) - m) :: List.replicate d (-(m : Int))).set (b.length : Int).toNat (wrap64 (rd (b ++ ((i : Int) - m) :: List.replicate d (-(m : Int))) (b.length : Int) + 1)))) out
      rw [sw_row,Int.toNat_natCast,sw_put,w64 (x:=(i : Int) - m + 1) (by omega) (by omega),show (i : Int) - m + 1 = ((i + 1 : Nat) : Int) - m by omega]
      exact rest
  rw [List.replicate_succ,show -(m : Int) :: List.replicate d (-(m : Int)) = (((0 : Nat) : Int) - m) :: List.replicate d (-(m : Int)) by rw [show ((0 : Nat) : Int) - m = -(m : Int) by omega]]
  rw [wtL_succ] at h
  exact go (2 * m) 0 s (by omega) h
theorem sw_fill (hm : m ≤ 1000) (hN : N ≤ 1000) : ∀ (j i : Nat),i + j = N → Ev (fun k=>impl_smallWeights.f0 (N : Int) (m : Int) k (List.replicate i (-(m : Int)) ++ List.replicate j 0) (i : Int)) (List.replicate N (-(m : Int)))
|0,i,hj=>by
  obtain rfl : i = N:=by omega
  refine Ev.step (f:=fun _=>some (List.replicate i (-(m : Int)))) (fun k=>?_) (ev_const _)
  rw [impl_smallWeights.f0,if_neg (by omega),List.replicate_zero,List.append_nil]
|j + 1,i,hj=>by
  refine Ev.step (fun k=>?_) (sw_fill hm hN j (i + 1) (by omega))
  have:=sw_put (List.replicate i (-(m : Int))) 0 (-(m : Int)) (List.replicate j 0)
  rw [List.length_replicate] at this
  rw [impl_smallWeights.f0,if_pos (by omega),if_pos (by omega),Int.toNat_natCast,List.replicate_succ,w64 (x:=-(m : Int)) (by omega) (by omega),this,w64_nat (by omega),List.replicate_succ',List.append_assoc,List.singleton_append]
theorem impl_smallWeights_ev (hm : m ≤ 1000) (hN : N ≤ 1000) (h1 : 1 ≤ N) (hV : ∀ s S,S.length = N → (∀ x ∈ S,-(m : Int) ≤ x ∧ x ≤ (m : Int)) → Ev (fun k=>V k s S) (st s S)) (s : σ) : Ev (fun k=>impl_smallWeights.f V k s (N : Int) (m : Int)) ((wtL m N []).foldl st s):=by
 unfold impl_smallWeights.f
 refine ev_if_pos (by omega) (ev_if_pos (by omega) ?_)
 rw [Int.toNat_natCast]
 refine Ev.bind (sw_fill hm hN N 0 (by omega)) ?_
 refine sw_all hm hN hV N [] s _ (by simp) (by simp) ⟨(List.replicate N (-(m : Int)),-1),Ev.step (f:=fun _=>some (List.replicate N (-(m : Int)),-1)) (fun k=>?_) (ev_const _),ev_if_pos (by show (-1 : Int) < 0;omega) (ev_const _)⟩
 show impl_smallWeights.g0 (N : Int) (m : Int) (k + 1) (List.replicate N (-(m : Int))) (-1) = _
 rw [impl_smallWeights.g0,if_neg (by omega)]
end
theorem wt_len (m : Nat) : ∀ d,(∀ b,(wtL m d b).length = (2 * m + 1) ^ d) ∧ ∀ b j i,(wtF m d b j i).length = j * (2 * m + 1) ^ d
|0=>⟨fun b=>by simp [wtL],fun b j=>by
  induction j with
 |zero=>intro i;simp [wtF]
 |succ j ih=>intro i;rw [wtF,List.length_append,ih,wtL];simp;omega⟩
|d + 1=>by
  have a : ∀ b,(wtL m (d + 1) b).length = (2 * m + 1) ^ (d + 1):=fun b=>by
   rw [wtL_succ,(wt_len m d).2,Nat.pow_succ,Nat.mul_comm]
  refine ⟨a,fun b j=>?_⟩
  induction j with
 |zero=>intro i;simp [wtF]
 |succ j ih =>
   intro i
   rw [wtF,List.length_append,ih,a,Nat.add_mul,Nat.one_mul,Nat.add_comm]
theorem l4w_ev (N m : Nat) (hm : m ≤ 1000) (hN : N ≤ 1000) : ∀ (d : Nat) (b : List Int),(2 * m + 1) ^ d ≤ 1000000 → b.length + d = N → Ev (fun k=>spec_l4Weights.f k (N : Int) (m : Int) b) (wtL m d b)
|0,b,hB,hb=>by
  refine Ev.step (f:=fun _=>some [b]) (fun k=>?_) (ev_const _)
  rw [spec_l4Weights.f,if_pos (by omega)]
|d + 1,b,hB,hb=>by
  have hp : (2 * m + 1) ^ (d + 1) = (2 * m + 1) * (2 * m + 1) ^ d:=by rw [Nat.pow_succ,Nat.mul_comm]
  have hd : (2 * m + 1) ^ d ≤ 1000000:=Nat.le_trans (Nat.pow_le_pow_right (by omega) (Nat.le_succ d)) hB
  have go : ∀ (j i : Nat) (acc : List (List Int)),i + j = 2 * m + 1 → acc = wtF m d b i 0 → Ev (fun k=>spec_l4Weights.l0 k (N : Int) (m : Int) b acc ((i : Int) - m)) (acc ++ wtF m d b j i):=fun j=>by
   induction j with
  |zero =>
    intro i acc hi ha
    refine Ev.step (f:=fun _=>some acc) (fun k=>?_) ?_
    ·rw [spec_l4Weights.l0,if_neg (by omega)]
    ·rw [wtF,List.append_nil]
     exact ev_const _
  |succ j ih =>
    intro i acc hi ha
    have la : acc.length ≤ 1000000:=by
     rw [ha,(wt_len m d).2]
     exact Nat.le_trans (Nat.mul_le_mul_right _ (by omega)) (Nat.le_trans (Nat.le_of_eq hp.symm) hB)
    have lw:=(wt_len m d).1 (b ++ [(i : Int) - m])
    have rec_:=l4w_ev N m hm hN d (b ++ [(i : Int) - m]) hd (by rw [List.length_append,List.length_singleton];omega)
    refine Ev.step (f:=fun k=>(spec_l4Weights.f k (N : Int) (m : Int) (b ++ [(i : Int) - m])).bind fun t124=>(if acc.length + t124.length < 5864062014805 then (spec_l4Weights.l0 k (N : Int) (m : Int) b (acc ++ t124) (wrap64 ((i : Int) - m + 1))) else (none))) (fun k=>?_) (Ev.bind rec_ (ev_if_pos (by omega) ?_))
    ·rw [spec_l4Weights.l0,if_pos (by omega),spec_l1Own_is b (by omega)]
     simp only [Option.bind_some]
     rw [if_pos (by omega)]
    ·have:=ih (i + 1) (acc ++ wtL m d (b ++ [(i : Int) - m])) (by omega) (by rw [ha,wtF_snoc,Nat.zero_add])
     rw [w64 (x:=(i : Int) - m + 1) (by omega) (by omega),show (i : Int) - m + 1 = ((i + 1 : Nat) : Int) - m by omega]
     rw [List.append_assoc] at this
     exact this
  refine Ev.step (f:=fun k=>spec_l4Weights.l0 k (N : Int) (m : Int) b [] (((0 : Nat) : Int) - m)) (fun k=>?_) ?_
  ·rw [spec_l4Weights.f,if_neg (by omega),w64 (x:=-(m : Int)) (by omega) (by omega),show ((0 : Nat) : Int) - m = -(m : Int) by omega]
  ·have:=go (2 * m + 1) 0 [] (by omega) rfl
   rw [List.nil_append] at this
   rw [wtL_succ]
   exact this
theorem wt_memF (m d : Nat) (a : ∀ b,∀ S ∈ wtL m d b,S.length = b.length + d ∧ ((∀ x ∈ b,-(m : Int) ≤ x ∧ x ≤ (m : Int)) → ∀ x ∈ S,-(m : Int) ≤ x ∧ x ≤ (m : Int))) : ∀ b j i,i + j ≤ 2 * m + 1 → ∀ S ∈ wtF m d b j i,S.length = b.length + (d + 1) ∧ ((∀ x ∈ b,-(m : Int) ≤ x ∧ x ≤ (m : Int)) → ∀ x ∈ S,-(m : Int) ≤ x ∧ x ≤ (m : Int)):=fun b j=>by
 induction j with
|zero=>intro i _ S hS;simp [wtF] at hS
|succ j ih =>
  intro i hi S hS
  rw [wtF] at hS
  rcases List.mem_append.1 hS with hS|hS
  ·obtain ⟨q1,q2⟩:=a _ S hS
   rw [List.length_append,List.length_singleton] at q1
   refine ⟨by omega,fun hb=>q2 fun x hx=>?_⟩
   rcases List.mem_append.1 hx with hx|hx
   ·exact hb x hx
   ·rw [List.mem_singleton.1 hx]
    omega
  ·exact ih (i + 1) (by omega) S hS
theorem wt_mem (m : Nat) : ∀ d b,∀ S ∈ wtL m d b,S.length = b.length + d ∧ ((∀ x ∈ b,-(m : Int) ≤ x ∧ x ≤ (m : Int)) → ∀ x ∈ S,-(m : Int) ≤ x ∧ x ≤ (m : Int))
|0,b,S,hS=>by
  rw [wtL] at hS
  obtain rfl:=List.mem_singleton.1 hS
  exact ⟨rfl,fun h=>h⟩
|d + 1,b,S,hS=>by
  rw [wtL_succ] at hS
  exact wt_memF m d (wt_mem m d) b (2 * m + 1) 0 (by omega) S hS
theorem wt_pre (m : Nat) : ∀ (d : Nat) (b : List Int),∀ S ∈ wtL m d b,∀ x ∈ b,x ∈ S
|0,b,S,hS,x,hx=>by
  rw [wtL,List.mem_singleton] at hS
  rw [hS]
  exact hx
|d + 1,b,S,hS,x,hx=>by
  rw [wtL,List.mem_flatMap] at hS
  obtain ⟨i,_,hS⟩:=hS
  exact wt_pre m d _ S hS x (List.mem_append.2 (.inl hx))
theorem wtF_app (m d : Nat) (b : List Int) : ∀ (j c i : Nat),wtF m d b (j + c) i = wtF m d b j i ++ wtF m d b c (i + j)
|0,c,i=>by simp [wtF]
|j + 1,c,i=>by
  rw [show j + 1 + c = (j + c) + 1 by omega,wtF,wtF,wtF_app m d b j c (i + 1),List.append_assoc,show i + 1 + j = i + (j + 1) by omega]
theorem find_out (p : List Int → Bool) (s : Nat) (hp : ∀ S,p S = true → ∀ x ∈ S,-(s : Int) ≤ x ∧ x ≤ (s : Int)) (m d : Nat) (b : List Int) : ∀ (j i : Nat),(∀ t : Nat,i ≤ t → t < i + j → ¬ (-(s : Int) ≤ (t : Int) - m ∧ (t : Int) - m ≤ (s : Int))) → (wtF m d b j i).find? p = none
|0,i,_=>by simp [wtF]
|j + 1,i,h=>by
  rw [wtF,List.find?_append,find_out p s hp m d b j (i + 1) (fun t h1 h2=>h t (by omega) (by omega)),Option.or_none]
  refine List.find?_eq_none.2 fun S hS hq=>?_
  exact h i (Nat.le_refl _) (by omega) (hp S hq _ (wt_pre m d _ S hS _ (List.mem_append.2 (.inr (List.mem_singleton.2 rfl)))))
theorem find_wt (p : List Int → Bool) (s m : Nat) (hs : s ≤ m) (hp : ∀ S,p S = true → ∀ x ∈ S,-(s : Int) ≤ x ∧ x ≤ (s : Int)) : ∀ (d : Nat) (b : List Int),(wtL m d b).find? p = (wtL s d b).find? p
|0,b=>by rw [wtL,wtL]
|d + 1,b=>by
  have ih:=find_wt p s m hs hp d
  have mid : ∀ (j t : Nat),(wtF m d b j (m - s + t)).find? p = (wtF s d b j t).find? p:=fun j=>by
   induction j with
  |zero=>intro t;simp [wtF]
  |succ j jh =>
    intro t
    rw [wtF,wtF,List.find?_append,List.find?_append,show m - s + t + 1 = m - s + (t + 1) by omega,jh (t + 1),ih,show ((m - s + t : Nat) : Int) - m = (t : Int) - s by omega]
  rw [wtL_succ,wtL_succ,show 2 * m + 1 = (m - s) + ((2 * s + 1) + (m - s)) by omega,wtF_app,wtF_app,List.find?_append,List.find?_append,find_out p s hp m d b (m - s) 0 (fun t h1 h2=>by omega),find_out p s hp m d b (m - s) _ (fun t h1 h2=>by omega),Option.none_or,Option.or_none]
  have:=mid (2 * s + 1) 0
  rw [show m - s + 0 = 0 + (m - s) by omega] at this
  exact this
def grL : Int → List Int → Int
|a,[]=>a
|a,x :: l=>grL (max (max a x) (-x)) l
theorem gr_ge : ∀ (l : List Int) (a : Int),a ≤ grL a l ∧ ∀ x ∈ l,-(grL a l) ≤ x ∧ x ≤ grL a l
|[],a=>by simp [grL]
|y :: l,a=>by
  obtain ⟨h1,h2⟩:=gr_ge l (max (max a y) (-y))
  rw [grL]
  refine ⟨by omega,fun x hx=>?_⟩
  rcases List.mem_cons.1 hx with rfl|hx
  ·omega
  ·exact h2 x hx
theorem mx_max (a b : Int) : mx a b = max a b:=by
 unfold mx
 split <;> omega
theorem mn_min (a b : Int) : mn a b = min a b:=by
 unfold mn
 split <;> omega
theorem impl_gr_l (S : List Int) (hl : S.length ≤ 1000) (hb : ∀ x ∈ S,-1000 ≤ x ∧ x ≤ 1000) : ∀ (j i : Nat) (a : Int),i + j = S.length → Ev (fun k=>impl_greatest.l0 k a S (S.length : Int) (i : Int)) (grL a (S.drop i))
|0,i,a,hj=>by
  rw [List.drop_of_length_le (by omega)]
  refine Ev.step (f:=fun _=>some a) (fun k=>?_) (ev_const _)
  rw [impl_greatest.l0,if_neg (by omega)]
|j + 1,i,a,hj=>by
  have hi : i < S.length:=by omega
  have hx:=hb S[i] (List.getElem_mem hi)
  rw [List.drop_eq_getElem_cons hi,grL]
  refine Ev.step (fun k=>?_) (impl_gr_l S hl hb j (i + 1) (max (max a S[i]) (-S[i])) (by omega))
  rw [impl_greatest.l0,if_pos (by omega),if_pos (by omega),if_pos (by omega),rd_nat S i hi,w64 (x:=-S[i]) (by omega) (by omega),mx_max,mx_max,w64_nat (by omega)]
theorem spec_gr_l (S : List Int) (hl : S.length ≤ 1000) (hb : ∀ x ∈ S,-1000 ≤ x ∧ x ≤ 1000) : ∀ (j i : Nat) (a : Int),i + j = S.length → Ev (fun k=>spec_l4Greatest.l0 k S a (i : Int)) (grL a (S.drop i))
|0,i,a,hj=>by
  rw [List.drop_of_length_le (by omega)]
  refine Ev.step (f:=fun _=>some a) (fun k=>?_) (ev_const _)
  rw [spec_l4Greatest.l0,if_neg (by omega)]
|j + 1,i,a,hj=>by
  have hi : i < S.length:=by omega
  have hx:=hb S[i] (List.getElem_mem hi)
  rw [List.drop_eq_getElem_cons hi,grL]
  refine Ev.step (fun k=>?_) (spec_gr_l S hl hb j (i + 1) (max (max a S[i]) (-S[i])) (by omega))
  rw [spec_l4Greatest.l0,if_pos (by omega),if_pos (by omega),rd_nat S i hi,w64 (x:=-S[i]) (by omega) (by omega),spec_l1Most_is,Option.bind_some,spec_l1Most_is,Option.bind_some,w64_nat (by omega),show max a (max S[i] (-S[i])) = max (max a S[i]) (-S[i]) by omega]
theorem gr_ev (S : List Int) (hl : S.length ≤ 1000) (hb : ∀ x ∈ S,-1000 ≤ x ∧ x ≤ 1000) : Ev (fun k=>impl_greatest.f k S) (grL 0 S) ∧ Ev (fun k=>spec_l4Greatest.f k S) (grL 0 S):=by
 have h1:=impl_gr_l S hl hb S.length 0 0 (by omega)
 have h2:=spec_gr_l S hl hb S.length 0 0 (by omega)
 rw [List.drop_zero] at h1 h2
 exact ⟨h1,h2⟩
theorem ends_two (ws : List Int) : ∀ (ps : List (List Int)) (ls : List Int) (lo lo' hi hi' : Int),(∀ x ∈ ps,-3564 ≤ wdot 0 ws x ∧ wdot 0 ws x ≤ 3564) → (lo = lo' ∧ -3564 ≤ lo ∧ lo ≤ 3564 ∨ lo = 1000000000 ∧ lo' = 100000) → (hi = hi' ∧ -3564 ≤ hi ∧ hi ≤ 3564 ∨ hi = -1000000000 ∧ hi' = -100000) →
  ((endsL ws ps ls lo hi).1 = (endsL ws ps ls lo' hi').1 ∧ -3564 ≤ (endsL ws ps ls lo hi).1 ∧ (endsL ws ps ls lo hi).1 ≤ 3564 ∨ (endsL ws ps ls lo hi).1 = 1000000000 ∧ (endsL ws ps ls lo' hi').1 = 100000) ∧
  ((endsL ws ps ls lo hi).2 = (endsL ws ps ls lo' hi').2 ∧ -3564 ≤ (endsL ws ps ls lo hi).2 ∧ (endsL ws ps ls lo hi).2 ≤ 3564 ∨ (endsL ws ps ls lo hi).2 = -1000000000 ∧ (endsL ws ps ls lo' hi').2 = -100000)
|[],ls,lo,lo',hi,hi',_,h1,h2=>by simp only [endsL];exact ⟨h1,h2⟩
|x :: ps,[],lo,lo',hi,hi',_,h1,h2=>by simp only [endsL];exact ⟨h1,h2⟩
|x :: ps,l :: ls,lo,lo',hi,hi',h,h1,h2=>by
  have hx:=h x (List.mem_cons_self ..)
  have ht : ∀ x ∈ ps,-3564 ≤ wdot 0 ws x ∧ wdot 0 ws x ≤ 3564:=fun y hy=>h y (List.mem_cons_of_mem _ hy)
  simp only [endsL]
  split
  ·exact ends_two ws ps ls _ _ _ _ ht (by omega) h2
  ·exact ends_two ws ps ls _ _ _ _ ht h1 (by omega)
def bdS (ps : List (List Int)) (ls S : List Int) : Int:=max (-99) ((endsL S ps ls 100000 (-100000)).2 + 1)
def fitS (ps : List (List Int)) (ls S : List Int) : Bool:=decide (bdS ps ls S ≤ (endsL S ps ls 100000 (-100000)).1 ∧ bdS ps ls S ≤ 99)
def stP (ps : List (List Int)) (ls : List Int) (s : List Int × Int × Int) (S : List Int) : List Int × Int × Int:=if grL 0 S < s.2.2 then (if fitS ps ls S = true then (S,bdS ps ls S,grL 0 S) else s) else s
structure Wq (ps : List (List Int)) (ls : List Int) (S : List Int) : Prop where
 h16 : ps.length ≤ 16
 hl : ls.length = ps.length
 h4 : S.length ≤ 4
 h1 : 1 ≤ S.length
 hs : ∀ x ∈ S,-5 ≤ x ∧ x ≤ 5
 hx : ∀ x ∈ ps,x.length = S.length
 hp : ∀ x ∈ ps,-3564 ≤ wdot 0 S x ∧ wdot 0 S x ≤ 3564
theorem wq_of {ps : List (List Int)} {ls S : List Int} {m : Nat} (h1 : smB ps ls = true) (h0 : 0 < ps.length) (hm : m ≤ 5) (hl : S.length = (ps.headD []).length) (hb : ∀ x ∈ S,-(m : Int) ≤ x ∧ x ≤ (m : Int)) : Wq ps ls S:=by
 obtain ⟨h16,hlen,_,hrow⟩:=smB_parts h1
 have d4 : 1 ≤ (ps.headD []).length ∧ (ps.headD []).length ≤ 4:=by
  cases ps with
 |nil=>simp at h0
 |cons a t=>exact (ptB_parts (hrow a (by simp)).1).2
 have hw : S.all (inB (-99) 99) = true:=List.all_eq_true.2 fun x hx=>by
  have:=hb x hx
  exact inB_iff.2 ⟨by omega,by omega⟩
 have hp : ∀ x ∈ ps,-3564 ≤ wdot 0 S x ∧ wdot 0 S x ≤ 3564:=fun x hx=>(point_prod hw (by omega) (ptB_parts (hrow x hx).1).1).2
 exact ⟨h16,hlen,by omega,by omega,fun x hx=>by have:=hb x hx;omega,fun x hx=>by have:=(hrow x hx).2;omega,hp⟩
theorem pvisit_ev {ps : List (List Int)} {ls S : List Int} (h : Wq ps ls S) (s : List Int × Int × Int) : Ev (fun k=>impl_SmallPlane.v ps ls k s S) (stP ps ls s S):=by
 have h4:=h.h4
 have e1 : Ev (fun k=>impl_Sample_between.f k ps ls S) ((endsL S ps ls 1000000000 (-1000000000)).2,(endsL S ps ls 1000000000 (-1000000000)).1):=ev_of 100 fun k hk=>impl_Sample_between_is k ps ls S h.h16 h.hl h.h4 h.hx hk
 have e2:=(gr_ev S (by omega) (fun x hx=>by have:=h.hs x hx;omega)).1
 have two:=ends_two S ps ls 1000000000 100000 (-1000000000) (-100000) h.hp (.inr ⟨rfl,rfl⟩) (.inr ⟨rfl,rfl⟩)
 unfold impl_SmallPlane.v stP fitS bdS
 refine Ev.bind e1 (Ev.bind e2 ?_)
 generalize endsL S ps ls 1000000000 (-1000000000) = F at two ⊢
 generalize endsL S ps ls 100000 (-100000) = E at two ⊢
 obtain ⟨t1,t2⟩:=two
 have em : mx (-99) (wrap64 (F.2 + 1)) = max (-99) (E.2 + 1):=by
  rw [w64 (x:=F.2 + 1) (by omega) (by omega),mx_max]
  omega
 have en : mn 99 F.1 = min 99 F.1:=mn_min _ _
 show Ev (fun k=>if grL 0 S < s.2.2 then (if mx (-99) (wrap64 (F.2 + 1)) ≤ mn 99 F.1 then ((impl_copied.f S).bind fun o=>some (o,mx (-99) (wrap64 (F.2 + 1)),grL 0 S)) else some s) else some s) _
 rw [em,en]
 by_cases c : grL 0 S < s.2.2
 ·refine ev_if_pos c ?_
  rw [if_pos c]
  by_cases c2 : max (-99) (E.2 + 1) ≤ min 99 F.1
  ·refine ev_if_pos c2 ?_
   rw [if_pos (decide_eq_true (by omega)),impl_copied_is S (by omega)]
   exact Ev.bind (ev_const _) (ev_const _)
  ·refine ev_if_neg c2 ?_
   rw [if_neg (fun q=>by have:=of_decide_eq_true q;omega)]
   exact ev_const _
 ·refine ev_if_neg c ?_
  rw [if_neg c]
  exact ev_const _
def pS (ps : List (List Int)) (ls : List Int) (s : Nat) (S : List Int) : Bool:=fitS ps ls S && decide (grL 0 S = (s : Int))
theorem fold_tells (ps : List (List Int)) (ls : List Int) : ∀ (L : List (List Int)) (s0 : List Int × Int × Int),
  (L.foldl (stP ps ls) s0).2.2 ≤ s0.2.2 ∧ (∀ S ∈ L,fitS ps ls S = true → (L.foldl (stP ps ls) s0).2.2 ≤ grL 0 S) ∧
  ((L.foldl (stP ps ls) s0 = s0) ∨ ((L.foldl (stP ps ls) s0).2.2 < s0.2.2 ∧ L.find? (fun S=>fitS ps ls S && decide (grL 0 S = (L.foldl (stP ps ls) s0).2.2)) = some (L.foldl (stP ps ls) s0).1 ∧ (L.foldl (stP ps ls) s0).2.1 = bdS ps ls (L.foldl (stP ps ls) s0).1))
|[],s0=>by
  refine ⟨Int.le_refl _,by simp,.inl rfl⟩
|T :: L,s0=>by
  rw [List.foldl_cons]
  by_cases c : grL 0 T < s0.2.2 ∧ fitS ps ls T = true
  ·have e : stP ps ls s0 T = (T,bdS ps ls T,grL 0 T):=by unfold stP;rw [if_pos c.1,if_pos c.2]
   rw [e]
   obtain ⟨h1,h2,h3⟩:=fold_tells ps ls L (T,bdS ps ls T,grL 0 T)
   simp only at h1 h3
   refine ⟨by omega,fun S hS hf=>?_,.inr ⟨by omega,?_⟩⟩
   ·rcases List.mem_cons.1 hS with rfl|hS
    ·exact h1
    ·exact h2 S hS hf
   ·rcases h3 with h3|⟨g1,g2,g3⟩
    ·rw [h3]
     exact ⟨by rw [List.find?_cons_of_pos];simp [c.2],rfl⟩
    ·refine ⟨?_,g3⟩
     rw [List.find?_cons_of_neg]
     ·exact g2
     ·simp only [Bool.and_eq_true,decide_eq_true_eq,not_and]
      intro _
      omega
  ·have e : stP ps ls s0 T = s0:=by
    unfold stP
    by_cases c1 : grL 0 T < s0.2.2
    ·rw [if_pos c1,if_neg (fun q=>c ⟨c1,q⟩)]
    ·rw [if_neg c1]
   rw [e]
   obtain ⟨h1,h2,h3⟩:=fold_tells ps ls L s0
   refine ⟨h1,fun S hS hf=>?_,?_⟩
   ·rcases List.mem_cons.1 hS with rfl|hS
    ·have : ¬ grL 0 S < s0.2.2:=fun q=>c ⟨q,hf⟩
     omega
    ·exact h2 S hS hf
   ·rcases h3 with h3|⟨g1,g2,g3⟩
    ·exact .inl h3
    ·refine .inr ⟨g1,?_,g3⟩
     rw [List.find?_cons_of_neg]
     ·exact g2
     ·simp only [Bool.and_eq_true,decide_eq_true_eq,not_and]
      intro hf q
      exact c ⟨by omega,hf⟩
def resF (ps : List (List Int)) (ls : List Int) (N : Nat) : Nat → Nat → List Int × Int × Bool
|0,_=>([],0,false)
|j + 1,s=>match (wtL s N []).find? (pS ps ls s) with
 |some S=>(S,bdS ps ls S,true)
 |none=>resF ps ls N j (s + 1)
theorem plB_of {ps : List (List Int)} {ls S : List Int} (h : Wq ps ls S) : plB S (bdS ps ls S) = decide (bdS ps ls S ≤ 99):=by
 have h4:=h.h4
 have h1:=h.h1
 have hb : -99 ≤ bdS ps ls S:=by unfold bdS;omega
 have hw : S.all (inB (-99) 99) = true:=List.all_eq_true.2 fun x hx=>by
  have:=h.hs x hx
  exact inB_iff.2 ⟨by omega,by omega⟩
 unfold plB
 rw [hw,inB_iff.2 (show (1 : Int) ≤ (S.length : Int) ∧ (S.length : Int) ≤ 4 by omega)]
 simp only [Bool.true_and]
 unfold inB
 simp only [decide_eq_decide]
 omega
theorem spec_l1_ev (ps : List (List Int)) (ls : List Int) (m s : Nat) (hs5 : s ≤ 5) (L : List (List Int)) (hL : L.length ≤ 1000000) (hW : ∀ S ∈ L,Wq ps ls S) (out : List Int × Int × Bool) (hc : Ev (fun k=>spec_SmallPlane.l0 k (m : Int) ((s + 1 : Nat) : Int) ps ls) out) : ∀ (j i : Nat),i + j = L.length → Ev (fun k=>spec_SmallPlane.l1 k (m : Int) (s : Int) L (i : Int) ps ls) (match (L.drop i).find? (pS ps ls s) with|some S=>(S,bdS ps ls S,true)|none=>out)
|0,i,hj=>by
  rw [List.drop_of_length_le (by omega)]
  refine Ev.step (fun k=>?_) hc
  rw [spec_SmallPlane.l1,if_neg (by omega),w64_nat (by omega)]
|j + 1,i,hj=>by
  have hi : i < L.length:=by omega
  have h:=hW L[i] (List.getElem_mem hi)
  have h4:=h.h4
  have er : rd_L1 L (i : Int) = L[i]:=by simp [rd_L1,hi]
  have e1 : Ev (fun k=>spec_l4Ends.f k ps ls L[i]) (endsL L[i] ps ls 100000 (-100000)):=ev_of 100 fun k hk=>spec_l4Ends_is k ps ls L[i] h.h16 h.hl h.h4 h.hx hk
  have e2:=(gr_ev L[i] (by omega) (fun x hx=>by have:=h.hs x hx;omega)).2
  have e3 : Ev (fun k=>spec_l2Plane.f k L[i] (bdS ps ls L[i])) (plB L[i] (bdS ps ls L[i])):=ev_of 100 fun k hk=>spec_l2Plane_is k L[i] _ (by omega) (by omega)
  rw [plB_of h] at e3
  have ih:=spec_l1_ev ps ls m s hs5 L hL hW out hc j (i + 1) (by omega)
  have two:=ends_two L[i] ps ls 1000000000 100000 (-1000000000) (-100000) h.hp (.inr ⟨rfl,rfl⟩) (.inr ⟨rfl,rfl⟩)
  rw [List.drop_eq_getElem_cons hi]
  have eb : max (wrap64 ((endsL L[i] ps ls 100000 (-100000)).2 + 1)) (-99) = bdS ps ls L[i]:=by
   unfold bdS
   rw [w64 (x:=(endsL L[i] ps ls 100000 (-100000)).2 + 1) (by omega) (by omega)]
   omega
  refine Ev.step (f:=fun k=>(spec_l4Ends.f k ps ls L[i]).bind fun bt202=>(spec_l1Most.f (wrap64 (bt202.2 + 1)) (-99)).bind fun t205=>(spec_l4Greatest.f k L[i]).bind fun t208=>if t208 = (s : Int) then (if t205 ≤ bt202.1 then ((spec_l2Plane.f k L[i] t205).bind fun t209=>(if t209 = true then (some (L[i],t205,true)) else spec_SmallPlane.l1 k (m : Int) (s : Int) L ((i + 1 : Nat) : Int) ps ls)) else spec_SmallPlane.l1 k (m : Int) (s : Int) L ((i + 1 : Nat) : Int) ps ls) else spec_SmallPlane.l1 k (m : Int) (s : Int) L ((i + 1 : Nat) : Int) ps ls) (fun k=>by rw [spec_SmallPlane.l1,if_pos (by omega),if_pos (by omega),er,w64_nat (by omega)]) (Ev.bind e1 ?_)
  rw [spec_l1Most_is]
  refine Ev.bind (ev_const _) ?_
  rw [eb]
  refine Ev.bind e2 ?_
  by_cases c : pS ps ls s L[i] = true
  ·rw [List.find?_cons_of_pos c]
   unfold pS at c
   have c2:=Bool.and_eq_true_iff.1 c
   have c3:=of_decide_eq_true c2.2
   have c4:=c2.1
   unfold fitS at c4
   have c5:=of_decide_eq_true c4
   rw [decide_eq_true c5.2] at e3
   exact ev_if_pos c3 (ev_if_pos c5.1 (Ev.bind e3 (ev_if_pos rfl (ev_const _))))
  ·rw [List.find?_cons_of_neg c]
   by_cases d1 : grL 0 L[i] = (s : Int)
   ·refine ev_if_pos d1 ?_
    by_cases d2 : bdS ps ls L[i] ≤ (endsL L[i] ps ls 100000 (-100000)).1
    ·refine ev_if_pos d2 (Ev.bind e3 ?_)
     refine ev_if_neg (fun q=>c ?_) ih
     unfold pS fitS
     rw [Bool.and_eq_true_iff]
     exact ⟨decide_eq_true ⟨d2,of_decide_eq_true q⟩,decide_eq_true d1⟩
    ·exact ev_if_neg d2 ih
   ·exact ev_if_neg d1 ih
theorem spec_l0_ev (ps : List (List Int)) (ls : List Int) (m N : Nat) (h1 : smB ps ls = true) (h0 : 0 < ps.length) (hm : m ≤ 5) (hN : (ps.headD []).length = N) (h14 : 1 ≤ N ∧ N ≤ 4) : ∀ (j s : Nat),s + j = m + 1 → Ev (fun k=>spec_SmallPlane.l0 k (m : Int) (s : Int) ps ls) (resF ps ls N j s)
|0,s,hj=>by
  refine Ev.step (f:=fun _=>some ([],0,false)) (fun k=>?_) (ev_const _)
  rw [spec_SmallPlane.l0,if_neg (by omega)]
|j + 1,s,hj=>by
  have ih:=spec_l0_ev ps ls m N h1 h0 hm hN h14 j (s + 1) (by omega)
  have e0 : rd_L1 ps 0 = ps.headD []:=by cases ps <;> simp [rd_L1]
  have big : (2 * s + 1) ^ N ≤ 1000000:=Nat.le_trans (Nat.pow_le_pow_left (show 2 * s + 1 ≤ 11 by omega) N) (Nat.le_trans (Nat.pow_le_pow_right (by omega) h14.2) (by decide))
  have len:=(wt_len s N).1 []
  have hW : ∀ S ∈ wtL s N [],Wq ps ls S:=fun S hS=>by
   obtain ⟨q1,q2⟩:=wt_mem s N [] S hS
   exact wq_of h1 h0 (by omega) (by rw [q1,hN];simp) (q2 (by simp))
  have l1:=spec_l1_ev ps ls m s (by omega) (wtL s N []) (by omega) hW _ ih (wtL s N []).length 0 (by omega)
  rw [List.drop_zero] at l1
  refine Ev.step (f:=fun k=>(spec_l4Weights.f k (N : Int) (s : Int) []).bind fun t=>spec_SmallPlane.l1 k (m : Int) (s : Int) t 0 ps ls) (fun k=>?_) (Ev.bind (l4w_ev N s (by omega) (by omega) N [] big (by simp)) l1)
  rw [spec_SmallPlane.l0,if_pos (by omega),if_pos (by omega),e0,hN]
theorem resF_some (ps : List (List Int)) (ls : List Int) (N m t : Nat) (w : List Int) (ht : t ≤ m) (hn : ∀ s,s < t → (wtL s N []).find? (pS ps ls s) = none) (hw : (wtL t N []).find? (pS ps ls t) = some w) : ∀ (j s : Nat),s + j = m + 1 → s ≤ t → resF ps ls N j s = (w,bdS ps ls w,true)
|0,s,h1,h2=>by omega
|j + 1,s,h1,h2=>by
  rw [resF]
  by_cases c : s = t
  ·rw [c,hw]
  ·rw [hn s (by omega)]
   exact resF_some ps ls N m t w ht hn hw j (s + 1) (by omega) (by omega)
theorem resF_none (ps : List (List Int)) (ls : List Int) (N m : Nat) (hn : ∀ s,s ≤ m → (wtL s N []).find? (pS ps ls s) = none) : ∀ (j s : Nat),s + j = m + 1 → resF ps ls N j s = ([],0,false)
|0,s,h1=>rfl
|j + 1,s,h1=>by
  rw [resF,hn s (by omega)]
  exact resF_none ps ls N m hn j (s + 1) (by omega)
theorem pS_in {ps : List (List Int)} {ls : List Int} {s : Nat} (S : List Int) (h : pS ps ls s S = true) : ∀ x ∈ S,-(s : Int) ≤ x ∧ x ≤ (s : Int):=fun x hx=>by
 have c:=of_decide_eq_true (Bool.and_eq_true_iff.1 h).2
 have:=(gr_ge S 0).2 x hx
 omega
theorem small_same (ps : List (List Int)) (ls : List Int) (a : Int) (hr : ∀ r ∈ ps,r.length ≤ 1048576) (hm : ls.length ≤ 1048576) (hn : ps.length ≤ 1048576) : ∃ q b c,Ev (fun k=>impl_SmallPlane.f k ps ls a) (q,b,c) ∧ Ev (fun k=>spec_SmallPlane.f k ps ls a) (q,b,c) ∧ q.length ≤ 1000:=by
 have e1 : Ev (fun k=>impl_IsSample.f k ps ls) (smB ps ls):=ev_of 1048600 fun k hk=>impl_IsSample_is k ps ls hr hm hk
 have e2 : Ev (fun k=>spec_l2Sample.f k ps ls) (smB ps ls):=ev_of 1048600 fun k hk=>spec_l2Sample_is k ps ls hr hm hk
 have no : ∀ b : Bool,b = true → Ev (fun k=>spec_SmallPlane.j0 k a b ps ls) (([] : List Int),0,false):=fun b hb=>Ev.step (f:=fun _=>some (([] : List Int),0,false)) (fun k=>by rw [spec_SmallPlane.j0,if_pos hb]) (ev_const _)
 by_cases c : smB ps ls = true
 ·by_cases c0 : (ps.length : Int) = 0
  ·refine ⟨[],0,false,?_,?_,by simp⟩
   ·unfold impl_SmallPlane.f
    exact Ev.bind e1 (ev_if_pos c (ev_if_pos c0 (ev_const _)))
   ·unfold spec_SmallPlane.f
    exact Ev.bind e2 (ev_if_pos c (ev_if_pos c0 (no true rfl)))
  ·by_cases c5 : inB 0 5 a = true
   ·obtain ⟨m,rfl⟩:=Int.eq_ofNat_of_zero_le (inB_iff.1 c5).1
    have hm5 : m ≤ 5:=by have:=(inB_iff.1 c5).2;omega
    have h0 : 0 < ps.length:=by omega
    obtain ⟨h16,hlen,_,hrow⟩:=smB_parts c
    have e0 : rd_L1 ps 0 = ps.headD []:=by cases ps <;> simp [rd_L1]
    have d4 : 1 ≤ (ps.headD []).length ∧ (ps.headD []).length ≤ 4:=by
     cases ps with
    |nil=>simp at h0
    |cons a t=>exact (ptB_parts (hrow a (by simp)).1).2
    obtain ⟨N,hN⟩ : ∃ N,(ps.headD []).length = N:=⟨_,rfl⟩
    have iv:=impl_smallWeights_ev (V:=impl_SmallPlane.v ps ls) (st:=stP ps ls) (N:=N) (m:=m) (by omega) (by omega) (by omega) (fun s S hS hb=>pvisit_ev (wq_of c h0 hm5 (by rw [hS,hN]) hb) s) ([],0,(m : Int) + 1)
    have sv:=spec_l0_ev ps ls m N c h0 hm5 hN (by omega) (m + 1) 0 (by omega)
    have ft:=fold_tells ps ls (wtL m N []) ([],0,(m : Int) + 1)
    have spv : Ev (fun k=>spec_SmallPlane.f k ps ls (m : Int)) (resF ps ls N (m + 1) 0):=by
     unfold spec_SmallPlane.f
     refine Ev.bind e2 (ev_if_pos c (ev_if_neg c0 ?_))
     rw [spec_l1In_is]
     refine Ev.bind (ev_const _) ?_
     rw [c5]
     exact Ev.step (f:=fun k=>spec_SmallPlane.l0 k (m : Int) ((0 : Nat) : Int) ps ls) (fun k=>by rw [spec_SmallPlane.j0,if_neg (by simp)];rfl) sv
    have imv : ∀ r,((wtL m N []).foldl (stP ps ls) ([],0,(m : Int) + 1)) = r → Ev (fun k=>impl_SmallPlane.f k ps ls (m : Int)) (if r.2.2 > (m : Int) then (([] : List Int),(0 : Int),false) else (r.1,r.2.1,true)):=fun r hr_=>by
     rw [hr_] at iv
     unfold impl_SmallPlane.f
     refine Ev.bind e1 (ev_if_pos c (ev_if_neg c0 ?_))
     rw [impl_within_is]
     refine Ev.bind (ev_const _) (ev_if_pos c5 ?_)
     rw [e0,hN,w64 (x:=(m : Int) + 1) (by omega) (by omega)]
     refine Ev.bind iv ?_
     by_cases g : r.2.2 > (m : Int)
     ·refine ev_if_pos g ?_
      rw [if_pos g]
      exact ev_const _
     ·refine ev_if_neg g ?_
      rw [if_neg g]
      exact ev_const _
    have sub : ∀ s,s ≤ m → (wtL s N []).find? (pS ps ls s) = (wtL m N []).find? (pS ps ls s):=fun s hs=>(find_wt (pS ps ls s) s m hs (fun S h=>pS_in S h) N []).symm
    obtain ⟨R,hR⟩ : ∃ R,(wtL m N []).foldl (stP ps ls) ([],0,(m : Int) + 1) = R:=⟨_,rfl⟩
    have im:=imv R hR
    rw [hR] at ft
    obtain ⟨f1,f2,f3⟩:=ft
    rcases f3 with f3|⟨g1,g2,g3⟩
    ·refine ⟨[],0,false,?_,?_,by simp⟩
     ·rw [if_pos (by rw [f3];show (m : Int) + 1 > m;omega)] at im
      exact im
     ·rw [resF_none ps ls N m (fun s hs=>by
       rw [sub s hs]
       refine List.find?_eq_none.2 fun S hS hq=>?_
       unfold pS at hq
       have q2:=Bool.and_eq_true_iff.1 hq
       have q3:=of_decide_eq_true q2.2
       have q4:=f2 S hS q2.1
       rw [f3] at q4
       simp only at q4
       omega) (m + 1) 0 (by omega)] at spv
      exact spv
    ·simp only at g1
     have hw:=List.mem_of_find?_eq_some g2
     have hpw:=List.find?_some g2
     obtain ⟨q1,q2⟩:=wt_mem m N [] R.1 hw
     have g0 : 0 ≤ R.2.2:=by
      have:=(gr_ge R.1 0).1
      have:=of_decide_eq_true (Bool.and_eq_true_iff.1 hpw).2
      omega
     obtain ⟨t,ht⟩:=Int.eq_ofNat_of_zero_le g0
     have e : resF ps ls N (m + 1) 0 = (R.1,bdS ps ls R.1,true):=resF_some ps ls N m t R.1 (by omega) (fun s hs=>by
      rw [sub s (by omega)]
      refine List.find?_eq_none.2 fun S hS hq=>?_
      unfold pS at hq
      have q2:=Bool.and_eq_true_iff.1 hq
      have q3:=of_decide_eq_true q2.2
      have q4:=f2 S hS q2.1
      omega) (by
      rw [sub t (by omega),← g2]
      congr 1
      funext S
      unfold pS
      rw [ht]) (m + 1) 0 (by omega) (by omega)
     rw [e] at spv
     rw [if_neg (by omega),g3] at im
     refine ⟨_,_,_,im,spv,?_⟩
     rw [q1]
     simp
     omega
   ·refine ⟨[],0,false,?_,?_,by simp⟩
    ·unfold impl_SmallPlane.f
     refine Ev.bind e1 (ev_if_pos c (ev_if_neg c0 ?_))
     rw [impl_within_is]
     exact Ev.bind (ev_const _) (ev_if_neg c5 (ev_const _))
    ·unfold spec_SmallPlane.f
     refine Ev.bind e2 (ev_if_pos c (ev_if_neg c0 ?_))
     rw [spec_l1In_is]
     refine Ev.bind (ev_const _) ?_
     rw [Bool.eq_false_iff.2 c5]
     exact no _ rfl
 ·refine ⟨[],0,false,?_,?_,by simp⟩
  ·unfold impl_SmallPlane.f
   exact Ev.bind e1 (ev_if_neg c (ev_const _))
  ·unfold spec_SmallPlane.f
   exact Ev.bind e2 (ev_if_neg c (no true rfl))
theorem sz_ev (l : List (List Int)) (m : List Int) (hl : l.length ≤ 9223372036854775807) (hr : ∀ r ∈ l,r.length ≤ 9223372036854775807) (hm : m.length ≤ 9223372036854775807) : ∃ v,Ev (fun k=>laws_szSample.f k l m 1048576) v ∧ (v < 0 ∨ (0 ≤ v ∧ v ≤ 1048576 ∧ l.length ≤ 1048576 ∧ (∀ r ∈ l,r.length ≤ 1048576) ∧ m.length ≤ 1048576)):=by
 obtain ⟨v,hv,hc⟩:=laws_szSample_tells 1048577 l m 1048576 (by omega) (by omega) hl hr hm (by omega)
 exact ⟨v,Ev.of (fun k=>laws_szSample.mono _ _ _ k) hv,hc⟩
theorem mk_ev (l : List (List Int)) (m : List Int) (hl : l.length ≤ 1048576) (hr : ∀ r ∈ l,r.length ≤ 1048576) (hm : m.length ≤ 1048576) : ∃ v l' m',Ev (fun k=>laws_markSample.f k l m 1) (v,l',m') ∧ 1 ≤ v:=by
 obtain ⟨v,l',m',h,h1,_⟩:=laws_markSample_tells 2097153 l m hl hr hm (by omega)
 exact ⟨v,l',m',Ev.of (fun k=>laws_markSample.mono _ _ _ k) h,h1⟩
theorem FnExactSmallPlane : ∀ (l0 : List (List Int)) (m0 : List Int) (a1 : Int),l0.length ≤ maxLen → (∀ r ∈ l0,r.length ≤ maxLen ∧ ∀ x ∈ r,(Lit.int .i64 x).wf = true) → m0.length ≤ maxLen → (∀ x ∈ m0,(Lit.int .i64 x).wf = true) → (Lit.int .i64 a1).wf = true → ∃ k,laws_FnExactSmallPlane.f k l0 m0 a1 = some true:=by
 intro l m a hl hr hm _ _
 unfold maxLen at hl hr hm
 refine Ev.rounds (g:=fun k=>laws_FnExactSmallPlane.f k l m a) ?_
 unfold laws_FnExactSmallPlane.f
 obtain ⟨v,hv,hc⟩:=sz_ev l m (by omega) (fun r h=>by have:=(hr r h).1;omega) (by omega)
 refine Ev.bind hv ?_
 rcases hc with hc|⟨a1,a2,a3,a4,a5⟩
 ·exact ev_if_pos hc (ev_const _)
 ·have ts : Ev (fun k=>laws_toSample.f k l m) (l,m):=ev_of 3000000 fun k hk=>laws_toSample_is k l m a3 a4 a5 (by omega)
  have es : Ev (fun k=>laws_eqSample.f k l m l m) true:=ev_of 3000000 fun k hk=>laws_eqSample_same k l m a3 a4 a5 (by omega)
  obtain ⟨q,b,c,h1,h2,hq⟩:=small_same l m a a4 a5 a3
  have eq_ : Ev (fun k=>laws_eqPlane.f k q b q b) true:=ev_of 3000000 fun k hk=>laws_eqPlane_same k q b (by omega) (by omega)
  obtain ⟨w,l',m',mk,w1⟩:=mk_ev l m a3 a4 a5
  have ms : Ev (fun k=>laws_markPlane.f k q b 1) (1 + q.length,marks 1 q.length):=ev_of 3000000 fun k hk=>laws_markPlane_is k q b 1 (by omega) (by omega) (by omega) (by omega)
  have hs : Ev (fun k=>laws_heldPlane.f k (marks 1 q.length) b 1) (1 + q.length):=ev_of 3000000 fun k hk=>laws_heldPlane_is k q.length b 1 (by omega) (by omega) (by omega) (by omega)
  refine ev_if_neg (by omega) (Ev.bind ts (Ev.bind h2 (Ev.bind ts (Ev.bind h1 (Ev.bind eq_ (ev_if_pos rfl ?_))))))
  rw [bne_self_eq_false]
  refine Ev.step (fun k=>by rw [laws_FnExactSmallPlane.j0,if_neg (by simp)]) (Ev.bind ts (Ev.bind es (ev_if_pos rfl (Ev.bind mk (ev_if_neg (by show ¬ (w < 0);omega) (Ev.bind eq_ (ev_if_pos rfl ?_)))))))
  rw [bne_self_eq_false]
  refine Ev.step (fun k=>by rw [laws_FnExactSmallPlane.j1,if_neg (by simp)]) (Ev.bind ms (Ev.bind hs (ev_if_neg (by show ¬ ((1 + (q.length : Int)) < 0);omega) (ev_if_pos rfl (Ev.bind ts (Ev.bind h1 (Ev.bind eq_ (ev_if_pos rfl ?_))))))))
  rw [bne_self_eq_false]
  exact Ev.step (fun k=>by rw [laws_FnExactSmallPlane.j2,if_neg (by simp)]) (Ev.bind hs (ev_if_neg (by show ¬ ((1 + (q.length : Int)) < 0);omega) (ev_if_pos rfl (ev_const _))))
end Go.Proofs.Ytdjclffkidoohaa.Pure
end
