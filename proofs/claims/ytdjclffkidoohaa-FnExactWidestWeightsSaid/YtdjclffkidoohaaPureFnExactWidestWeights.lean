/- Proved: the law FnExactWidestWeights answers true for every sample and number; no condition. -/
import Derived.Test.YtdjclffkidoohaaQFnExactWidestWeightsx8
import Derived.Test.YtdjclffkidoohaaLin
import Derived.Test.YtdjclffkidoohaaBase
set_option linter.unusedVariables false
set_option linter.unusedSimpArgs false
namespace Go.Proofs.Ytdjclffkidoohaa.Pure
open Go.RowKit Go.Proofs.Ytdjclffkidoohaa.QFnExactWidestWeights Go.Proofs.YtdjclffkidoohaaW.PrintWords Go.Proofs.YtdjclffkidoohaaW.PrintLast Go.Proofs.YtdjclffkidoohaaW.PrintMore Go.Proofs.Ytdjclffkidoohaa.Base Go.Proofs.Ytdjclffkidoohaa.Lin
theorem laws_szIntS_is (l : List Int) (a : Int) (h0 : 0 ≤ a) (h1 : a ≤ 4611686018427387904) (hl : l.length ≤ 9223372036854775807) : laws_szIntS.f l a = some (if (l.length : Int) ≤ a then a - l.length else -1):=by
 unfold laws_szIntS.f
 rw [w64 (by omega) (by omega)]
 by_cases h : (l.length : Int) ≤ a
 ·rw [if_neg (by omega),if_pos h]
 ·rw [if_pos (by omega),if_neg h]
theorem laws_szIntSS_l : ∀ (k i : Nat) (x : List (List Int)) (a : Int),0 ≤ a → a ≤ 1048576 → x.length ≤ 1048576 → (∀ r ∈ x,r.length ≤ 9223372036854775807) → i ≤ x.length → x.length < i + k → ∃ v,laws_szIntSS.l0 k x a (i : Int) = some v ∧ (v < 0 ∨ (0 ≤ v ∧ v ≤ a ∧ ∀ r ∈ x.drop i,r.length ≤ 1048576))
 | 0,_,_,_,_,_,_,_,_,hk=>by omega
 | k + 1,i,x,a,h0,h1,hn,hr,hi,hk=>by
  simp only [laws_szIntSS.l0]
  by_cases h : i < x.length
  ·have e : rd_L1 x (i : Int) = x[i]:=by simp [rd_L1,h]
   have hx:=hr x[i] (List.getElem_mem h)
   rw [if_pos (by omega),if_pos (by omega),e,laws_szIntS_is x[i] a h0 (by omega) hx]
   simp only [Option.bind_some]
   by_cases c : (x[i].length : Int) ≤ a
   ·rw [if_pos c,if_neg (by omega),w64_nat (by omega)]
    obtain ⟨v,hv,hc⟩:=laws_szIntSS_l k (i + 1) x (a - x[i].length) (by omega) (by omega) hn hr (by omega) (by omega)
    refine ⟨v,hv,?_⟩
    rcases hc with hc | ⟨a1,a2,a3⟩
    ·exact .inl hc
    ·refine .inr ⟨a1,by omega,fun r hr'=>?_⟩
     rw [List.drop_eq_getElem_cons h] at hr'
     rcases List.mem_cons.1 hr' with rfl | hr'
     ·omega
     ·exact a3 r hr'
   ·rw [if_neg c,if_pos (by omega)]
    exact ⟨-1,rfl,.inl (by omega)⟩
  ·rw [if_neg (by omega)]
   refine ⟨a,rfl,.inr ⟨h0,Int.le_refl _,fun r hr'=>?_⟩⟩
   rw [List.drop_of_length_le (by omega)] at hr'
   simp at hr'
theorem laws_szIntSS_tells (k : Nat) (x : List (List Int)) (a : Int) (h0 : 0 ≤ a) (h1 : a ≤ 1048576) (hn : x.length ≤ 9223372036854775807) (hr : ∀ r ∈ x,r.length ≤ 9223372036854775807) (hk : 1048576 < k) : ∃ v,laws_szIntSS.f k x a = some v ∧ (v < 0 ∨ (0 ≤ v ∧ v ≤ a ∧ x.length ≤ 1048576 ∧ ∀ r ∈ x,r.length ≤ 1048576)):=by
 unfold laws_szIntSS.f
 rw [w64 (by omega) (by omega)]
 by_cases c : (x.length : Int) ≤ a
 ·rw [if_neg (by omega)]
  obtain ⟨v,hv,hc⟩:=laws_szIntSS_l k 0 x (a - x.length) (by omega) (by omega) (by omega) hr (by omega) (by omega)
  refine ⟨v,hv,?_⟩
  rcases hc with hc | ⟨a1,a2,a3⟩
  ·exact .inl hc
  ·exact .inr ⟨a1,by omega,by omega,by simpa using a3⟩
 ·rw [if_pos (by omega)]
  exact ⟨-1,rfl,.inl (by omega)⟩
theorem laws_szSample_tells (k : Nat) (x : List (List Int)) (m : List Int) (a : Int) (h0 : 0 ≤ a) (h1 : a ≤ 1048576) (hn : x.length ≤ 9223372036854775807) (hr : ∀ r ∈ x,r.length ≤ 9223372036854775807) (hm : m.length ≤ 9223372036854775807) (hk : 1048576 < k) : ∃ v,laws_szSample.f k x m a = some v ∧ (v < 0 ∨ (0 ≤ v ∧ v ≤ a ∧ x.length ≤ 1048576 ∧ (∀ r ∈ x,r.length ≤ 1048576) ∧ m.length ≤ 1048576)):=by
 unfold laws_szSample.f
 obtain ⟨v,hv,hc⟩:=laws_szIntSS_tells k x a h0 h1 hn hr hk
 rw [hv]
 simp only [Option.bind_some]
 rcases hc with hc | ⟨a1,a2,a3,a4⟩
 ·rw [if_pos hc]
  exact ⟨-1,rfl,.inl (by omega)⟩
 ·rw [if_neg (by omega),laws_szIntS_is m v a1 (by omega) hm]
  simp only [Option.bind_some]
  by_cases c : (m.length : Int) ≤ v
  ·rw [if_pos c,if_neg (by omega)]
   exact ⟨_,rfl,.inr ⟨by omega,by omega,a3,a4,by omega⟩⟩
  ·rw [if_neg c,if_pos (by omega)]
   exact ⟨-1,rfl,.inl (by omega)⟩
theorem spec_l1In_is (a lo hi : Int) : spec_l1In.f a lo hi = some (inB lo hi a):=by
 unfold spec_l1In.f
 exact within_is a lo hi
theorem spec_l1Own_is (l : List Int) (h : l.length < 17592186044416) : spec_l1Own.f l = some l:=by
 unfold spec_l1Own.f
 simp only [Option.bind_some]
 rw [if_pos (by simpa using h)]
 simp
theorem spec_l2Labels_l : ∀ (k i : Nat) (l : List Int),l.length ≤ 4611686018427387904 → i ≤ l.length → l.length < i + k → spec_l2Labels.l0 k l (i : Int) = some ((l.drop i).all lbB)
 | 0,_,_,_,_,hk=>by omega
 | k + 1,i,l,hn,hi',hk=>by
  simp only [spec_l2Labels.l0]
  by_cases h : i < l.length
  ·rw [if_pos (by omega),if_pos (by omega),rd_nat l i h,w64_nat (by omega),List.drop_eq_getElem_cons h,List.all_cons,spec_l2Labels_l k (i + 1) l hn (by omega) (by omega)]
   by_cases e1 : l[i] = 1
   ·rw [if_pos e1]
    simp [lbB,e1]
   ·by_cases e2 : l[i] = -1
    ·rw [if_neg e1,if_pos e2]
     simp [lbB,e2]
    ·rw [if_neg e1,if_neg e2]
     simp [lbB,e1,e2]
  ·rw [if_neg (by omega),List.drop_of_length_le (by omega)]
   simp
theorem spec_l2Labels_is (k : Nat) (l : List Int) (hn : l.length ≤ 4611686018427387904) (hk : l.length < k) : spec_l2Labels.f k l = some (l.all lbB):=by
 unfold spec_l2Labels.f
 have:=spec_l2Labels_l k 0 l hn (by omega) (by omega)
 simpa using this
theorem spec_l2Numbers_l : ∀ (k i : Nat) (l : List Int) (m : Int),-4611686018427387904 ≤ m → m ≤ 4611686018427387904 → l.length ≤ 4611686018427387904 → i ≤ l.length → l.length < i + k → spec_l2Numbers.l0 k l m (i : Int) = some ((l.drop i).all (inB (-m) m))
 | 0,_,_,_,_,_,_,_,hk=>by omega
 | k + 1,i,l,m,h1,h2,hn,hi,hk=>by
  simp only [spec_l2Numbers.l0]
  by_cases h : i < l.length
  ·rw [if_pos (by omega),if_pos (by omega),spec_l1In_is,rd_nat l i h,w64_nat (by omega),w64 (by omega) (by omega),List.drop_eq_getElem_cons h,List.all_cons,spec_l2Numbers_l k (i + 1) l m h1 h2 hn (by omega) (by omega)]
   simp only [Option.bind_some]
   by_cases e : inB (-m) m l[i] = true
   ·rw [if_pos e,e]
    simp
   ·rw [if_neg e]
    simp [e]
  ·rw [if_neg (by omega),List.drop_of_length_le (by omega)]
   simp
theorem spec_l2Numbers_is (k : Nat) (l : List Int) (m : Int) (h1 : -4611686018427387904 ≤ m) (h2 : m ≤ 4611686018427387904) (hn : l.length ≤ 4611686018427387904) (hk : l.length < k) : spec_l2Numbers.f k l m = some (l.all (inB (-m) m)):=by
 unfold spec_l2Numbers.f
 have:=spec_l2Numbers_l k 0 l m h1 h2 hn (by omega) (by omega)
 simpa using this
theorem spec_l2Point_is (k : Nat) (l : List Int) (hn : l.length ≤ 4611686018427387904) (hk : l.length < k) : spec_l2Point.f k l = some (ptB l):=by
 unfold spec_l2Point.f ptB
 rw [spec_l1In_is,spec_l2Numbers_is k l 9 (by omega) (by omega) hn hk]
 simp only [Option.bind_some]
 cases inB 1 4 (l.length : Int) <;> simp
theorem spec_l2Sample_l (k0 : Nat) (hk0 : 1048576 < k0) : ∀ (k i : Nat) (l : List (List Int)) (m : List Int),l.length ≤ 16 → (∀ r ∈ l,r.length ≤ 1048576) → i ≤ l.length → l.length < i + k → spec_l2Sample.l0 (k + k0) (i : Int) l m = some ((l.drop i).all fun x=>ptB x && decide (x.length = (l.headD []).length))
 | 0,i,l,m,_,_,_,hk=>by omega
 | k + 1,i,l,m,hn,hr,hi,hk=>by
  rw [show k + 1 + k0 = (k + k0) + 1 by omega]
  simp only [spec_l2Sample.l0]
  by_cases h : i < l.length
  ·have e : rd_L1 l (i : Int) = l[i]:=by simp [rd_L1,h]
   have e0 : rd_L1 l 0 = l.headD []:=by cases l <;> simp [rd_L1]
   have hx:=hr l[i] (List.getElem_mem h)
   rw [if_pos (by omega),if_pos (by omega),e,spec_l2Point_is (k + k0) l[i] (by omega) (by omega),e0]
   simp only [Option.bind_some]
   rw [List.drop_eq_getElem_cons h,List.all_cons]
   by_cases c1 : ptB l[i] = true
   ·rw [if_pos c1,if_pos (by omega),c1,Bool.true_and]
    by_cases c2 : l[i].length = (l.headD []).length
    ·rw [if_pos (by omega),w64_nat (by omega),spec_l2Sample_l k0 hk0 k (i + 1) l m hn hr (by omega) (by omega)]
     simp [c2]
    ·rw [if_neg (by omega)]
     simp only [c2,decide_false,Bool.false_and,Bool.and_false]
   ·rw [if_neg c1]
    simp [c1]
  ·rw [if_neg (by omega),List.drop_of_length_le (by omega)]
   simp
theorem spec_l2Sample_is (k : Nat) (l : List (List Int)) (m : List Int) (hr : ∀ r ∈ l,r.length ≤ 1048576) (hm : m.length ≤ 1048576) (hk : 1048600 < k) : spec_l2Sample.f k l m = some (smB l m):=by
 obtain ⟨k,rfl⟩ : ∃ q,k = q + 1:=⟨k - 1,by omega⟩
 unfold spec_l2Sample.f smB
 by_cases c1 : l.length ≤ 16
 ·rw [if_neg (by omega)]
  by_cases c2 : m.length = l.length
  ·rw [if_pos (by omega),spec_l2Labels_is _ m (by omega) (by omega)]
   simp only [Option.bind_some,spec_l2Sample.j0]
   have:=spec_l2Sample_l (k - 17) (by omega) 17 0 l m c1 hr (by omega) (by omega)
   rw [show 17 + (k - 17) = k by omega] at this
   rw [show ((0 : Nat) : Int) = 0 from rfl] at this
   rw [this]
   cases e : m.all lbB
   ·simp
   ·simp [c1,c2]
  ·rw [if_neg (by omega)]
   simp [spec_l2Sample.j0,c2]
 ·rw [if_pos (by omega)]
  simp [spec_l2Sample.j0,c1]
theorem spec_l1Has_l : ∀ (k i : Nat) (l : List Int) (a : Int),l.length ≤ 4611686018427387904 → i ≤ l.length → l.length < i + k → spec_l1Has.l0 k l a (i : Int) = some ((l.drop i).any fun x=>decide (x = a))
 | 0,_,_,_,_,_,hk=>by omega
 | k + 1,i,l,a,hn,hi',hk=>by
  simp only [spec_l1Has.l0]
  by_cases h : i < l.length
  ·rw [if_pos (by omega),if_pos (by omega),rd_nat l i h,w64_nat (by omega),List.drop_eq_getElem_cons h,List.any_cons,spec_l1Has_l k (i + 1) l a hn (by omega) (by omega)]
   by_cases e : l[i] = a
   ·rw [if_pos e]
    simp [e]
   ·rw [if_neg e]
    simp [e]
  ·rw [if_neg (by omega),List.drop_of_length_le (by omega)]
   simp
theorem spec_l1Has_is (k : Nat) (l : List Int) (a : Int) (hn : l.length ≤ 4611686018427387904) (hk : l.length < k) : spec_l1Has.f k l a = some (l.any fun x=>decide (x = a)):=by
 unfold spec_l1Has.f
 have:=spec_l1Has_l k 0 l a hn (by omega) (by omega)
 simpa using this
theorem spec_l4Mixed_is (k : Nat) (ps : List (List Int)) (ls : List Int) (hr : ∀ r ∈ ps,r.length ≤ 1048576) (hm : ls.length ≤ 1048576) (hk : 1048600 < k) : spec_l4Mixed.f k ps ls = some (mixB ps ls):=by
 unfold spec_l4Mixed.f mixB
 rw [spec_l2Sample_is k ps ls hr hm hk,spec_l1Has_is k ls 1 (by omega) (by omega),spec_l1Has_is k ls (-1) (by omega) (by omega)]
 simp only [Option.bind_some]
 cases smB ps ls <;> cases (ls.any fun x=>decide (x = 1)) <;> simp
theorem spec_l2Dot_l : ∀ (k i : Nat) (x y : List Int) (s : Int),x.length ≤ 4611686018427387904 → x.length ≤ y.length → i ≤ x.length → x.length < i + k → spec_l2Dot.l0 k x y s (i : Int) = some (wdot s (x.drop i) (y.drop i))
 | 0,_,_,_,_,_,_,_,hk=>by omega
 | k + 1,i,x,y,s,hn,hl,hi,hk=>by
  simp only [spec_l2Dot.l0]
  by_cases h : i < x.length
  ·have hy' : i < y.length:=by omega
   rw [if_pos (by omega),if_pos (by omega),if_pos (by omega),rd_nat x i h,rd_nat y i hy',w64_nat (by omega)]
   rw [spec_l2Dot_l k (i + 1) x y _ hn hl (by omega) (by omega),List.drop_eq_getElem_cons h,List.drop_eq_getElem_cons hy']
   simp only [wdot]
  ·rw [if_neg (by omega),List.drop_of_length_le (by omega)]
   simp [wdot]
theorem spec_l2Dot_is (k : Nat) (x y : List Int) (hn : x.length ≤ 4611686018427387904) (hl : x.length ≤ y.length) (hk : x.length < k) : spec_l2Dot.f k x y = some (wdot 0 x y):=by
 unfold spec_l2Dot.f
 have:=spec_l2Dot_l k 0 x y 0 hn hl (by omega) (by omega)
 simpa using this
theorem spec_l1Most_is (a b : Int) : spec_l1Most.f a b = some (max a b):=by
 unfold spec_l1Most.f
 by_cases h : a > b
 ·rw [if_pos h]
  congr 1
  omega
 ·rw [if_neg h]
  congr 1
  omega
theorem spec_l1Least_is (a b : Int) : spec_l1Least.f a b = some (min a b):=by
 unfold spec_l1Least.f
 by_cases h : a < b
 ·rw [if_pos h]
  congr 1
  omega
 ·rw [if_neg h]
  congr 1
  omega
def endsL (ws : List Int) : List (List Int) → List Int → Int → Int → Int × Int
 | x :: xs,l :: ls,lo,hi=>if l = 1 then endsL ws xs ls (min lo (wdot 0 ws x)) hi else endsL ws xs ls lo (max hi (wdot 0 ws x))
 | _,_,lo,hi=>(lo,hi)
theorem endsL_same (ws : List Int) (B : Int) : ∀ (ps : List (List Int)) (ls : List Int) (lo lo' hi hi' : Int),ls.length = ps.length → (∀ x ∈ ps,-B ≤ wdot 0 ws x ∧ wdot 0 ws x ≤ B) → (lo = lo' ∨ ((ls.any fun x=>decide (x = 1)) = true ∧ B ≤ lo ∧ B ≤ lo')) → (hi = hi' ∨ ((ls.any fun x=>decide (x ≠ 1)) = true ∧ hi ≤ -B ∧ hi' ≤ -B)) → endsL ws ps ls lo hi = endsL ws ps ls lo' hi'
 | [],ls,lo,lo',hi,hi',hl,_,h1,h2=>by
  have : ls = []:=List.length_eq_zero_iff.1 hl
  subst this
  simp only [List.any_nil,Bool.false_eq_true,false_and,or_false] at h1 h2
  rw [h1,h2]
 | x :: ps,[],lo,lo',hi,hi',hl,_,h1,h2=>by simp at hl
 | x :: ps,l :: ls,lo,lo',hi,hi',hl,hb,h1,h2=>by
  have q:=hb x (by simp)
  have hb':=fun y hy=>hb y (List.mem_cons_of_mem _ hy)
  simp only [List.length_cons] at hl
  simp only [endsL]
  simp only [List.any_cons,Bool.or_eq_true,decide_eq_true_eq] at h1 h2
  by_cases c : l = 1
  ·rw [if_pos c,if_pos c]
   refine endsL_same ws B ps ls _ _ _ _ (by omega) hb' (.inl ?_) ?_
   ·rcases h1 with h1 | ⟨_,h3,h4⟩
    ·rw [h1]
    ·omega
   ·rcases h2 with h2 | ⟨h3,h4⟩
    ·exact .inl h2
    ·rcases h3 with h3 | h3
     ·exact absurd c h3
     ·exact .inr ⟨h3,h4⟩
  ·rw [if_neg c,if_neg c]
   refine endsL_same ws B ps ls _ _ _ _ (by omega) hb' ?_ (.inl ?_)
   ·rcases h1 with h1 | ⟨h3,h4⟩
    ·exact .inl h1
    ·rcases h3 with h3 | h3
     ·exact absurd h3 c
     ·exact .inr ⟨h3,h4⟩
   ·rcases h2 with h2 | ⟨_,h3,h4⟩
    ·rw [h2]
    ·omega
theorem spec_l4Ends_l (ws : List Int) (ps : List (List Int)) (ls : List Int) (h16 : ps.length ≤ 16) (hl : ls.length = ps.length) (hw : ws.length ≤ 4) (hx : ∀ x ∈ ps,x.length = ws.length) : ∀ (m k i : Nat) (lo hi : Int),i + m = ps.length → 10 ≤ k → spec_l4Ends.l0 (k + m + 1) ws lo hi (i : Int) ps ls = some (endsL ws (ps.drop i) (ls.drop i) lo hi)
 | 0,k,i,lo,hi,hi',hk=>by
  rw [spec_l4Ends.l0,if_neg (by omega),List.drop_of_length_le (by omega)]
  rfl
 | m + 1,k,i,lo,hi,hi',hk=>by
  have h1 : i < ps.length:=by omega
  have h2 : i < ls.length:=by omega
  have e : rd_L1 ps (i : Int) = ps[i]:=by simp [rd_L1,h1]
  have q:=hx ps[i] (List.getElem_mem h1)
  rw [show k + (m + 1) + 1 = (k + m + 1) + 1 by omega,spec_l4Ends.l0,if_pos (by omega),if_pos (by omega),e,spec_l2Dot_is _ ws _ (by omega) (by omega) (by omega),w64_nat (by omega),rd_nat ls i h2]
  simp only [Option.bind_some]
  rw [if_pos (by omega),spec_l1Least_is,spec_l1Most_is]
  simp only [Option.bind_some]
  rw [spec_l4Ends_l ws ps ls h16 hl hw hx m k (i + 1) _ _ (by omega) hk,spec_l4Ends_l ws ps ls h16 hl hw hx m k (i + 1) _ _ (by omega) hk,List.drop_eq_getElem_cons h1,List.drop_eq_getElem_cons h2]
  simp only [endsL]
  split <;> rfl
theorem spec_l4Ends_is (k : Nat) (ps : List (List Int)) (ls ws : List Int) (h16 : ps.length ≤ 16) (hl : ls.length = ps.length) (hw : ws.length ≤ 4) (hx : ∀ x ∈ ps,x.length = ws.length) (hk : 100 < k) : spec_l4Ends.f k ps ls ws = some (endsL ws ps ls 100000 (-100000)):=by
 unfold spec_l4Ends.f
 have:=spec_l4Ends_l ws ps ls h16 hl hw hx ps.length (k - ps.length - 1) 0 100000 (-100000) (by omega) (by omega)
 rw [show k - ps.length - 1 + ps.length + 1 = k by omega] at this
 exact this
theorem point_prod {ws x : List Int} (hw : ws.all (inB (-99) 99) = true) (h4 : ws.length ≤ 4) (hx : x.all (inB (-9) 9) = true) : wdot 0 ws x = dot ws x ∧ -3564 ≤ wdot 0 ws x ∧ wdot 0 ws x ≤ 3564:=by
 have b : ∀ i (h : i < ws.length) (h' : i < x.length),-891 ≤ ws[i] * x[i] ∧ ws[i] * x[i] ≤ 891:=fun i h h'=>by
  have q1:=all_range hw i h
  have q2:=all_range hx i h'
  have:=mul_range (a:=ws[i]) (b:=x[i]) (A:=99) (B:=9) (by omega) (by omega)
  omega
 have e:=wdot_eq (M:=891) (by omega) ws x 0 (by omega) b (by omega) (by omega)
 have r:=dot_range (M:=891) (by omega) ws x 4 h4 b
 rw [e]
 refine ⟨by omega,by omega,by omega⟩
theorem laws_toIntS_l : ∀ (k i : Nat) (l acc : List Int),l.length ≤ 4611686018427387904 → acc.length = l.length → i ≤ l.length → l.length < i + k → (∀ j,j < i → acc[j]? = l[j]?) → laws_toIntS.l0 k l acc (i : Int) = some l
 | 0,i,l,acc,_,_,_,hk,_=>by omega
 | k + 1,i,l,acc,hn,hl,hi,hk,hj=>by
  simp only [laws_toIntS.l0]
  by_cases h : i < l.length
  ·rw [if_pos (by omega),if_pos (by omega),if_pos (by omega),rd_nat l i h,w64_nat (by omega)]
   refine laws_toIntS_l k (i + 1) l _ hn (by simp [hl]) (by omega) (by omega) fun j hj'=>?_
   rw [List.getElem?_set]
   by_cases e : i = j
   ·subst e
    simp [h,hl]
   ·simp only [Int.toNat_natCast]
    rw [if_neg e]
    exact hj j (by omega)
  ·rw [if_neg (by omega)]
   congr 1
   refine List.ext_getElem? fun j=>?_
   by_cases e : j < i
   ·exact hj j e
   ·rw [List.getElem?_eq_none (by omega),List.getElem?_eq_none (by omega)]
theorem laws_toIntS_is (k : Nat) (l : List Int) (hn : l.length ≤ 35184372088832) (hk : l.length < k) : laws_toIntS.f k l = some l:=by
 unfold laws_toIntS.f
 rw [if_pos (by omega),if_pos (by omega)]
 exact laws_toIntS_l k 0 l _ (by omega) (by simp) (by omega) (by omega) fun j hj=>by omega
theorem laws_toIntSS_l : ∀ (k i : Nat) (l acc : List (List Int)),l.length ≤ 1048576 → (∀ r ∈ l,r.length ≤ 1048576) → acc.length = l.length → i ≤ l.length → l.length + 1048576 < i + k → (∀ j,j < i → acc[j]? = l[j]?) → laws_toIntSS.l0 k l acc (i : Int) = some l
 | 0,i,l,acc,_,_,_,_,hk,_=>by omega
 | k + 1,i,l,acc,hn,hr,hl,hi,hk,hj=>by
  simp only [laws_toIntSS.l0]
  by_cases h : i < l.length
  ·have e : rd_L1 l (i : Int) = l[i]:=by simp [rd_L1,h]
   have hx:=hr l[i] (List.getElem_mem h)
   rw [if_pos (by omega),if_pos (by omega),e,laws_toIntS_is k l[i] (by omega) (by omega)]
   simp only [Option.bind_some]
   rw [if_pos (by omega),w64_nat (by omega)]
   refine laws_toIntSS_l k (i + 1) l _ hn hr (by simp [hl]) (by omega) (by omega) fun j hj'=>?_
   rw [List.getElem?_set]
   by_cases e : i = j
   ·subst e
    simp [h,hl]
   ·simp only [Int.toNat_natCast]
    rw [if_neg e]
    exact hj j (by omega)
  ·rw [if_neg (by omega)]
   congr 1
   refine List.ext_getElem? fun j=>?_
   by_cases e : j < i
   ·exact hj j e
   ·rw [List.getElem?_eq_none (by omega),List.getElem?_eq_none (by omega)]
theorem laws_toIntSS_is (k : Nat) (l : List (List Int)) (hn : l.length ≤ 1048576) (hr : ∀ r ∈ l,r.length ≤ 1048576) (hk : 2097152 < k) : laws_toIntSS.f k l = some l:=by
 unfold laws_toIntSS.f
 rw [if_pos (by omega),if_pos (by omega)]
 exact laws_toIntSS_l k 0 l _ hn hr (by simp) (by omega) (by omega) fun j hj=>by omega
theorem laws_toSample_is (k : Nat) (l : List (List Int)) (m : List Int) (hn : l.length ≤ 1048576) (hr : ∀ r ∈ l,r.length ≤ 1048576) (hm : m.length ≤ 1048576) (hk : 2097152 < k) : laws_toSample.f k l m = some (l,m):=by
 unfold laws_toSample.f
 rw [laws_toIntSS_is k l hn hr hk,Option.bind_some,laws_toIntS_is k m (by omega) (by omega)]
 rfl
theorem impl_within_is (a lo hi : Int) : impl_within.f a lo hi = some (inB lo hi a):=by
 unfold impl_within.f
 exact within_is a lo hi
theorem impl_allWithin_l : ∀ (k i : Nat) (l : List Int) (lo hi : Int),l.length ≤ 4611686018427387904 → i ≤ l.length → l.length < i + k → impl_allWithin.l0 k lo hi l (l.length : Int) (i : Int) = some ((l.drop i).all (inB lo hi))
 | 0,_,_,_,_,_,_,hk=>by omega
 | k + 1,i,l,lo,hi,hn,hi',hk=>by
  simp only [impl_allWithin.l0]
  by_cases h : i < l.length
  ·rw [if_pos (by omega),if_pos (by omega),if_pos (by omega),impl_within_is,rd_nat l i h,w64_nat (by omega),List.drop_eq_getElem_cons h,List.all_cons,impl_allWithin_l k (i + 1) l lo hi hn (by omega) (by omega)]
   simp only [Option.bind_some]
   by_cases e : inB lo hi l[i] = true
   ·rw [if_pos e,e]
    simp
   ·rw [if_neg e]
    simp [e]
  ·rw [if_neg (by omega),List.drop_of_length_le (by omega)]
   simp
theorem impl_allWithin_is (k : Nat) (l : List Int) (lo hi : Int) (hn : l.length ≤ 4611686018427387904) (hk : l.length < k) : impl_allWithin.f k l lo hi = some (l.all (inB lo hi)):=by
 unfold impl_allWithin.f
 have:=impl_allWithin_l k 0 l lo hi hn (by omega) (by omega)
 simpa using this
theorem impl_IsPoint_is (k : Nat) (l : List Int) (hn : l.length ≤ 4611686018427387904) (hk : l.length < k) : impl_IsPoint.f k l = some (ptB l):=by
 unfold impl_IsPoint.f ptB
 rw [impl_within_is,impl_allWithin_is k l (-9) 9 hn hk]
 simp only [Option.bind_some]
 cases inB 1 4 (l.length : Int) <;> simp
theorem impl_isLabel_is (a : Int) : impl_isLabel.f a = some (lbB a):=by
 unfold impl_isLabel.f lbB
 by_cases e1 : a = 1
 ·rw [if_pos e1]
  simp [e1]
 ·rw [if_neg e1]
  congr 1
  by_cases e2 : a = -1
  ·simp [e2]
  ·simp [e1,e2]
theorem impl_IsSample_l (k0 : Nat) (hk0 : 1048576 < k0) : ∀ (k i : Nat) (l : List (List Int)) (m : List Int),l.length ≤ 16 → m.length = l.length → (∀ r ∈ l,r.length ≤ 1048576) → i ≤ l.length → l.length < i + k → impl_IsSample.l0 (k + k0) l (l.length : Int) (i : Int) l m = some ((m.drop i).all lbB && (l.drop i).all fun x=>ptB x && decide (x.length = (l.headD []).length))
 | 0,i,l,m,_,_,_,_,hk=>by omega
 | k + 1,i,l,m,hn,hm,hr,hi,hk=>by
  rw [show k + 1 + k0 = (k + k0) + 1 by omega]
  simp only [impl_IsSample.l0]
  by_cases h : i < l.length
  ·have h' : i < m.length:=by omega
   have e : rd_L1 l (i : Int) = l[i]:=by simp [rd_L1,h]
   have e0 : rd_L1 l 0 = l.headD []:=by cases l <;> simp [rd_L1]
   have hx:=hr l[i] (List.getElem_mem h)
   rw [if_pos (by omega),if_pos (by omega),if_pos (by omega),e,impl_IsPoint_is (k + k0) l[i] (by omega) (by omega),e0]
   simp only [Option.bind_some]
   rw [List.drop_eq_getElem_cons h,List.all_cons,List.drop_eq_getElem_cons h',List.all_cons]
   by_cases c1 : ptB l[i] = true
   ·rw [if_pos c1,if_pos (by omega),c1,Bool.true_and]
    by_cases c2 : l[i].length = (l.headD []).length
    ·rw [if_pos (by omega),if_pos (by omega),impl_isLabel_is,rd_nat m i h',w64_nat (by omega),impl_IsSample_l k0 hk0 k (i + 1) l m hn hm hr (by omega) (by omega)]
     simp only [Option.bind_some]
     by_cases c3 : lbB m[i] = true
     ·rw [if_pos c3,c3]
      simp [c2]
     ·rw [if_neg c3]
      simp [c3]
    ·rw [if_neg (by omega)]
     simp only [c2,decide_false,Bool.false_and,Bool.and_false]
   ·rw [if_neg c1]
    simp [c1]
  ·rw [if_neg (by omega),List.drop_of_length_le (by omega),List.drop_of_length_le (by omega)]
   simp
theorem impl_IsSample_is (k : Nat) (l : List (List Int)) (m : List Int) (hr : ∀ r ∈ l,r.length ≤ 1048576) (hm : m.length ≤ 1048576) (hk : 1048600 < k) : impl_IsSample.f k l m = some (smB l m):=by
 obtain ⟨k,rfl⟩ : ∃ q,k = q + 1:=⟨k - 1,by omega⟩
 unfold impl_IsSample.f smB
 by_cases c1 : l.length ≤ 16
 ·rw [if_neg (by omega)]
  simp only [impl_IsSample.j0]
  by_cases c2 : m.length = l.length
  ·rw [if_neg (by simp [c2])]
   have:=impl_IsSample_l (k - 17) (by omega) 17 0 l m c1 c2 hr (by omega) (by omega)
   rw [show 17 + (k - 17) = k by omega] at this
   rw [show ((0 : Nat) : Int) = 0 from rfl] at this
   rw [this]
   simp [c1,c2]
  ·rw [if_pos (by simp;omega)]
   simp [c2]
 ·rw [if_pos (by omega)]
  simp [impl_IsSample.j0,c1]
theorem impl_Sample_with_l (ps : List (List Int)) (a : Int) (ls : List Int) (hn : ls.length ≤ 1048576) : ∀ (k i : Nat) (acc : List Int),acc.length ≤ i → i ≤ ls.length → ls.length < i + k → impl_Sample_with.l0 k a acc ls (ls.length : Int) (i : Int) = some (acc ++ idxs a (ls.drop i) i)
 | 0,_,_,_,_,hk=>by omega
 | k + 1,i,acc,ha,hi,hk=>by
  simp only [impl_Sample_with.l0]
  by_cases h : i < ls.length
  ·rw [if_pos (by omega),if_pos (by omega),if_pos (by omega),rd_nat ls i h,w64_nat (by omega),List.drop_eq_getElem_cons h]
   simp only [idxs]
   by_cases e : ls[i] = a
   ·rw [if_pos e,if_pos (by omega),if_pos e,impl_Sample_with_l ps a ls hn k (i + 1) _ (by simp;omega) (by omega) (by omega)]
    simp
   ·rw [if_neg e,if_neg e,impl_Sample_with_l ps a ls hn k (i + 1) _ (by omega) (by omega) (by omega)]
  ·rw [if_neg (by omega),List.drop_of_length_le (by omega)]
   simp [idxs]
theorem impl_Sample_with_is (k : Nat) (ps : List (List Int)) (ls : List Int) (a : Int) (hn : ls.length ≤ 1048576) (hk : ls.length < k) : impl_Sample_with.f k ps ls a = some (idxs a ls 0):=by
 unfold impl_Sample_with.f
 have:=impl_Sample_with_l ps a ls hn k 0 [] (by simp) (by omega) (by omega)
 simpa using this
theorem impl_isMixed_is (k : Nat) (ps : List (List Int)) (ls : List Int) (hr : ∀ r ∈ ps,r.length ≤ 1048576) (hm : ls.length ≤ 1048576) (hk : 1048600 < k) : impl_isMixed.f k ps ls = some (mixB ps ls):=by
 unfold impl_isMixed.f mixB
 rw [impl_IsSample_is k ps ls hr hm hk,impl_Sample_with_is k ps ls 1 hm (by omega),impl_Sample_with_is k ps ls (-1) hm (by omega)]
 simp only [Option.bind_some]
 rw [← idxs_any 1 ls 0,← idxs_any (-1) ls 0]
 by_cases c : smB ps ls = true
 ·rw [if_pos c,c]
  by_cases c2 : ((idxs 1 ls 0).length : Int) > 0
  ·rw [if_pos c2]
   simp only [c2,decide_true,Bool.true_and]
  ·rw [if_neg c2]
   simp only [c2,decide_false,Bool.true_and,Bool.false_and]
 ·rw [if_neg c]
  simp [c]
theorem impl_product_l : ∀ (k i : Nat) (x y : List Int) (s : Int),x.length ≤ 4611686018427387904 → x.length ≤ y.length → i ≤ x.length → x.length < i + k → impl_product.l0 k y s x (x.length : Int) (i : Int) = some (wdot s (x.drop i) (y.drop i))
 | 0,_,_,_,_,_,_,_,hk=>by omega
 | k + 1,i,x,y,s,hn,hl,hi,hk=>by
  simp only [impl_product.l0]
  by_cases h : i < x.length
  ·have hy' : i < y.length:=by omega
   rw [if_pos (by omega),if_pos (by omega),if_pos (by omega),if_pos (by omega),rd_nat x i h,rd_nat y i hy',w64_nat (by omega)]
   rw [impl_product_l k (i + 1) x y _ hn hl (by omega) (by omega),List.drop_eq_getElem_cons h,List.drop_eq_getElem_cons hy']
   simp only [wdot]
  ·rw [if_neg (by omega),List.drop_of_length_le (by omega)]
   simp [wdot]
theorem impl_product_is (k : Nat) (x y : List Int) (hn : x.length ≤ 4611686018427387904) (hl : x.length ≤ y.length) (hk : x.length < k) : impl_product.f k x y = some (wdot 0 x y):=by
 unfold impl_product.f
 have:=impl_product_l k 0 x y 0 hn hl (by omega) (by omega)
 simpa using this
theorem impl_Sample_between_l (ws : List Int) (ps : List (List Int)) (ls : List Int) (h16 : ps.length ≤ 16) (hl : ls.length = ps.length) (hw : ws.length ≤ 4) (hx : ∀ x ∈ ps,x.length = ws.length) : ∀ (m k i : Nat) (lo hi : Int),i + m = ps.length → 10 ≤ k → impl_Sample_between.l0 (k + m + 1) ws hi lo ps (ps.length : Int) (i : Int) ps ls = some ((endsL ws (ps.drop i) (ls.drop i) lo hi).2,(endsL ws (ps.drop i) (ls.drop i) lo hi).1)
 | 0,k,i,lo,hi,hi',hk=>by
  rw [impl_Sample_between.l0,if_neg (by omega),List.drop_of_length_le (by omega)]
  rfl
 | m + 1,k,i,lo,hi,hi',hk=>by
  have h1 : i < ps.length:=by omega
  have h2 : i < ls.length:=by omega
  have e : rd_L1 ps (i : Int) = ps[i]:=by simp [rd_L1,h1]
  have q:=hx ps[i] (List.getElem_mem h1)
  have e1 : mn lo (wdot 0 ws ps[i]) = min lo (wdot 0 ws ps[i]):=by
   unfold mn
   split <;> omega
  have e2 : mx hi (wdot 0 ws ps[i]) = max hi (wdot 0 ws ps[i]):=by
   unfold mx
   split <;> omega
  rw [show k + (m + 1) + 1 = (k + m + 1) + 1 by omega,impl_Sample_between.l0,if_pos (by omega),if_pos (by omega),if_pos (by omega),e,impl_product_is _ ws _ (by omega) (by omega) (by omega),w64_nat (by omega),rd_nat ls i h2]
  simp only [Option.bind_some]
  rw [if_pos (by omega),e1,e2]
  rw [impl_Sample_between_l ws ps ls h16 hl hw hx m k (i + 1) _ _ (by omega) hk,impl_Sample_between_l ws ps ls h16 hl hw hx m k (i + 1) _ _ (by omega) hk,List.drop_eq_getElem_cons h1,List.drop_eq_getElem_cons h2]
  simp only [endsL]
  split <;> rfl
theorem impl_Sample_between_is (k : Nat) (ps : List (List Int)) (ls ws : List Int) (h16 : ps.length ≤ 16) (hl : ls.length = ps.length) (hw : ws.length ≤ 4) (hx : ∀ x ∈ ps,x.length = ws.length) (hk : 100 < k) : impl_Sample_between.f k ps ls ws = some ((endsL ws ps ls 1000000000 (-1000000000)).2,(endsL ws ps ls 1000000000 (-1000000000)).1):=by
 unfold impl_Sample_between.f
 have:=impl_Sample_between_l ws ps ls h16 hl hw hx ps.length (k - ps.length - 1) 0 1000000000 (-1000000000) (by omega) (by omega)
 rw [show k - ps.length - 1 + ps.length + 1 = k by omega] at this
 exact this
theorem impl_copied_is (l : List Int) (h : l.length < 17592186044416) : impl_copied.f l = some l:=by
 unfold impl_copied.f
 simp only [Option.bind_some]
 rw [if_pos (by simpa using h)]
 simp
theorem laws_eqIntS_l : ∀ (k i : Nat) (l r : List Int),l.length ≤ 4611686018427387904 → r.length = l.length → i ≤ l.length → l.length < i + k → laws_eqIntS.l0 k l r (i : Int) = some (decide (l.drop i = r.drop i))
 | 0,i,l,r,_,_,_,hk=>by omega
 | k + 1,i,l,r,hn,hl,hi,hk=>by
  simp only [laws_eqIntS.l0]
  by_cases h : i < l.length
  ·rw [if_pos (by omega),if_pos (by omega),if_pos (by omega),rd_nat l i h,rd_nat r i (by omega),w64_nat (by omega),laws_eqIntS_l k (i + 1) l r hn hl (by omega) (by omega),List.drop_eq_getElem_cons h,List.drop_eq_getElem_cons (show i < r.length by omega)]
   by_cases e : l[i] = r[i]'(by omega)
   ·rw [if_pos e,e]
    simp only [List.cons.injEq,true_and]
   ·rw [if_neg e]
    simp only [List.cons.injEq,e,false_and,decide_false]
  ·rw [if_neg (by omega),List.drop_of_length_le (by omega),List.drop_of_length_le (by omega)]
   simp
theorem laws_eqIntS_is (k : Nat) (l r : List Int) (hn : l.length ≤ 4611686018427387904) (hk : l.length < k) : laws_eqIntS.f k l r = some (decide (l = r)):=by
 unfold laws_eqIntS.f
 by_cases h : l.length = r.length
 ·rw [if_pos (by omega)]
  have:=laws_eqIntS_l k 0 l r hn (by omega) (by omega) (by omega)
  simpa using this
 ·rw [if_neg (by omega)]
  have : l ≠ r:=fun e=>h (by rw [e])
  simp [this]
theorem laws_eqIntS_same (k : Nat) (l : List Int) (hn : l.length ≤ 4611686018427387904) (hk : l.length < k) : laws_eqIntS.f k l l = some true:=by
 rw [laws_eqIntS_is k l l hn hk]
 simp
theorem laws_eqIntSS_l : ∀ (k i : Nat) (l : List (List Int)),l.length ≤ 1048576 → (∀ r ∈ l,r.length ≤ 1048576) → i ≤ l.length → l.length + 1048576 < i + k → laws_eqIntSS.l0 k l l (i : Int) = some true
 | 0,i,l,_,_,_,hk=>by omega
 | k + 1,i,l,hn,hr,hi,hk=>by
  simp only [laws_eqIntSS.l0]
  by_cases h : i < l.length
  ·have e : rd_L1 l (i : Int) = l[i]:=by simp [rd_L1,h]
   have hx:=hr l[i] (List.getElem_mem h)
   rw [if_pos (by omega),if_pos (by omega),if_pos (by omega),e,laws_eqIntS_same k l[i] (by omega) (by omega)]
   simp only [Option.bind_some,if_true]
   rw [w64_nat (by omega)]
   exact laws_eqIntSS_l k (i + 1) l hn hr (by omega) (by omega)
  ·rw [if_neg (by omega)]
theorem laws_eqIntSS_same (k : Nat) (l : List (List Int)) (hn : l.length ≤ 1048576) (hr : ∀ r ∈ l,r.length ≤ 1048576) (hk : 2097152 < k) : laws_eqIntSS.f k l l = some true:=by
 unfold laws_eqIntSS.f
 rw [if_pos rfl]
 exact laws_eqIntSS_l k 0 l hn hr (by omega) (by omega)
theorem laws_eqSample_same (k : Nat) (l : List (List Int)) (m : List Int) (hn : l.length ≤ 1048576) (hr : ∀ r ∈ l,r.length ≤ 1048576) (hm : m.length ≤ 1048576) (hk : 2097152 < k) : laws_eqSample.f k l m l m = some true:=by
 unfold laws_eqSample.f
 rw [laws_eqIntSS_same k l hn hr hk,laws_eqIntS_same k m (by omega) (by omega)]
 rfl
theorem laws_markIntS_l : ∀ (k : Nat) (post pre : List Int) (a : Int),-4611686018427387904 ≤ a → a + post.length ≤ 4611686018427387904 → pre.length + post.length ≤ 4611686018427387904 → post.length < k → laws_markIntS.l0 k (pre ++ post) a (pre.length : Int) = some (a + post.length,pre ++ marks a post.length)
 | 0,_,_,_,_,_,_,hk=>by omega
 | k + 1,[],pre,a,_,_,_,_=>by
  simp only [laws_markIntS.l0]
  rw [if_neg (by simp)]
  simp [marks]
 | k + 1,x :: post,pre,a,h1,h2,h3,hk=>by
  simp only [laws_markIntS.l0]
  simp only [List.length_cons] at h2 h3 hk
  rw [if_pos (by simp;omega),if_pos (by omega),w64_nat (by omega),w64 (by omega) (by omega)]
  rw [set_mid pre post x a _ (by simp)]
  have:=laws_markIntS_l k post (pre ++ [a]) (a + 1) (by omega) (by omega) (by simp;omega) (by omega)
  simp only [List.append_assoc,List.singleton_append,List.length_append,List.length_cons,List.length_nil,Nat.zero_add] at this
  rw [this]
  simp only [List.length_cons,marks]
  congr 2
  omega
theorem laws_markIntS_is (k : Nat) (l : List Int) (a : Int) (h1 : -4611686018427387904 ≤ a) (h2 : a + l.length ≤ 4611686018427387904) (h3 : l.length ≤ 4611686018427387904) (hk : l.length < k) : laws_markIntS.f k l a = some (a + l.length,marks a l.length):=by
 unfold laws_markIntS.f
 exact laws_markIntS_l k l [] a h1 h2 (by simpa using h3) hk
theorem laws_markIntSS_l : ∀ (m k i : Nat) (l : List (List Int)) (a : Int),i + m = l.length → l.length ≤ 1048576 → (∀ r ∈ l,r.length ≤ 1048576) → 0 ≤ a → a + m * 1048576 ≤ 4611686018427387904 → 1048576 + m < k → ∃ v l',laws_markIntSS.l0 k l a (i : Int) = some (v,l') ∧ a ≤ v ∧ v ≤ a + m * 1048576
 | 0,k,i,l,a,hi,hn,hr,ha,hb,hk=>by
  obtain ⟨k,rfl⟩ : ∃ q,k = q + 1:=⟨k - 1,by omega⟩
  rw [laws_markIntSS.l0,if_neg (by omega)]
  exact ⟨a,l,rfl,by omega,by omega⟩
 | m + 1,k,i,l,a,hi,hn,hr,ha,hb,hk=>by
  obtain ⟨k,rfl⟩ : ∃ q,k = q + 1:=⟨k - 1,by omega⟩
  have h : i < l.length:=by omega
  have e : rd_L1 l (i : Int) = l[i]:=by simp [rd_L1,h]
  have hx:=hr l[i] (List.getElem_mem h)
  rw [laws_markIntSS.l0,if_pos (by omega),if_pos (by omega),e,laws_markIntS_is k l[i] a (by omega) (by omega) (by omega) (by omega)]
  simp only [Option.bind_some]
  rw [w64_nat (by omega)]
  obtain ⟨v,l',hv,h1,h2⟩:=laws_markIntSS_l m k (i + 1) (l.set (i : Int).toNat (marks a l[i].length)) (a + l[i].length) (by simp;omega) (by simpa using hn) (fun r hr'=>by
   rcases List.mem_or_eq_of_mem_set hr' with h | rfl
   ·exact hr r h
   ·rw [marks_length];omega) (by omega) (by omega) (by omega)
  exact ⟨v,l',hv,by omega,by omega⟩
theorem laws_markIntSS_tells (k : Nat) (l : List (List Int)) (hn : l.length ≤ 1048576) (hr : ∀ r ∈ l,r.length ≤ 1048576) (hk : 2097152 < k) : ∃ v l',laws_markIntSS.f k l 1 = some (v,l') ∧ 1 ≤ v ∧ v ≤ 1099511627777:=by
 unfold laws_markIntSS.f
 obtain ⟨v,l',hv,h1,h2⟩:=laws_markIntSS_l l.length k 0 l 1 (by omega) hn hr (by omega) (by omega) (by omega)
 exact ⟨v,l',hv,by omega,by omega⟩
theorem laws_markSample_tells (k : Nat) (l : List (List Int)) (m : List Int) (hn : l.length ≤ 1048576) (hr : ∀ r ∈ l,r.length ≤ 1048576) (hm : m.length ≤ 1048576) (hk : 2097152 < k) : ∃ v l' m',laws_markSample.f k l m 1 = some (v,l',m') ∧ 1 ≤ v ∧ v ≤ 1099512676353:=by
 unfold laws_markSample.f
 obtain ⟨v,l',hv,h1,h2⟩:=laws_markIntSS_tells k l hn hr hk
 rw [hv,Option.bind_some,laws_markIntS_is k m v (by omega) (by omega) (by omega) (by omega)]
 exact ⟨_,_,_,rfl,by omega,by omega⟩
theorem laws_heldIntS_l : ∀ (k n i : Nat) (a b : Int),-4611686018427387904 ≤ a → a + n ≤ 4611686018427387904 → n ≤ 4611686018427387904 → i ≤ n → n < i + k → b = a + i → laws_heldIntS.l0 k (marks a n) b (i : Int) = some (a + n)
 | 0,_,_,_,_,_,_,_,_,hk,_=>by omega
 | k + 1,n,i,a,b,h1,h2,h3,hi,hk,hb=>by
  simp only [laws_heldIntS.l0,marks_length]
  by_cases h : i < n
  ·rw [if_pos (by omega),if_pos (by omega),rd_nat _ i (by rw [marks_length];exact h),marks_get,if_pos hb.symm,w64_nat (by omega),w64 (by omega) (by omega)]
   exact laws_heldIntS_l k n (i + 1) a _ h1 h2 h3 (by omega) (by omega) (by omega)
  ·rw [if_neg (by omega)]
   congr 1
   omega
theorem laws_heldIntS_is (k n : Nat) (a : Int) (h1 : -4611686018427387904 ≤ a) (h2 : a + n ≤ 4611686018427387904) (h3 : n ≤ 4611686018427387904) (hk : n < k) : laws_heldIntS.f k (marks a n) a = some (a + n):=by
 unfold laws_heldIntS.f
 exact laws_heldIntS_l k n 0 a a h1 h2 h3 (by omega) (by omega) (by omega)
theorem ev_of {α : Type} {g : Nat → Option α} {r : α} (B : Nat) (h : ∀ k,B < k → g k = some r) : Ev g r:=⟨B + 1,fun k hk=>h k (by omega)⟩
theorem ev_const {α : Type} (r : α) : Ev (fun _=>some r) r:=Ev.now r
theorem ev_if_pos {α : Type} {c : Prop} [Decidable c] {f g : Nat → Option α} {r : α} (h : c) (k : Ev f r) : Ev (fun n=>if c then f n else g n) r:=Ev.congr (fun n=>if_pos h) k
theorem ev_if_neg {α : Type} {c : Prop} [Decidable c] {f g : Nat → Option α} {r : α} (h : ¬ c) (k : Ev g r) : Ev (fun n=>if c then f n else g n) r:=Ev.congr (fun n=>if_neg h) k
def wtL (m : Nat) : Nat → List Int → List (List Int)
 | 0,b=>[b]
 | d + 1,b=>(List.range (2 * m + 1)).flatMap fun i : Nat=>wtL m d (b ++ [(i : Int) - m])
def wtF (m d : Nat) (b : List Int) : Nat → Nat → List (List Int)
 | 0,_=>[]
 | j + 1,i=>wtL m d (b ++ [(i : Int) - m]) ++ wtF m d b j (i + 1)
theorem wtF_range (m d : Nat) (b : List Int) : ∀ j i,wtF m d b j i = (List.range' i j).flatMap fun i : Nat=>wtL m d (b ++ [(i : Int) - m])
 | 0,i=>rfl
 | j + 1,i=>by
  rw [wtF,wtF_range m d b j (i + 1),List.range'_succ,List.flatMap_cons]
theorem wtL_succ (m d : Nat) (b : List Int) : wtL m (d + 1) b = wtF m d b (2 * m + 1) 0:=by
 rw [wtF_range,wtL,List.range_eq_range']
theorem wtF_snoc (m d : Nat) (b : List Int) : ∀ i j,wtF m d b (i + 1) j = wtF m d b i j ++ wtL m d (b ++ [((j + i : Nat) : Int) - m])
 | 0,j=>by simp [wtF]
 | i + 1,j=>by
  rw [wtF,wtF_snoc m d b i (j + 1),wtF,List.append_assoc,show j + 1 + i = j + (i + 1) by omega]
section
variable {σ : Type} {V : Nat → σ → List Int → Option σ} {st : σ → List Int → σ} {N m : Nat}
def swC (V : Nat → σ → List Int → Option σ) (N m : Nat) (s : σ) (b : List Int) (d : Nat) (out : σ) : Prop :=
 ∃ r : List Int × Int,Ev (fun k=>impl_smallWeights.g0 (N : Int) (m : Int) k (b ++ List.replicate d (-(m : Int))) ((b.length : Int) - 1)) r ∧ Ev (fun k=>if r.2 < 0 then some s else (if r.2 < (N : Int) then impl_smallWeights.l0 V (N : Int) (m : Int) k s (r.1.set r.2.toNat (wrap64 (rd r.1 r.2 + 1))) else none)) out
theorem sw_row (b : List Int) (v : Int) (t : List Int) : rd (b ++ v :: t) (b.length : Int) = v:=by
 simp [rd]
theorem sw_put (b : List Int) (v u : Int) (t : List Int) : (b ++ v :: t).set b.length u = b ++ u :: t:=by
 simp
theorem sw_all (hm : m ≤ 1000) (hN : N ≤ 1000) (hV : ∀ s S,S.length = N → (∀ x ∈ S,-(m : Int) ≤ x ∧ x ≤ (m : Int)) → Ev (fun k=>V k s S) (st s S)) : ∀ (d : Nat) (b : List Int) (s : σ) (out : σ),b.length + d = N → (∀ x ∈ b,-(m : Int) ≤ x ∧ x ≤ (m : Int)) →
  swC V N m ((wtL m d b).foldl st s) b d out → Ev (fun k=>impl_smallWeights.l0 V (N : Int) (m : Int) k s (b ++ List.replicate d (-(m : Int)))) out
 | 0,b,s,out,hd,hb,⟨r,h1,h2⟩=>by
  rw [List.replicate_zero,List.append_nil] at h1 ⊢
  rw [show (b.length : Int) - 1 = wrap64 ((N : Int) - 1) by rw [w64 (x:=(N : Int) - 1) (by omega) (by omega)];omega] at h1
  exact Ev.step (f:=fun k=>(V k s b).bind fun s1=>(impl_smallWeights.g0 (N : Int) (m : Int) k b (wrap64 ((N : Int) - 1))).bind fun r=>(if r.2 < 0 then some s1 else (if r.2 < (N : Int) then impl_smallWeights.l0 V (N : Int) (m : Int) k s1 (r.1.set r.2.toNat (wrap64 (rd r.1 r.2 + 1))) else none))) (fun k=>by rw [impl_smallWeights.l0]) (Ev.bind (hV s b (by omega) hb) (Ev.bind h1 h2))
 | d + 1,b,s,out,hd,hb,h=>by
  have hb2 : ∀ i : Nat,i ≤ 2 * m → ∀ x ∈ b ++ [(i : Int) - m],-(m : Int) ≤ x ∧ x ≤ (m : Int):=fun i hi x hx=>by
   rcases List.mem_append.1 hx with hx | hx
   ·exact hb x hx
   ·rw [List.mem_singleton.1 hx]
    omega
  have go : ∀ (j i : Nat) (s : σ),i + (j + 1) = 2 * m + 1 → swC V N m ((wtF m d b (j + 1) i).foldl st s) b (d + 1) out → Ev (fun k=>impl_smallWeights.l0 V (N : Int) (m : Int) k s (b ++ ((i : Int) - m) :: List.replicate d (-(m : Int)))) out:=fun j=>by
   induction j with
   | zero =>
    intro i s hi h
    rw [wtF,wtF,List.append_nil] at h
    obtain ⟨r,h1,h2⟩:=h
    have:=sw_all hm hN hV d (b ++ [(i : Int) - m]) s out (by rw [List.length_append,List.length_singleton];omega) (hb2 i (by omega)) ?_
    ·rwa [List.append_assoc,List.singleton_append] at this
    ·refine ⟨r,Ev.step (fun k=>?_) h1,h2⟩
     rw [List.append_assoc,List.singleton_append,List.length_append,List.length_singleton,show ((b.length + 1 : Nat) : Int) - 1 = (b.length : Int) by omega]
     rw [impl_smallWeights.g0,if_pos (by omega),if_pos (by omega),sw_row,if_pos (by omega),Int.toNat_natCast,sw_put,w64 (x:=-(m : Int)) (by omega) (by omega),w64 (x:=(b.length : Int) - 1) (by omega) (by omega),List.replicate_succ]
   | succ j ih =>
    intro i s hi h
    rw [wtF,List.foldl_append] at h
    have rest:=ih (i + 1) _ (by omega) h
    have:=sw_all hm hN hV d (b ++ [(i : Int) - m]) s out (by rw [List.length_append,List.length_singleton];omega) (hb2 i (by omega)) ?_
    ·rwa [List.append_assoc,List.singleton_append] at this
    ·refine ⟨(b ++ ((i : Int) - m) :: List.replicate d (-(m : Int)),(b.length : Int)),Ev.step (f:=fun _=>some (b ++ ((i : Int) - m) :: List.replicate d (-(m : Int)),(b.length : Int))) (fun k=>?_) (ev_const _),?_⟩
     ·rw [List.append_assoc,List.singleton_append,List.length_append,List.length_singleton,show ((b.length + 1 : Nat) : Int) - 1 = (b.length : Int) by omega]
      rw [impl_smallWeights.g0,if_pos (by omega),if_pos (by omega),sw_row,if_neg (by omega)]
     ·refine ev_if_neg (by show ¬ ((b.length : Int) < 0);omega) (ev_if_pos (by show (b.length : Int) < (N : Int);omega) ?_)
      show Ev (fun k=>impl_smallWeights.l0 V (N : Int) (m : Int) k _ ((b ++ ((i : Int) - m) :: List.replicate d (-(m : Int))).set (b.length : Int).toNat (wrap64 (rd (b ++ ((i : Int) - m) :: List.replicate d (-(m : Int))) (b.length : Int) + 1)))) out
      rw [sw_row,Int.toNat_natCast,sw_put,w64 (x:=(i : Int) - m + 1) (by omega) (by omega),show (i : Int) - m + 1 = ((i + 1 : Nat) : Int) - m by omega]
      exact rest
  rw [List.replicate_succ,show -(m : Int) :: List.replicate d (-(m : Int)) = (((0 : Nat) : Int) - m) :: List.replicate d (-(m : Int)) by rw [show ((0 : Nat) : Int) - m = -(m : Int) by omega]]
  rw [wtL_succ] at h
  exact go (2 * m) 0 s (by omega) h
theorem sw_fill (hm : m ≤ 1000) (hN : N ≤ 1000) : ∀ (j i : Nat),i + j = N → Ev (fun k=>impl_smallWeights.f0 (N : Int) (m : Int) k (List.replicate i (-(m : Int)) ++ List.replicate j 0) (i : Int)) (List.replicate N (-(m : Int)))
 | 0,i,hj=>by
  obtain rfl : i = N:=by omega
  refine Ev.step (f:=fun _=>some (List.replicate i (-(m : Int)))) (fun k=>?_) (ev_const _)
  rw [impl_smallWeights.f0,if_neg (by omega),List.replicate_zero,List.append_nil]
 | j + 1,i,hj=>by
  refine Ev.step (fun k=>?_) (sw_fill hm hN j (i + 1) (by omega))
  have:=sw_put (List.replicate i (-(m : Int))) 0 (-(m : Int)) (List.replicate j 0)
  rw [List.length_replicate] at this
  rw [impl_smallWeights.f0,if_pos (by omega),if_pos (by omega),Int.toNat_natCast,List.replicate_succ,w64 (x:=-(m : Int)) (by omega) (by omega),this,w64_nat (by omega),List.replicate_succ',List.append_assoc,List.singleton_append]
theorem impl_smallWeights_ev (hm : m ≤ 1000) (hN : N ≤ 1000) (h1 : 1 ≤ N) (hV : ∀ s S,S.length = N → (∀ x ∈ S,-(m : Int) ≤ x ∧ x ≤ (m : Int)) → Ev (fun k=>V k s S) (st s S)) (s : σ) : Ev (fun k=>impl_smallWeights.f V k s (N : Int) (m : Int)) ((wtL m N []).foldl st s):=by
 unfold impl_smallWeights.f
 refine ev_if_pos (by omega) (ev_if_pos (by omega) ?_)
 rw [Int.toNat_natCast]
 refine Ev.bind (sw_fill hm hN N 0 (by omega)) ?_
 refine sw_all hm hN hV N [] s _ (by simp) (by simp) ⟨(List.replicate N (-(m : Int)),-1),Ev.step (f:=fun _=>some (List.replicate N (-(m : Int)),-1)) (fun k=>?_) (ev_const _),ev_if_pos (by show (-1 : Int) < 0;omega) (ev_const _)⟩
 show impl_smallWeights.g0 (N : Int) (m : Int) (k + 1) (List.replicate N (-(m : Int))) (-1) = _
 rw [impl_smallWeights.g0,if_neg (by omega)]
end
theorem wt_len (m : Nat) : ∀ d,(∀ b,(wtL m d b).length = (2 * m + 1) ^ d) ∧ ∀ b j i,(wtF m d b j i).length = j * (2 * m + 1) ^ d
 | 0=>⟨fun b=>by simp [wtL],fun b j=>by
  induction j with
  | zero=>intro i;simp [wtF]
  | succ j ih=>intro i;rw [wtF,List.length_append,ih,wtL];simp;omega⟩
 | d + 1=>by
  have a : ∀ b,(wtL m (d + 1) b).length = (2 * m + 1) ^ (d + 1):=fun b=>by
   rw [wtL_succ,(wt_len m d).2,Nat.pow_succ,Nat.mul_comm]
  refine ⟨a,fun b j=>?_⟩
  induction j with
  | zero=>intro i;simp [wtF]
  | succ j ih =>
   intro i
   rw [wtF,List.length_append,ih,a,Nat.add_mul,Nat.one_mul,Nat.add_comm]
theorem l4w_ev (N m : Nat) (hm : m ≤ 1000) (hN : N ≤ 1000) : ∀ (d : Nat) (b : List Int),(2 * m + 1) ^ d ≤ 1000000 → b.length + d = N → Ev (fun k=>spec_l4Weights.f k (N : Int) (m : Int) b) (wtL m d b)
 | 0,b,hB,hb=>by
  refine Ev.step (f:=fun _=>some [b]) (fun k=>?_) (ev_const _)
  rw [spec_l4Weights.f,if_pos (by omega)]
 | d + 1,b,hB,hb=>by
  have hp : (2 * m + 1) ^ (d + 1) = (2 * m + 1) * (2 * m + 1) ^ d:=by rw [Nat.pow_succ,Nat.mul_comm]
  have hd : (2 * m + 1) ^ d ≤ 1000000:=Nat.le_trans (Nat.pow_le_pow_right (by omega) (Nat.le_succ d)) hB
  have go : ∀ (j i : Nat) (acc : List (List Int)),i + j = 2 * m + 1 → acc = wtF m d b i 0 → Ev (fun k=>spec_l4Weights.l0 k (N : Int) (m : Int) b acc ((i : Int) - m)) (acc ++ wtF m d b j i):=fun j=>by
   induction j with
   | zero =>
    intro i acc hi ha
    refine Ev.step (f:=fun _=>some acc) (fun k=>?_) ?_
    ·rw [spec_l4Weights.l0,if_neg (by omega)]
    ·rw [wtF,List.append_nil]
     exact ev_const _
   | succ j ih =>
    intro i acc hi ha
    have la : acc.length ≤ 1000000:=by
     rw [ha,(wt_len m d).2]
     exact Nat.le_trans (Nat.mul_le_mul_right _ (by omega)) (Nat.le_trans (Nat.le_of_eq hp.symm) hB)
    have lw:=(wt_len m d).1 (b ++ [(i : Int) - m])
    have rec_:=l4w_ev N m hm hN d (b ++ [(i : Int) - m]) hd (by rw [List.length_append,List.length_singleton];omega)
    refine Ev.step (f:=fun k=>(spec_l4Weights.f k (N : Int) (m : Int) (b ++ [(i : Int) - m])).bind fun t124=>(if acc.length + t124.length < 5864062014805 then (spec_l4Weights.l0 k (N : Int) (m : Int) b (acc ++ t124) (wrap64 ((i : Int) - m + 1))) else (none))) (fun k=>?_) (Ev.bind rec_ (ev_if_pos (by omega) ?_))
    ·rw [spec_l4Weights.l0,if_pos (by omega),spec_l1Own_is b (by omega)]
     simp only [Option.bind_some]
     rw [if_pos (by omega)]
    ·have:=ih (i + 1) (acc ++ wtL m d (b ++ [(i : Int) - m])) (by omega) (by rw [ha,wtF_snoc,Nat.zero_add])
     rw [w64 (x:=(i : Int) - m + 1) (by omega) (by omega),show (i : Int) - m + 1 = ((i + 1 : Nat) : Int) - m by omega]
     rw [List.append_assoc] at this
     exact this
  refine Ev.step (f:=fun k=>spec_l4Weights.l0 k (N : Int) (m : Int) b [] (((0 : Nat) : Int) - m)) (fun k=>?_) ?_
  ·rw [spec_l4Weights.f,if_neg (by omega),w64 (x:=-(m : Int)) (by omega) (by omega),show ((0 : Nat) : Int) - m = -(m : Int) by omega]
  ·have:=go (2 * m + 1) 0 [] (by omega) rfl
   rw [List.nil_append] at this
   rw [wtL_succ]
   exact this
theorem ends_small (ws : List Int) : ∀ (ps : List (List Int)) (ls : List Int) (lo hi : Int),(∀ x ∈ ps,-3564 ≤ wdot 0 ws x ∧ wdot 0 ws x ≤ 3564) → -100000 ≤ lo → lo ≤ 100000 → -100000 ≤ hi → hi ≤ 100000 → -100000 ≤ (endsL ws ps ls lo hi).1 ∧ (endsL ws ps ls lo hi).1 ≤ 100000 ∧ -100000 ≤ (endsL ws ps ls lo hi).2 ∧ (endsL ws ps ls lo hi).2 ≤ 100000
 | [],ls,lo,hi,_,a,b,c,d=>by simp only [endsL];exact ⟨a,b,c,d⟩
 | x :: ps,[],lo,hi,_,a,b,c,d=>by simp only [endsL];exact ⟨a,b,c,d⟩
 | x :: ps,l :: ls,lo,hi,h,a,b,c,d=>by
  have hx:=h x (List.mem_cons_self ..)
  have ht : ∀ x ∈ ps,-3564 ≤ wdot 0 ws x ∧ wdot 0 ws x ≤ 3564:=fun y hy=>h y (List.mem_cons_of_mem _ hy)
  simp only [endsL]
  split
  ·exact ends_small ws ps ls _ _ ht (by omega) (by omega) c d
  ·exact ends_small ws ps ls _ _ ht a b (by omega) (by omega)
def stW (ps : List (List Int)) (ls : List Int) (s : Option (List Int) × Int × Int) (S : List Int) : Option (List Int) × Int × Int :=
 if (endsL S ps ls 100000 (-100000)).1 ≤ (endsL S ps ls 100000 (-100000)).2 then s
 else if wrap64 (s.2.1 * wdot 0 S S) < wrap64 (wrap64 (wrap64 ((endsL S ps ls 100000 (-100000)).1 - (endsL S ps ls 100000 (-100000)).2) * wrap64 ((endsL S ps ls 100000 (-100000)).1 - (endsL S ps ls 100000 (-100000)).2)) * s.2.2) then (some S,wrap64 (wrap64 ((endsL S ps ls 100000 (-100000)).1 - (endsL S ps ls 100000 (-100000)).2) * wrap64 ((endsL S ps ls 100000 (-100000)).1 - (endsL S ps ls 100000 (-100000)).2)),wdot 0 S S)
 else s
structure Wt (ps : List (List Int)) (ls : List Int) (S : List Int) : Prop where
 h16 : ps.length ≤ 16
 hl : ls.length = ps.length
 h4 : S.length ≤ 4
 h1 : 1 ≤ S.length
 hx : ∀ x ∈ ps,x.length = S.length
 hp : ∀ x ∈ ps,-3564 ≤ wdot 0 S x ∧ wdot 0 S x ≤ 3564
 same : endsL S ps ls 1000000000 (-1000000000) = endsL S ps ls 100000 (-100000)
theorem wvisit_ev {ps : List (List Int)} {ls S : List Int} (h : Wt ps ls S) (s : Option (List Int) × Int × Int) : Ev (fun k=>impl_WidestWeights.v ps ls k s S) (stW ps ls s S):=by
 have h4:=h.h4
 have h1:=h.h1
 have b:=ends_small S ps ls 100000 (-100000) h.hp (by omega) (by omega) (by omega) (by omega)
 have e1 : Ev (fun k=>impl_Sample_between.f k ps ls S) ((endsL S ps ls 100000 (-100000)).2,(endsL S ps ls 100000 (-100000)).1):=ev_of 100 fun k hk=>by rw [impl_Sample_between_is k ps ls S h.h16 h.hl h.h4 h.hx hk,h.same]
 have e2 : Ev (fun k=>impl_product.f k S S) (wdot 0 S S):=ev_of 10 fun k hk=>impl_product_is k S S (by omega) (Nat.le_refl _) (by omega)
 unfold impl_WidestWeights.v stW
 refine Ev.bind e1 (Ev.bind e2 ?_)
 generalize hE : endsL S ps ls 100000 (-100000) = E at b ⊢
 show Ev (fun k=>if wrap64 (E.1 - E.2) > 0 then _ else _) _
 have ww : wrap64 (E.1 - E.2) = E.1 - E.2:=w64 (by omega) (by omega)
 by_cases c : E.1 ≤ E.2
 ·rw [if_pos c]
  exact ev_if_neg (by rw [ww];omega) (ev_const _)
 ·rw [if_neg c]
  refine ev_if_pos (by rw [ww];omega) ?_
  by_cases c2 : wrap64 (s.2.1 * wdot 0 S S) < wrap64 (wrap64 (wrap64 (E.1 - E.2) * wrap64 (E.1 - E.2)) * s.2.2)
  ·rw [if_pos c2,if_pos c2]
   rw [impl_copied_is S (by omega)]
   exact Ev.bind (ev_const _) (ev_if_pos (by omega) (ev_const _))
  ·rw [if_neg c2,if_neg c2]
   exact ev_const _
def wOut (s : Option (List Int) × Int × Int) : List Int × Bool:=(s.1.getD [],decide (((s.1.getD []).length : Int) > 0))
theorem wloop_ev {ps : List (List Int)} {ls : List Int} (L : List (List Int)) (hL : L.length ≤ 1000000) (hW : ∀ S ∈ L,Wt ps ls S) : ∀ (j i : Nat) (s : Option (List Int) × Int × Int),i + j = L.length → (∀ S,s.1 = some S → S.length ≤ 4) → Ev (fun k=>spec_WidestWeights.l0 k (s.1.getD []) L (i : Int) ps ls s.2.1 s.2.2) (wOut ((L.drop i).foldl (stW ps ls) s))
 | 0,i,s,hj,hs=>by
  rw [List.drop_of_length_le (by omega)]
  have : (s.1.getD []).length ≤ 4:=by
   cases e : s.1 with
   | none=>simp
   | some S=>exact hs S e
  refine Ev.step (f:=fun _=>some (wOut s)) (fun k=>?_) (ev_const _)
  rw [spec_WidestWeights.l0,if_neg (by omega),spec_l1Own_is _ (by omega)]
  rfl
 | j + 1,i,s,hj,hs=>by
  have hi : i < L.length:=by omega
  have h:=hW L[i] (List.getElem_mem hi)
  have h4:=h.h4
  have er : rd_L1 L (i : Int) = L[i]:=by simp [rd_L1,hi]
  have e1 : Ev (fun k=>spec_l4Ends.f k ps ls L[i]) (endsL L[i] ps ls 100000 (-100000)):=ev_of 100 fun k hk=>spec_l4Ends_is k ps ls L[i] h.h16 h.hl h.h4 h.hx hk
  have e2 : Ev (fun k=>spec_l2Dot.f k L[i] L[i]) (wdot 0 L[i] L[i]):=ev_of 10 fun k hk=>spec_l2Dot_is k L[i] L[i] (by omega) (Nat.le_refl _) (by omega)
  rw [List.drop_eq_getElem_cons hi,List.foldl_cons]
  have ih:=wloop_ev L hL hW j (i + 1) (stW ps ls s L[i]) (by omega) (fun S e=>by
   unfold stW at e
   split at e
   ·exact hs S e
   ·split at e
    ·obtain rfl:=Option.some.inj e
     exact h4
    ·exact hs S e)
  refine Ev.step (fun k=>by rw [spec_WidestWeights.l0,if_pos (by omega),if_pos (by omega),er]) (Ev.bind e1 ?_)
  unfold stW at ih ⊢
  generalize endsL L[i] ps ls 100000 (-100000) = E at ih ⊢
  rw [w64_nat (by omega)]
  by_cases c : E.1 ≤ E.2
  ·rw [if_pos c] at ih ⊢
   exact ev_if_pos c ih
  ·rw [if_neg c] at ih ⊢
   refine ev_if_neg c (Ev.bind e2 ?_)
   unfold spec_l2Less.f
   refine Ev.bind (ev_const _) ?_
   by_cases c2 : wrap64 (s.2.1 * wdot 0 L[i] L[i]) < wrap64 (wrap64 (wrap64 (E.1 - E.2) * wrap64 (E.1 - E.2)) * s.2.2)
   ·rw [if_pos c2] at ih ⊢
    exact ev_if_pos (decide_eq_true c2) ih
   ·rw [if_neg c2] at ih ⊢
    exact ev_if_neg (by rw [decide_eq_false c2];simp) ih
theorem wt_memF (m d : Nat) (a : ∀ b,∀ S ∈ wtL m d b,S.length = b.length + d ∧ ((∀ x ∈ b,-(m : Int) ≤ x ∧ x ≤ (m : Int)) → ∀ x ∈ S,-(m : Int) ≤ x ∧ x ≤ (m : Int))) : ∀ b j i,i + j ≤ 2 * m + 1 → ∀ S ∈ wtF m d b j i,S.length = b.length + (d + 1) ∧ ((∀ x ∈ b,-(m : Int) ≤ x ∧ x ≤ (m : Int)) → ∀ x ∈ S,-(m : Int) ≤ x ∧ x ≤ (m : Int)):=fun b j=>by
 induction j with
 | zero=>intro i _ S hS;simp [wtF] at hS
 | succ j ih =>
  intro i hi S hS
  rw [wtF] at hS
  rcases List.mem_append.1 hS with hS | hS
  ·obtain ⟨q1,q2⟩:=a _ S hS
   rw [List.length_append,List.length_singleton] at q1
   refine ⟨by omega,fun hb=>q2 fun x hx=>?_⟩
   rcases List.mem_append.1 hx with hx | hx
   ·exact hb x hx
   ·rw [List.mem_singleton.1 hx]
    omega
  ·exact ih (i + 1) (by omega) S hS
theorem wt_mem (m : Nat) : ∀ d b,∀ S ∈ wtL m d b,S.length = b.length + d ∧ ((∀ x ∈ b,-(m : Int) ≤ x ∧ x ≤ (m : Int)) → ∀ x ∈ S,-(m : Int) ≤ x ∧ x ≤ (m : Int))
 | 0,b,S,hS=>by
  rw [wtL] at hS
  obtain rfl:=List.mem_singleton.1 hS
  exact ⟨rfl,fun h=>h⟩
 | d + 1,b,S,hS=>by
  rw [wtL_succ] at hS
  exact wt_memF m d (wt_mem m d) b (2 * m + 1) 0 (by omega) S hS
theorem any_ne2 {ls : List Int} (h : (ls.any fun x=>decide (x = -1)) = true) : (ls.any fun x=>decide (x ≠ 1)) = true:=by
 obtain ⟨x,hx,e⟩:=List.any_eq_true.1 h
 refine List.any_eq_true.2 ⟨x,hx,?_⟩
 have:=of_decide_eq_true e
 exact decide_eq_true (by omega)
theorem wt_of {ps : List (List Int)} {ls S : List Int} {m : Nat} (c : mixB ps ls = true) (hm : m ≤ 5) (hl : S.length = (ps.headD []).length) (hb : ∀ x ∈ S,-(m : Int) ≤ x ∧ x ≤ (m : Int)) : Wt ps ls S:=by
 obtain ⟨h1,h2,h3,h0⟩:=mixB_parts c
 obtain ⟨h16,hlen,_,hrow⟩:=smB_parts h1
 have d4 : 1 ≤ (ps.headD []).length ∧ (ps.headD []).length ≤ 4:=by
  cases ps with
  | nil=>simp at h0
  | cons a t=>exact (ptB_parts (hrow a (by simp)).1).2
 have hw : S.all (inB (-99) 99) = true:=List.all_eq_true.2 fun x hx=>by
  have:=hb x hx
  exact inB_iff.2 ⟨by omega,by omega⟩
 have hp : ∀ x ∈ ps,-3564 ≤ wdot 0 S x ∧ wdot 0 S x ≤ 3564:=fun x hx=>(point_prod hw (by omega) (ptB_parts (hrow x hx).1).1).2
 exact ⟨h16,hlen,by omega,by omega,fun x hx=>by have:=(hrow x hx).2;omega,hp,endsL_same S 3564 ps ls 1000000000 100000 (-1000000000) (-100000) hlen hp (.inr ⟨h2,by omega,by omega⟩) (.inr ⟨any_ne2 h3,by omega,by omega⟩)⟩
theorem fold_some {ps : List (List Int)} {ls : List Int} : ∀ (L : List (List Int)) (s : Option (List Int) × Int × Int),(∀ S ∈ L,1 ≤ S.length ∧ S.length ≤ 4) → (∀ S,s.1 = some S → 1 ≤ S.length ∧ S.length ≤ 4) → ∀ S,(L.foldl (stW ps ls) s).1 = some S → 1 ≤ S.length ∧ S.length ≤ 4
 | [],s,_,hs,S,e=>hs S e
 | T :: L,s,hL,hs,S,e=>by
  refine fold_some L _ (fun S h=>hL S (List.mem_cons_of_mem _ h)) (fun S e=>?_) S e
  unfold stW at e
  split at e
  ·exact hs S e
  ·split at e
   ·obtain rfl:=Option.some.inj e
    exact hL _ (List.mem_cons_self ..)
   ·exact hs S e
theorem widest_same (ps : List (List Int)) (ls : List Int) (a : Int) (hr : ∀ r ∈ ps,r.length ≤ 1048576) (hm : ls.length ≤ 1048576) : ∃ q b,Ev (fun k=>impl_WidestWeights.f k ps ls a) (q,b) ∧ Ev (fun k=>spec_WidestWeights.f k ps ls a) (q,b) ∧ q.length ≤ 1000:=by
 have e1 : Ev (fun k=>impl_isMixed.f k ps ls) (mixB ps ls):=ev_of 1048600 fun k hk=>impl_isMixed_is k ps ls hr hm hk
 have e2 : Ev (fun k=>spec_l4Mixed.f k ps ls) (mixB ps ls):=ev_of 1048600 fun k hk=>spec_l4Mixed_is k ps ls hr hm hk
 by_cases c : mixB ps ls = true
 ·by_cases c5 : inB 0 5 a = true
  ·obtain ⟨m,rfl⟩:=Int.eq_ofNat_of_zero_le (inB_iff.1 c5).1
   have hm5 : m ≤ 5:=by have:=(inB_iff.1 c5).2;omega
   obtain ⟨h1,h2,h3,h0⟩:=mixB_parts c
   obtain ⟨h16,hlen,_,hrow⟩:=smB_parts h1
   have e0 : rd_L1 ps 0 = ps.headD []:=by cases ps <;> simp [rd_L1]
   have d4 : 1 ≤ (ps.headD []).length ∧ (ps.headD []).length ≤ 4:=by
    cases ps with
    | nil=>simp at h0
    | cons a t=>exact (ptB_parts (hrow a (by simp)).1).2
   obtain ⟨N,hN⟩ : ∃ N,(ps.headD []).length = N:=⟨_,rfl⟩
   have hW : ∀ S ∈ wtL m N [],Wt ps ls S:=fun S hS=>by
    obtain ⟨q1,q2⟩:=wt_mem m N [] S hS
    exact wt_of c hm5 (by rw [q1,hN];simp) (q2 (by simp))
   have big : (2 * m + 1) ^ N ≤ 1000000:=Nat.le_trans (Nat.pow_le_pow_left (show 2 * m + 1 ≤ 11 by omega) N) (Nat.le_trans (Nat.pow_le_pow_right (by omega) (show N ≤ 4 by omega)) (by decide))
   have len:=(wt_len m N).1 []
   have iv:=impl_smallWeights_ev (V:=impl_WidestWeights.v ps ls) (st:=stW ps ls) (N:=N) (m:=m) (by omega) (by omega) (by omega) (fun s S hS hb=>wvisit_ev (wt_of c hm5 (by rw [hS,hN]) hb) s) (none,0,1)
   have sv:=wloop_ev (wtL m N []) (by omega) hW (wtL m N []).length 0 (none,0,1) (by omega) (fun S e=>by simp at e)
   rw [List.drop_zero] at sv
   have fs:=fold_some (ps:=ps) (ls:=ls) (wtL m N []) (none,0,1) (fun S hS=>⟨(hW S hS).h1,(hW S hS).h4⟩) (fun S e=>by simp at e)
   generalize (wtL m N []).foldl (stW ps ls) (none,0,1) = R at iv sv fs
   have hl4 : (R.1.getD []).length ≤ 4:=by
    cases e : R.1 with
    | none=>simp
    | some S=>exact (fs S e).2
   refine ⟨R.1.getD [],R.1.isSome,?_,?_,by omega⟩
   ·unfold impl_WidestWeights.f
    refine Ev.bind e1 (ev_if_pos c ?_)
    rw [impl_within_is]
    refine Ev.bind (ev_const _) (ev_if_pos c5 (ev_if_pos (by omega) ?_))
    rw [e0,hN]
    exact Ev.bind iv (ev_const _)
   ·unfold spec_WidestWeights.f
    refine Ev.bind e2 (ev_if_pos c ?_)
    rw [spec_l1In_is]
    refine Ev.bind (ev_const _) ?_
    rw [c5]
    refine Ev.step (f:=fun k=>(spec_l4Weights.f k (N : Int) (m : Int) []).bind fun t169=>(spec_WidestWeights.l0 k [] t169 0 ps ls 0 1)) (fun k=>?_) (Ev.bind (l4w_ev N m (by omega) (by omega) N [] big (by simp)) ?_)
    ·rw [spec_WidestWeights.j0,if_neg (by simp),if_pos (by omega),e0,hN]
    ·have eo : wOut R = (R.1.getD [],R.1.isSome):=by
      unfold wOut
      cases e : R.1 with
      | none=>rfl
      | some S =>
       have:=(fs S e).1
       simp only [Option.getD_some,Option.isSome_some]
       rw [decide_eq_true (by omega)]
     rw [eo] at sv
     exact sv
  ·refine ⟨[],false,?_,?_,by simp⟩
   ·unfold impl_WidestWeights.f
    refine Ev.bind e1 (ev_if_pos c ?_)
    rw [impl_within_is]
    exact Ev.bind (ev_const _) (ev_if_neg c5 (ev_const _))
   ·unfold spec_WidestWeights.f
    refine Ev.bind e2 (ev_if_pos c ?_)
    rw [spec_l1In_is]
    refine Ev.bind (ev_const _) ?_
    rw [Bool.eq_false_iff.2 c5]
    exact Ev.step (f:=fun _=>some ([],false)) (fun k=>by rw [spec_WidestWeights.j0,if_pos (by simp)]) (ev_const _)
 ·refine ⟨[],false,?_,?_,by simp⟩
  ·unfold impl_WidestWeights.f
   exact Ev.bind e1 (ev_if_neg c (ev_const _))
  ·unfold spec_WidestWeights.f
   refine Ev.bind e2 (ev_if_neg c ?_)
   exact Ev.step (f:=fun _=>some ([],false)) (fun k=>by rw [spec_WidestWeights.j0,if_pos rfl]) (ev_const _)
theorem sz_ev (l : List (List Int)) (m : List Int) (hl : l.length ≤ 9223372036854775807) (hr : ∀ r ∈ l,r.length ≤ 9223372036854775807) (hm : m.length ≤ 9223372036854775807) : ∃ v,Ev (fun k=>laws_szSample.f k l m 1048576) v ∧ (v < 0 ∨ (0 ≤ v ∧ v ≤ 1048576 ∧ l.length ≤ 1048576 ∧ (∀ r ∈ l,r.length ≤ 1048576) ∧ m.length ≤ 1048576)):=by
 obtain ⟨v,hv,hc⟩:=laws_szSample_tells 1048577 l m 1048576 (by omega) (by omega) hl hr hm (by omega)
 exact ⟨v,Ev.of (fun k=>laws_szSample.mono _ _ _ k) hv,hc⟩
theorem mk_ev (l : List (List Int)) (m : List Int) (hl : l.length ≤ 1048576) (hr : ∀ r ∈ l,r.length ≤ 1048576) (hm : m.length ≤ 1048576) : ∃ v l' m',Ev (fun k=>laws_markSample.f k l m 1) (v,l',m') ∧ 1 ≤ v:=by
 obtain ⟨v,l',m',h,h1,_⟩:=laws_markSample_tells 2097153 l m hl hr hm (by omega)
 exact ⟨v,l',m',Ev.of (fun k=>laws_markSample.mono _ _ _ k) h,h1⟩
theorem FnExactWidestWeights : ∀ (l0 : List (List Int)) (m0 : List Int) (a1 : Int),l0.length ≤ maxLen → (∀ r ∈ l0,r.length ≤ maxLen ∧ ∀ x ∈ r,(Lit.int .i64 x).wf = true) → m0.length ≤ maxLen → (∀ x ∈ m0,(Lit.int .i64 x).wf = true) → (Lit.int .i64 a1).wf = true → ∃ k,laws_FnExactWidestWeights.f k l0 m0 a1 = some true:=by
 intro l m a hl hr hm _ _
 unfold maxLen at hl hr hm
 refine Ev.rounds (g:=fun k=>laws_FnExactWidestWeights.f k l m a) ?_
 unfold laws_FnExactWidestWeights.f
 obtain ⟨v,hv,hc⟩:=sz_ev l m (by omega) (fun r h=>by have:=(hr r h).1;omega) (by omega)
 refine Ev.bind hv ?_
 rcases hc with hc | ⟨a1,a2,a3,a4,a5⟩
 ·exact ev_if_pos hc (ev_const _)
 ·have ts : Ev (fun k=>laws_toSample.f k l m) (l,m):=ev_of 3000000 fun k hk=>laws_toSample_is k l m a3 a4 a5 (by omega)
  have es : Ev (fun k=>laws_eqSample.f k l m l m) true:=ev_of 3000000 fun k hk=>laws_eqSample_same k l m a3 a4 a5 (by omega)
  obtain ⟨q,b,h1,h2,hq⟩:=widest_same l m a a4 a5
  have eq_ : Ev (fun k=>laws_eqIntS.f k q q) true:=ev_of 3000000 fun k hk=>laws_eqIntS_same k q (by omega) (by omega)
  obtain ⟨w,l',m',mk,w1⟩:=mk_ev l m a3 a4 a5
  have ms : Ev (fun k=>laws_markIntS.f k q 1) (1 + q.length,marks 1 q.length):=ev_of 3000000 fun k hk=>laws_markIntS_is k q 1 (by omega) (by omega) (by omega) (by omega)
  have hs : Ev (fun k=>laws_heldIntS.f k (marks 1 q.length) 1) (1 + q.length):=ev_of 3000000 fun k hk=>laws_heldIntS_is k q.length 1 (by omega) (by omega) (by omega) (by omega)
  refine ev_if_neg (by omega) (Ev.bind ts (Ev.bind h2 (Ev.bind ts (Ev.bind h1 (Ev.bind eq_ (ev_if_pos rfl ?_))))))
  refine Ev.step (fun k=>by rw [laws_FnExactWidestWeights.j0,if_neg (by simp)]) (Ev.bind ts (Ev.bind es (ev_if_pos rfl (Ev.bind mk (ev_if_neg (by show ¬ (w < 0);omega) (Ev.bind eq_ (ev_if_pos rfl ?_)))))))
  refine Ev.step (fun k=>by rw [laws_FnExactWidestWeights.j1,if_neg (by simp)]) (Ev.bind ms (Ev.bind hs (ev_if_neg (by show ¬ ((1 + (q.length : Int)) < 0);omega) (ev_if_pos rfl (Ev.bind ts (Ev.bind h1 (Ev.bind eq_ (ev_if_pos rfl ?_))))))))
  exact Ev.step (fun k=>by rw [laws_FnExactWidestWeights.j2,if_neg (by simp)]) (Ev.bind hs (ev_if_neg (by show ¬ ((1 + (q.length : Int)) < 0);omega) (ev_if_pos rfl (ev_const _))))
end Go.Proofs.Ytdjclffkidoohaa.Pure
