/- Proved: the law FnExactCommonPoint answers true for every sample and list of numbers; no condition. -/
import Derived.Test.YtdjclffkidoohaaVFnExactCommonPoint
import Derived.Test.YtdjclffkidoohaaZFnExactCommonPointx11
section
set_option linter.unusedVariables false
set_option linter.unusedSimpArgs false
namespace Go.Proofs.Ytdjclffkidoohaa.Lin
def sm : Nat → (Nat → Int) → Int
|0,_=>0
|n + 1,f=>sm n f + f n
def QC (o : Nat → Nat → Int) (r : Nat) (v : Nat → Int) : Prop:=∃ (s : Int) (c : Nat → Int),s ≠ 0 ∧ ∀ x,s * v x = sm r (fun k=>c k * o k x)
structure St (m r : Nat) (o row : Nat → Nat → Int) (p : Nat → Nat) : Prop where
 hr : r ≤ m
 span : ∀ j,j < r → QC o r (row j)
 back : ∀ k,k < r → QC row r (o k)
 near : ∀ i,r ≤ i → i < m → ∃ a b : Int,a ≠ 0 ∧ b ≠ 0 ∧ QC o r (fun x=>a * row i x + b * o i x)
 piv : ∀ j,j < r → row j (p j) ≠ 0
 off : ∀ j,j < r → ∀ i,i < m → i ≠ j → row i (p j) = 0
 ind : ∀ c : Nat → Int,(∀ x,sm r (fun k=>c k * o k x) = 0) → ∀ k,k < r → c k = 0
def sw {α : Type} (i j : Nat) (f : Nat → α) : Nat → α:=fun k=>if k = i then f j else if k = j then f i else f k
def gcdn : Nat → (Nat → Int) → Nat
|0,_=>0
|n + 1,v=>Nat.gcd (gcdn n v) (v n).natAbs
def Ker (m n : Nat) (row : Nat → Nat → Int) (x : Nat → Int) : Prop:=∀ i,i < m → sm n (fun k=>row i k * x k) = 0
structure Fin_ (m n r : Nat) (row : Nat → Nat → Int) (p : Nat → Nat) : Prop where
 hr : r ≤ m
 piv : ∀ j,j < r → row j (p j) ≠ 0
 off : ∀ j,j < r → ∀ i,i < m → i ≠ j → row i (p j) = 0
 tail : ∀ i,r ≤ i → i < m → ∀ k,k < n → row i k = 0
 pn : ∀ j,j < r → p j < n
def Nice (n : Nat) (v : Nat → Int) : Prop:=gcdn n v = 1 ∨ ∀ k,k < n → -9 ≤ v k ∧ v k ≤ 9
def newRow (w : Int → Int) (M : Nat → Nat → Int) (r c i : Nat) : Nat → Int:=fun k=>w (w (M i k * M r c) - w (M r k * M i c))
def divn (n : Nat) (v : Nat → Int) : Nat → Int:=if 1 < gcdn n v then fun k=>v k / (gcdn n v : Int) else v
def shortP (pv : Bool) (n r : Nat) (M : Nat → Nat → Int) : Nat → Nat → Int:=if pv then fun i=>if i = r then divn n (M r) else M i else M
def colS (w : Int → Int) (n m r c : Nat) (P : Nat → Nat → Int) : Nat → Nat → Int:=fun i=>if i < m ∧ i ≠ r ∧ P i c ≠ 0 then divn n (newRow w P r c i) else P i
def findAt (M : Nat → Nat → Int) (c m : Nat) : Nat → Nat → Nat
|0,i=>i
|f + 1,i=>if i < m ∧ M i c = 0 then findAt M c m f (i + 1) else i
def elim (w : Int → Int) (pv : Bool) (n m : Nat) : Nat → Nat → (Nat → Nat → Int) → List Nat → (Nat → Nat → Int) × List Nat
|0,_,M,piv=>(M,piv)
|k + 1,c,M,piv =>
  if findAt M c m (m - piv.length) piv.length = m then elim w pv n m k (c + 1) M piv
  else elim w pv n m k (c + 1) (colS w n m piv.length c (shortP pv n piv.length (sw piv.length (findAt M c m (m - piv.length) piv.length) M))) (piv ++ [c])
def Dep (m : Nat) (f : Nat → Nat → Int) : Prop:=∃ d : Nat → Int,(∃ k,k < m ∧ d k ≠ 0) ∧ ∀ x,sm m (fun k=>d k * f k x) = 0
structure Inv (m n c : Nat) (A M : Nat → Nat → Int) (piv : List Nat) : Prop where
 st : ∃ o p,St m piv.length o M p ∧ (∀ j,j < piv.length → piv[j]? = some (p j)) ∧ (∀ i,i < m → ∀ x,-9 ≤ o i x ∧ o i x ≤ 9) ∧ (Dep m o ↔ Dep m A)
 tail : ∀ i,piv.length ≤ i → i < m → ∀ k,k < c → M i k = 0
 asc : piv.Pairwise (· < ·)
 low : ∀ q,q ∈ piv → q < c
 nice : ∀ i,i < m → Nice n (M i)
 zero : ∀ i,i < m → ∀ k,n ≤ k → M i k = 0
 ker : ∀ x,Ker m n M x ↔ Ker m n A x
end Go.Proofs.Ytdjclffkidoohaa.Lin
end
section
set_option linter.unusedVariables false
set_option linter.unusedSimpArgs false
namespace Go.Proofs.Ytdjclffkidoohaa.Base
open Go.RowKit Go.Proofs.YtdjclffkidoohaaW.PrintWords Go.Proofs.YtdjclffkidoohaaW.PrintLast Go.Proofs.YtdjclffkidoohaaW.PrintMore
theorem w64 {x : Int} (h1 : -9223372036854775808 ≤ x) (h2 : x ≤ 9223372036854775807) : wrap64 x = x:=by
 unfold wrap64
 omega
theorem w64_nat {n : Nat} (h : n ≤ 4611686018427387904) : wrap64 ((n : Int) + 1) = ((n + 1 : Nat) : Int):=by
 rw [w64 (by omega) (by omega)]
 omega
theorem rd_nat (l : List Int) (i : Nat) (h : i < l.length) : rd l (i : Int) = l[i]:=by
 simp [rd,h]
def inB (lo hi x : Int) : Bool:=decide (lo ≤ x ∧ x ≤ hi)
theorem inB_iff {lo hi x : Int} : inB lo hi x = true ↔ lo ≤ x ∧ x ≤ hi:=by simp [inB]
theorem within_is (a lo hi : Int) : (if a ≥ lo then (some (decide (a ≤ hi))) else (some false)) = some (inB lo hi a):=by
 unfold inB
 by_cases h : a ≥ lo
 ·rw [if_pos h]
  congr 1
  by_cases h2 : a ≤ hi <;> simp [h2]
  omega
 ·rw [if_neg h]
  congr 1
  simp
  omega
def marks : Int → Nat → List Int
|_,0=>[]
|a,n + 1=>a :: marks (a + 1) n
theorem marks_length : ∀ (n : Nat) (a : Int),(marks a n).length = n
|0,_=>rfl
|n + 1,a=>by simp [marks,marks_length n]
def ptB (x : List Int) : Bool:=inB 1 4 x.length && x.all (inB (-9) 9)
theorem all_range {l : List Int} {lo hi : Int} (h : l.all (inB lo hi) = true) (i : Nat) (hi' : i < l.length) : lo ≤ l[i] ∧ l[i] ≤ hi:=by
 have:=List.all_eq_true.1 h l[i] (List.getElem_mem hi')
 exact inB_iff.1 this
theorem set_mid (pre post : List Int) (x y : Int) (n : Nat) (h : n = pre.length) : (pre ++ x :: post).set n y = pre ++ y :: post:=by
 subst h
 simp
def sqd : List Int → List Int → Int
|x :: xs,y :: ys=>(x - y) * (x - y) + sqd xs ys
|_,_=>0
theorem rd_mid (pre post : List Int) (x : Int) (n : Nat) (h : n = pre.length) : rd (pre ++ x :: post) (n : Int) = x:=by
 subst h
 simp [rd]
def lbB (x : Int) : Bool:=decide (x = 1 ∨ x = -1)
def smB (ps : List (List Int)) (ls : List Int) : Bool:=decide (ps.length ≤ 16) && decide (ls.length = ps.length) && ls.all lbB && ps.all (fun x=>ptB x && decide (x.length = (ps.headD []).length))
theorem ptB_parts {x : List Int} (h : ptB x = true) : x.all (inB (-9) 9) = true ∧ 1 ≤ x.length ∧ x.length ≤ 4:=by
 unfold ptB at h
 have h2:=Bool.and_eq_true_iff.1 h
 have:=inB_iff.1 h2.1
 exact ⟨h2.2,by omega,by omega⟩
theorem smB_parts {ps : List (List Int)} {ls : List Int} (h : smB ps ls = true) : ps.length ≤ 16 ∧ ls.length = ps.length ∧ ls.all lbB = true ∧ ∀ x ∈ ps,ptB x = true ∧ x.length = (ps.headD []).length:=by
 unfold smB at h
 have h2:=Bool.and_eq_true_iff.1 h
 have h3:=Bool.and_eq_true_iff.1 h2.1
 have h4:=Bool.and_eq_true_iff.1 h3.1
 refine ⟨of_decide_eq_true h4.1,of_decide_eq_true h4.2,h3.2,fun x hx=>?_⟩
 have q:=Bool.and_eq_true_iff.1 (List.all_eq_true.1 h2.2 x hx)
 exact ⟨q.1,of_decide_eq_true q.2⟩
theorem mul_range {a b A B : Int} (ha : -A ≤ a ∧ a ≤ A) (hb : -B ≤ b ∧ b ≤ B) : -(A * B) ≤ a * b ∧ a * b ≤ A * B:=by
 have h1 : 0 ≤ (A - a) * (B + b):=Int.mul_nonneg (by omega) (by omega)
 have h2 : 0 ≤ (A + a) * (B - b):=Int.mul_nonneg (by omega) (by omega)
 have h3 : 0 ≤ (A - a) * (B - b):=Int.mul_nonneg (by omega) (by omega)
 have h4 : 0 ≤ (A + a) * (B + b):=Int.mul_nonneg (by omega) (by omega)
 rw [Int.sub_mul,Int.mul_add,Int.mul_add] at h1
 rw [Int.add_mul,Int.mul_sub,Int.mul_sub] at h2
 rw [Int.sub_mul,Int.mul_sub,Int.mul_sub] at h3
 rw [Int.add_mul,Int.mul_add,Int.mul_add] at h4
 omega
def idxs (a : Int) : List Int → Nat → List Int
|[],_=>[]
|x :: xs,i=>if x = a then (i : Int) :: idxs a xs (i + 1) else idxs a xs (i + 1)
theorem idxs_length (a : Int) : ∀ (l : List Int) (i : Nat),(idxs a l i).length ≤ l.length
|[],_=>by simp [idxs]
|x :: xs,i=>by
  have:=idxs_length a xs (i + 1)
  simp only [idxs]
  split <;> simp <;> omega
def wadd (n : Int) : List Int → List Int → List Int
|a :: as_,m :: ms=>wrap64 (a + wrap64 (n * m)) :: wadd n as_ ms
|_,_=>[]
theorem wadd_length (n : Int) : ∀ (as_ ms : List Int),as_.length = ms.length → (wadd n as_ ms).length = as_.length
|[],ms,_=>by simp [wadd]
|a :: as_,[],h=>by simp at h
|a :: as_,m :: ms,h=>by simp only [wadd,List.length_cons,wadd_length n as_ ms (by simpa using h)]
def signedL (l : Int) (p : List Int) : List Int:=l :: p.map fun x=>wrap64 (x * l)
def sumsS (a : Int) : List (List Int) → List Int → List Int → List Int → List Int
|p :: ps,l :: ls,n :: ns,acc=>sumsS a ps ls ns (if l = a then wadd n acc (1 :: p) else acc)
|_,_,_,acc=>acc
def sumsI : List (List Int) → List Int → List Int → List Int → List Int
|p :: ps,l :: ls,n :: ns,acc=>sumsI ps ls ns (wadd n acc (signedL l p))
|_,_,_,acc=>acc
def diffR (B : Int) : List Int → List Int → List Int → Prop
|[],[],[]=>True
|a :: as_,x :: xs,y :: ys=>a = x - y ∧ (-B ≤ x ∧ x ≤ B) ∧ (-B ≤ y ∧ y ≤ B) ∧ diffR B as_ xs ys
|_,_,_=>False
theorem diffR_mono {B C : Int} (h : B ≤ C) : ∀ {as_ xs ys : List Int},diffR B as_ xs ys → diffR C as_ xs ys
|[],[],[],_=>trivial
|a :: as_,x :: xs,y :: ys,q=>⟨q.1,⟨by have:=q.2.1;omega,by have:=q.2.1;omega⟩,⟨by have:=q.2.2.1;omega,by have:=q.2.2.1;omega⟩,diffR_mono h q.2.2.2⟩
theorem diffR_zero : ∀ (n : Nat) (B : Int),0 ≤ B → diffR B (List.replicate n 0) (List.replicate n 0) (List.replicate n 0)
|0,B,_=>trivial
|n + 1,B,h=>⟨by omega,by omega,by omega,diffR_zero n B h⟩
theorem diffR_plus {B n : Int} (hB : 0 ≤ B) (hB2 : B ≤ 1000000000000) (hn : 0 ≤ n ∧ n ≤ 1000000000) : ∀ {as_ xs ys : List Int} (v : List Int),diffR B as_ xs ys → v.length = as_.length → v.all (inB (-9) 9) = true → diffR (B + 9000000000) (wadd n as_ v) (wadd n xs v) ys
|[],[],[],v,_,_,_=>by simp [wadd,diffR]
|a :: as_,x :: xs,y :: ys,[],_,hl,_=>by simp at hl
|a :: as_,x :: xs,y :: ys,m :: v,q,hl,hv=>by
  simp only [List.all_cons,Bool.and_eq_true] at hv
  have hm:=inB_iff.1 hv.1
  have hp:=mul_range (a:=n) (b:=m) (A:=1000000000) (B:=9) (by omega) (by omega)
  obtain ⟨q1,q2,q3,q4⟩:=q
  simp only [wadd,diffR]
  rw [w64 (x:=n * m) (by omega) (by omega),w64 (x:=a + n * m) (by omega) (by omega),w64 (x:=x + n * m) (by omega) (by omega)]
  exact ⟨by omega,⟨by omega,by omega⟩,⟨by omega,by omega⟩,diffR_plus hB hB2 hn v q4 (by simpa using hl) hv.2⟩
theorem diffR_minus {B n : Int} (hB : 0 ≤ B) (hB2 : B ≤ 1000000000000) (hn : 0 ≤ n ∧ n ≤ 1000000000) : ∀ {as_ xs ys : List Int} (v : List Int),diffR B as_ xs ys → v.length = as_.length → v.all (inB (-9) 9) = true → diffR (B + 9000000000) (wadd n as_ (v.map fun x=>-x)) xs (wadd n ys v)
|[],[],[],v,_,_,_=>by simp [wadd,diffR]
|a :: as_,x :: xs,y :: ys,[],_,hl,_=>by simp at hl
|a :: as_,x :: xs,y :: ys,m :: v,q,hl,hv=>by
  simp only [List.all_cons,Bool.and_eq_true] at hv
  have hm:=inB_iff.1 hv.1
  have hp:=mul_range (a:=n) (b:=m) (A:=1000000000) (B:=9) (by omega) (by omega)
  obtain ⟨q1,q2,q3,q4⟩:=q
  have e : n * -m = -(n * m):=Int.mul_neg _ _
  simp only [wadd,diffR,List.map_cons]
  rw [e,w64 (x:=n * m) (by omega) (by omega),w64 (x:=-(n * m)) (by omega) (by omega),w64 (x:=a + -(n * m)) (by omega) (by omega),w64 (x:=y + n * m) (by omega) (by omega)]
  exact ⟨by omega,⟨by omega,by omega⟩,⟨by omega,by omega⟩,diffR_minus hB hB2 hn v q4 (by simpa using hl) hv.2⟩
theorem signedL_one {p : List Int} (h : p.all (inB (-9) 9) = true) : signedL 1 p = 1 :: p:=by
 unfold signedL
 congr 1
 have : ∀ x ∈ p,wrap64 (x * 1) = x:=fun x hx=>by
  have:=inB_iff.1 (List.all_eq_true.1 h x hx)
  rw [Int.mul_one,w64 (by omega) (by omega)]
 rw [List.map_congr_left this]
 simp
theorem signedL_neg {p : List Int} (h : p.all (inB (-9) 9) = true) : signedL (-1) p = (1 :: p).map fun x=>-x:=by
 unfold signedL
 rw [List.map_cons]
 congr 1
 refine List.map_congr_left fun x hx=>?_
 have:=inB_iff.1 (List.all_eq_true.1 h x hx)
 rw [Int.mul_neg,Int.mul_one,w64 (by omega) (by omega)]
theorem sums_diff {d : Nat} : ∀ (ps : List (List Int)) (ls ns : List Int) (B : Int) (as_ xs ys : List Int),0 ≤ B → B + 9000000000 * ps.length ≤ 500000000000 → ls.length = ps.length → ns.length = ps.length → (∀ p ∈ ps,ptB p = true ∧ p.length = d) → ls.all lbB = true → ns.all (inB 0 1000000000) = true → as_.length = d + 1 → diffR B as_ xs ys → xs.length = d + 1 → ys.length = d + 1 → diffR 500000000000 (sumsI ps ls ns as_) (sumsS 1 ps ls ns xs) (sumsS (-1) ps ls ns ys)
|[],ls,ns,B,as_,xs,ys,_,hb,_,_,_,_,_,_,q,_,_=>by
  simp only [List.length_nil] at hb
  simp only [sumsI,sumsS]
  exact diffR_mono (by omega) q
|p :: ps,[],ns,B,as_,xs,ys,_,_,hl,_,_,_,_,_,_,_,_=>by simp at hl
|p :: ps,l :: ls,[],B,as_,xs,ys,_,_,_,hl,_,_,_,_,_,_,_=>by simp at hl
|p :: ps,l :: ls,n :: ns,B,as_,xs,ys,h0,hb,hl,hn,hp,hls,hns,ha,q,hx,hy=>by
  simp only [List.length_cons] at hb hl hn
  simp only [List.all_cons,Bool.and_eq_true] at hls hns
  obtain ⟨p1,p2⟩:=hp p (by simp)
  have p3:=ptB_parts p1
  have hn':=inB_iff.1 hns.1
  have hv : (1 :: p).all (inB (-9) 9) = true:=by
   simp only [List.all_cons,Bool.and_eq_true]
   exact ⟨by decide,p3.1⟩
  have hvl : (1 :: p).length = as_.length:=by simp [ha,p2]
  simp only [sumsI,sumsS]
  have hp' : ∀ z ∈ ps,ptB z = true ∧ z.length = d:=fun z hz=>hp z (List.mem_cons_of_mem _ hz)
  rcases (of_decide_eq_true hls.1 : l = 1 ∨ l = -1) with rfl|rfl
  ·rw [if_pos rfl,if_neg (by omega),signedL_one p3.1]
   exact sums_diff ps ls ns (B + 9000000000) _ _ _ (by omega) (by omega) (by omega) (by omega) hp' hls.2 hns.2 (by rw [wadd_length _ _ _ hvl.symm];exact ha) (diffR_plus h0 (by omega) ⟨hn'.1,hn'.2⟩ _ q hvl hv) (by rw [wadd_length _ _ _ (by simp [hx,p2])];exact hx) hy
  ·rw [if_neg (by omega),if_pos rfl,signedL_neg p3.1]
   exact sums_diff ps ls ns (B + 9000000000) _ _ _ (by omega) (by omega) (by omega) (by omega) hp' hls.2 hns.2 (by rw [wadd_length _ _ _ (by simp [ha,p2])];exact ha) (diffR_minus h0 (by omega) ⟨hn'.1,hn'.2⟩ _ q hvl hv) hx (by rw [wadd_length _ _ _ (by simp [hy,p2])];exact hy)
theorem diffR_same {B : Int} : ∀ {as_ xs ys : List Int},diffR B as_ xs ys → ((as_.all fun x=>decide (x = 0)) = decide (xs = ys))
|[],[],[],_=>by simp
|a :: as_,x :: xs,y :: ys,q=>by
  obtain ⟨q1,_,_,q4⟩:=q
  have ih:=diffR_same q4
  rw [List.all_cons,ih]
  by_cases c : x = y
  ·subst c
   have : a = 0:=by omega
   simp [this]
  ·have : ¬ a = 0:=by omega
   simp [this,c]
theorem sumsS_length {d : Nat} (a : Int) : ∀ (ps : List (List Int)) (ls ns acc : List Int),(∀ p ∈ ps,p.length = d) → acc.length = d + 1 → (sumsS a ps ls ns acc).length = d + 1
|[],ls,ns,acc,_,h=>by simp [sumsS,h]
|p :: ps,[],ns,acc,_,h=>by simp [sumsS,h]
|p :: ps,l :: ls,[],acc,_,h=>by simp [sumsS,h]
|p :: ps,l :: ls,n :: ns,acc,hp,h=>by
  simp only [sumsS]
  refine sumsS_length a ps ls ns _ (fun z hz=>hp z (List.mem_cons_of_mem _ hz)) ?_
  have:=hp p (by simp)
  split
  ·rw [wadd_length _ _ _ (by simp [h,this])]
   exact h
  ·exact h
theorem sum_zero_iff : ∀ (l : List Int),l.all (inB 0 1000000000) = true → 0 ≤ l.sum ∧ (l.sum = 0 ↔ ∀ x ∈ l,x = 0)
|[],_=>by simp
|a :: l,h=>by
  simp only [List.all_cons,Bool.and_eq_true] at h
  have q:=inB_iff.1 h.1
  obtain ⟨i1,i2⟩:=sum_zero_iff l h.2
  rw [List.sum_cons]
  refine ⟨by omega,⟨fun e x hx=>?_,fun e=>?_⟩⟩
  ·rcases List.mem_cons.1 hx with rfl|hx
   ·omega
   ·exact i2.1 (by omega) x hx
  ·have e1:=e a (by simp)
   have e2:=i2.2 fun x hx=>e x (List.mem_cons_of_mem _ hx)
   omega
end Go.Proofs.Ytdjclffkidoohaa.Base
end
section
set_option linter.unusedVariables false
set_option linter.unusedSimpArgs false
namespace Go.Proofs.Ytdjclffkidoohaa.Pure
open Go.RowKit Go.Proofs.Ytdjclffkidoohaa.QFnExactCommonPoint Go.Proofs.YtdjclffkidoohaaW.PrintWords Go.Proofs.YtdjclffkidoohaaW.PrintLast Go.Proofs.YtdjclffkidoohaaW.PrintMore Go.Proofs.Ytdjclffkidoohaa.Base Go.Proofs.Ytdjclffkidoohaa.Lin
theorem spec_l2Labels_l : ∀ (k i : Nat) (l : List Int),l.length ≤ 4611686018427387904 → i ≤ l.length → l.length < i + k → Xj1.l0 k l (i : Int) = some ((l.drop i).all lbB)
|0,_,_,_,_,hk=>by omega
|k + 1,i,l,hn,hi',hk=>by
  simp only [Xj1.l0]
  by_cases h : i < l.length
  ·rw [if_pos (by omega),if_pos (by omega),rd_nat l i h,w64_nat (by omega),List.drop_eq_getElem_cons h,List.all_cons,spec_l2Labels_l k (i + 1) l hn (by omega) (by omega)]
   by_cases e1 : l[i] = 1
   ·rw [if_pos e1]
    simp [lbB,e1]
   ·by_cases e2 : l[i] = -1
    ·rw [if_neg e1,if_pos e2]
     simp [lbB,e2]
    ·rw [if_neg e1,if_neg e2]
     simp [lbB,e1,e2]
  ·rw [if_neg (by omega),List.drop_of_length_le (by omega)]
   simp
theorem spec_l2Labels_is (k : Nat) (l : List Int) (hn : l.length ≤ 4611686018427387904) (hk : l.length < k) : Xj1.f k l = some (l.all lbB):=by
 unfold Xj1.f
 have:=spec_l2Labels_l k 0 l hn (by omega) (by omega)
 simpa using this
theorem spec_l1In_is (a lo hi : Int) : spec_l1In.f a lo hi = some (inB lo hi a):=by
 unfold spec_l1In.f
 exact within_is a lo hi
theorem spec_l2Numbers_l : ∀ (k i : Nat) (l : List Int) (m : Int),-4611686018427387904 ≤ m → m ≤ 4611686018427387904 → l.length ≤ 4611686018427387904 → i ≤ l.length → l.length < i + k → Yj1.l0 k l m (i : Int) = some ((l.drop i).all (inB (-m) m))
|0,_,_,_,_,_,_,_,hk=>by omega
|k + 1,i,l,m,h1,h2,hn,hi,hk=>by
  simp only [Yj1.l0]
  by_cases h : i < l.length
  ·rw [if_pos (by omega),if_pos (by omega),spec_l1In_is,rd_nat l i h,w64_nat (by omega),w64 (by omega) (by omega),List.drop_eq_getElem_cons h,List.all_cons,spec_l2Numbers_l k (i + 1) l m h1 h2 hn (by omega) (by omega)]
   simp only [Option.bind_some]
   by_cases e : inB (-m) m l[i] = true
   ·rw [if_pos e,e]
    simp
   ·rw [if_neg e]
    simp [e]
  ·rw [if_neg (by omega),List.drop_of_length_le (by omega)]
   simp
theorem spec_l2Numbers_is (k : Nat) (l : List Int) (m : Int) (h1 : -4611686018427387904 ≤ m) (h2 : m ≤ 4611686018427387904) (hn : l.length ≤ 4611686018427387904) (hk : l.length < k) : Yj1.f k l m = some (l.all (inB (-m) m)):=by
 unfold Yj1.f
 have:=spec_l2Numbers_l k 0 l m h1 h2 hn (by omega) (by omega)
 simpa using this
theorem spec_l2Point_is (k : Nat) (l : List Int) (hn : l.length ≤ 4611686018427387904) (hk : l.length < k) : Zj1.f k l = some (ptB l):=by
 unfold Zj1.f ptB
 rw [spec_l1In_is,spec_l2Numbers_is k l 9 (by omega) (by omega) hn hk]
 simp only [Option.bind_some]
 cases inB 1 4 (l.length : Int) <;> simp
theorem spec_l2Sample_l (k0 : Nat) (hk0 : 1048576 < k0) : ∀ (k i : Nat) (l : List (List Int)) (m : List Int),l.length ≤ 16 → (∀ r ∈ l,r.length ≤ 1048576) → i ≤ l.length → l.length < i + k → Vj1.l0 (k + k0) (i : Int) l m = some ((l.drop i).all fun x=>ptB x && decide (x.length = (l.headD []).length))
|0,i,l,m,_,_,_,hk=>by omega
|k + 1,i,l,m,hn,hr,hi,hk=>by
  rw [show k + 1 + k0 = (k + k0) + 1 by omega]
  simp only [Vj1.l0]
  by_cases h : i < l.length
  ·have e : rd_L1 l (i : Int) = l[i]:=by simp [rd_L1,h]
   have e0 : rd_L1 l 0 = l.headD []:=by cases l <;> simp [rd_L1]
   have hx:=hr l[i] (List.getElem_mem h)
   rw [if_pos (by omega),if_pos (by omega),e,spec_l2Point_is (k + k0) l[i] (by omega) (by omega),e0]
   simp only [Option.bind_some]
   rw [List.drop_eq_getElem_cons h,List.all_cons]
   by_cases c1 : ptB l[i] = true
   ·rw [if_pos c1,if_pos (by omega),c1,Bool.true_and]
    by_cases c2 : l[i].length = (l.headD []).length
    ·rw [if_pos (by omega),w64_nat (by omega),spec_l2Sample_l k0 hk0 k (i + 1) l m hn hr (by omega) (by omega)]
     simp [c2]
    ·rw [if_neg (by omega)]
     simp only [c2,decide_false,Bool.false_and,Bool.and_false]
   ·rw [if_neg c1]
    simp [c1]
  ·rw [if_neg (by omega),List.drop_of_length_le (by omega)]
   simp
theorem spec_l2Sample_is (k : Nat) (l : List (List Int)) (m : List Int) (hr : ∀ r ∈ l,r.length ≤ 1048576) (hm : m.length ≤ 1048576) (hk : 1048600 < k) : Vj1.f k l m = some (smB l m):=by
 obtain ⟨k,rfl⟩ : ∃ q,k = q + 1:=⟨k - 1,by omega⟩
 unfold Vj1.f smB
 by_cases c1 : l.length ≤ 16
 ·rw [if_neg (by omega)]
  by_cases c2 : m.length = l.length
  ·rw [if_pos (by omega),spec_l2Labels_is _ m (by omega) (by omega)]
   simp only [Option.bind_some,Vj1.j0]
   have:=spec_l2Sample_l (k - 17) (by omega) 17 0 l m c1 hr (by omega) (by omega)
   rw [show 17 + (k - 17) = k by omega] at this
   rw [show ((0 : Nat) : Int) = 0 from rfl] at this
   rw [this]
   cases e : m.all lbB
   ·simp
   ·simp [c1,c2]
  ·rw [if_neg (by omega)]
   simp [Vj1.j0,c2]
 ·rw [if_pos (by omega)]
  simp [Vj1.j0,c1]
theorem spec_l1Most_is (a b : Int) : Vq1.f a b = some (max a b):=by
 unfold Vq1.f
 by_cases h : a > b
 ·rw [if_pos h]
  congr 1
  omega
 ·rw [if_neg h]
  congr 1
  omega
theorem rd_mid_nat (pre post : List Int) (x : Int) : rd (pre ++ x :: post) ((pre.length : Nat) : Int) = x:=rd_mid pre post x _ rfl
theorem spec_l4Sums_l1 (lst : List Int) (a : Int) (ps : List (List Int)) (ls : List Int) (i : Nat) (hi : i < ps.length) (hl : i < lst.length) : ∀ (ppost : List Int) (k : Nat) (ppre pre post : List Int),rd_L1 ps (i : Int) = ppre ++ ppost → pre.length = ppre.length + 1 → post.length = ppost.length → pre.length + post.length ≤ 1000 → Jz1.l1 (k + ppost.length + 1) lst a (pre ++ post) (i : Int) (ppre.length : Int) ps ls = Jz1.l0 k lst a (pre ++ wadd (rd lst i) post ppost) (wrap64 ((i : Int) + 1)) ps ls
|[],k,ppre,pre,post,he,h1,h2,h3=>by
  have : post = []:=List.length_eq_zero_iff.1 h2
  subst this
  rw [List.length_nil,Nat.add_zero,Jz1.l1,if_pos (by omega),if_pos (by omega),he,if_neg (by simp)]
  simp [wadd]
|x :: ppost,k,ppre,pre,[],he,h1,h2,h3=>by simp at h2
|x :: ppost,k,ppre,pre,y :: post,he,h1,h2,h3=>by
  simp only [List.length_cons] at h2 h3
  have e : ((ppre.length : Nat) : Int) + 1 = ((pre.length : Nat) : Int):=by omega
  rw [show k + (x :: ppost).length + 1 = (k + ppost.length + 1) + 1 by simp;omega,Jz1.l1,if_pos (by omega),if_pos (by omega),he,if_pos (by simp;omega),e,w64 (x:=((pre.length : Nat) : Int)) (by omega) (by omega),if_pos (by omega),if_pos (by simp;omega),if_pos (by omega),if_pos (by omega),rd_mid_nat,rd_mid_nat,set_mid pre post y _ _ (by simp)]
  have ih:=spec_l4Sums_l1 lst a ps ls i hi hl ppost k (ppre ++ [x]) (pre ++ [wrap64 (y + wrap64 (rd lst i * x))]) post (by rw [he];simp) (by simp [h1]) (by omega) (by simp;omega)
  simp only [List.append_assoc,List.singleton_append,List.length_append,List.length_cons,List.length_nil,Nat.zero_add] at ih
  rw [← h1] at ih
  rw [ih]
  simp [wadd]
theorem spec_l4Sums_l0 (lst : List Int) (a : Int) (ps : List (List Int)) (ls : List Int) (hs : smB ps ls = true) (hl : lst.length = ps.length) (hb : lst.all (inB 0 1000000000) = true) : ∀ (m k i : Nat) (acc : List Int),i + m = ps.length → acc.length = (ps.headD []).length + 1 → 20 + m * 20 < k → Jz1.l0 k lst a acc (i : Int) ps ls = some (sumsS a (ps.drop i) (ls.drop i) (lst.drop i) acc)
|0,k,i,acc,hi,ha,hk=>by
  obtain ⟨k,rfl⟩ : ∃ z,k = z + 1:=⟨k - 1,by omega⟩
  rw [Jz1.l0,if_neg (by omega),List.drop_of_length_le (by omega)]
  simp [sumsS]
|m + 1,k,i,acc,hi,ha,hk=>by
  obtain ⟨h16,hlen,_,hrow⟩:=smB_parts hs
  obtain ⟨k,rfl⟩ : ∃ z,k = z + 1:=⟨k - 1,by omega⟩
  have i1 : i < ps.length:=by omega
  have i2 : i < ls.length:=by omega
  have i3 : i < lst.length:=by omega
  have e : rd_L1 ps (i : Int) = ps[i]:=by simp [rd_L1,i1]
  obtain ⟨q1,q2⟩:=hrow ps[i] (List.getElem_mem i1)
  have q3:=(ptB_parts q1).2.2
  have qn:=all_range hb i i3
  rw [Jz1.l0,if_pos (by omega),if_pos (by omega),if_pos (by omega),rd_nat ls i i2,List.drop_eq_getElem_cons i1,List.drop_eq_getElem_cons i2,List.drop_eq_getElem_cons i3]
  simp only [sumsS]
  by_cases c : ls[i] = a
  ·rw [if_pos c,if_pos c]
   cases acc with
  |nil=>simp at ha
  |cons h t =>
    simp only [List.length_cons] at ha
    rw [if_pos (by simp),if_pos (by omega),rd_nat lst i i3]
    have l1:=spec_l4Sums_l1 lst a ps ls i i1 i3 ps[i] (k - ps[i].length - 1) [] [wrap64 (h + lst[i])] t (by rw [e];rfl) rfl (by omega) (by simp;omega)
    rw [show k - ps[i].length - 1 + ps[i].length + 1 = k by omega] at l1
    simp only [List.length_nil,List.singleton_append,rd_nat lst i i3] at l1
    rw [show ((0 : Nat) : Int) = 0 from rfl] at l1
    have e0 : rd (h :: t) 0 = h:=rd_nat (h :: t) 0 (by simp)
    have e1 : (h :: t).set (0 : Int).toNat (wrap64 (rd (h :: t) 0 + lst[i])) = wrap64 (h + lst[i]) :: t:=by rw [e0];rfl
    rw [e1,l1,w64_nat (by omega),spec_l4Sums_l0 lst a ps ls hs hl hb m _ (i + 1) _ (by omega) (by rw [List.length_cons,wadd_length _ t ps[i] (by omega)];omega) (by omega)]
    simp only [wadd]
    rw [Int.mul_one,w64 (x:=lst[i]) (by omega) (by omega)]
  ·rw [if_neg c,if_neg c,w64_nat (by omega),spec_l4Sums_l0 lst a ps ls hs hl hb m k (i + 1) acc (by omega) ha (by omega)]
theorem spec_l4Sums_is (k : Nat) (ps : List (List Int)) (ls lst : List Int) (a : Int) (hs : smB ps ls = true) (hl : lst.length = ps.length) (hb : lst.all (inB 0 1000000000) = true) (hp : 0 < ps.length) (hk : 500 < k) : Jz1.f k ps ls lst a = some (sumsS a ps ls lst (List.replicate ((ps.headD []).length + 1) 0)):=by
 obtain ⟨h16,hlen,_,hrow⟩:=smB_parts hs
 have e0 : rd_L1 ps 0 = ps.headD []:=by cases ps <;> simp [rd_L1]
 have q : (ps.headD []).length ≤ 4:=by
  cases ps with
 |nil=>simp at hp
 |cons x t=>have:=ptB_parts (hrow x (by simp)).1;simp;omega
 unfold Jz1.f
 rw [if_pos (by omega),e0,w64 (by omega) (by omega),if_pos (by omega),if_pos (by omega)]
 have e1 : (((ps.headD []).length : Int) + 1).toNat = (ps.headD []).length + 1:=by omega
 rw [e1]
 have:=spec_l4Sums_l0 lst a ps ls hs hl hb ps.length k 0 (List.replicate ((ps.headD []).length + 1) 0) (by omega) (by simp) (by omega)
 exact this
theorem spec_l1Same_l : ∀ (k i : Nat) (l r : List Int),l.length ≤ 4611686018427387904 → r.length = l.length → i ≤ l.length → l.length < i + k → Gq1.l0 k l r (i : Int) = some (decide (l.drop i = r.drop i))
|0,i,l,r,_,_,_,hk=>by omega
|k + 1,i,l,r,hn,hl,hi,hk=>by
  simp only [Gq1.l0]
  by_cases h : i < l.length
  ·rw [if_pos (by omega),if_pos (by omega),if_pos (by omega),rd_nat l i h,rd_nat r i (by omega),w64_nat (by omega),spec_l1Same_l k (i + 1) l r hn hl (by omega) (by omega),List.drop_eq_getElem_cons h,List.drop_eq_getElem_cons (show i < r.length by omega)]
   by_cases e : l[i] = r[i]'(by omega)
   ·rw [if_pos e,e]
    simp only [List.cons.injEq,true_and]
   ·rw [if_neg e]
    simp only [List.cons.injEq,e,false_and,decide_false]
  ·rw [if_neg (by omega),List.drop_of_length_le (by omega),List.drop_of_length_le (by omega)]
   simp
theorem spec_l1Same_is (k : Nat) (l r : List Int) (hn : l.length ≤ 4611686018427387904) (hk : l.length < k) : Gq1.f k l r = some (decide (l = r)):=by
 unfold Gq1.f
 by_cases h : l.length = r.length
 ·rw [if_pos (by omega)]
  have:=spec_l1Same_l k 0 l r hn (by omega) (by omega) (by omega)
  simpa using this
 ·rw [if_neg (by omega)]
  have : l ≠ r:=fun e=>h (by rw [e])
  simp [this]
def certB (ps : List (List Int)) (ls lst : List Int) : Bool:=decide (lst.length = ps.length) && (lst.all (inB 0 1000000000) && (!decide (lst.sum = 0) && decide (sumsS 1 ps ls lst (List.replicate ((ps.headD []).length + 1) 0) = sumsS (-1) ps ls lst (List.replicate ((ps.headD []).length + 1) 0))))
theorem spec_l4Certificate_end (k : Nat) (ps : List (List Int)) (ls lst : List Int) (most : Int) (hs : smB ps ls = true) (hb : lst.all (inB 0 1000000000) = true) (hm : 0 ≤ most ∧ (most = 0 ↔ ∀ x ∈ lst,x = 0)) (hk : 510 < k) : Gj1.l0 k lst most (lst.length : Int) ps ls = some (certB ps ls lst):=by
 obtain ⟨k,rfl⟩ : ∃ z,k = z + 1:=⟨k - 1,by omega⟩
 obtain ⟨h16,hlen,_,hrow⟩:=smB_parts hs
 have z:=sum_zero_iff lst hb
 unfold certB
 rw [Gj1.l0,if_neg (by omega),hb]
 by_cases c : lst.length = ps.length
 ·rw [if_pos (by omega)]
  by_cases c2 : lst.sum = 0
  ·have : most = 0:=hm.2.2 (z.2.1 c2)
   rw [if_neg (by omega)]
   simp [c2]
  ·have c3 : ¬ most = 0:=fun e=>c2 (z.2.2 (hm.2.1 e))
   have hp : 0 < ps.length:=by
    cases lst with
   |nil=>simp at c2
   |cons x t=>simp at c;omega
   have hd : ∀ p ∈ ps,p.length = (ps.headD []).length:=fun p hp=>(hrow p hp).2
   have q4 : (ps.headD []).length ≤ 4:=by
    cases ps with
   |nil=>simp at hp
   |cons x t=>have:=ptB_parts (hrow x (by simp)).1;simp;omega
   have l1:=sumsS_length 1 ps ls lst (List.replicate ((ps.headD []).length + 1) 0) hd (by simp)
   rw [if_pos (by omega),spec_l4Sums_is k ps ls lst 1 hs c hb hp (by omega),spec_l4Sums_is k ps ls lst (-1) hs c hb hp (by omega)]
   simp only [Option.bind_some]
   rw [spec_l1Same_is k _ _ (by omega) (by omega)]
   simp [c,c2]
 ·rw [if_neg (by omega)]
  simp [c]
theorem spec_l4Certificate_l (ps : List (List Int)) (ls lst : List Int) (hs : smB ps ls = true) (hn : lst.length ≤ 1048576) : ∀ (m k i : Nat) (most : Int),i + m = lst.length → 600 < k → 0 ≤ most → (∀ j,j < i → inB 0 1000000000 (lst.getD j 0) = true) → (most = 0 ↔ ∀ j,j < i → lst.getD j 0 = 0) → Gj1.l0 (k + m) lst most (i : Int) ps ls = some (if (lst.drop i).all (inB 0 1000000000) then certB ps ls lst else false)
|0,k,i,most,hi,hk,h0,hp,hz=>by
  obtain rfl : i = lst.length:=by omega
  have hall : lst.all (inB 0 1000000000) = true:=List.all_eq_true.2 fun x hx=>by
   obtain ⟨j,hj,rfl⟩:=List.mem_iff_getElem.1 hx
   have:=hp j hj
   simpa [hj] using this
  rw [Nat.add_zero,spec_l4Certificate_end k ps ls lst most hs hall ⟨h0,hz.trans ⟨fun q x hx=>by
   obtain ⟨j,hj,rfl⟩:=List.mem_iff_getElem.1 hx
   have:=q j hj
   simpa [hj] using this,fun q j hj=>by
   have:=q lst[j] (List.getElem_mem hj)
   simpa [hj] using this⟩⟩ (by omega)]
  simp
|m + 1,k,i,most,hi,hk,h0,hp,hz=>by
  have h : i < lst.length:=by omega
  rw [show k + (m + 1) = (k + m) + 1 by omega,Gj1.l0,if_pos (by omega),if_pos (by omega),spec_l1In_is,rd_nat lst i h,w64_nat (by omega),List.drop_eq_getElem_cons h,List.all_cons]
  simp only [Option.bind_some]
  by_cases c : inB 0 1000000000 lst[i] = true
  ·have q:=inB_iff.1 c
   rw [if_pos c,spec_l1Most_is]
   simp only [Option.bind_some]
   rw [spec_l4Certificate_l ps ls lst hs hn m k (i + 1) _ (by omega) hk (by omega) (fun j hj=>by
    by_cases e : j = i
    ·subst e
     simpa [h] using c
    ·exact hp j (by omega)) ⟨fun e j hj=>by
     by_cases e2 : j = i
     ·subst e2
      simp [h]
      omega
     ·exact hz.1 (by omega) j (by omega),fun e=>by
     have e1:=hz.2 fun j hj=>e j (by omega)
     have e2:=e i (by omega)
     simp [h] at e2
     omega⟩]
   simp [c]
  ·rw [if_neg c]
   simp [c]
theorem spec_l4Certificate_is (k : Nat) (ps : List (List Int)) (ls lst : List Int) (hs : smB ps ls = true) (hn : lst.length ≤ 1048576) (hk : 1050000 < k) : Gj1.f k ps ls lst = some (certB ps ls lst):=by
 unfold Gj1.f
 have:=spec_l4Certificate_l ps ls lst hs hn lst.length (k - lst.length) 0 0 (by omega) (by omega) (by omega) (fun j hj=>by omega) ⟨fun _ j hj=>by omega,fun _=>rfl⟩
 rw [show k - lst.length + lst.length = k by omega,List.drop_zero] at this
 rw [show ((0 : Nat) : Int) = 0 from rfl] at this
 rw [this]
 congr 1
 by_cases c : lst.all (inB 0 1000000000) = true
 ·rw [if_pos c]
 ·rw [if_neg c]
  unfold certB
  simp [c]
theorem laws_szIntS_is (l : List Int) (a : Int) (h0 : 0 ≤ a) (h1 : a ≤ 4611686018427387904) (hl : l.length ≤ 9223372036854775807) : Vw.f l a = some (if (l.length : Int) ≤ a then a - l.length else -1):=by
 unfold Vw.f
 rw [w64 (by omega) (by omega)]
 by_cases h : (l.length : Int) ≤ a
 ·rw [if_neg (by omega),if_pos h]
 ·rw [if_pos (by omega),if_neg h]
theorem laws_szIntSS_l : ∀ (k i : Nat) (x : List (List Int)) (a : Int),0 ≤ a → a ≤ 1048576 → x.length ≤ 1048576 → (∀ r ∈ x,r.length ≤ 9223372036854775807) → i ≤ x.length → x.length < i + k → ∃ v,Gw.l0 k x a (i : Int) = some v ∧ (v < 0 ∨ (0 ≤ v ∧ v ≤ a ∧ ∀ r ∈ x.drop i,r.length ≤ 1048576))
|0,_,_,_,_,_,_,_,_,hk=>by omega
|k + 1,i,x,a,h0,h1,hn,hr,hi,hk=>by
  simp only [Gw.l0]
  by_cases h : i < x.length
  ·have e : rd_L1 x (i : Int) = x[i]:=by simp [rd_L1,h]
   have hx:=hr x[i] (List.getElem_mem h)
   rw [if_pos (by omega),if_pos (by omega),e,laws_szIntS_is x[i] a h0 (by omega) hx]
   simp only [Option.bind_some]
   by_cases c : (x[i].length : Int) ≤ a
   ·rw [if_pos c,if_neg (by omega),w64_nat (by omega)]
    obtain ⟨v,hv,hc⟩:=laws_szIntSS_l k (i + 1) x (a - x[i].length) (by omega) (by omega) hn hr (by omega) (by omega)
    refine ⟨v,hv,?_⟩
    rcases hc with hc|⟨a1,a2,a3⟩
    ·exact .inl hc
    ·refine .inr ⟨a1,by omega,fun r hr'=>?_⟩
     rw [List.drop_eq_getElem_cons h] at hr'
     rcases List.mem_cons.1 hr' with rfl|hr'
     ·omega
     ·exact a3 r hr'
   ·rw [if_neg c,if_pos (by omega)]
    exact ⟨-1,rfl,.inl (by omega)⟩
  ·rw [if_neg (by omega)]
   refine ⟨a,rfl,.inr ⟨h0,Int.le_refl _,fun r hr'=>?_⟩⟩
   rw [List.drop_of_length_le (by omega)] at hr'
   simp at hr'
theorem laws_szIntSS_tells (k : Nat) (x : List (List Int)) (a : Int) (h0 : 0 ≤ a) (h1 : a ≤ 1048576) (hn : x.length ≤ 9223372036854775807) (hr : ∀ r ∈ x,r.length ≤ 9223372036854775807) (hk : 1048576 < k) : ∃ v,Gw.f k x a = some v ∧ (v < 0 ∨ (0 ≤ v ∧ v ≤ a ∧ x.length ≤ 1048576 ∧ ∀ r ∈ x,r.length ≤ 1048576)):=by
 unfold Gw.f
 rw [w64 (by omega) (by omega)]
 by_cases c : (x.length : Int) ≤ a
 ·rw [if_neg (by omega)]
  obtain ⟨v,hv,hc⟩:=laws_szIntSS_l k 0 x (a - x.length) (by omega) (by omega) (by omega) hr (by omega) (by omega)
  refine ⟨v,hv,?_⟩
  rcases hc with hc|⟨a1,a2,a3⟩
  ·exact .inl hc
  ·exact .inr ⟨a1,by omega,by omega,by simpa using a3⟩
 ·rw [if_pos (by omega)]
  exact ⟨-1,rfl,.inl (by omega)⟩
theorem laws_szSample_tells (k : Nat) (x : List (List Int)) (m : List Int) (a : Int) (h0 : 0 ≤ a) (h1 : a ≤ 1048576) (hn : x.length ≤ 9223372036854775807) (hr : ∀ r ∈ x,r.length ≤ 9223372036854775807) (hm : m.length ≤ 9223372036854775807) (hk : 1048576 < k) : ∃ v,Jq1.f k x m a = some v ∧ (v < 0 ∨ (0 ≤ v ∧ v ≤ a ∧ x.length ≤ 1048576 ∧ (∀ r ∈ x,r.length ≤ 1048576) ∧ m.length ≤ 1048576)):=by
 unfold Jq1.f
 obtain ⟨v,hv,hc⟩:=laws_szIntSS_tells k x a h0 h1 hn hr hk
 rw [hv]
 simp only [Option.bind_some]
 rcases hc with hc|⟨a1,a2,a3,a4⟩
 ·rw [if_pos hc]
  exact ⟨-1,rfl,.inl (by omega)⟩
 ·rw [if_neg (by omega),laws_szIntS_is m v a1 (by omega) hm]
  simp only [Option.bind_some]
  by_cases c : (m.length : Int) ≤ v
  ·rw [if_pos c,if_neg (by omega)]
   exact ⟨_,rfl,.inr ⟨by omega,by omega,a3,a4,by omega⟩⟩
  ·rw [if_neg c,if_pos (by omega)]
   exact ⟨-1,rfl,.inl (by omega)⟩
theorem laws_toIntS_l : ∀ (k i : Nat) (l acc : List Int),l.length ≤ 4611686018427387904 → acc.length = l.length → i ≤ l.length → l.length < i + k → (∀ j,j < i → acc[j]? = l[j]?) → Kq1.l0 k l acc (i : Int) = some l
|0,i,l,acc,_,_,_,hk,_=>by omega
|k + 1,i,l,acc,hn,hl,hi,hk,hj=>by
  simp only [Kq1.l0]
  by_cases h : i < l.length
  ·rw [if_pos (by omega),if_pos (by omega),if_pos (by omega),rd_nat l i h,w64_nat (by omega)]
   refine laws_toIntS_l k (i + 1) l _ hn (by simp [hl]) (by omega) (by omega) fun j hj'=>?_
   rw [List.getElem?_set]
   by_cases e : i = j
   ·subst e
    simp [h,hl]
   ·simp only [Int.toNat_natCast]
    rw [if_neg e]
    exact hj j (by omega)
  ·rw [if_neg (by omega)]
   congr 1
   refine List.ext_getElem? fun j=>?_
   by_cases e : j < i
   ·exact hj j e
   ·rw [List.getElem?_eq_none (by omega),List.getElem?_eq_none (by omega)]
theorem laws_toIntS_is (k : Nat) (l : List Int) (hn : l.length ≤ 35184372088832) (hk : l.length < k) : Kq1.f k l = some l:=by
 unfold Kq1.f
 rw [if_pos (by omega),if_pos (by omega)]
 exact laws_toIntS_l k 0 l _ (by omega) (by simp) (by omega) (by omega) fun j hj=>by omega
theorem laws_toIntSS_l : ∀ (k i : Nat) (l acc : List (List Int)),l.length ≤ 1048576 → (∀ r ∈ l,r.length ≤ 1048576) → acc.length = l.length → i ≤ l.length → l.length + 1048576 < i + k → (∀ j,j < i → acc[j]? = l[j]?) → Xq1.l0 k l acc (i : Int) = some l
|0,i,l,acc,_,_,_,_,hk,_=>by omega
|k + 1,i,l,acc,hn,hr,hl,hi,hk,hj=>by
  simp only [Xq1.l0]
  by_cases h : i < l.length
  ·have e : rd_L1 l (i : Int) = l[i]:=by simp [rd_L1,h]
   have hx:=hr l[i] (List.getElem_mem h)
   rw [if_pos (by omega),if_pos (by omega),e,laws_toIntS_is k l[i] (by omega) (by omega)]
   simp only [Option.bind_some]
   rw [if_pos (by omega),w64_nat (by omega)]
   refine laws_toIntSS_l k (i + 1) l _ hn hr (by simp [hl]) (by omega) (by omega) fun j hj'=>?_
   rw [List.getElem?_set]
   by_cases e : i = j
   ·subst e
    simp [h,hl]
   ·simp only [Int.toNat_natCast]
    rw [if_neg e]
    exact hj j (by omega)
  ·rw [if_neg (by omega)]
   congr 1
   refine List.ext_getElem? fun j=>?_
   by_cases e : j < i
   ·exact hj j e
   ·rw [List.getElem?_eq_none (by omega),List.getElem?_eq_none (by omega)]
theorem laws_toIntSS_is (k : Nat) (l : List (List Int)) (hn : l.length ≤ 1048576) (hr : ∀ r ∈ l,r.length ≤ 1048576) (hk : 2097152 < k) : Xq1.f k l = some l:=by
 unfold Xq1.f
 rw [if_pos (by omega),if_pos (by omega)]
 exact laws_toIntSS_l k 0 l _ hn hr (by simp) (by omega) (by omega) fun j hj=>by omega
theorem laws_toSample_is (k : Nat) (l : List (List Int)) (m : List Int) (hn : l.length ≤ 1048576) (hr : ∀ r ∈ l,r.length ≤ 1048576) (hm : m.length ≤ 1048576) (hk : 2097152 < k) : Yq1.f k l m = some (l,m):=by
 unfold Yq1.f
 rw [laws_toIntSS_is k l hn hr hk,Option.bind_some,laws_toIntS_is k m (by omega) (by omega)]
 rfl
theorem laws_eqIntS_l : ∀ (k i : Nat) (l r : List Int),l.length ≤ 4611686018427387904 → r.length = l.length → i ≤ l.length → l.length < i + k → Zv.l0 k l r (i : Int) = some (decide (l.drop i = r.drop i))
|0,i,l,r,_,_,_,hk=>by omega
|k + 1,i,l,r,hn,hl,hi,hk=>by
  simp only [Zv.l0]
  by_cases h : i < l.length
  ·rw [if_pos (by omega),if_pos (by omega),if_pos (by omega),rd_nat l i h,rd_nat r i (by omega),w64_nat (by omega),laws_eqIntS_l k (i + 1) l r hn hl (by omega) (by omega),List.drop_eq_getElem_cons h,List.drop_eq_getElem_cons (show i < r.length by omega)]
   by_cases e : l[i] = r[i]'(by omega)
   ·rw [if_pos e,e]
    simp only [List.cons.injEq,true_and]
   ·rw [if_neg e]
    simp only [List.cons.injEq,e,false_and,decide_false]
  ·rw [if_neg (by omega),List.drop_of_length_le (by omega),List.drop_of_length_le (by omega)]
   simp
theorem laws_eqIntS_is (k : Nat) (l r : List Int) (hn : l.length ≤ 4611686018427387904) (hk : l.length < k) : Zv.f k l r = some (decide (l = r)):=by
 unfold Zv.f
 by_cases h : l.length = r.length
 ·rw [if_pos (by omega)]
  have:=laws_eqIntS_l k 0 l r hn (by omega) (by omega) (by omega)
  simpa using this
 ·rw [if_neg (by omega)]
  have : l ≠ r:=fun e=>h (by rw [e])
  simp [this]
theorem laws_eqIntS_same (k : Nat) (l : List Int) (hn : l.length ≤ 4611686018427387904) (hk : l.length < k) : Zv.f k l l = some true:=by
 rw [laws_eqIntS_is k l l hn hk]
 simp
theorem laws_eqIntSS_l : ∀ (k i : Nat) (l : List (List Int)),l.length ≤ 1048576 → (∀ r ∈ l,r.length ≤ 1048576) → i ≤ l.length → l.length + 1048576 < i + k → Vv.l0 k l l (i : Int) = some true
|0,i,l,_,_,_,hk=>by omega
|k + 1,i,l,hn,hr,hi,hk=>by
  simp only [Vv.l0]
  by_cases h : i < l.length
  ·have e : rd_L1 l (i : Int) = l[i]:=by simp [rd_L1,h]
   have hx:=hr l[i] (List.getElem_mem h)
   rw [if_pos (by omega),if_pos (by omega),if_pos (by omega),e,laws_eqIntS_same k l[i] (by omega) (by omega)]
   simp only [Option.bind_some,if_true]
   rw [w64_nat (by omega)]
   exact laws_eqIntSS_l k (i + 1) l hn hr (by omega) (by omega)
  ·rw [if_neg (by omega)]
theorem laws_eqIntSS_same (k : Nat) (l : List (List Int)) (hn : l.length ≤ 1048576) (hr : ∀ r ∈ l,r.length ≤ 1048576) (hk : 2097152 < k) : Vv.f k l l = some true:=by
 unfold Vv.f
 rw [if_pos rfl]
 exact laws_eqIntSS_l k 0 l hn hr (by omega) (by omega)
theorem laws_eqSample_same (k : Nat) (l : List (List Int)) (m : List Int) (hn : l.length ≤ 1048576) (hr : ∀ r ∈ l,r.length ≤ 1048576) (hm : m.length ≤ 1048576) (hk : 2097152 < k) : Gv.f k l m l m = some true:=by
 unfold Gv.f
 rw [laws_eqIntSS_same k l hn hr hk,laws_eqIntS_same k m (by omega) (by omega)]
 rfl
theorem laws_markIntS_l : ∀ (k : Nat) (post pre : List Int) (a : Int),-4611686018427387904 ≤ a → a + post.length ≤ 4611686018427387904 → pre.length + post.length ≤ 4611686018427387904 → post.length < k → Xw.l0 k (pre ++ post) a (pre.length : Int) = some (a + post.length,pre ++ marks a post.length)
|0,_,_,_,_,_,_,hk=>by omega
|k + 1,[],pre,a,_,_,_,_=>by
  simp only [Xw.l0]
  rw [if_neg (by simp)]
  simp [marks]
|k + 1,x :: post,pre,a,h1,h2,h3,hk=>by
  simp only [Xw.l0]
  simp only [List.length_cons] at h2 h3 hk
  rw [if_pos (by simp;omega),if_pos (by omega),w64_nat (by omega),w64 (by omega) (by omega)]
  rw [set_mid pre post x a _ (by simp)]
  have:=laws_markIntS_l k post (pre ++ [a]) (a + 1) (by omega) (by omega) (by simp;omega) (by omega)
  simp only [List.append_assoc,List.singleton_append,List.length_append,List.length_cons,List.length_nil,Nat.zero_add] at this
  rw [this]
  simp only [List.length_cons,marks]
  congr 2
  omega
theorem laws_markIntS_is (k : Nat) (l : List Int) (a : Int) (h1 : -4611686018427387904 ≤ a) (h2 : a + l.length ≤ 4611686018427387904) (h3 : l.length ≤ 4611686018427387904) (hk : l.length < k) : Xw.f k l a = some (a + l.length,marks a l.length):=by
 unfold Xw.f
 exact laws_markIntS_l k l [] a h1 h2 (by simpa using h3) hk
theorem laws_markIntSS_l : ∀ (m k i : Nat) (l : List (List Int)) (a : Int),i + m = l.length → l.length ≤ 1048576 → (∀ r ∈ l,r.length ≤ 1048576) → 0 ≤ a → a + m * 1048576 ≤ 4611686018427387904 → 1048576 + m < k → ∃ v l',Yw.l0 k l a (i : Int) = some (v,l') ∧ a ≤ v ∧ v ≤ a + m * 1048576
|0,k,i,l,a,hi,hn,hr,ha,hb,hk=>by
  obtain ⟨k,rfl⟩ : ∃ q,k = q + 1:=⟨k - 1,by omega⟩
  rw [Yw.l0,if_neg (by omega)]
  exact ⟨a,l,rfl,by omega,by omega⟩
|m + 1,k,i,l,a,hi,hn,hr,ha,hb,hk=>by
  obtain ⟨k,rfl⟩ : ∃ q,k = q + 1:=⟨k - 1,by omega⟩
  have h : i < l.length:=by omega
  have e : rd_L1 l (i : Int) = l[i]:=by simp [rd_L1,h]
  have hx:=hr l[i] (List.getElem_mem h)
  rw [Yw.l0,if_pos (by omega),if_pos (by omega),e,laws_markIntS_is k l[i] a (by omega) (by omega) (by omega) (by omega)]
  simp only [Option.bind_some]
  rw [w64_nat (by omega)]
  obtain ⟨v,l',hv,h1,h2⟩:=laws_markIntSS_l m k (i + 1) (l.set (i : Int).toNat (marks a l[i].length)) (a + l[i].length) (by simp;omega) (by simpa using hn) (fun r hr'=>by
   rcases List.mem_or_eq_of_mem_set hr' with h|rfl
   ·exact hr r h
   ·rw [marks_length];omega) (by omega) (by omega) (by omega)
  exact ⟨v,l',hv,by omega,by omega⟩
theorem laws_markIntSS_tells (k : Nat) (l : List (List Int)) (hn : l.length ≤ 1048576) (hr : ∀ r ∈ l,r.length ≤ 1048576) (hk : 2097152 < k) : ∃ v l',Yw.f k l 1 = some (v,l') ∧ 1 ≤ v ∧ v ≤ 1099511627777:=by
 unfold Yw.f
 obtain ⟨v,l',hv,h1,h2⟩:=laws_markIntSS_l l.length k 0 l 1 (by omega) hn hr (by omega) (by omega) (by omega)
 exact ⟨v,l',hv,by omega,by omega⟩
theorem laws_markSample_tells (k : Nat) (l : List (List Int)) (m : List Int) (hn : l.length ≤ 1048576) (hr : ∀ r ∈ l,r.length ≤ 1048576) (hm : m.length ≤ 1048576) (hk : 2097152 < k) : ∃ v l' m',Zw.f k l m 1 = some (v,l',m') ∧ 1 ≤ v ∧ v ≤ 1099512676353:=by
 unfold Zw.f
 obtain ⟨v,l',hv,h1,h2⟩:=laws_markIntSS_tells k l hn hr hk
 rw [hv,Option.bind_some,laws_markIntS_is k m v (by omega) (by omega) (by omega) (by omega)]
 exact ⟨_,_,_,rfl,by omega,by omega⟩
theorem impl_within_is (a lo hi : Int) : Jv.f a lo hi = some (inB lo hi a):=by
 unfold Jv.f
 exact within_is a lo hi
theorem impl_allWithin_l : ∀ (k i : Nat) (l : List Int) (lo hi : Int),l.length ≤ 4611686018427387904 → i ≤ l.length → l.length < i + k → Xk.l0 k lo hi l (l.length : Int) (i : Int) = some ((l.drop i).all (inB lo hi))
|0,_,_,_,_,_,_,hk=>by omega
|k + 1,i,l,lo,hi,hn,hi',hk=>by
  simp only [Xk.l0]
  by_cases h : i < l.length
  ·rw [if_pos (by omega),if_pos (by omega),if_pos (by omega),impl_within_is,rd_nat l i h,w64_nat (by omega),List.drop_eq_getElem_cons h,List.all_cons,impl_allWithin_l k (i + 1) l lo hi hn (by omega) (by omega)]
   simp only [Option.bind_some]
   by_cases e : inB lo hi l[i] = true
   ·rw [if_pos e,e]
    simp
   ·rw [if_neg e]
    simp [e]
  ·rw [if_neg (by omega),List.drop_of_length_le (by omega)]
   simp
theorem impl_allWithin_is (k : Nat) (l : List Int) (lo hi : Int) (hn : l.length ≤ 4611686018427387904) (hk : l.length < k) : Xk.f k l lo hi = some (l.all (inB lo hi)):=by
 unfold Xk.f
 have:=impl_allWithin_l k 0 l lo hi hn (by omega) (by omega)
 simpa using this
theorem impl_IsPoint_is (k : Nat) (l : List Int) (hn : l.length ≤ 4611686018427387904) (hk : l.length < k) : Yx.f k l = some (ptB l):=by
 unfold Yx.f ptB
 rw [impl_within_is,impl_allWithin_is k l (-9) 9 hn hk]
 simp only [Option.bind_some]
 cases inB 1 4 (l.length : Int) <;> simp
theorem impl_isLabel_is (a : Int) : Vk.f a = some (lbB a):=by
 unfold Vk.f lbB
 by_cases e1 : a = 1
 ·rw [if_pos e1]
  simp [e1]
 ·rw [if_neg e1]
  congr 1
  by_cases e2 : a = -1
  ·simp [e2]
  ·simp [e1,e2]
theorem impl_IsSample_l (k0 : Nat) (hk0 : 1048576 < k0) : ∀ (k i : Nat) (l : List (List Int)) (m : List Int),l.length ≤ 16 → m.length = l.length → (∀ r ∈ l,r.length ≤ 1048576) → i ≤ l.length → l.length < i + k → Zx.l0 (k + k0) l (l.length : Int) (i : Int) l m = some ((m.drop i).all lbB && (l.drop i).all fun x=>ptB x && decide (x.length = (l.headD []).length))
|0,i,l,m,_,_,_,_,hk=>by omega
|k + 1,i,l,m,hn,hm,hr,hi,hk=>by
  rw [show k + 1 + k0 = (k + k0) + 1 by omega]
  simp only [Zx.l0]
  by_cases h : i < l.length
  ·have h' : i < m.length:=by omega
   have e : rd_L1 l (i : Int) = l[i]:=by simp [rd_L1,h]
   have e0 : rd_L1 l 0 = l.headD []:=by cases l <;> simp [rd_L1]
   have hx:=hr l[i] (List.getElem_mem h)
   rw [if_pos (by omega),if_pos (by omega),if_pos (by omega),e,impl_IsPoint_is (k + k0) l[i] (by omega) (by omega),e0]
   simp only [Option.bind_some]
   rw [List.drop_eq_getElem_cons h,List.all_cons,List.drop_eq_getElem_cons h',List.all_cons]
   by_cases c1 : ptB l[i] = true
   ·rw [if_pos c1,if_pos (by omega),c1,Bool.true_and]
    by_cases c2 : l[i].length = (l.headD []).length
    ·rw [if_pos (by omega),if_pos (by omega),impl_isLabel_is,rd_nat m i h',w64_nat (by omega),impl_IsSample_l k0 hk0 k (i + 1) l m hn hm hr (by omega) (by omega)]
     simp only [Option.bind_some]
     by_cases c3 : lbB m[i] = true
     ·rw [if_pos c3,c3]
      simp [c2]
     ·rw [if_neg c3]
      simp [c3]
    ·rw [if_neg (by omega)]
     simp only [c2,decide_false,Bool.false_and,Bool.and_false]
   ·rw [if_neg c1]
    simp [c1]
  ·rw [if_neg (by omega),List.drop_of_length_le (by omega),List.drop_of_length_le (by omega)]
   simp
theorem impl_IsSample_is (k : Nat) (l : List (List Int)) (m : List Int) (hr : ∀ r ∈ l,r.length ≤ 1048576) (hm : m.length ≤ 1048576) (hk : 1048600 < k) : Zx.f k l m = some (smB l m):=by
 obtain ⟨k,rfl⟩ : ∃ q,k = q + 1:=⟨k - 1,by omega⟩
 unfold Zx.f smB
 by_cases c1 : l.length ≤ 16
 ·rw [if_neg (by omega)]
  simp only [Zx.j0]
  by_cases c2 : m.length = l.length
  ·rw [if_neg (by simp [c2])]
   have:=impl_IsSample_l (k - 17) (by omega) 17 0 l m c1 c2 hr (by omega) (by omega)
   rw [show 17 + (k - 17) = k by omega] at this
   rw [show ((0 : Nat) : Int) = 0 from rfl] at this
   rw [this]
   simp [c1,c2]
  ·rw [if_pos (by simp;omega)]
   simp [c2]
 ·rw [if_pos (by omega)]
  simp [Zx.j0,c1]
theorem impl_copied_is (l : List Int) (h : l.length < 17592186044416) : Yk.f l = some l:=by
 unfold Yk.f
 simp only [Option.bind_some]
 rw [if_pos (by simpa using h)]
 simp
theorem impl_Sample_signed_l (ps : List (List Int)) (ls : List Int) (i : Nat) (hi : i < ls.length) (p : List Int) (hp : p.length ≤ 4) : ∀ (k j : Nat) (acc : List Int),acc.length = j + 1 → j ≤ p.length → p.length < j + k → Gx.l0 k (i : Int) acc p (p.length : Int) (j : Int) ps ls = some (acc ++ (p.drop j).map fun x=>wrap64 (x * rd ls i))
|0,_,_,_,_,hk=>by omega
|k + 1,j,acc,ha,hj,hk=>by
  simp only [Gx.l0]
  by_cases h : j < p.length
  ·rw [if_pos (by omega),if_pos (by omega),if_pos (by omega),if_pos (by omega),if_pos (by omega),if_pos (by omega),rd_nat p j h,w64_nat (by omega),impl_Sample_signed_l ps ls i hi p hp k (j + 1) _ (by simp [ha]) (by omega) (by omega),List.drop_eq_getElem_cons h]
   simp only [List.map_cons,List.append_assoc,List.singleton_append]
  ·rw [if_neg (by omega),List.drop_of_length_le (by omega)]
   simp
theorem impl_Sample_signed_is (k : Nat) (ps : List (List Int)) (ls : List Int) (i : Nat) (hs : smB ps ls = true) (hi : i < ps.length) (hk : 10 < k) : Gx.f k ps ls (i : Int) = some (signedL (rd ls i) (rd_L1 ps i)):=by
 obtain ⟨h16,hlen,_,hrow⟩:=smB_parts hs
 have e : rd_L1 ps (i : Int) = ps[i]:=by simp [rd_L1,hi]
 have q:=ptB_parts (hrow ps[i] (List.getElem_mem hi)).1
 unfold Gx.f signedL
 rw [if_pos (by omega),if_pos (by omega),if_pos (by omega),e]
 have:=impl_Sample_signed_l ps ls i (by omega) ps[i] q.2.2 k 0 [rd ls i] rfl (by omega) (by omega)
 rw [show ((0 : Nat) : Int) = 0 from rfl] at this
 rw [this]
 simp
theorem impl_Sample_summed_l1 (lst : List Int) (ps : List (List Int)) (ls : List Int) (n x13 : Int) (i : Nat) (hi : i ≠ 0) (sg : List Int) : ∀ (spost : List Int) (k : Nat) (spre pre post : List Int),sg = spre ++ spost → pre.length = spre.length → post.length = spost.length → pre.length + post.length ≤ 1000 → Jk.l1 (k + spost.length + 1) (pre ++ post) (i : Int) n lst (lst.length : Int) x13 sg (sg.length : Int) (spre.length : Int) ps ls = Jk.l0 k (pre ++ wadd n post spost) lst (lst.length : Int) (wrap64 (x13 + 1)) ps ls
|[],k,spre,pre,post,he,h1,h2,h3=>by
  have : post = []:=List.length_eq_zero_iff.1 h2
  subst this
  rw [List.length_nil,Nat.add_zero,Jk.l1,if_neg (by rw [he];simp)]
  simp [wadd]
|x :: spost,k,spre,pre,[],he,h1,h2,h3=>by simp at h2
|x :: spost,k,spre,pre,y :: post,he,h1,h2,h3=>by
  simp only [List.length_cons] at h2 h3
  have rs : rd sg (spre.length : Int) = x:=by rw [he];exact rd_mid_nat _ _ _
  rw [show k + (x :: spost).length + 1 = (k + spost.length + 1) + 1 by simp;omega,Jk.l1,if_pos (by rw [he];simp;omega),if_pos (by omega),if_pos (by rw [he];simp;omega),if_neg (by omega),rs,← h1,if_pos (by simp;omega),rd_mid_nat,set_mid pre post y _ _ (by simp),w64_nat (by omega)]
  have ih:=impl_Sample_summed_l1 lst ps ls n x13 i hi sg spost k (spre ++ [x]) (pre ++ [wrap64 (y + wrap64 (n * x))]) post (by rw [he];simp) (by simp [h1]) (by omega) (by simp;omega)
  simp only [List.append_assoc,List.singleton_append,List.length_append,List.length_cons,List.length_nil,Nat.zero_add] at ih
  rw [← h1] at ih
  rw [ih]
  simp [wadd]
theorem impl_Sample_summed_l1z (lst : List Int) (ps : List (List Int)) (ls : List Int) (n x13 : Int) (sg : List Int) : ∀ (spost : List Int) (k : Nat) (spre pre : List Int),sg = spre ++ spost → pre.length = spre.length → pre.length + spost.length ≤ 1000 → Jk.l1 (k + spost.length + 1) pre 0 n lst (lst.length : Int) x13 sg (sg.length : Int) (spre.length : Int) ps ls = Jk.l0 k (pre ++ wadd n (List.replicate spost.length 0) spost) lst (lst.length : Int) (wrap64 (x13 + 1)) ps ls
|[],k,spre,pre,he,h1,h3=>by
  rw [List.length_nil,Nat.add_zero,Jk.l1,if_neg (by rw [he];simp)]
  simp [wadd]
|x :: spost,k,spre,pre,he,h1,h3=>by
  simp only [List.length_cons] at h3
  have rs : rd sg (spre.length : Int) = x:=by rw [he];exact rd_mid_nat _ _ _
  rw [show k + (x :: spost).length + 1 = (k + spost.length + 1) + 1 by simp;omega,Jk.l1,if_pos (by rw [he];simp;omega),if_pos (by omega),if_pos (by rw [he];simp;omega),if_pos rfl,if_pos (by omega)]
  simp only [Option.bind_some]
  rw [rs,← h1,if_pos (by simp;omega),rd_mid_nat,set_mid pre [] 0 _ _ (by simp),w64_nat (by omega)]
  have ih:=impl_Sample_summed_l1z lst ps ls n x13 sg spost k (spre ++ [x]) (pre ++ [wrap64 (0 + wrap64 (n * x))]) (by rw [he];simp) (by simp [h1]) (by simp;omega)
  simp only [List.length_append,List.length_cons,List.length_nil,Nat.zero_add] at ih
  rw [← h1] at ih
  rw [ih]
  simp [wadd,List.replicate_succ]
theorem impl_Sample_summed_l0 (lst : List Int) (ps : List (List Int)) (ls : List Int) (hs : smB ps ls = true) (hl : lst.length = ps.length) : ∀ (m k i : Nat) (acc : List Int),i + m = ps.length → 0 < i → acc.length = (ps.headD []).length + 1 → 20 + m * 20 < k → Jk.l0 k acc lst (lst.length : Int) (i : Int) ps ls = some (sumsI (ps.drop i) (ls.drop i) (lst.drop i) acc)
|0,k,i,acc,hi,h0,ha,hk=>by
  obtain ⟨k,rfl⟩ : ∃ z,k = z + 1:=⟨k - 1,by omega⟩
  rw [Jk.l0,if_neg (by omega),List.drop_of_length_le (by omega)]
  simp [sumsI]
|m + 1,k,i,acc,hi,h0,ha,hk=>by
  obtain ⟨h16,hlen,_,hrow⟩:=smB_parts hs
  obtain ⟨k,rfl⟩ : ∃ z,k = z + 1:=⟨k - 1,by omega⟩
  have i1 : i < ps.length:=by omega
  have i2 : i < ls.length:=by omega
  have i3 : i < lst.length:=by omega
  have e : rd_L1 ps (i : Int) = ps[i]:=by simp [rd_L1,i1]
  obtain ⟨q1,q2⟩:=hrow ps[i] (List.getElem_mem i1)
  have q3:=(ptB_parts q1).2.2
  have sl : (signedL ls[i] ps[i]).length = (ps.headD []).length + 1:=by simp [signedL,q2]
  rw [Jk.l0,if_pos (by omega),if_pos (by omega),if_pos (by omega),impl_Sample_signed_is k ps ls i hs i1 (by omega),rd_nat ls i i2,e,rd_nat lst i i3]
  simp only [Option.bind_some]
  have l1:=impl_Sample_summed_l1 lst ps ls lst[i] (i : Int) i (by omega) (signedL ls[i] ps[i]) (signedL ls[i] ps[i]) (k - (signedL ls[i] ps[i]).length - 1) [] [] acc rfl rfl (by omega) (by simp;omega)
  rw [show k - (signedL ls[i] ps[i]).length - 1 + (signedL ls[i] ps[i]).length + 1 = k by omega] at l1
  simp only [List.length_nil,List.nil_append] at l1
  rw [show ((0 : Nat) : Int) = 0 from rfl] at l1
  rw [l1,w64_nat (by omega),impl_Sample_summed_l0 lst ps ls hs hl m _ (i + 1) _ (by omega) (by omega) (by rw [wadd_length _ _ _ (by omega)];exact ha) (by omega),List.drop_eq_getElem_cons i1,List.drop_eq_getElem_cons i2,List.drop_eq_getElem_cons i3]
  simp only [sumsI]
theorem impl_Sample_summed_is (k : Nat) (ps : List (List Int)) (ls lst : List Int) (hs : smB ps ls = true) (hl : lst.length = ps.length) (hp : 0 < ps.length) (hk : 500 < k) : Jk.f k ps ls lst = some (sumsI ps ls lst (List.replicate ((ps.headD []).length + 1) 0)):=by
 obtain ⟨h16,hlen,_,hrow⟩:=smB_parts hs
 obtain ⟨k,rfl⟩ : ∃ z,k = z + 1:=⟨k - 1,by omega⟩
 unfold Jk.f
 have e : rd_L1 ps ((0 : Nat) : Int) = ps[0]:=by simp [rd_L1,hp]
 have e' : ps.headD [] = ps[0]:=by cases ps with
 |nil=>simp at hp
 |cons a t=>rfl
 have i2 : 0 < ls.length:=by omega
 have i3 : 0 < lst.length:=by omega
 obtain ⟨q1,q2⟩:=hrow ps[0] (List.getElem_mem hp)
 have q3:=(ptB_parts q1).2.2
 have sg:=impl_Sample_signed_is k ps ls 0 hs hp (by omega)
 rw [rd_nat ls 0 i2,e] at sg
 have sl : (signedL ls[0] ps[0]).length = ps[0].length + 1:=by simp [signedL]
 have n0:=rd_nat lst 0 i3
 rw [show ((0 : Nat) : Int) = 0 from rfl] at sg n0
 rw [Jk.l0,if_pos (by omega),if_pos (by omega),if_pos (by omega),sg,n0]
 simp only [Option.bind_some]
 have l1:=impl_Sample_summed_l1z lst ps ls lst[0] 0 (signedL ls[0] ps[0]) (signedL ls[0] ps[0]) (k - (signedL ls[0] ps[0]).length - 1) [] [] rfl rfl (by simp;omega)
 rw [show k - (signedL ls[0] ps[0]).length - 1 + (signedL ls[0] ps[0]).length + 1 = k by omega] at l1
 simp only [List.length_nil,List.nil_append] at l1
 rw [show ((0 : Nat) : Int) = 0 from rfl] at l1
 rw [l1,show wrap64 (0 + 1) = ((1 : Nat) : Int) by unfold wrap64;omega,impl_Sample_summed_l0 lst ps ls hs hl (ps.length - 1) _ 1 _ (by omega) (by omega) (by rw [wadd_length _ _ _ (by simp),List.length_replicate,sl,e']) (by omega),e',sl]
 have d1:=List.drop_eq_getElem_cons hp
 have d2:=List.drop_eq_getElem_cons i2
 have d3:=List.drop_eq_getElem_cons i3
 rw [List.drop_zero] at d1 d2 d3
 rw [show sumsI ps ls lst (List.replicate (ps[0].length + 1) 0) = sumsI (ps[0] :: ps.drop 1) (ls[0] :: ls.drop 1) (lst[0] :: lst.drop 1) (List.replicate (ps[0].length + 1) 0) from by rw [← d1,← d2,← d3]]
 simp only [sumsI]
theorem impl_total_l (l : List Int) (hn : l.length ≤ 16) (hb : l.all (inB 0 1000000000) = true) : ∀ (k i : Nat) (s : Int),i ≤ l.length → l.length < i + k → 0 ≤ s → s ≤ 1000000000 * i → Gk.l0 k s l (l.length : Int) (i : Int) = some (s + (l.drop i).sum)
|0,_,_,_,hk,_,_=>by omega
|k + 1,i,s,hi,hk,h0,h1=>by
  simp only [Gk.l0]
  by_cases h : i < l.length
  ·have q:=all_range hb i h
   rw [if_pos (by omega),if_pos (by omega),if_pos (by omega),rd_nat l i h,w64_nat (by omega),w64 (by omega) (by omega),impl_total_l l hn hb k (i + 1) _ (by omega) (by omega) (by omega) (by omega),List.drop_eq_getElem_cons h,List.sum_cons]
   congr 1
   omega
  ·rw [if_neg (by omega),List.drop_of_length_le (by omega)]
   simp
theorem impl_total_is (k : Nat) (l : List Int) (hn : l.length ≤ 16) (hb : l.all (inB 0 1000000000) = true) (hk : 20 < k) : Gk.f k l = some l.sum:=by
 unfold Gk.f
 have:=impl_total_l l hn hb k 0 0 (by omega) (by omega) (by omega) (by omega)
 simpa using this
theorem impl_Sample_isCertificate_l : ∀ (k i : Nat) (l : List Int),l.length ≤ 1000 → i ≤ l.length → l.length < i + k → Vx.l0 k l (l.length : Int) (i : Int) = some ((l.drop i).all fun x=>decide (x = 0))
|0,_,_,_,_,hk=>by omega
|k + 1,i,l,hn,hi',hk=>by
  simp only [Vx.l0]
  by_cases h : i < l.length
  ·rw [if_pos (by omega),if_pos (by omega),if_pos (by omega),rd_nat l i h,w64_nat (by omega),List.drop_eq_getElem_cons h,List.all_cons,impl_Sample_isCertificate_l k (i + 1) l hn (by omega) (by omega)]
   by_cases e : l[i] = 0
   ·rw [if_pos e]
    simp [e]
   ·rw [if_neg e]
    simp [e]
  ·rw [if_neg (by omega),List.drop_of_length_le (by omega)]
   simp
theorem sumsI_length {d : Nat} : ∀ (ps : List (List Int)) (ls ns acc : List Int),(∀ p ∈ ps,p.length = d) → acc.length = d + 1 → (sumsI ps ls ns acc).length = d + 1
|[],ls,ns,acc,_,h=>by simp [sumsI,h]
|p :: ps,[],ns,acc,_,h=>by simp [sumsI,h]
|p :: ps,l :: ls,[],acc,_,h=>by simp [sumsI,h]
|p :: ps,l :: ls,n :: ns,acc,hp,h=>by
  simp only [sumsI]
  refine sumsI_length ps ls ns _ (fun z hz=>hp z (List.mem_cons_of_mem _ hz)) ?_
  have:=hp p (by simp)
  rw [wadd_length _ _ _ (by simp [h,signedL,this])]
  exact h
theorem impl_Sample_isCertificate_is (k : Nat) (ps : List (List Int)) (ls lst : List Int) (hs : smB ps ls = true) (hn : lst.length ≤ 1048576) (hk : 1050000 < k) : Vx.f k ps ls lst = some (certB ps ls lst):=by
 obtain ⟨k,rfl⟩ : ∃ z,k = z + 1:=⟨k - 1,by omega⟩
 obtain ⟨h16,hlen,hlab,hrow⟩:=smB_parts hs
 unfold Vx.f certB
 by_cases c : lst.length = ps.length
 ·rw [if_pos (by omega),impl_allWithin_is _ lst 0 1000000000 (by omega) (by omega)]
  simp only [Option.bind_some]
  by_cases hb : lst.all (inB 0 1000000000) = true
  ·rw [if_pos hb,impl_total_is _ lst (by omega) hb (by omega)]
   simp only [Option.bind_some,Vx.j0]
   by_cases c2 : lst.sum = 0
   ·rw [if_pos (by simp [c2])]
    simp [c2]
   ·have hp : 0 < ps.length:=by
     cases lst with
    |nil=>simp at c2
    |cons x t=>simp at c;omega
    have hd : ∀ p ∈ ps,p.length = (ps.headD []).length:=fun p hp=>(hrow p hp).2
    have q4 : (ps.headD []).length ≤ 4:=by
     cases ps with
    |nil=>simp at hp
    |cons x t=>have:=ptB_parts (hrow x (by simp)).1;simp;omega
    have l1:=sumsI_length ps ls lst (List.replicate ((ps.headD []).length + 1) 0) hd (by simp)
    have df:=sums_diff (d:=(ps.headD []).length) ps ls lst 0 (List.replicate ((ps.headD []).length + 1) 0) (List.replicate ((ps.headD []).length + 1) 0) (List.replicate ((ps.headD []).length + 1) 0) (by omega) (by omega) hlen c (fun p hp=>hrow p hp) hlab hb (by simp) (diffR_zero _ _ (by omega)) (by simp) (by simp)
    rw [if_neg (by simp [c2]),impl_Sample_summed_is k ps ls lst hs c hp (by omega)]
    simp only [Option.bind_some]
    have l0:=impl_Sample_isCertificate_l k 0 (sumsI ps ls lst (List.replicate ((ps.headD []).length + 1) 0)) (by omega) (by omega) (by omega)
    rw [show ((0 : Nat) : Int) = 0 from rfl,List.drop_zero] at l0
    rw [l0,diffR_same df]
    simp [c,hb,c2]
  ·rw [if_neg hb]
   simp [Vx.j0,hb]
 ·rw [if_neg (by omega)]
  simp [Vx.j0,c]
theorem impl_Sample_with_l (ps : List (List Int)) (a : Int) (ls : List Int) (hn : ls.length ≤ 1048576) : ∀ (k i : Nat) (acc : List Int),acc.length ≤ i → i ≤ ls.length → ls.length < i + k → Kk.l0 k a acc ls (ls.length : Int) (i : Int) = some (acc ++ idxs a (ls.drop i) i)
|0,_,_,_,_,hk=>by omega
|k + 1,i,acc,ha,hi,hk=>by
  simp only [Kk.l0]
  by_cases h : i < ls.length
  ·rw [if_pos (by omega),if_pos (by omega),if_pos (by omega),rd_nat ls i h,w64_nat (by omega),List.drop_eq_getElem_cons h]
   simp only [idxs]
   by_cases e : ls[i] = a
   ·rw [if_pos e,if_pos (by omega),if_pos e,impl_Sample_with_l ps a ls hn k (i + 1) _ (by simp;omega) (by omega) (by omega)]
    simp
   ·rw [if_neg e,if_neg e,impl_Sample_with_l ps a ls hn k (i + 1) _ (by omega) (by omega) (by omega)]
  ·rw [if_neg (by omega),List.drop_of_length_le (by omega)]
   simp [idxs]
theorem impl_Sample_with_is (k : Nat) (ps : List (List Int)) (ls : List Int) (a : Int) (hn : ls.length ≤ 1048576) (hk : ls.length < k) : Kk.f k ps ls a = some (idxs a ls 0):=by
 unfold Kk.f
 have:=impl_Sample_with_l ps a ls hn k 0 [] (by simp) (by omega) (by omega)
 simpa using this
theorem ev_of {α : Type} {g : Nat → Option α} {r : α} (B : Nat) (h : ∀ k,B < k → g k = some r) : Ev g r:=⟨B + 1,fun k hk=>h k (by omega)⟩
theorem ev_const {α : Type} (r : α) : Ev (fun _=>some r) r:=Ev.now r
theorem ev_if_pos {α : Type} {c : Prop} [Decidable c] {f g : Nat → Option α} {r : α} (h : c) (k : Ev f r) : Ev (fun n=>if c then f n else g n) r:=Ev.congr (fun n=>if_pos h) k
theorem ev_if_neg {α : Type} {c : Prop} [Decidable c] {f g : Nat → Option α} {r : α} (h : ¬ c) (k : Ev g r) : Ev (fun n=>if c then f n else g n) r:=Ev.congr (fun n=>if_neg h) k
def vf (l : List Int) (k : Nat) : Int:=l.getD k 0
theorem rd_vf (l : List Int) (k : Nat) : rd l (k : Int) = vf l k:=by simp [rd,vf]
def smallV (n : Nat) (v : Nat → Int) : Prop:=∀ k,k < n → -4611686018427387904 ≤ v k ∧ v k ≤ 4611686018427387904
theorem gcdn_le {B : Nat} : ∀ {n : Nat} {v : Nat → Int},(∀ k,k < n → (v k).natAbs ≤ B) → gcdn n v ≤ B
|0,_,_=>Nat.zero_le _
|n + 1,v,h=>by
  have ih:=gcdn_le (n:=n) (v:=v) fun k hk=>h k (by omega)
  have h1:=h n (by omega)
  show Nat.gcd (gcdn n v) (v n).natAbs ≤ B
  rcases Nat.eq_zero_or_pos (v n).natAbs with z|z
  ·rw [z,Nat.gcd_zero_right]
   exact ih
  ·exact Nat.le_trans (Nat.gcd_le_right _ z) h1
theorem gcdn_small {n : Nat} {v : Nat → Int} (h : smallV n v) : gcdn n v ≤ 4611686018427387904:=gcdn_le fun k hk=>by have:=h k hk;omega
theorem div_l1 (l : List Int) (x7 x8 out : Int) : ∀ (N : Nat) (d n : Int),n.natAbs ≤ N → (∀ r : Int,r.natAbs = Nat.gcd d.natAbs n.natAbs → Ev (fun k=>Zk.l0 k r l x7 (wrap64 (x8 + 1))) out) → Ev (fun k=>Zk.l1 k d n l x7 x8) out
|0,d,n,hN,h=>by
  obtain rfl : n = 0:=by omega
  exact Ev.step (fun k=>by rw [Zk.l1,if_pos rfl]) (h d (by simp))
|N + 1,d,n,hN,h=>by
  by_cases c : n = 0
  ·subst c
   exact Ev.step (fun k=>by rw [Zk.l1,if_pos rfl]) (h d (by simp))
  ·refine Ev.step (fun k=>by rw [Zk.l1,if_neg c]) (div_l1 l x7 x8 out N n (Int.tmod d n) ?_ fun r hr=>h r ?_)
   ·rw [Int.natAbs_tmod]
    have:=Nat.mod_lt d.natAbs (y:=n.natAbs) (by omega)
    omega
   ·rw [hr,Int.natAbs_tmod,Nat.gcd_comm d.natAbs,Nat.gcd_rec n.natAbs d.natAbs,Nat.gcd_comm]
theorem impl_divisor_l (l : List Int) (hl : l.length ≤ 1000000) (hs : smallV l.length (vf l)) : ∀ (j i : Nat) (d : Int),i + j = l.length → d.natAbs = gcdn i (vf l) → Ev (fun k=>Zk.l0 k d l (l.length : Int) (i : Int)) (gcdn l.length (vf l) : Int)
|0,i,d,hj,hd=>by
  obtain rfl : i = l.length:=by omega
  have:=gcdn_small hs
  refine Ev.step (f:=fun _=>some (gcdn l.length (vf l) : Int)) (fun k=>?_) (ev_const _)
  rw [Zk.l0,if_neg (by omega),w64 (by omega) (by omega)]
  congr 1
  unfold mx
  split <;> omega
|j + 1,i,d,hj,hd=>by
  refine Ev.step (fun k=>by rw [Zk.l0,if_pos (by omega),if_pos (by omega),if_pos (by omega),rd_vf]) (div_l1 l _ _ _ (vf l i).natAbs d (vf l i) (Nat.le_refl _) fun r hr=>?_)
  rw [w64_nat (by omega)]
  exact impl_divisor_l l hl hs j (i + 1) r (by omega) (by rw [hr,hd];rfl)
theorem impl_divisor_ev (l : List Int) (hl : l.length ≤ 1000000) (hs : smallV l.length (vf l)) : Ev (fun k=>Zk.f k l) (gcdn l.length (vf l) : Int) :=
 impl_divisor_l l hl hs l.length 0 0 (by omega) rfl
theorem l2Gcd_ev : ∀ (N : Nat) (a b : Int),0 ≤ a → 0 ≤ b → b.natAbs ≤ N → Ev (fun k=>Kj1.l0 k a b) (Nat.gcd a.natAbs b.natAbs : Int)
|0,a,b,ha,hb,hN=>by
  obtain rfl : b = 0:=by omega
  refine Ev.step (f:=fun _=>some (Nat.gcd a.natAbs (Int.natAbs 0) : Int)) (fun k=>?_) (ev_const _)
  rw [Kj1.l0,if_neg (by omega)]
  congr 1
  simp
  omega
|N + 1,a,b,ha,hb,hN=>by
  by_cases c : b = 0
  ·subst c
   refine Ev.step (f:=fun _=>some (Nat.gcd a.natAbs (Int.natAbs 0) : Int)) (fun k=>?_) (ev_const _)
   rw [Kj1.l0,if_neg (by omega)]
   congr 1
   simp
   omega
  ·have h1:=Int.natAbs_tmod a b
   have h2:=Nat.mod_lt a.natAbs (y:=b.natAbs) (by omega)
   have h3 : 0 ≤ Int.tmod a b:=Int.tmod_nonneg b ha
   have ih:=l2Gcd_ev N b (Int.tmod a b) hb h3 (by omega)
   rw [h1,show Nat.gcd b.natAbs (a.natAbs % b.natAbs) = Nat.gcd a.natAbs b.natAbs by rw [Nat.gcd_comm a.natAbs,Nat.gcd_rec b.natAbs a.natAbs,Nat.gcd_comm]] at ih
   exact Ev.step (fun k=>by rw [Kj1.l0,if_pos (by omega),if_neg c]) ih
theorem spec_l2Gcd_ev (a b : Int) (ha : 0 ≤ a) (hb : 0 ≤ b) : Ev (fun k=>Kj1.f k a b) (Nat.gcd a.natAbs b.natAbs : Int):=l2Gcd_ev b.natAbs a b ha hb (Nat.le_refl _)
theorem l1Most_abs (x : Int) (h : -4611686018427387904 ≤ x ∧ x ≤ 4611686018427387904) : Vq1.f x (wrap64 (-x)) = some (x.natAbs : Int):=by
 rw [w64 (by omega) (by omega)]
 unfold Vq1.f
 split
 ·congr 1
  omega
 ·congr 1
  omega
def zrL : List Int → List Int → List Int
|l :: ls,n :: ns=>(if l = -1 then 0 else n) :: zrL ls ns
|_,_=>[]
theorem zrL_length : ∀ (ls ns : List Int),ls.length = ns.length → (zrL ls ns).length = ns.length
|[],[],_=>rfl
|[],n :: ns,h=>by simp at h
|l :: ls,[],h=>by simp at h
|l :: ls,n :: ns,h=>by simp only [zrL,List.length_cons,zrL_length ls ns (by simpa using h)]
theorem wadd_zero : ∀ (ax ms : List Int),ax.length = ms.length → (∀ x ∈ ax,wrap64 x = x) → wadd 0 ax ms = ax
|[],ms,_,_=>by simp [wadd]
|a :: ax,[],h,_=>by simp at h
|a :: ax,m :: ms,h,hx=>by
  rw [wadd,wadd_zero ax ms (by simpa using h) (fun x hm=>hx x (List.mem_cons_of_mem _ hm)),Int.zero_mul,w64 (x:=0) (by omega) (by omega),Int.add_zero,hx a (List.mem_cons_self ..)]
theorem wrap_wrap (x : Int) : wrap64 (wrap64 x) = wrap64 x:=by unfold wrap64;omega
theorem wadd_wrapped (n : Int) : ∀ (ax ms : List Int),∀ x ∈ wadd n ax ms,wrap64 x = x
|[],ms,x,h=>by simp [wadd] at h
|a :: ax,[],x,h=>by simp [wadd] at h
|a :: ax,m :: ms,x,h=>by
  rw [wadd] at h
  rcases List.mem_cons.1 h with rfl|h
  ·exact wrap_wrap _
  ·exact wadd_wrapped n ax ms x h
theorem signed_one (p : List Int) (hp : p.all (inB (-9) 9) = true) : signedL 1 p = 1 :: p:=by
 unfold signedL
 congr 1
 apply List.ext_getElem (by simp)
 intro i h1 h2
 have:=all_range hp i h2
 simp only [List.getElem_map,Int.mul_one]
 exact w64 (by omega) (by omega)
theorem sumsI_zr {d : Nat} : ∀ (ps : List (List Int)) (ls ns acc : List Int),ls.length = ps.length → ns.length = ps.length → (∀ p ∈ ps,ptB p = true ∧ p.length = d) → ls.all lbB = true → acc.length = d + 1 → (∀ x ∈ acc,wrap64 x = x) → sumsI ps ls (zrL ls ns) acc = sumsS 1 ps ls ns acc
|[],ls,ns,acc,_,_,_,_,_,_=>by simp [sumsI,sumsS]
|p :: ps,[],ns,acc,h,_,_,_,_,_=>by simp at h
|p :: ps,l :: ls,[],acc,_,h,_,_,_,_=>by simp at h
|p :: ps,l :: ls,n :: ns,acc,hl,hn,hp,hb,ha,hx=>by
  simp only [List.length_cons] at hl hn
  obtain ⟨q1,q2⟩:=hp p (List.mem_cons_self ..)
  simp only [List.all_cons,Bool.and_eq_true] at hb
  have hl1 : l = 1 ∨ l = -1:=by simpa [lbB] using hb.1
  simp only [zrL,sumsI,sumsS]
  have la : (wadd n acc (1 :: p)).length = d + 1:=by rw [wadd_length _ _ _ (by simp [ha,q2])];exact ha
  rcases hl1 with rfl|rfl
  ·rw [if_neg (by decide),if_pos rfl,signed_one p (ptB_parts q1).1]
   exact sumsI_zr ps ls ns _ (by omega) (by omega) (fun z hz=>hp z (List.mem_cons_of_mem _ hz)) hb.2 la (wadd_wrapped _ _ _)
  ·rw [if_pos rfl,if_neg (by decide),wadd_zero _ _ (by simp [signedL,ha,q2]) hx]
   exact sumsI_zr ps ls ns _ (by omega) (by omega) (fun z hz=>hp z (List.mem_cons_of_mem _ hz)) hb.2 ha hx
def selL (a : Int) : List Int → List Int → Int
|l :: ls,n :: ns=>(if l = a then n else 0) + selL a ls ns
|_,_=>0
theorem sel_nonneg (a : Int) : ∀ (ls ns : List Int),ns.all (inB 0 1000000000) = true → 0 ≤ selL a ls ns
|[],_,_=>by simp [selL]
|l :: ls,[],_=>by simp [selL]
|l :: ls,n :: ns,h=>by
  simp only [List.all_cons,Bool.and_eq_true] at h
  have:=inB_iff.1 h.1
  have:=sel_nonneg a ls ns h.2
  simp only [selL]
  split <;> omega
theorem sel_both : ∀ (ls ns : List Int),ls.length = ns.length → ls.all lbB = true → selL 1 ls ns + selL (-1) ls ns = ns.sum
|[],[],_,_=>by simp [selL]
|[],n :: ns,h,_=>by simp at h
|l :: ls,[],h,_=>by simp at h
|l :: ls,n :: ns,h,hb=>by
  simp only [List.all_cons,Bool.and_eq_true] at hb
  have hl1 : l = 1 ∨ l = -1:=by simpa [lbB] using hb.1
  have:=sel_both ls ns (by simpa using h) hb.2
  simp only [selL,List.sum_cons]
  rcases hl1 with rfl|rfl
  ·rw [if_pos rfl,if_neg (by decide)];omega
  ·rw [if_neg (by decide),if_pos rfl];omega
theorem sumsS_head (a : Int) : ∀ (ps : List (List Int)) (ls ns : List Int) (x : Int) (t : List Int),ls.length = ps.length → ns.length = ps.length → ns.all (inB 0 1000000000) = true → 0 ≤ x → x + 1000000000 * (ps.length : Int) ≤ 100000000000 → ∃ t',sumsS a ps ls ns (x :: t) = (x + selL a ls ns) :: t'
|[],[],[],x,t,_,_,_,_,_=>⟨t,by simp [sumsS,selL]⟩
|[],l :: ls,ns,x,t,h,_,_,_,_=>by simp at h
|[],[],n :: ns,x,t,_,h,_,_,_=>by simp at h
|p :: ps,[],ns,x,t,h,_,_,_,_=>by simp at h
|p :: ps,l :: ls,[],x,t,_,h,_,_,_=>by simp at h
|p :: ps,l :: ls,n :: ns,x,t,hl,hn,hb,h0,hx=>by
  simp only [List.length_cons] at hl hn hx
  simp only [List.all_cons,Bool.and_eq_true] at hb
  have q:=inB_iff.1 hb.1
  simp only [sumsS,selL]
  by_cases c : l = a
  ·rw [if_pos c,if_pos c]
   simp only [wadd]
   rw [Int.mul_one,w64 (x:=n) (by omega) (by omega),w64 (x:=x + n) (by omega) (by omega),← Int.add_assoc]
   exact sumsS_head a ps ls ns (x + n) _ (by omega) (by omega) hb.2 (by omega) (by omega)
  ·rw [if_neg c,if_neg c,Int.zero_add]
   exact sumsS_head a ps ls ns x t (by omega) (by omega) hb.2 h0 (by omega)
theorem diffR_mid {B : Int} : ∀ {ax xs ys : List Int},diffR B ax xs ys → ∀ x ∈ xs,-B ≤ x ∧ x ≤ B
|[],[],[],_,x,h=>by simp at h
|a :: ax,y :: xs,z :: ys,q,x,h=>by
  obtain ⟨_,q2,_,q4⟩:=q
  rcases List.mem_cons.1 h with rfl|h
  ·exact q2
  ·exact diffR_mid q4 x h
theorem cert_sums {ps : List (List Int)} {ls lst : List Int} (hs : smB ps ls = true) (hc : certB ps ls lst = true) : lst.length = ps.length ∧ lst.all (inB 0 1000000000) = true ∧ 0 < ps.length ∧ ∃ s T,sumsS 1 ps ls lst (List.replicate ((ps.headD []).length + 1) 0) = s :: T ∧ 0 < s ∧ s ≤ 500000000000 ∧ (∀ x ∈ T,-500000000000 ≤ x ∧ x ≤ 500000000000) ∧ T.length ≤ 4:=by
 obtain ⟨h16,hlen,hlab,hrow⟩:=smB_parts hs
 unfold certB at hc
 simp only [Bool.and_eq_true,decide_eq_true_eq,Bool.not_eq_true',decide_eq_false_iff_not] at hc
 obtain ⟨c1,c2,c3,c4⟩:=hc
 have hp : 0 < ps.length:=by
  cases lst with
 |nil=>simp at c3
 |cons x t=>simp at c1;omega
 have q4 : (ps.headD []).length ≤ 4:=by
  cases ps with
 |nil=>simp at hp
 |cons x t=>have:=ptB_parts (hrow x (by simp)).1;simp;omega
 have df:=sums_diff (d:=(ps.headD []).length) ps ls lst 0 (List.replicate ((ps.headD []).length + 1) 0) (List.replicate ((ps.headD []).length + 1) 0) (List.replicate ((ps.headD []).length + 1) 0) (by omega) (by omega) hlen c1 (fun p hp=>hrow p hp) hlab c2 (by simp) (diffR_zero _ _ (by omega)) (by simp) (by simp)
 have hl:=sumsS_length (d:=(ps.headD []).length) 1 ps ls lst (List.replicate ((ps.headD []).length + 1) 0) (fun p hp=>(hrow p hp).2) (by simp)
 obtain ⟨t1,e1⟩:=sumsS_head 1 ps ls lst 0 (List.replicate (ps.headD []).length 0) hlen c1 c2 (by omega) (by omega)
 obtain ⟨t2,e2⟩:=sumsS_head (-1) ps ls lst 0 (List.replicate (ps.headD []).length 0) hlen c1 c2 (by omega) (by omega)
 have n1:=sel_nonneg 1 ls lst c2
 have n2:=sel_nonneg (-1) ls lst c2
 have nb:=sel_both ls lst (by omega) hlab
 have md:=diffR_mid df
 rw [List.replicate_succ] at c4 md hl ⊢
 rw [e1,e2] at c4
 rw [e1] at md hl ⊢
 injection c4 with c5 _
 have m0:=md _ (List.mem_cons_self ..)
 refine ⟨c1,c2,hp,_,_,rfl,by omega,m0.2,fun x hx=>md x (List.mem_cons_of_mem _ hx),?_⟩
 rw [List.length_cons] at hl
 omega
def cutP (s x : Int) : S65:=⟨wrap64 (Int.tdiv x (Nat.gcd x.natAbs s.natAbs : Nat)),wrap64 (Int.tdiv s (Nat.gcd x.natAbs s.natAbs : Nat))⟩
theorem gcdn_two (x s : Int) : gcdn 2 (vf [x,s]) = Nat.gcd x.natAbs s.natAbs:=by
 show Nat.gcd (Nat.gcd 0 x.natAbs) s.natAbs = _
 rw [Nat.gcd_zero_left]
theorem impl_div2_ev (x s : Int) (hx : -500000000000 ≤ x ∧ x ≤ 500000000000) (hs : 0 < s ∧ s ≤ 500000000000) : Ev (fun k=>Zk.f k [x,s]) ((Nat.gcd x.natAbs s.natAbs : Nat) : Int):=by
 have:=impl_divisor_ev [x,s] (by simp) (fun k hk=>by
  have hk : k < 2:=hk
  rcases (show k = 0 ∨ k = 1 by omega) with rfl|rfl
  ·show -4611686018427387904 ≤ x ∧ x ≤ 4611686018427387904;omega
  ·show -4611686018427387904 ≤ s ∧ s ≤ 4611686018427387904;omega)
 rw [show [x,s].length = 2 from rfl,gcdn_two] at this
 exact this
theorem gcd_ne (x s : Int) (hs : 0 < s) : ¬ ((Nat.gcd x.natAbs s.natAbs : Nat) : Int) = 0:=by
 have : 0 < Nat.gcd x.natAbs s.natAbs:=Nat.gcd_pos_of_pos_right _ (by omega)
 omega
theorem l2Cut_ev (x s : Int) (hx : -500000000000 ≤ x ∧ x ≤ 500000000000) (hs : 0 < s ∧ s ≤ 500000000000) : Ev (fun k=>Jj1.f k x s) ((cutP s x).f0,(cutP s x).f1):=by
 unfold Jj1.f
 rw [l1Most_abs x (by omega)]
 have g:=spec_l2Gcd_ev (x.natAbs : Int) s (by omega) (by omega)
 rw [Int.natAbs_natCast] at g
 exact Ev.bind (ev_const _) (Ev.bind g (ev_if_neg (gcd_ne x s hs.1) (ev_const _)))
theorem spec_CommonPoint_l (s : Int) (T : List Int) (hs : 0 < s ∧ s ≤ 500000000000) (hT : ∀ x ∈ T,-500000000000 ≤ x ∧ x ≤ 500000000000) (h4 : T.length ≤ 4) : ∀ (j i : Nat) (acc : List S65),i + j = T.length → acc = (T.take i).map (cutP s) → Ev (fun k=>Zq1.l0 k acc (s :: T) ((i + 1 : Nat) : Int)) (T.map (cutP s),true)
|0,i,acc,hj,ha=>by
  refine Ev.step (f:=fun _=>some (acc,true)) (fun k=>?_) ?_
  ·rw [Zq1.l0,if_neg (by first|omega|(simp;done)|(simp;omega))]
  ·rw [ha,List.take_of_length_le (by omega)]
   exact ev_const _
|j + 1,i,acc,hj,ha=>by
  have hi : i < T.length:=by omega
  have e : rd (s :: T) ((i + 1 : Nat) : Int) = T[i]:=rd_nat (s :: T) (i + 1) (by first|omega|(simp;done)|(simp;omega))
  have e0 : rd (s :: T) 0 = s:=rd_nat (s :: T) 0 (by simp)
  have la : acc.length ≤ 4:=by rw [ha,List.length_map,List.length_take];omega
  refine Ev.step (fun k=>by rw [Zq1.l0,if_pos (by first|omega|(simp;done)|(simp;omega)),if_pos (by omega),if_pos (by first|omega|(simp;done)|(simp;omega)),e,e0]) (Ev.bind (l2Cut_ev T[i] s (hT _ (List.getElem_mem hi)) hs) (ev_if_pos (show acc.length < 8796093022208 by omega) ?_))
  have ih:=spec_CommonPoint_l s T hs hT h4 j (i + 1) (acc ++ [cutP s T[i]]) (by omega) (by rw [ha,List.take_succ_eq_append_getElem hi,List.map_append];rfl)
  rw [w64_nat (by omega)]
  exact ih
theorem impl_CommonPoint_l1 (s : Int) (T : List Int) (hs : 0 < s ∧ s ≤ 500000000000) (hT : ∀ x ∈ T,-500000000000 ≤ x ∧ x ≤ 500000000000) (h4 : T.length ≤ 4) : ∀ (j i : Nat) (acc : List S65),i + j = T.length → acc = (T.take i).map (cutP s) → Ev (fun k=>Xx.l1 k (s :: T) acc T (T.length : Int) (i : Int)) (T.map (cutP s),true)
|0,i,acc,hj,ha=>by
  refine Ev.step (f:=fun _=>some (acc,true)) (fun k=>?_) ?_
  ·rw [Xx.l1,if_neg (by omega)]
  ·rw [ha,List.take_of_length_le (by omega)]
   exact ev_const _
|j + 1,i,acc,hj,ha=>by
  have hi : i < T.length:=by omega
  have e0 : rd (s :: T) 0 = s:=rd_nat (s :: T) 0 (by simp)
  have la : acc.length ≤ 4:=by rw [ha,List.length_map,List.length_take];omega
  refine Ev.step (fun k=>by rw [Xx.l1,if_pos (by omega),if_pos (by omega),if_pos (by omega),if_pos (by first|omega|(simp;done)|(simp;omega)),rd_nat T i hi,e0]) (Ev.bind (impl_div2_ev T[i] s (hT _ (List.getElem_mem hi)) hs) (ev_if_neg (gcd_ne _ _ hs.1) (ev_if_pos (show acc.length < 8796093022208 by omega) ?_)))
  have ih:=impl_CommonPoint_l1 s T hs hT h4 j (i + 1) (acc ++ [cutP s T[i]]) (by omega) (by rw [ha,List.take_succ_eq_append_getElem hi,List.map_append];rfl)
  rw [w64_nat (by omega)]
  exact ih
theorem zr_l0 (ps : List (List Int)) (ls0 lst0 : List Int) (IX : List Int) (hI : IX.length ≤ 1000) (out : List S65 × Bool) (hout : ∀ only,only = zrL ls0 lst0 → Ev (fun k=>(Jk.f k ps ls0 only).bind fun t209=>(if 1 ≤ (t209.length : Int) then ((some (t209.drop 1 : List Int)).bind fun y215=>(Xx.l1 k t209 [] y215 (y215.length : Int) 0)) else none)) out) :
  ∀ (ls : List Int) (lst pre : List Int) (p q : Nat),ls.length = lst.length → IX.length = q + (idxs (-1) ls p).length → IX.drop q = idxs (-1) ls p → pre.length = p → pre ++ zrL ls lst = zrL ls0 lst0 → Ev (fun k=>Xx.l0 k (pre ++ lst) IX (IX.length : Int) (q : Int) ps ls0) out
|[],[],pre,p,q,_,hq,hd,hp,he=>by
  simp only [idxs,List.length_nil,Nat.add_zero] at hq
  refine Ev.step (fun k=>by rw [Xx.l0,if_neg (by omega)];rfl) (hout _ he)
|[],n :: ns,_,_,_,h,_,_,_,_=>by simp at h
|l :: ls,[],_,_,_,h,_,_,_,_=>by simp at h
|l :: ls,n :: ns,pre,p,q,hl,hq,hd,hp,he=>by
  simp only [idxs] at hq hd
  simp only [zrL] at he
  by_cases c : l = -1
  ·rw [if_pos c] at hq hd he
   simp only [List.length_cons] at hq
   have hqi : q < IX.length:=by omega
   have hg : IX[q] = (p : Int):=by
    rw [List.drop_eq_getElem_cons hqi] at hd
    injection hd
   have hd2 : IX.drop (q + 1) = idxs (-1) ls (p + 1):=by
    rw [List.drop_eq_getElem_cons hqi] at hd
    injection hd
   have r : rd IX (q : Int) = (p : Int):=by rw [rd_nat IX q hqi,hg]
   refine Ev.step (fun k=>by rw [Xx.l0,if_pos (by omega),if_pos (by omega),if_pos (by omega),r,if_pos (by omega),if_pos (by first|omega|(simp;done)|(simp;omega))]) ?_
   have ih:=zr_l0 ps ls0 lst0 IX hI out hout ls ns (pre ++ [0]) (p + 1) (q + 1) (by simpa using hl) (by omega) hd2 (by simp [hp]) (by rw [List.append_assoc,List.singleton_append];exact he)
   rw [w64_nat (by omega),Int.toNat_natCast,← hp,List.set_append_right _ _ (Nat.le_refl _),Nat.sub_self,List.set_cons_zero]
   rw [List.append_assoc,List.singleton_append] at ih
   exact ih
  ·rw [if_neg c] at hq hd he
   have ih:=zr_l0 ps ls0 lst0 IX hI out hout ls ns (pre ++ [n]) (p + 1) q (by simpa using hl) hq hd (by simp [hp]) (by rw [List.append_assoc,List.singleton_append];exact he)
   rw [List.append_assoc,List.singleton_append] at ih
   exact ih
theorem common_same (ps : List (List Int)) (ls lst : List Int) (hr : ∀ r ∈ ps,r.length ≤ 1048576) (hm : ls.length ≤ 1048576) (hn : lst.length ≤ 1048576) : ∃ q b,Ev (fun k=>Xx.f k ps ls lst) (q,b) ∧ Ev (fun k=>Zq1.f k ps ls lst) (q,b) ∧ q.length ≤ 1000:=by
 have e1 : Ev (fun k=>Zx.f k ps ls) (smB ps ls):=ev_of 3000000 fun k hk=>impl_IsSample_is k ps ls hr hm (by omega)
 have e2 : Ev (fun k=>Vj1.f k ps ls) (smB ps ls):=ev_of 3000000 fun k hk=>spec_l2Sample_is k ps ls hr hm (by omega)
 by_cases c : smB ps ls = true
 ·have f1 : Ev (fun k=>Vx.f k ps ls lst) (certB ps ls lst):=ev_of 3000000 fun k hk=>impl_Sample_isCertificate_is k ps ls lst c hn (by omega)
  have f2 : Ev (fun k=>Gj1.f k ps ls lst) (certB ps ls lst):=ev_of 3000000 fun k hk=>spec_l4Certificate_is k ps ls lst c hn (by omega)
  by_cases d : certB ps ls lst = true
  ·obtain ⟨h16,hlen,hlab,hrow⟩:=smB_parts c
   obtain ⟨g1,g2,g3,s,T,g4,g5,g6,g7,g8⟩:=cert_sums c d
   have hz:=zrL_length ls lst (by omega)
   have es : sumsI ps ls (zrL ls lst) (List.replicate ((ps.headD []).length + 1) 0) = s :: T:=by
    rw [sumsI_zr (d:=(ps.headD []).length) ps ls lst _ hlen g1 (fun p hp=>hrow p hp) hlab (by simp) (fun x hx=>by rw [(List.mem_replicate.1 hx).2];exact w64 (by omega) (by omega)),g4]
   have hi : (idxs (-1) ls 0).length ≤ 16:=Nat.le_trans (idxs_length (-1) ls 0) (by omega)
   refine ⟨T.map (cutP s),true,?_,?_,by rw [List.length_map];omega⟩
   ·unfold Xx.f
    refine Ev.bind e1 (ev_if_pos c (Ev.bind f1 ?_))
    rw [d]
    refine Ev.step (f:=fun k=>(Kk.f k ps ls (-1)).bind fun t204=>Xx.l0 k lst t204 (t204.length : Int) 0 ps ls) (fun k=>by rw [Xx.j0,if_neg (by simp),impl_copied_is lst (by omega)];rfl) (Ev.bind (ev_of 3000000 fun k hk=>impl_Sample_with_is k ps ls (-1) hm (by omega)) ?_)
    have z0:=zr_l0 ps ls lst (idxs (-1) ls 0) (by omega) (T.map (cutP s),true) (fun only ho=>by
     subst ho
     refine Ev.bind (ev_of 3000000 fun k hk=>impl_Sample_summed_is k ps ls (zrL ls lst) c (by omega) g3 (by omega)) ?_
     rw [es]
     refine ev_if_pos (by first|omega|(simp;done)|(simp;omega)) (Ev.bind (ev_const _) ?_)
     have:=impl_CommonPoint_l1 s T ⟨g5,g6⟩ g7 g8 T.length 0 [] (by omega) rfl
     exact this) ls lst [] 0 0 (by omega) (by omega) rfl rfl rfl
    exact z0
   ·unfold Zq1.f
    refine Ev.bind (ev_const _) (Ev.bind e2 (ev_if_pos c (Ev.bind f2 ?_)))
    rw [d]
    refine Ev.step (fun k=>by rw [Zq1.j0,if_neg (by simp)]) (Ev.bind (ev_of 3000000 fun k hk=>spec_l4Sums_is k ps ls lst 1 c g1 g2 g3 (by omega)) ?_)
    rw [g4]
    exact spec_CommonPoint_l s T ⟨g5,g6⟩ g7 g8 T.length 0 [] (by omega) rfl
  ·refine ⟨[],false,?_,?_,by simp⟩
   ·unfold Xx.f
    refine Ev.bind e1 (ev_if_pos c (Ev.bind f1 ?_))
    rw [Bool.eq_false_iff.2 d]
    exact Ev.step (f:=fun _=>some ([],false)) (fun k=>by rw [Xx.j0,if_pos (by simp)]) (ev_const _)
   ·unfold Zq1.f
    refine Ev.bind (ev_const _) (Ev.bind e2 (ev_if_pos c (Ev.bind f2 ?_)))
    rw [Bool.eq_false_iff.2 d]
    exact Ev.step (f:=fun _=>some ([],false)) (fun k=>by rw [Zq1.j0,if_pos (by simp)]) (ev_const _)
 ·refine ⟨[],false,?_,?_,by simp⟩
  ·unfold Xx.f
   refine Ev.bind e1 (ev_if_neg c ?_)
   exact Ev.step (f:=fun _=>some ([],false)) (fun k=>by rw [Xx.j0,if_pos rfl]) (ev_const _)
  ·unfold Zq1.f
   refine Ev.bind (ev_const _) (Ev.bind e2 (ev_if_neg c ?_))
   exact Ev.step (f:=fun _=>some ([],false)) (fun k=>by rw [Zq1.j0,if_pos rfl]) (ev_const _)
theorem eqA2_l (l : List S65) (hl : l.length ≤ 1000000) : ∀ (j i : Nat),i + j = l.length → Ev (fun k=>Yv.l0 k l l (i : Int)) true
|0,i,hj=>by
  refine Ev.step (f:=fun _=>some true) (fun k=>?_) (ev_const _)
  rw [Yv.l0,if_neg (by omega)]
|j + 1,i,hj=>by
  refine Ev.step (f:=fun k=>(Xv.f k ((rd_T65 l (i : Int)).f0) ((rd_T65 l (i : Int)).f1) ((rd_T65 l (i : Int)).f0) ((rd_T65 l (i : Int)).f1)).bind fun t=>(if t = true then (Yv.l0 k l l (wrap64 ((i : Int) + 1))) else (some false))) (fun k=>by rw [Yv.l0,if_pos (by omega),if_pos (by omega),if_pos (by omega)]) (Ev.bind (r:=true) ?_ (ev_if_pos rfl ?_))
  ·unfold Xv.f
   simp only [decide_true,Bool.and_self]
   exact ev_const _
  ·rw [w64_nat (by omega)]
   exact eqA2_l l hl j (i + 1) (by omega)
theorem eqA2_ev (l : List S65) (hl : l.length ≤ 1000000) : Ev (fun k=>Yv.f k l l) true:=by
 unfold Yv.f
 exact ev_if_pos rfl (eqA2_l l hl l.length 0 (by omega))
def marks2 : Int → Nat → List S65
|_,0=>[]
|a,n + 1=>⟨a,a + 1⟩ :: marks2 (a + 1 + 1) n
theorem marks2_length : ∀ (n : Nat) (a : Int),(marks2 a n).length = n
|0,_=>rfl
|n + 1,a=>by simp [marks2,marks2_length n]
theorem marks2_get : ∀ (n : Nat) (a : Int) (i : Nat) (h : i < (marks2 a n).length),(marks2 a n)[i] = ⟨a + 2 * i,a + 2 * i + 1⟩
|0,_,i,h=>by simp [marks2] at h
|n + 1,a,0,h=>by simp [marks2]
|n + 1,a,i + 1,h=>by
  simp only [marks2,List.getElem_cons_succ]
  rw [marks2_get n (a + 1 + 1) i]
  congr 1 <;> omega
theorem markA2_l : ∀ (post : List S65) (pre : List S65) (a : Int),-1000000000 ≤ a → a + 2 * post.length ≤ 1000000000 → pre.length + post.length ≤ 1000000 → Ev (fun k=>Kw.l0 k (pre ++ post) a (pre.length : Int)) (a + 2 * post.length,pre ++ marks2 a post.length)
|[],pre,a,h0,h1,h2=>by
  refine Ev.step (f:=fun _=>some (a,pre)) (fun k=>?_) ?_
  ·rw [Kw.l0,if_neg (by simp),List.append_nil]
  ·rw [show a + 2 * (([] : List S65).length : Int) = a by simp,show marks2 a ([] : List S65).length = [] from rfl,List.append_nil]
   exact ev_const _
|x :: post,pre,a,h0,h1,h2=>by
  simp only [List.length_cons] at h1 h2
  refine Ev.step (fun k=>by rw [Kw.l0,if_pos (by first|omega|(simp;done)|(simp;omega)),if_pos (by omega)]) ?_
  have ih:=markA2_l post (pre ++ [⟨a,a + 1⟩]) (a + 1 + 1) (by omega) (by omega) (by first|omega|(simp;done)|(simp;omega))
  have e : (pre ++ x :: post).set pre.length ⟨a,a + 1⟩ = (pre ++ [⟨a,a + 1⟩]) ++ post:=by simp
  rw [Int.toNat_natCast,w64 (x:=a + 1) (by omega) (by omega),w64 (x:=a + 1 + 1) (by omega) (by omega),w64_nat (by omega),e,show a + 2 * ((x :: post).length : Int) = a + 1 + 1 + 2 * (post.length : Int) by simp;omega]
  rw [List.length_append,List.length_singleton] at ih
  rw [show marks2 a (x :: post).length = ⟨a,a + 1⟩ :: marks2 (a + 1 + 1) post.length from rfl]
  simp only [List.append_assoc,List.singleton_append] at ih ⊢
  exact ih
theorem markA2_ev (l : List S65) (hl : l.length ≤ 1000) : Ev (fun k=>Kw.f k l 1) (1 + 2 * l.length,marks2 1 l.length):=by
 have:=markA2_l l [] 1 (by omega) (by omega) (by first|omega|(simp;done)|(simp;omega))
 exact this
theorem heldA2_l (n : Nat) (hn : n ≤ 1000) : ∀ (j i : Nat),i + j = n → Ev (fun k=>Jw.l0 k (marks2 1 n) (1 + 2 * i) (i : Int)) (1 + 2 * (n : Int))
|0,i,hj=>by
  have hl:=marks2_length n 1
  obtain rfl : i = n:=by omega
  refine Ev.step (f:=fun _=>some (1 + 2 * (i : Int))) (fun k=>?_) (ev_const _)
  rw [Jw.l0,if_neg (by omega)]
|j + 1,i,hj=>by
  have hl:=marks2_length n 1
  have hi : i < (marks2 1 n).length:=by omega
  have e : rd_T65 (marks2 1 n) (i : Int) = ⟨1 + 2 * i,1 + 2 * i + 1⟩:=by
   rw [← marks2_get n 1 i hi]
   simp [rd_T65,hi]
  refine Ev.step (fun k=>by rw [Jw.l0,if_pos (by omega),if_pos (by omega),e,if_pos rfl,w64 (x:=1 + 2 * (i : Int) + 1) (by omega) (by omega),if_pos rfl]) ?_
  rw [w64 (x:=1 + 2 * (i : Int) + 1 + 1) (by omega) (by omega),w64_nat (by omega),show 1 + 2 * (i : Int) + 1 + 1 = 1 + 2 * ((i + 1 : Nat) : Int) by omega]
  exact heldA2_l n hn j (i + 1) (by omega)
theorem heldA2_ev (n : Nat) (hn : n ≤ 1000) : Ev (fun k=>Jw.f k (marks2 1 n) 1) (1 + 2 * (n : Int)):=heldA2_l n hn n 0 (by omega)
theorem sz_ev (l : List (List Int)) (m : List Int) (hl : l.length ≤ 9223372036854775807) (hr : ∀ r ∈ l,r.length ≤ 9223372036854775807) (hm : m.length ≤ 9223372036854775807) : ∃ v,Ev (fun k=>Jq1.f k l m 1048576) v ∧ (v < 0 ∨ (0 ≤ v ∧ v ≤ 1048576 ∧ l.length ≤ 1048576 ∧ (∀ r ∈ l,r.length ≤ 1048576) ∧ m.length ≤ 1048576)):=by
 obtain ⟨v,hv,hc⟩:=laws_szSample_tells 1048577 l m 1048576 (by omega) (by omega) hl hr hm (by omega)
 exact ⟨v,Ev.of (fun k=>Jq1.mono _ _ _ k) hv,hc⟩
theorem FnExactCommonPoint : ∀ (l0 : List (List Int)) (m0 : List Int) (l1 : List Int),l0.length ≤ maxLen → (∀ r ∈ l0,r.length ≤ maxLen ∧ ∀ x ∈ r,(Lit.int .i64 x).wf = true) → m0.length ≤ maxLen → (∀ x ∈ m0,(Lit.int .i64 x).wf = true) → l1.length ≤ maxLen → (∀ x ∈ l1,(Lit.int .i64 x).wf = true) → ∃ k,Kv.f k l0 m0 l1 = some true:=by
 intro l m ws hl hr hm _ hw _
 unfold maxLen at hl hr hm hw
 refine Ev.rounds (g:=fun k=>Kv.f k l m ws) ?_
 unfold Kv.f
 by_cases g : (ws.length : Int) > 1048576
 ·exact ev_if_pos g (ev_const _)
 refine ev_if_neg g ?_
 obtain ⟨v,hv,hc⟩:=sz_ev l m (by omega) (fun r h=>by have:=(hr r h).1;omega) (by omega)
 refine Ev.bind hv ?_
 rcases hc with hc|⟨a1,a2,a3,a4,a5⟩
 ·exact ev_if_pos hc (ev_const _)
 ·have ts : Ev (fun k=>Yq1.f k l m) (l,m):=ev_of 3000000 fun k hk=>laws_toSample_is k l m a3 a4 a5 (by omega)
  have es : Ev (fun k=>Gv.f k l m l m) true:=ev_of 3000000 fun k hk=>laws_eqSample_same k l m a3 a4 a5 (by omega)
  have ti : Ev (fun k=>Kq1.f k ws) ws:=ev_of 3000000 fun k hk=>laws_toIntS_is k ws (by omega) (by omega)
  have ei : Ev (fun k=>Zv.f k ws ws) true:=ev_of 3000000 fun k hk=>laws_eqIntS_same k ws (by omega) (by omega)
  obtain ⟨q,b,h1,h2,hq⟩:=common_same l m ws a4 a5 (by omega)
  have eq_:=eqA2_ev q (by omega)
  obtain ⟨w,l',m',mk0,w1,w2⟩:=laws_markSample_tells 2097153 l m a3 a4 a5 (by omega)
  have mk : Ev (fun k=>Zw.f k l m 1) (w,l',m'):=Ev.of (fun k=>Zw.mono _ _ _ k) mk0
  have mi : Ev (fun k=>Xw.f k ws w) (w + ws.length,marks w ws.length):=ev_of 3000000 fun k hk=>laws_markIntS_is k ws w (by omega) (by omega) (by omega) (by omega)
  have ms:=markA2_ev q hq
  have hs:=heldA2_ev q.length hq
  refine ev_if_neg (by omega) (Ev.bind ts (Ev.bind ti (Ev.bind h2 (Ev.bind ts (Ev.bind ti (Ev.bind h1 (Ev.bind eq_ (ev_if_pos rfl ?_))))))))
  refine Ev.step (fun k=>by rw [Kv.j0,if_neg (by simp)]) (Ev.bind ts (Ev.bind es (ev_if_pos rfl (Ev.bind ti (Ev.bind ei (ev_if_pos rfl (Ev.bind mk (Ev.bind mi (ev_if_neg (by show ¬ (w + (ws.length : Int) < 0);omega) (Ev.bind eq_ (ev_if_pos rfl ?_)))))))))))
  refine Ev.step (fun k=>by rw [Kv.j1,if_neg (by simp)]) (Ev.bind ms (Ev.bind hs (ev_if_neg (by show ¬ ((1 + 2 * (q.length : Int)) < 0);omega) (ev_if_pos rfl (Ev.bind ts (Ev.bind ti (Ev.bind h1 (Ev.bind eq_ (ev_if_pos rfl ?_)))))))))
  exact Ev.step (fun k=>by rw [Kv.j2,if_neg (by simp)]) (Ev.bind hs (ev_if_neg (by show ¬ ((1 + 2 * (q.length : Int)) < 0);omega) (ev_if_pos rfl (ev_const _))))
end Go.Proofs.Ytdjclffkidoohaa.Pure
end
