/- Proved: the law FnExactInGeneralPosition answers true for every list of lists; no condition. -/
import Derived.Test.YtdjclffkidoohaaVFnExactInGeneralPosition
import Derived.Test.YtdjclffkidoohaaZFnExactInGeneralPositionx9
section
set_option linter.unusedVariables false
set_option linter.unusedSimpArgs false
namespace Go.Proofs.Ytdjclffkidoohaa.Lin
def sm : Nat → (Nat → Int) → Int
|0,_=>0
|n + 1,f=>sm n f + f n
theorem sm_congr : ∀ {n : Nat} {f g : Nat → Int},(∀ k,k < n → f k = g k) → sm n f = sm n g
|0,_,_,_=>rfl
|n + 1,f,g,h=>by
  simp only [sm]
  rw [sm_congr (n:=n) fun k hk=>h k (by omega),h n (by omega)]
theorem sm_zero : ∀ {n : Nat} {f : Nat → Int},(∀ k,k < n → f k = 0) → sm n f = 0
|0,_,_=>rfl
|n + 1,f,h=>by
  simp only [sm]
  rw [sm_zero (n:=n) fun k hk=>h k (by omega),h n (by omega)]
  rfl
theorem sm_add : ∀ (n : Nat) (f g : Nat → Int),sm n (fun k=>f k + g k) = sm n f + sm n g
|0,_,_=>rfl
|n + 1,f,g=>by
  simp only [sm,sm_add n f g]
  omega
theorem sm_mul : ∀ (n : Nat) (a : Int) (f : Nat → Int),sm n (fun k=>a * f k) = a * sm n f
|0,a,_=>by simp [sm]
|n + 1,a,f=>by
  simp only [sm,sm_mul n a f]
  rw [Int.mul_add]
theorem sm_single {n : Nat} {f : Nat → Int} {j : Nat} (hj : j < n) (h : ∀ k,k < n → k ≠ j → f k = 0) : sm n f = f j:=by
 induction n with
|zero=>omega
|succ n ih =>
  simp only [sm]
  by_cases e : j = n
  ·subst e
   rw [sm_zero fun k hk=>h k (by omega) (by omega)]
   omega
  ·rw [ih (by omega) fun k hk=>h k (by omega),h n (by omega) (by omega)]
   omega
theorem sm_two {n : Nat} {f : Nat → Int} {i j : Nat} (hi : i < n) (hj : j < n) (hij : i ≠ j) (h : ∀ k,k < n → k ≠ i → k ≠ j → f k = 0) : sm n f = f i + f j:=by
 have e : sm n f = sm n (fun k=>(if k = i then f k else 0) + (if k = i then 0 else f k)):=sm_congr fun k _=>by split <;> omega
 rw [e,sm_add,sm_single (f:=fun k=>if k = i then f k else 0) hi (fun k _ hk=>if_neg hk),sm_single (f:=fun k=>if k = i then 0 else f k) hj (fun k hk1 hk2=>by
  by_cases c : k = i
  ·simp [c]
  ·simp only [if_neg c]
   exact h k hk1 c hk2)]
 show (if i = i then f i else 0) + (if j = i then 0 else f j) = _
 rw [if_pos rfl,if_neg (Ne.symm hij)]
theorem sm_mono : ∀ {n m : Nat} {f : Nat → Int},n ≤ m → (∀ k,n ≤ k → k < m → f k = 0) → sm m f = sm n f
|n,0,f,h,_=>by
  obtain rfl : n = 0:=by omega
  rfl
|n,m + 1,f,h,hz=>by
  by_cases e : n = m + 1
  ·rw [e]
  ·simp only [sm]
   rw [hz m (by omega) (by omega),sm_mono (n:=n) (m:=m) (by omega) fun k h1 h2=>hz k h1 (by omega)]
   omega
theorem sm_abs {B : Int} (hB : 0 ≤ B) : ∀ (n : Nat) (f : Nat → Int),(∀ k,k < n → -B ≤ f k ∧ f k ≤ B) → -(n * B) ≤ sm n f ∧ sm n f ≤ n * B
|0,f,_=>by simp [sm]
|n + 1,f,h=>by
  have ih:=sm_abs hB n f fun k hk=>h k (by omega)
  have:=h n (by omega)
  have e : ((n + 1 : Nat) : Int) * B = n * B + B:=by
   rw [show ((n + 1 : Nat) : Int) = (n : Int) + 1 by omega,Int.add_mul,Int.one_mul]
  simp only [sm]
  omega
theorem sm_range {B : Int} : ∀ (n : Nat) (f : Nat → Int),(∀ k,k < n → 0 ≤ f k ∧ f k ≤ B) → 0 ≤ sm n f ∧ sm n f ≤ n * B
|0,f,_=>by simp [sm]
|n + 1,f,h=>by
  have ih:=sm_range n f fun k hk=>h k (by omega)
  have:=h n (by omega)
  have e : ((n + 1 : Nat) : Int) * B = n * B + B:=by
   rw [show ((n + 1 : Nat) : Int) = (n : Int) + 1 by omega,Int.add_mul,Int.one_mul]
  simp only [sm]
  omega
def QC (o : Nat → Nat → Int) (r : Nat) (v : Nat → Int) : Prop:=∃ (s : Int) (c : Nat → Int),s ≠ 0 ∧ ∀ x,s * v x = sm r (fun k=>c k * o k x)
theorem QC.congr {o : Nat → Nat → Int} {r : Nat} {u v : Nat → Int} (h : QC o r u) (e : ∀ x,v x = u x) : QC o r v:=by
 obtain ⟨s,c,hs,h⟩:=h
 exact ⟨s,c,hs,fun x=>by rw [e];exact h x⟩
theorem QC.base {o o' : Nat → Nat → Int} {r : Nat} {u : Nat → Int} (h : QC o r u) (e : ∀ k,k < r → o' k = o k) : QC o' r u:=by
 obtain ⟨s,c,hs,h⟩:=h
 exact ⟨s,c,hs,fun x=>by rw [h x];exact sm_congr fun k hk=>by rw [e k hk]⟩
theorem QC.zero {o : Nat → Nat → Int} {r : Nat} {v : Nat → Int} (h : ∀ x,v x = 0) : QC o r v :=
 ⟨1,fun _=>0,by omega,fun x=>by rw [h,sm_zero fun k _=>Int.zero_mul _];rfl⟩
theorem QC.lin {o : Nat → Nat → Int} {r : Nat} {u v : Nat → Int} (h1 : QC o r u) (h2 : QC o r v) (a b : Int) : QC o r (fun x=>a * u x + b * v x):=by
 obtain ⟨s1,c1,n1,h1⟩:=h1
 obtain ⟨s2,c2,n2,h2⟩:=h2
 refine ⟨s1 * s2,fun k=>a * s2 * c1 k + b * s1 * c2 k,Int.mul_ne_zero n1 n2,fun x=>?_⟩
 have e : sm r (fun k=>(a * s2 * c1 k + b * s1 * c2 k) * o k x) = sm r (fun k=>(a * s2) * (c1 k * o k x) + (b * s1) * (c2 k * o k x)):=sm_congr fun k _=>by grind
 rw [e,sm_add,sm_mul,sm_mul,← h1 x,← h2 x]
 grind
theorem QC.self {o : Nat → Nat → Int} {r k : Nat} (hk : k < r) : QC o r (o k) :=
 ⟨1,fun j=>if j = k then 1 else 0,by omega,fun x=>by
  rw [sm_single (f:=fun j=>(if j = k then 1 else 0) * o j x) hk (fun j _ hj=>by simp [hj])]
  simp⟩
theorem QC.mono {o : Nat → Nat → Int} {r r' : Nat} {v : Nat → Int} (h : QC o r v) (hr : r ≤ r') : QC o r' v:=by
 obtain ⟨s,c,hs,h⟩:=h
 refine ⟨s,fun k=>if k < r then c k else 0,hs,fun x=>?_⟩
 rw [h x,sm_mono (n:=r) (m:=r') hr fun k h1 _=>by show (if k < r then c k else 0) * o k x = 0;rw [if_neg (by omega)];exact Int.zero_mul _]
 exact sm_congr fun k hk=>by show _ = (if k < r then c k else 0) * o k x;rw [if_pos hk]
theorem QC.div {o : Nat → Nat → Int} {r : Nat} {v : Nat → Int} {t : Int} (h : QC o r (fun x=>t * v x)) (ht : t ≠ 0) : QC o r v:=by
 obtain ⟨s,c,hs,h⟩:=h
 exact ⟨s * t,c,Int.mul_ne_zero hs ht,fun x=>by rw [← h x];grind⟩
theorem QC.sum {o' o : Nat → Nat → Int} {r' : Nat} (c : Nat → Int) : ∀ (r : Nat),(∀ k,k < r → QC o' r' (o k)) → QC o' r' (fun x=>sm r (fun k=>c k * o k x))
|0,_=>QC.zero fun _=>rfl
|r + 1,h=>by
  have:=(QC.sum c r fun k hk=>h k (by omega)).lin (h r (by omega)) 1 (c r)
  exact this.congr fun x=>by simp only [sm];omega
theorem QC.trans {o' o : Nat → Nat → Int} {r' r : Nat} {v : Nat → Int} (h : ∀ k,k < r → QC o' r' (o k)) (hv : QC o r v) : QC o' r' v:=by
 obtain ⟨s,c,hs,hv⟩:=hv
 exact ((QC.sum c r h).congr hv).div hs
theorem pigeon : ∀ (M : Nat) (f : Nat → Nat),(∀ x,x < M + 1 → f x < M) → ∃ x y,x < y ∧ y < M + 1 ∧ f x = f y
|0,f,h=>absurd (h 0 (by omega)) (by omega)
|M + 1,f,h=>by
  by_cases c : ∃ x,x < M + 1 ∧ f x = f (M + 1)
  ·obtain ⟨x,h1,h2⟩:=c
   exact ⟨x,M + 1,h1,by omega,h2⟩
  ·have hne : ∀ x,x < M + 1 → f x ≠ f (M + 1):=fun x hx e=>c ⟨x,hx,e⟩
   have hl:=h (M + 1) (by omega)
   obtain ⟨x,y,h1,h2,h3⟩:=pigeon M (fun x=>if f x < f (M + 1) then f x else f x - 1) (fun x hx=>by
    have:=h x (by omega)
    have:=hne x hx
    show (if f x < f (M + 1) then f x else f x - 1) < M
    split <;> omega)
   refine ⟨x,y,h1,by omega,?_⟩
   have:=hne x (by omega)
   have:=hne y (by omega)
   try simp only at h3
   split at h3 <;> split at h3 <;> omega
theorem pigeon' {N M : Nat} (h : M < N) (f : Nat → Nat) (hf : ∀ x,x < N → f x < M) : ∃ x y,x < y ∧ y < N ∧ f x = f y:=by
 obtain ⟨x,y,h1,h2,h3⟩:=pigeon M f fun x hx=>hf x (by omega)
 exact ⟨x,y,h1,by omega,h3⟩
def dig (b : Nat) : Nat → Nat → Nat
|x,0=>x % b
|x,k + 1=>dig b (x / b) k
theorem dig_lt {b : Nat} (hb : 0 < b) : ∀ (k x : Nat),dig b x k < b
|0,x=>Nat.mod_lt _ hb
|k + 1,x=>dig_lt hb k (x / b)
theorem dig_same {b : Nat} (hb : 0 < b) : ∀ (N x y : Nat),x < b ^ N → y < b ^ N → (∀ k,k < N → dig b x k = dig b y k) → x = y
|0,x,y,hx,hy,_=>by simp at hx hy;omega
|N + 1,x,y,hx,hy,h=>by
  have e : x / b = y / b:=dig_same hb N (x / b) (y / b) (Nat.div_lt_of_lt_mul (by rw [Nat.pow_succ,Nat.mul_comm] at hx;exact hx)) (Nat.div_lt_of_lt_mul (by rw [Nat.pow_succ,Nat.mul_comm] at hy;exact hy)) fun k hk=>h (k + 1) (by omega)
  have m : x % b = y % b:=h 0 (by omega)
  rw [← Nat.div_add_mod x b,← Nat.div_add_mod y b,e,m]
def code (W : Nat) : Nat → (Nat → Nat) → Nat
|0,_=>0
|n + 1,y=>code W n y * W + y n
theorem code_lt {W : Nat} : ∀ (n : Nat) (y : Nat → Nat),(∀ j,j < n → y j < W) → code W n y < W ^ n
|0,_,_=>by simp [code]
|n + 1,y,h=>by
  have:=code_lt n y fun j hj=>h j (by omega)
  have h2:=h n (by omega)
  simp only [code,Nat.pow_succ]
  have : (code W n y + 1) * W ≤ W ^ n * W:=Nat.mul_le_mul_right _ this
  rw [Nat.add_mul] at this
  omega
theorem code_same {W : Nat} : ∀ (n : Nat) (y z : Nat → Nat),(∀ j,j < n → y j < W) → (∀ j,j < n → z j < W) → code W n y = code W n z → ∀ j,j < n → y j = z j
|0,_,_,_,_,_=>fun j hj=>by omega
|n + 1,y,z,hy,hz,h=>by
  have y1:=hy n (by omega)
  have z1:=hz n (by omega)
  simp only [code] at h
  have hW : 0 < W:=by omega
  have e : code W n y = code W n z:=by
   have a:=congrArg (· / W) h
   try simp only at a
   rw [Nat.mul_comm _ W,Nat.mul_add_div hW,Nat.div_eq_of_lt y1,Nat.mul_comm _ W,Nat.mul_add_div hW,Nat.div_eq_of_lt z1] at a
   omega
  have ih:=code_same n y z (fun j hj=>hy j (by omega)) (fun j hj=>hz j (by omega)) e
  intro j hj
  by_cases c : j = n
  ·subst c
   rw [e] at h
   omega
  ·exact ih j (by omega)
theorem siegel (N : Nat) (hN : 1 ≤ N) (B L : Nat) (hL : (N * B) ^ (N - 1) ≤ L) (hB : 1 ≤ B) (u : Nat → Nat → Int) (hu : ∀ k,k < N → ∀ j,j < N - 1 → -(B : Int) ≤ u k j ∧ u k j ≤ B) :
  ∃ c : Nat → Int,(∃ k,k < N ∧ c k ≠ 0) ∧ (∀ k,-(L : Int) ≤ c k ∧ c k ≤ L) ∧ ∀ j,j < N - 1 → sm N (fun k=>c k * u k j) = 0:=by
 have hNB : 1 ≤ N * B:=Nat.mul_pos hN hB
 have key : ∀ (d : Int) (w : Int),0 ≤ d → d ≤ L → -(B : Int) ≤ w → w ≤ B → 0 ≤ d * w + L * (if w < 0 then -w else 0) ∧ d * w + L * (if w < 0 then -w else 0) ≤ B * L:=by
  intro d w d0 d1 w0 w1
  by_cases c : w < 0
  ·rw [if_pos c]
   have a : 0 ≤ (L - d) * (-w):=Int.mul_nonneg (by omega) (by omega)
   have b : (L - d) * (-w) ≤ L * B:=by
    have p : 0 ≤ (L : Int) * (B + w):=Int.mul_nonneg (by omega) (by omega)
    have q : 0 ≤ d * (-w):=Int.mul_nonneg (by omega) (by omega)
    rw [Int.mul_add] at p
    rw [Int.sub_mul]
    have e : (L : Int) * -w = -(L * w):=Int.mul_neg _ _
    omega
   have e : (L - d) * (-w) = d * w + L * (-w):=by grind
   rw [← e]
   exact ⟨a,by rw [Int.mul_comm (B : Int)];exact b⟩
  ·rw [if_neg c,Int.mul_zero,Int.add_zero]
   refine ⟨Int.mul_nonneg d0 (by omega),?_⟩
   have p : 0 ≤ ((L : Int) - d) * w:=Int.mul_nonneg (by omega) (by omega)
   have q : 0 ≤ (L : Int) * (B - w):=Int.mul_nonneg (by omega) (by omega)
   rw [Int.sub_mul] at p
   rw [Int.mul_sub] at q
   rw [Int.mul_comm (B : Int)]
   omega
 let t (x k j : Nat) : Int:=(dig (L + 1) x k : Int) * u k j + L * (if u k j < 0 then -(u k j) else 0)
 have ht : ∀ x k j,k < N → j < N - 1 → 0 ≤ t x k j ∧ t x k j ≤ (B * L : Nat):=fun x k j hk hj=>by
  have h1:=dig_lt (b:=L + 1) (by omega) k x
  have:=key (dig (L + 1) x k) (u k j) (by omega) (by omega) (hu k hk j hj).1 (hu k hk j hj).2
  simpa using this
 have hT : ∀ x j,j < N - 1 → 0 ≤ sm N (fun k=>t x k j) ∧ sm N (fun k=>t x k j) ≤ N * (B * L : Nat):=fun x j hj=>sm_range N _ fun k hk=>ht x k j hk hj
 let W:=N * B * L + 1
 have hW : ∀ x j,j < N - 1 → (sm N (fun k=>t x k j)).toNat < W:=fun x j hj=>by
  have:=hT x j hj
  have e : (N : Int) * ((B * L : Nat) : Int) = ((N * B * L : Nat) : Int):=by
   rw [Nat.mul_assoc]
   exact (Int.natCast_mul _ _).symm
  rw [e] at this
  show _ < N * B * L + 1
  omega
 have hlt : W ^ (N - 1) < (L + 1) ^ N:=by
  have h1 : W ≤ N * B * (L + 1):=by
   show N * B * L + 1 ≤ _
   rw [Nat.mul_add]
   omega
  have h2 : W ^ (N - 1) ≤ (N * B * (L + 1)) ^ (N - 1):=Nat.pow_le_pow_left h1 _
  rw [Nat.mul_pow] at h2
  obtain ⟨n,rfl⟩ : ∃ n,N = n + 1:=⟨N - 1,by omega⟩
  simp only [Nat.add_sub_cancel] at h2 hL ⊢
  have h3 : ((n + 1) * B) ^ n * (L + 1) ^ n ≤ L * (L + 1) ^ n:=Nat.mul_le_mul_right _ hL
  have h4 : L * (L + 1) ^ n < (L + 1) ^ (n + 1):=by
   rw [Nat.pow_succ,Nat.mul_comm _ (L + 1)]
   exact Nat.mul_lt_mul_of_pos_right (by omega) (Nat.pow_pos (by omega))
  omega
 obtain ⟨x,y,hxy,hy,he⟩:=pigeon' hlt (fun x=>code W (N - 1) (fun j=>(sm N (fun k=>t x k j)).toNat)) fun x _=>code_lt _ _ (hW x)
 have hs:=code_same (N - 1) _ _ (hW x) (hW y) he
 refine ⟨fun k=>(dig (L + 1) x k : Int) - dig (L + 1) y k,?_,fun k=>?_,fun j hj=>?_⟩
 ·by_cases c : ∃ k,k < N ∧ dig (L + 1) x k ≠ dig (L + 1) y k
  ·obtain ⟨k,h1,h2⟩:=c
   exact ⟨k,h1,by show (dig (L + 1) x k : Int) - dig (L + 1) y k ≠ 0;omega⟩
  ·exfalso
   have:=dig_same (b:=L + 1) (by omega) N x y (by omega) hy fun k hk=>Classical.byContradiction fun h=>c ⟨k,hk,h⟩
   omega
 ·have h1:=dig_lt (b:=L + 1) (by omega) k x
  have h2:=dig_lt (b:=L + 1) (by omega) k y
  show -(L : Int) ≤ (dig (L + 1) x k : Int) - dig (L + 1) y k ∧ (dig (L + 1) x k : Int) - dig (L + 1) y k ≤ L
  omega
 ·have h1:=hs j hj
  try simp only at h1
  have a:=hT x j hj
  have b:=hT y j hj
  have e : sm N (fun k=>t x k j) = sm N (fun k=>t y k j):=by omega
  have f : sm N (fun k=>t x k j) = sm N (fun k=>((dig (L + 1) x k : Int) - dig (L + 1) y k) * u k j + t y k j):=sm_congr fun k _=>by
   show (dig (L + 1) x k : Int) * u k j + L * (if u k j < 0 then -(u k j) else 0) = _ + ((dig (L + 1) y k : Int) * u k j + L * (if u k j < 0 then -(u k j) else 0))
   rw [Int.sub_mul]
   omega
  have g:=sm_add N (fun k=>((dig (L + 1) x k : Int) - dig (L + 1) y k) * u k j) (fun k=>t y k j)
  show sm N (fun k=>((dig (L + 1) x k : Int) - dig (L + 1) y k) * u k j) = 0
  rw [g,e] at f
  omega
structure St (m r : Nat) (o row : Nat → Nat → Int) (p : Nat → Nat) : Prop where
 hr : r ≤ m
 span : ∀ j,j < r → QC o r (row j)
 back : ∀ k,k < r → QC row r (o k)
 near : ∀ i,r ≤ i → i < m → ∃ a b : Int,a ≠ 0 ∧ b ≠ 0 ∧ QC o r (fun x=>a * row i x + b * o i x)
 piv : ∀ j,j < r → row j (p j) ≠ 0
 off : ∀ j,j < r → ∀ i,i < m → i ≠ j → row i (p j) = 0
 ind : ∀ c : Nat → Int,(∀ x,sm r (fun k=>c k * o k x) = 0) → ∀ k,k < r → c k = 0
theorem St.start (m : Nat) (o : Nat → Nat → Int) (p : Nat → Nat) : St m 0 o o p :=
 ⟨by omega,fun j hj=>by omega,fun k hk=>by omega,fun i _ _=>⟨1,-1,by omega,by omega,QC.zero fun x=>by omega⟩,fun j hj=>by omega,fun j hj=>by omega,fun c _ k hk=>by omega⟩
theorem St.vanish {m r : Nat} {o row : Nat → Nat → Int} {p : Nat → Nat} (h : St m r o row p) {y : Nat → Int} (hy : QC o r y) (hz : ∀ j,j < r → y (p j) = 0) : ∀ x,y x = 0:=by
 obtain ⟨s,c,hs,e⟩:=QC.trans h.back hy
 have hr:=h.hr
 have hc : ∀ j,j < r → c j = 0:=fun j hj=>by
  have q:=e (p j)
  rw [hz j hj,Int.mul_zero,sm_single hj (fun k hk hkj=>by rw [h.off j hj k (by omega) hkj,Int.mul_zero])] at q
  exact (Int.mul_eq_zero.1 q.symm).resolve_right (h.piv j hj)
 intro x
 have q:=e x
 rw [sm_zero fun k hk=>by rw [hc k hk,Int.zero_mul]] at q
 exact (Int.mul_eq_zero.1 q).resolve_left hs
def sw {α : Type} (i j : Nat) (f : Nat → α) : Nat → α:=fun k=>if k = i then f j else if k = j then f i else f k
theorem sw_low {α : Type} {i j r : Nat} (f : Nat → α) (hi : r ≤ i) (hj : r ≤ j) (k : Nat) (hk : k < r) : sw i j f k = f k:=by
 unfold sw
 rw [if_neg (by omega),if_neg (by omega)]
theorem sw_pick {α : Type} (i j m : Nat) (hi : i < m) (hj : j < m) (k : Nat) (hk : k < m) : ∃ l,l < m ∧ (∀ f : Nat → α,sw i j f k = f l) ∧ ∀ r,r ≤ i → r ≤ j → (r ≤ k ↔ r ≤ l) ∧ (k < r → l = k):=by
 by_cases c1 : k = i
 ·exact ⟨j,hj,fun f=>by unfold sw;rw [if_pos c1],fun r h1 h2=>⟨by omega,by omega⟩⟩
 ·by_cases c2 : k = j
  ·exact ⟨i,hi,fun f=>by unfold sw;rw [if_neg c1,if_pos c2],fun r h1 h2=>⟨by omega,by omega⟩⟩
  ·exact ⟨k,hk,fun f=>by unfold sw;rw [if_neg c1,if_neg c2],fun r h1 h2=>⟨by omega,by omega⟩⟩
theorem St.swap {m r : Nat} {o row : Nat → Nat → Int} {p : Nat → Nat} (h : St m r o row p) {i j : Nat} (hi : r ≤ i) (hj : r ≤ j) (him : i < m) (hjm : j < m) : St m r (sw i j o) (sw i j row) p:=by
 have eo : ∀ k,k < r → sw i j o k = o k:=sw_low o hi hj
 have er : ∀ k,k < r → sw i j row k = row k:=sw_low row hi hj
 refine ⟨h.hr,fun k hk=>?_,fun k hk=>?_,fun k hk hkm=>?_,fun k hk=>?_,fun k hk l hl hlk=>?_,fun c hc k hk=>?_⟩
 ·rw [er k hk]
  exact (h.span k hk).base eo
 ·rw [eo k hk]
  exact (h.back k hk).base er
 ·obtain ⟨l,hl,e1,e2⟩:=sw_pick (α:=Nat → Int) i j m him hjm k hkm
  obtain ⟨a,b,ha,hb,q⟩:=h.near l ((e2 r hi hj).1.1 hk) hl
  refine ⟨a,b,ha,hb,?_⟩
  rw [e1,e1]
  exact q.base eo
 ·rw [er k hk]
  exact h.piv k hk
 ·obtain ⟨l',hl',e1,e2⟩:=sw_pick (α:=Nat → Int) i j m him hjm l hl
  rw [e1]
  refine h.off k hk l' hl' fun e=>?_
  subst e
  have:=(e2 r hi hj).1.2
  by_cases c : l < r
  ·exact hlk ((e2 r hi hj).2 c).symm
  ·have:=(e2 r hi hj).1.1 (by omega)
   omega
 ·refine h.ind c (fun x=>?_) k hk
  rw [← hc x]
  exact sm_congr fun k hk=>by rw [eo k hk]
theorem St.step {m r : Nat} {o row row' : Nat → Nat → Int} {p : Nat → Nat} (h : St m r o row p) (hrm : r < m) (c : Nat) (hc : row r c ≠ 0)
  (hp : ∃ e f : Int,e ≠ 0 ∧ f ≠ 0 ∧ ∀ x,e * row' r x = f * row r x)
  (hi : ∀ i,i < m → i ≠ r → ∃ g : Int,g ≠ 0 ∧ ∀ x,g * row' i x = row r c * row i x - row i c * row r x) :
  St m (r + 1) o row' (fun j=>if j = r then c else p j):=by
 obtain ⟨e,f,he,hf,hp⟩:=hp
 obtain ⟨a,b,ha,hb,hn⟩:=h.near r (Nat.le_refl _) hrm
 have hr0 : ∀ j,j < r → row r (p j) = 0:=fun j hj=>h.off j hj r hrm (by omega)
 have R : QC o (r + 1) (row r):=by
  have:=(hn.mono (r':=r + 1) (by omega)).lin (QC.self (o:=o) (k:=r) (r:=r + 1) (by omega)) 1 (-b)
  exact (this.congr (v:=fun x=>a * row r x) fun x=>by grind).div ha
 have R' : QC o (r + 1) (row' r):=by
  have:=R.lin R f 0
  exact (this.congr (v:=fun x=>e * row' r x) fun x=>by rw [hp];grind).div he
 have B0 : QC row' (r + 1) (row r):=by
  have:=(QC.self (o:=row') (k:=r) (r:=r + 1) (by omega)).lin (QC.self (o:=row') (k:=r) (r:=r + 1) (by omega)) e 0
  exact (this.congr (v:=fun x=>f * row r x) fun x=>by rw [← hp];grind).div hf
 have B1 : ∀ j,j < r → QC row' (r + 1) (row j):=fun j hj=>by
  obtain ⟨g,hg,q⟩:=hi j (by omega) (by omega)
  have:=(QC.self (o:=row') (k:=j) (r:=r + 1) (by omega)).lin B0 g (row j c)
  exact (this.congr (v:=fun x=>row r c * row j x) fun x=>by rw [q];grind).div hc
 have B2 : ∀ k,k < r → QC row' (r + 1) (o k):=fun k hk=>QC.trans B1 (h.back k hk)
 refine ⟨hrm,fun j hj=>?_,fun k hk=>?_,fun i hri him=>?_,fun j hj=>?_,fun j hj i him hij=>?_,fun d hd=>?_⟩
 ·by_cases ej : j = r
  ·subst ej
   exact R'
  ·obtain ⟨g,hg,q⟩:=hi j (by omega) ej
   have:=((h.span j (by omega)).mono (r':=r + 1) (by omega)).lin R (row r c) (-(row j c))
   exact (this.congr (v:=fun x=>g * row' j x) fun x=>by rw [q];grind).div hg
 ·by_cases ek : k = r
  ·subst ek
   have:=(QC.trans B2 hn).lin B0 1 (-a)
   exact (this.congr (v:=fun x=>b * o k x) fun x=>by grind).div hb
  ·exact B2 k (by omega)
 ·obtain ⟨g,hg,q⟩:=hi i him (by omega)
  obtain ⟨a',b',ha',hb',hn'⟩:=h.near i (by omega) him
  refine ⟨a' * g,row r c * b',Int.mul_ne_zero ha' hg,Int.mul_ne_zero hc hb',?_⟩
  have:=(hn'.mono (r':=r + 1) (by omega)).lin R (row r c) (-(a' * row i c))
  exact this.congr fun x=>by
   have:=q x
   grind
 ·by_cases ej : j = r
  ·subst ej
   rw [if_pos rfl]
   intro z
   have q:=hp c
   rw [z,Int.mul_zero] at q
   exact (Int.mul_ne_zero hf hc) q.symm
  ·rw [if_neg ej]
   obtain ⟨g,hg,q⟩:=hi j (by omega) ej
   intro z
   have q:=q (p j)
   rw [z,hr0 j (by omega),Int.mul_zero,Int.mul_zero,Int.sub_zero] at q
   exact (Int.mul_ne_zero hc (h.piv j (by omega))) q.symm
 ·by_cases ej : j = r
  ·subst ej
   rw [if_pos rfl]
   obtain ⟨g,hg,q⟩:=hi i him hij
   have q:=q c
   rw [Int.mul_comm (row i c),Int.sub_self] at q
   exact (Int.mul_eq_zero.1 q).resolve_left hg
  ·rw [if_neg ej]
   by_cases ei : i = r
   ·subst ei
    have q:=hp (p j)
    rw [hr0 j (by omega),Int.mul_zero] at q
    exact (Int.mul_eq_zero.1 q).resolve_left he
   ·obtain ⟨g,hg,q⟩:=hi i him ei
    have q:=q (p j)
    rw [hr0 j (by omega),h.off j (by omega) i him hij,Int.mul_zero,Int.mul_zero,Int.sub_self] at q
    exact (Int.mul_eq_zero.1 q).resolve_left hg
 ·simp only [sm] at hd
  have S : QC o r (fun x=>sm r (fun k=>d k * o k x)):=QC.sum d r fun k hk=>QC.self hk
  have Y:=hn.lin S (d r) b
  have V:=h.vanish (Y.congr (v:=fun x=>(d r * a) * row r x) fun x=>by have:=hd x;grind) fun j hj=>by rw [hr0 j hj,Int.mul_zero]
  have d0 : d r = 0:=by
   have q:=(Int.mul_eq_zero.1 (V c)).resolve_right hc
   exact (Int.mul_eq_zero.1 q).resolve_right ha
  intro k hk
  by_cases ek : k = r
  ·rw [ek]
   exact d0
  ·exact h.ind d (fun x=>by have:=hd x;rw [d0,Int.zero_mul] at this;omega) k (by omega)
theorem St.small {m r : Nat} {o row : Nat → Nat → Int} {p : Nat → Nat} (h : St m r o row p) (hm : m ≤ 5) (ho : ∀ i,i < m → ∀ x,-9 ≤ o i x ∧ o i x ≤ 9) (i : Nat) (him : i < m) :
  ∃ v : Nat → Int,(∀ x,-184528125 ≤ v x ∧ v x ≤ 184528125) ∧ ∃ a b : Int,a ≠ 0 ∧ b ≠ 0 ∧ ∀ x,a * row i x = b * v x:=by
 have hr:=h.hr
 have pw : ∀ N,1 ≤ N → N ≤ 5 → (N * 9) ^ (N - 1) ≤ 4100625:=by
  intro N h1 h2
  rcases (show N = 1 ∨ N = 2 ∨ N = 3 ∨ N = 4 ∨ N = 5 by omega) with rfl|rfl|rfl|rfl|rfl <;> decide
 have term : ∀ c w : Int,-4100625 ≤ c → c ≤ 4100625 → -9 ≤ w → w ≤ 9 → -36905625 ≤ c * w ∧ c * w ≤ 36905625:=by
  intro c w h1 h2 h3 h4
  have p1 : 0 ≤ (4100625 - c) * (9 + w):=Int.mul_nonneg (by omega) (by omega)
  have p2 : 0 ≤ (4100625 + c) * (9 - w):=Int.mul_nonneg (by omega) (by omega)
  have p3 : 0 ≤ (4100625 - c) * (9 - w):=Int.mul_nonneg (by omega) (by omega)
  have p4 : 0 ≤ (4100625 + c) * (9 + w):=Int.mul_nonneg (by omega) (by omega)
  rw [Int.sub_mul,Int.mul_add,Int.mul_add] at p1
  rw [Int.add_mul,Int.mul_sub,Int.mul_sub] at p2
  rw [Int.sub_mul,Int.mul_sub,Int.mul_sub] at p3
  rw [Int.add_mul,Int.mul_add,Int.mul_add] at p4
  omega
 by_cases hir : i < r
 ·let q : Nat → Nat:=fun j=>if j < i then p j else p (j + 1)
  obtain ⟨c,⟨k0,hk0,hc0⟩,hcb,hz⟩:=siegel r (by omega) 9 4100625 (pw r (by omega) (by omega)) (by omega) (fun k j=>o k (q j)) (fun k hk j _=>ho k (by omega) _)
  let v : Nat → Int:=fun x=>sm r (fun k=>c k * o k x)
  have V : QC o r v:=QC.sum c r fun k hk=>QC.self hk
  have hv : ∀ j,j < r → j ≠ i → v (p j) = 0:=fun j hj hji=>by
   by_cases c1 : j < i
   ·have:=hz j (by omega)
    simp only [q,if_pos c1] at this
    exact this
   ·have:=hz (j - 1) (by omega)
    simp only [q] at this
    rw [if_neg (by omega),show j - 1 + 1 = j by omega] at this
    exact this
  have E:=h.vanish (V.lin (h.span i hir) (row i (p i)) (-(v (p i)))) fun j hj=>by
   show row i (p i) * v (p j) + -(v (p i)) * row i (p j) = 0
   by_cases ej : j = i
   ·subst ej
    grind
   ·rw [hv j hj ej,h.off j hj i him (Ne.symm ej),Int.mul_zero,Int.mul_zero]
    rfl
  refine ⟨v,fun x=>?_,v (p i),row i (p i),fun z=>?_,h.piv i hir,fun x=>by have:=E x;(try simp only at this);rw [Int.neg_mul] at this;omega⟩
  ·have:=sm_abs (B:=36905625) (by omega) r (fun k=>c k * o k x) fun k hk=>by
    have a:=hcb k
    have b:=ho k (by omega) x
    exact term _ _ (by omega) (by omega) b.1 b.2
   show -184528125 ≤ sm r (fun k=>c k * o k x) ∧ sm r (fun k=>c k * o k x) ≤ 184528125
   omega
  ·have v0 : ∀ x,v x = 0:=fun x=>by
    have:=E x
    simp only [z] at this
    rw [Int.neg_zero,Int.zero_mul,Int.add_zero] at this
    exact (Int.mul_eq_zero.1 this).resolve_left (h.piv i hir)
   exact hc0 (h.ind c v0 k0 hk0)
 ·obtain ⟨a,b,ha,hb,hn⟩:=h.near i (by omega) him
  obtain ⟨c,⟨k0,hk0,hc0⟩,hcb,hz⟩:=siegel (r + 1) (by omega) 9 4100625 (pw (r + 1) (by omega) (by omega)) (by omega) (fun k j=>(if k < r then o k else o i) (p j)) (fun k hk j _=>by
   show -9 ≤ (if k < r then o k else o i) (p j) ∧ (if k < r then o k else o i) (p j) ≤ 9
   split
   ·exact ho k (by omega) _
   ·exact ho i him _)
  let v : Nat → Int:=fun x=>sm r (fun k=>c k * o k x) + c r * o i x
  have ve : ∀ x,sm (r + 1) (fun k=>c k * (if k < r then o k else o i) x) = v x:=fun x=>by
   show sm r (fun k=>c k * (if k < r then o k else o i) x) + c r * (if r < r then o r else o i) x = sm r (fun k=>c k * o k x) + c r * o i x
   rw [if_neg (by omega),sm_congr (g:=fun k=>c k * o k x) fun k hk=>by rw [if_pos hk]]
  have hv : ∀ j,j < r → v (p j) = 0:=fun j hj=>by
   rw [← ve]
   exact hz j (by omega)
  have S : QC o r (fun x=>sm r (fun k=>c k * o k x)):=QC.sum c r fun k hk=>QC.self hk
  have E:=h.vanish ((hn.lin S (c r) b).congr (v:=fun x=>(c r * a) * row i x + b * v x) fun x=>by
   show _ = c r * (a * row i x + b * o i x) + b * sm r (fun k=>c k * o k x)
   show (c r * a) * row i x + b * (sm r (fun k=>c k * o k x) + c r * o i x) = _
   grind) fun j hj=>by
    show (c r * a) * row i (p j) + b * v (p j) = 0
    rw [hv j hj,h.off j hj i him (by omega),Int.mul_zero,Int.mul_zero]
    rfl
  refine ⟨v,fun x=>?_,c r * a,-b,fun z=>?_,by omega,fun x=>by have:=E x;(try simp only at this);rw [Int.neg_mul];omega⟩
  ·have:=sm_abs (B:=36905625) (by omega) (r + 1) (fun k=>c k * (if k < r then o k else o i) x) fun k hk=>by
    have a:=hcb k
    have b : -9 ≤ (if k < r then o k else o i) x ∧ (if k < r then o k else o i) x ≤ 9:=by
     split
     ·exact ho k (by omega) _
     ·exact ho i him _
    exact term _ _ (by omega) (by omega) b.1 b.2
   rw [ve] at this
   omega
  ·have cr : c r = 0:=(Int.mul_eq_zero.1 z).resolve_right ha
   have v0 : ∀ x,v x = 0:=fun x=>by
    have:=E x
    simp only [z] at this
    rw [Int.zero_mul,Int.zero_add] at this
    exact (Int.mul_eq_zero.1 this).resolve_left hb
   by_cases e0 : k0 = r
   ·exact hc0 (by rw [e0];exact cr)
   ·refine hc0 (h.ind c (fun x=>?_) k0 (by omega))
    have:=v0 x
    simp only [v] at this
    rw [cr,Int.zero_mul,Int.add_zero] at this
    exact this
def gcdn : Nat → (Nat → Int) → Nat
|0,_=>0
|n + 1,v=>Nat.gcd (gcdn n v) (v n).natAbs
theorem gcdn_dvd : ∀ (n : Nat) (v : Nat → Int) (k : Nat),k < n → (gcdn n v : Int) ∣ v k
|0,v,k,hk=>by omega
|n + 1,v,k,hk=>by
  by_cases e : k = n
  ·subst e
   exact Int.ofNat_dvd_left.2 (Nat.gcd_dvd_right _ _)
  ·have:=gcdn_dvd n v k (by omega)
   exact Int.dvd_trans (Int.ofNat_dvd.2 (Nat.gcd_dvd_left _ _)) this
theorem dvd_gcdn (a b : Int) : ∀ (n : Nat) (v : Nat → Int),(∀ k,k < n → b ∣ a * v k) → b ∣ a * (gcdn n v : Int)
|0,v,_=>by simp [gcdn]
|n + 1,v,h=>by
  have ih:=dvd_gcdn a b n v fun k hk=>h k (by omega)
  have h2:=h n (by omega)
  rw [← Int.natAbs_dvd_natAbs] at ih h2 ⊢
  rw [Int.natAbs_mul] at ih h2 ⊢
  simp only [gcdn,Int.natAbs_natCast] at ih ⊢
  rw [← Nat.gcd_mul_left]
  exact Nat.dvd_gcd ih h2
theorem prim_mul {n : Nat} {u v : Nat → Int} (hg : gcdn n u = 1) {a b : Int} (ha : a ≠ 0) (hb : b ≠ 0) (h : ∀ x,x < n → a * u x = b * v x) : ∃ t : Int,t ≠ 0 ∧ ∀ x,x < n → v x = t * u x:=by
 have hd:=dvd_gcdn a b n u fun k hk=>⟨v k,h k hk⟩
 rw [hg] at hd
 obtain ⟨t,ht⟩:=hd
 rw [Int.natCast_one,Int.mul_one] at ht
 refine ⟨t,fun z=>ha (by rw [ht,z,Int.mul_zero]),fun x hx=>?_⟩
 have:=h x hx
 rw [ht,Int.mul_assoc] at this
 exact (Int.eq_of_mul_eq_mul_left hb this).symm
theorem abs_le_mul {t u B : Int} (ht : t ≠ 0) (h : -B ≤ t * u ∧ t * u ≤ B) : -B ≤ u ∧ u ≤ B:=by
 have e : (t * u).natAbs = t.natAbs * u.natAbs:=Int.natAbs_mul _ _
 have h1 : 1 ≤ t.natAbs:=by omega
 have h2 : u.natAbs ≤ t.natAbs * u.natAbs:=Nat.le_mul_of_pos_left _ h1
 omega
def Ker (m n : Nat) (row : Nat → Nat → Int) (x : Nat → Int) : Prop:=∀ i,i < m → sm n (fun k=>row i k * x k) = 0
theorem ker_swap {m n i j : Nat} {row : Nat → Nat → Int} {x : Nat → Int} (him : i < m) (hjm : j < m) : Ker m n (sw i j row) x ↔ Ker m n row x:=by
 constructor
 ·intro h k hk
  by_cases c1 : k = i
  ·have:=h j hjm
   simp only [sw] at this
   by_cases c2 : j = i
   ·rw [if_pos c2] at this
    rw [c1,← c2]
    exact this
   ·simp only [if_neg c2,if_true] at this
    rw [c1]
    exact this
  ·by_cases c2 : k = j
   ·have:=h i him
    simp only [sw,if_pos rfl] at this
    rw [c2]
    exact this
   ·have:=h k hk
    simp only [sw,if_neg c1,if_neg c2] at this
    exact this
 ·intro h k hk
  obtain ⟨l,hl,e,_⟩:=sw_pick (α:=Nat → Int) i j m him hjm k hk
  rw [e]
  exact h l hl
theorem sm_lin (n : Nat) (a b : Int) (f g : Nat → Int) : sm n (fun k=>a * f k - b * g k) = a * sm n f - b * sm n g:=by
 have : sm n (fun k=>a * f k - b * g k) = sm n (fun k=>a * f k + (-b) * g k):=sm_congr fun k _=>by grind
 rw [this,sm_add,sm_mul,sm_mul]
 grind
theorem ker_step {m n r : Nat} {row row' : Nat → Nat → Int} {x : Nat → Int} (hrm : r < m) (c : Nat) (hc : row r c ≠ 0)
  (hp : ∃ e f : Int,e ≠ 0 ∧ f ≠ 0 ∧ ∀ x,e * row' r x = f * row r x)
  (hi : ∀ i,i < m → i ≠ r → ∃ g : Int,g ≠ 0 ∧ ∀ x,g * row' i x = row r c * row i x - row i c * row r x) : Ker m n row' x ↔ Ker m n row x:=by
 obtain ⟨e,f,he,hf,hp⟩:=hp
 have P : e * sm n (fun k=>row' r k * x k) = f * sm n (fun k=>row r k * x k):=by
  rw [← sm_mul,← sm_mul]
  exact sm_congr fun k _=>by have:=hp k;grind
 have I : ∀ i,i < m → i ≠ r → ∃ g : Int,g ≠ 0 ∧ g * sm n (fun k=>row' i k * x k) = row r c * sm n (fun k=>row i k * x k) - row i c * sm n (fun k=>row r k * x k):=fun i him hir=>by
  obtain ⟨g,hg,q⟩:=hi i him hir
  refine ⟨g,hg,?_⟩
  rw [← sm_mul,← sm_lin]
  exact sm_congr fun k _=>by have:=q k;grind
 constructor
 ·intro h
  have h0 : sm n (fun k=>row r k * x k) = 0:=by
   rw [h r hrm,Int.mul_zero] at P
   exact (Int.mul_eq_zero.1 P.symm).resolve_left hf
  intro i him
  by_cases ei : i = r
  ·rw [ei]
   exact h0
  ·obtain ⟨g,hg,q⟩:=I i him ei
   rw [h i him,h0,Int.mul_zero,Int.mul_zero,Int.sub_zero] at q
   exact (Int.mul_eq_zero.1 q.symm).resolve_left hc
 ·intro h i him
  by_cases ei : i = r
  ·rw [ei]
   rw [h r hrm,Int.mul_zero] at P
   exact (Int.mul_eq_zero.1 P).resolve_left he
  ·obtain ⟨g,hg,q⟩:=I i him ei
   rw [h i him,h r hrm,Int.mul_zero,Int.mul_zero,Int.sub_zero] at q
   exact (Int.mul_eq_zero.1 q).resolve_left hg
theorem exists_not_mem (l : List Nat) (n : Nat) (h : l.length < n) : ∃ f,f < n ∧ f ∉ l:=by
 apply Classical.byContradiction
 intro hn
 have all : ∀ f,f < n → f ∈ l:=fun f hf=>Classical.byContradiction fun c=>hn ⟨f,hf,c⟩
 obtain ⟨x,y,h1,h2,h3⟩:=pigeon' h (fun f=>l.idxOf f) fun f hf=>List.idxOf_lt_length_of_mem (all f hf)
 have e1:=List.getElem_idxOf (List.idxOf_lt_length_of_mem (all x (by omega)))
 have e2:=List.getElem_idxOf (List.idxOf_lt_length_of_mem (all y h2))
 try simp only at h3
 simp only [h3] at e1
 omega
structure Fin_ (m n r : Nat) (row : Nat → Nat → Int) (p : Nat → Nat) : Prop where
 hr : r ≤ m
 piv : ∀ j,j < r → row j (p j) ≠ 0
 off : ∀ j,j < r → ∀ i,i < m → i ≠ j → row i (p j) = 0
 tail : ∀ i,r ≤ i → i < m → ∀ k,k < n → row i k = 0
 pn : ∀ j,j < r → p j < n
theorem Fin_.inj {m n r : Nat} {row : Nat → Nat → Int} {p : Nat → Nat} (h : Fin_ m n r row p) {i j : Nat} (hi : i < r) (hj : j < r) (e : p i = p j) : i = j:=by
 apply Classical.byContradiction
 intro c
 have hr:=h.hr
 exact h.piv i hi (by rw [e];exact h.off j hj i (by omega) c)
theorem common_mul (r : Nat) (a : Nat → Int) (ha : ∀ j,j < r → a j ≠ 0) : ∃ D : Int,D ≠ 0 ∧ ∃ q : Nat → Int,∀ j,j < r → D = a j * q j:=by
 induction r with
|zero=>exact ⟨1,by omega,fun _=>0,fun j hj=>by omega⟩
|succ r ih =>
  obtain ⟨D,hD,q,hq⟩:=ih fun j hj=>ha j (by omega)
  refine ⟨D * a r,Int.mul_ne_zero hD (ha r (by omega)),fun j=>if j = r then D else q j * a r,fun j hj=>?_⟩
  by_cases e : j = r
  ·subst e
   show D * a j = a j * (if j = j then D else q j * a j)
   rw [if_pos rfl,Int.mul_comm]
  ·show D * a r = a j * (if j = r then D else q j * a r)
   rw [if_neg e,hq j (by omega),Int.mul_assoc]
theorem Fin_.free {m n r : Nat} {row : Nat → Nat → Int} {p : Nat → Nat} (h : Fin_ m n r row p) {f : Nat} (hf : f < n) (hfp : ∀ j,j < r → p j ≠ f) : ∃ x : Nat → Int,Ker m n row x ∧ x f ≠ 0 ∧ ∀ k,k ≠ f → (∀ j,j < r → p j ≠ k) → x k = 0:=by
 obtain ⟨D,hD,q,hq⟩:=common_mul r (fun j=>row j (p j)) h.piv
 let x : Nat → Int:=fun k=>if k = f then D else sm r (fun j=>if p j = k then -(row j f) * q j else 0)
 have xp : ∀ j,j < r → x (p j) = -(row j f) * q j:=fun j hj=>by
  show (if p j = f then D else sm r (fun i=>if p i = p j then -(row i f) * q i else 0)) = _
  rw [if_neg (hfp j hj),sm_single hj fun k hk hkj=>if_neg fun e=>hkj (h.inj hk hj e),if_pos rfl]
 have xf : x f = D:=if_pos rfl
 have x0 : ∀ k,k ≠ f → (∀ j,j < r → p j ≠ k) → x k = 0:=fun k hk hp=>by
  show (if k = f then D else sm r (fun j=>if p j = k then -(row j f) * q j else 0)) = 0
  rw [if_neg hk,sm_zero fun j hj=>if_neg (hp j hj)]
 refine ⟨x,fun i him=>?_,by rw [xf];exact hD,x0⟩
 by_cases c : i < r
 ·rw [sm_two (i:=p i) (j:=f) (h.pn i c) hf (hfp i c) fun k hk h1 h2=>?_]
  ·rw [xp i c,xf,hq i c]
   grind
  ·by_cases d : ∃ j,j < r ∧ p j = k
   ·obtain ⟨j,hj,rfl⟩:=d
    rw [h.off j hj i him fun e=>h1 (by rw [e]),Int.zero_mul]
   ·rw [x0 k h2 fun j hj e=>d ⟨j,hj,e⟩,Int.mul_zero]
 ·exact sm_zero fun k hk=>by rw [h.tail i (by omega) him k hk,Int.zero_mul]
theorem Fin_.le {m n r : Nat} {row : Nat → Nat → Int} {p : Nat → Nat} (h : Fin_ m n r row p) : r ≤ n:=by
 apply Classical.byContradiction
 intro c
 obtain ⟨x,y,h1,h2,h3⟩:=pigeon' (N:=r) (M:=n) (by omega) p h.pn
 have:=h.inj (by omega) h2 h3
 omega
theorem Fin_.none {m n r : Nat} {row : Nat → Nat → Int} {p : Nat → Nat} (h : Fin_ m n r row p) (hrn : r = n) {x : Nat → Int} (hx : Ker m n row x) (k : Nat) (hk : k < n) : x k = 0:=by
 have hr:=h.hr
 have cov : ∀ k,k < n → ∃ j,j < r ∧ p j = k:=fun k hk=>by
  apply Classical.byContradiction
  intro c
  have c2 : ∀ j,j < r → p j ≠ k:=fun j hj e=>c ⟨j,hj,e⟩
  obtain ⟨x,y,h1,h2,h3⟩:=pigeon' (N:=n + 1) (M:=n) (by omega) (fun j=>if j < r then p j else k) fun j hj=>by
   show (if j < r then p j else k) < n
   split
   ·exact h.pn j (by assumption)
   ·omega
  try simp only at h3
  rw [if_pos (show x < r by omega)] at h3
  by_cases b : y < r
  ·rw [if_pos b] at h3
   have:=h.inj (by omega) b h3
   omega
  ·rw [if_neg b] at h3
   exact c2 x (by omega) h3
 obtain ⟨j,hj,rfl⟩:=cov k hk
 have e:=hx j (by omega)
 rw [sm_single (h.pn j hj) fun k hk h1=>?_] at e
 ·exact (Int.mul_eq_zero.1 e).resolve_left (h.piv j hj)
 ·obtain ⟨i,hi,rfl⟩:=cov k hk
  rw [h.off i hi j (by omega) fun e=>h1 (by rw [e]),Int.zero_mul]
theorem St.fin {m r n : Nat} {o row : Nat → Nat → Int} {p : Nat → Nat} (h : St m r o row p) (tail : ∀ i,r ≤ i → i < m → ∀ k,k < n → row i k = 0) (pn : ∀ j,j < r → p j < n) : Fin_ m n r row p:=⟨h.hr,h.piv,h.off,tail,pn⟩
def Nice (n : Nat) (v : Nat → Int) : Prop:=gcdn n v = 1 ∨ ∀ k,k < n → -9 ≤ v k ∧ v k ≤ 9
theorem St.bound {m r n : Nat} {o row : Nat → Nat → Int} {p : Nat → Nat} (h : St m r o row p) (hm : m ≤ 5) (ho : ∀ i,i < m → ∀ x,-9 ≤ o i x ∧ o i x ≤ 9) (i : Nat) (him : i < m) (hn : Nice n (row i)) (k : Nat) (hk : k < n) : -184528125 ≤ row i k ∧ row i k ≤ 184528125:=by
 rcases hn with hn|hn
 ·obtain ⟨v,hv,a,b,ha,hb,e⟩:=h.small hm ho i him
  obtain ⟨t,ht,q⟩:=prim_mul hn ha hb fun x _=>e x
  have:=hv k
  rw [q k hk] at this
  exact abs_le_mul ht this
 ·have:=hn k hk
  omega
def newRow (w : Int → Int) (M : Nat → Nat → Int) (r c i : Nat) : Nat → Int:=fun k=>w (w (M i k * M r c) - w (M r k * M i c))
def divn (n : Nat) (v : Nat → Int) : Nat → Int:=if 1 < gcdn n v then fun k=>v k / (gcdn n v : Int) else v
def shortP (pv : Bool) (n r : Nat) (M : Nat → Nat → Int) : Nat → Nat → Int:=if pv then fun i=>if i = r then divn n (M r) else M i else M
def colS (w : Int → Int) (n m r c : Nat) (P : Nat → Nat → Int) : Nat → Nat → Int:=fun i=>if i < m ∧ i ≠ r ∧ P i c ≠ 0 then divn n (newRow w P r c i) else P i
def findAt (M : Nat → Nat → Int) (c m : Nat) : Nat → Nat → Nat
|0,i=>i
|f + 1,i=>if i < m ∧ M i c = 0 then findAt M c m f (i + 1) else i
def elim (w : Int → Int) (pv : Bool) (n m : Nat) : Nat → Nat → (Nat → Nat → Int) → List Nat → (Nat → Nat → Int) × List Nat
|0,_,M,piv=>(M,piv)
|k + 1,c,M,piv =>
  if findAt M c m (m - piv.length) piv.length = m then elim w pv n m k (c + 1) M piv
  else elim w pv n m k (c + 1) (colS w n m piv.length c (shortP pv n piv.length (sw piv.length (findAt M c m (m - piv.length) piv.length) M))) (piv ++ [c])
theorem findAt_told (M : Nat → Nat → Int) (c m : Nat) : ∀ (f i : Nat),i + f = m → i ≤ findAt M c m f i ∧ findAt M c m f i ≤ m ∧ (∀ j,i ≤ j → j < findAt M c m f i → M j c = 0) ∧ (findAt M c m f i < m → M (findAt M c m f i) c ≠ 0)
|0,i,h=>⟨by simp [findAt],by simp [findAt];omega,fun j h1 h2=>by simp [findAt] at h2;omega,fun h1=>by simp [findAt] at h1;omega⟩
|f + 1,i,h=>by
  by_cases c1 : i < m ∧ M i c = 0
  ·obtain ⟨a,b,d,e⟩:=findAt_told M c m f (i + 1) (by omega)
   have q : findAt M c m (f + 1) i = findAt M c m f (i + 1):=by
    show (if i < m ∧ M i c = 0 then findAt M c m f (i + 1) else i) = _
    rw [if_pos c1]
   rw [q]
   refine ⟨by omega,b,fun j h1 h2=>?_,e⟩
   by_cases ej : j = i
   ·rw [ej]
    exact c1.2
   ·exact d j (by omega) h2
  ·have q : findAt M c m (f + 1) i = i:=by
    show (if i < m ∧ M i c = 0 then findAt M c m f (i + 1) else i) = _
    rw [if_neg c1]
   rw [q]
   exact ⟨by omega,by omega,fun j h1 h2=>by omega,fun h1 h2=>c1 ⟨h1,h2⟩⟩
theorem gcdn_congr : ∀ {n : Nat} {u v : Nat → Int},(∀ k,k < n → u k = v k) → gcdn n u = gcdn n v
|0,_,_,_=>rfl
|n + 1,u,v,h=>by
  simp only [gcdn]
  rw [gcdn_congr (n:=n) fun k hk=>h k (by omega),h n (by omega)]
theorem gcdn_mul (g : Nat) : ∀ (n : Nat) (v : Nat → Int),gcdn n (fun k=>(g : Int) * v k) = g * gcdn n v
|0,_=>by simp [gcdn]
|n + 1,v=>by
  simp only [gcdn]
  rw [gcdn_mul g n v,Int.natAbs_mul,Int.natAbs_natCast,Nat.gcd_mul_left]
theorem divn_told (n : Nat) (v : Nat → Int) (hz : ∀ k,n ≤ k → v k = 0) : ∃ g : Int,0 < g ∧ (∀ k,g * divn n v k = v k) ∧ (gcdn n (divn n v) = 1 ∨ ∀ k,k < n → divn n v k = 0):=by
 unfold divn
 by_cases c : 1 < gcdn n v
 ·rw [if_pos c]
  have e : ∀ k,(gcdn n v : Int) * (v k / (gcdn n v : Int)) = v k:=fun k=>by
   by_cases hk : k < n
   ·exact Int.mul_ediv_cancel' (gcdn_dvd n v k hk)
   ·rw [hz k (by omega),Int.zero_ediv,Int.mul_zero]
  refine ⟨gcdn n v,by omega,e,.inl ?_⟩
  have a:=gcdn_mul (gcdn n v) n (fun k=>v k / (gcdn n v : Int))
  rw [gcdn_congr (v:=v) fun k _=>e k] at a
  have : gcdn n v * 1 = gcdn n v * gcdn n (fun k=>v k / (gcdn n v : Int)):=by omega
  exact (Nat.eq_of_mul_eq_mul_left (by omega) this).symm
 ·rw [if_neg c]
  refine ⟨1,by omega,fun k=>Int.one_mul _,?_⟩
  rcases (show gcdn n v = 1 ∨ gcdn n v = 0 by omega) with h|h
  ·exact .inl h
  ·refine .inr fun k hk=>?_
   have:=gcdn_dvd n v k hk
   rw [h] at this
   exact Int.zero_dvd.1 this
theorem divn_zero (n : Nat) (v : Nat → Int) (k : Nat) (h : v k = 0) : divn n v k = 0:=by
 unfold divn
 split
 ·simp [h]
 ·exact h
def Dep (m : Nat) (f : Nat → Nat → Int) : Prop:=∃ d : Nat → Int,(∃ k,k < m ∧ d k ≠ 0) ∧ ∀ x,sm m (fun k=>d k * f k x) = 0
theorem sm_sw {α : Type} (i j m : Nat) (hi : i < m) (hj : j < m) (d : Nat → Int) (f : Nat → Nat → Int) (x : Nat) : sm m (fun k=>sw i j d k * sw i j f k x) = sm m (fun k=>d k * f k x):=by
 by_cases e : i = j
 ·subst e
  exact sm_congr fun k _=>by
   have : ∀ {β : Type} (g : Nat → β),sw i i g k = g k:=fun g=>by
    unfold sw
    by_cases c : k = i
    ·rw [if_pos c,c]
    ·rw [if_neg c,if_neg c]
   rw [this,this]
 ·have part : ∀ g : Nat → Int,sm m g = sm m (fun k=>if k = i ∨ k = j then 0 else g k) + (g i + g j):=fun g=>by
   have e1 : sm m g = sm m (fun k=>(if k = i ∨ k = j then 0 else g k) + (if k = i ∨ k = j then g k else 0)):=sm_congr fun k _=>by split <;> omega
   rw [e1,sm_add,sm_two (f:=fun k=>if k = i ∨ k = j then g k else 0) hi hj e fun k _ h1 h2=>if_neg (by omega)]
   show _ + ((if i = i ∨ i = j then g i else 0) + (if j = i ∨ j = j then g j else 0)) = _
   rw [if_pos (.inl rfl),if_pos (.inr rfl)]
  rw [part (fun k=>sw i j d k * sw i j f k x),part (fun k=>d k * f k x)]
  have z : sm m (fun k=>if k = i ∨ k = j then 0 else sw i j d k * sw i j f k x) = sm m (fun k=>if k = i ∨ k = j then 0 else d k * f k x):=sm_congr fun k _=>by
   by_cases c : k = i ∨ k = j
   ·rw [if_pos c,if_pos c]
   ·rw [if_neg c,if_neg c]
    unfold sw
    rw [if_neg (by omega),if_neg (by omega),if_neg (by omega),if_neg (by omega)]
  have a : sw i j d i * sw i j f i x = d j * f j x:=by
   unfold sw
   rw [if_pos rfl,if_pos rfl]
  have b : sw i j d j * sw i j f j x = d i * f i x:=by
   unfold sw
   rw [if_neg (Ne.symm e),if_pos rfl,if_neg (Ne.symm e),if_pos rfl]
  show _ + (sw i j d i * sw i j f i x + sw i j d j * sw i j f j x) = _ + (d i * f i x + d j * f j x)
  rw [z,a,b]
  omega
theorem sw_sw {α : Type} (i j : Nat) (f : Nat → α) (k : Nat) : sw i j (sw i j f) k = f k:=by
 unfold sw
 by_cases c1 : k = i
 ·subst c1
  rw [if_pos rfl]
  by_cases c2 : j = k
  ·rw [if_pos c2,c2]
  ·rw [if_neg c2,if_pos rfl]
 ·rw [if_neg c1]
  by_cases c2 : k = j
  ·subst c2
   rw [if_pos rfl,if_pos rfl]
  ·rw [if_neg c2,if_neg c1,if_neg c2]
theorem dep_sw (i j m : Nat) (hi : i < m) (hj : j < m) (f : Nat → Nat → Int) : Dep m (sw i j f) ↔ Dep m f:=by
 have one : ∀ g : Nat → Nat → Int,Dep m g → Dep m (sw i j g):=fun g ⟨d,⟨k,hk,hd⟩,e⟩=>by
  obtain ⟨l,hl,q,_⟩:=sw_pick (α:=Int) i j m hi hj k hk
  refine ⟨sw i j d,⟨l,hl,?_⟩,fun x=>by rw [sm_sw (α:=Int) i j m hi hj];exact e x⟩
  have:=q (sw i j d)
  rw [sw_sw] at this
  rw [← this]
  exact hd
 refine ⟨fun h=>?_,one f⟩
 obtain ⟨d,hd,e⟩:=one _ h
 exact ⟨d,hd,fun x=>by rw [← e x];exact sm_congr fun k _=>by rw [sw_sw]⟩
structure Inv (m n c : Nat) (A M : Nat → Nat → Int) (piv : List Nat) : Prop where
 st : ∃ o p,St m piv.length o M p ∧ (∀ j,j < piv.length → piv[j]? = some (p j)) ∧ (∀ i,i < m → ∀ x,-9 ≤ o i x ∧ o i x ≤ 9) ∧ (Dep m o ↔ Dep m A)
 tail : ∀ i,piv.length ≤ i → i < m → ∀ k,k < c → M i k = 0
 asc : piv.Pairwise (· < ·)
 low : ∀ q,q ∈ piv → q < c
 nice : ∀ i,i < m → Nice n (M i)
 zero : ∀ i,i < m → ∀ k,n ≤ k → M i k = 0
 ker : ∀ x,Ker m n M x ↔ Ker m n A x
theorem Inv.start (m n : Nat) (A : Nat → Nat → Int) (h9 : ∀ i,i < m → ∀ x,-9 ≤ A i x ∧ A i x ≤ 9) (hz : ∀ i,i < m → ∀ k,n ≤ k → A i k = 0) : Inv m n 0 A A [] :=
 ⟨⟨A,fun _=>0,St.start m A _,fun j hj=>by simp at hj,h9,Iff.rfl⟩,fun i _ _ k hk=>by omega,List.Pairwise.nil,fun q hq=>by simp at hq,fun i hi=>.inr fun k _=>h9 i hi k,hz,fun x=>Iff.rfl⟩
theorem Inv.small {m n c : Nat} {A M : Nat → Nat → Int} {piv : List Nat} (h : Inv m n c A M piv) (hm : m ≤ 5) (i : Nat) (hi : i < m) (k : Nat) : -184528125 ≤ M i k ∧ M i k ≤ 184528125:=by
 by_cases hk : k < n
 ·obtain ⟨o,p,h1,h2,h3,_⟩:=h.st
  exact h1.bound hm h3 i hi (h.nice i hi) k hk
 ·rw [h.zero i hi k (by omega)]
  omega
def Keeps (w : Int → Int) : Prop:=∀ x : Int,-9223372036854775808 ≤ x → x ≤ 9223372036854775807 → w x = x
theorem newRow_told {w : Int → Int} (hw : Keeps w) {M : Nat → Nat → Int} {r c i : Nat} (h : ∀ j k,j = r ∨ j = i → -184528125 ≤ M j k ∧ M j k ≤ 184528125) (k : Nat) : newRow w M r c i k = M r c * M i k - M i c * M r k ∧ -68101257834375001 ≤ M r c * M i k - M i c * M r k ∧ M r c * M i k - M i c * M r k ≤ 68101257834375001:=by
 have mr : ∀ a b : Int,-184528125 ≤ a → a ≤ 184528125 → -184528125 ≤ b → b ≤ 184528125 → -34050628916015625 ≤ a * b ∧ a * b ≤ 34050628916015625:=by
  intro c w h1 h2 h3 h4
  have p1 : 0 ≤ (184528125 - c) * (184528125 + w):=Int.mul_nonneg (by omega) (by omega)
  have p2 : 0 ≤ (184528125 + c) * (184528125 - w):=Int.mul_nonneg (by omega) (by omega)
  have p3 : 0 ≤ (184528125 - c) * (184528125 - w):=Int.mul_nonneg (by omega) (by omega)
  have p4 : 0 ≤ (184528125 + c) * (184528125 + w):=Int.mul_nonneg (by omega) (by omega)
  rw [Int.sub_mul,Int.mul_add,Int.mul_add] at p1
  rw [Int.add_mul,Int.mul_sub,Int.mul_sub] at p2
  rw [Int.sub_mul,Int.mul_sub,Int.mul_sub] at p3
  rw [Int.add_mul,Int.mul_add,Int.mul_add] at p4
  omega
 have a:=h r c (.inl rfl)
 have b:=h i k (.inr rfl)
 have d:=h r k (.inl rfl)
 have e:=h i c (.inr rfl)
 have p:=mr _ _ b.1 b.2 a.1 a.2
 have q:=mr _ _ d.1 d.2 e.1 e.2
 have c1 : M r c * M i k = M i k * M r c:=Int.mul_comm _ _
 have c2 : M i c * M r k = M r k * M i c:=Int.mul_comm _ _
 unfold newRow
 rw [hw (M i k * M r c) (by omega) (by omega),hw (M r k * M i c) (by omega) (by omega),hw (_ - _) (by omega) (by omega),c1,c2]
 exact ⟨rfl,by omega,by omega⟩
theorem Inv.next {m n c : Nat} {A M : Nat → Nat → Int} {piv : List Nat} (h : Inv m n c A M piv) (hm : m ≤ 5) (hcn : c < n) {w : Int → Int} (hw : Keeps w) (pv : Bool) {at_ : Nat} (hat : piv.length ≤ at_) (ham : at_ < m) (hne : M at_ c ≠ 0) :
  Inv m n (c + 1) A (colS w n m piv.length c (shortP pv n piv.length (sw piv.length at_ M))) (piv ++ [c]):=by
 obtain ⟨o,p,s1,s2,s3,s4⟩:=h.st
 obtain ⟨r,hr⟩ : ∃ r,r = piv.length:=⟨_,rfl⟩
 rw [← hr] at s1 s2 hat ⊢
 have hrm : r < m:=by omega
 have S:=s1.swap (Nat.le_refl r) hat hrm ham
 let N:=sw r at_ M
 have Nr : N r = M at_:=if_pos rfl
 have pick : ∀ i,i < m → ∃ l,l < m ∧ N i = M l ∧ (r ≤ i ↔ r ≤ l):=fun i hi=>by
  obtain ⟨l,hl,e,q⟩:=sw_pick (α:=Nat → Int) r at_ m hrm ham i hi
  exact ⟨l,hl,e M,(q r (Nat.le_refl _) hat).1⟩
 have Nz : ∀ i,i < m → ∀ k,n ≤ k → N i k = 0:=fun i hi k hk=>by
  obtain ⟨l,hl,e,_⟩:=pick i hi
  rw [e]
  exact h.zero l hl k hk
 have Ns : ∀ i,i < m → ∀ k,-184528125 ≤ N i k ∧ N i k ≤ 184528125:=fun i hi k=>by
  obtain ⟨l,hl,e,_⟩:=pick i hi
  rw [e]
  exact h.small hm l hl k
 have Nn : ∀ i,i < m → Nice n (N i):=fun i hi=>by
  obtain ⟨l,hl,e,_⟩:=pick i hi
  rw [e]
  exact h.nice l hl
 have Nt : ∀ i,r ≤ i → i < m → ∀ k,k < c → N i k = 0:=fun i h1 hi k hk=>by
  obtain ⟨l,hl,e,q⟩:=pick i hi
  rw [e]
  exact h.tail l (by rw [← hr];exact q.1 h1) hl k hk
 let P:=shortP pv n r N
 obtain ⟨g,hg,Pr,Pn⟩ : ∃ g : Int,g ≠ 0 ∧ (∀ k,g * P r k = N r k) ∧ Nice n (P r):=by
  cases pv
  ·exact ⟨1,by omega,fun k=>Int.one_mul _,Nn r hrm⟩
  ·obtain ⟨g,h1,h2,h3⟩:=divn_told n (N r) (Nz r hrm)
   have h1 : g ≠ 0:=by omega
   have e : P r = divn n (N r):=if_pos rfl
   rw [e]
   refine ⟨g,h1,h2,h3.elim .inl fun q=>.inr fun k hk=>by rw [q k hk];omega⟩
 have Po : ∀ i,i ≠ r → P i = N i:=fun i hi=>by
  cases pv
  ·rfl
  ·exact if_neg hi
 have Pz : ∀ i,i < m → ∀ k,n ≤ k → P i k = 0:=fun i hi k hk=>by
  by_cases e : i = r
  ·subst e
   have:=Pr k
   rw [Nz i hi k hk] at this
   exact (Int.mul_eq_zero.1 this).resolve_left hg
  ·rw [Po i e]
   exact Nz i hi k hk
 have Ps : ∀ i,i < m → ∀ k,-184528125 ≤ P i k ∧ P i k ≤ 184528125:=fun i hi k=>by
  by_cases e : i = r
  ·subst e
   have:=Ns i hi k
   rw [← Pr k] at this
   exact abs_le_mul hg this
  ·rw [Po i e]
   exact Ns i hi k
 have Pc : P r c ≠ 0:=fun e=>by
  have:=Pr c
  rw [e,Int.mul_zero,Nr] at this
  exact hne this.symm
 let R:=colS w n m r c P
 have Rr : R r = P r:=if_neg fun q=>q.2.1 rfl
 have told : ∀ i,i < m → ∀ k,newRow w P r c i k = P r c * P i k - P i c * P r k:=fun i hi k=>(newRow_told hw (fun j k hj=>by
  rcases hj with rfl|rfl
  ·exact Ps _ hrm k
  ·exact Ps _ hi k) k).1
 have Ri : ∀ i,i < m → i ≠ r → ∃ g : Int,g ≠ 0 ∧ (∀ k,g * R i k = P r c * P i k - P i c * P r k) ∧ Nice n (R i):=fun i hi hir=>by
  by_cases z : P i c = 0
  ·have e : R i = P i:=if_neg fun q=>q.2.2 z
   refine ⟨P r c,Pc,fun k=>by rw [e,z];omega,?_⟩
   rw [e,Po i hir]
   exact Nn i hi
  ·have e : R i = divn n (newRow w P r c i):=if_pos ⟨hi,hir,z⟩
   obtain ⟨g',h1,h2,h3⟩:=divn_told n (newRow w P r c i) fun k hk=>by
    rw [told i hi k,Pz i hi k hk,Pz r hrm k hk]
    omega
   have h1 : g' ≠ 0:=by omega
   refine ⟨g',h1,fun k=>by rw [e,h2 k];exact told i hi k,?_⟩
   rw [e]
   exact h3.elim .inl fun q=>.inr fun k hk=>by rw [q k hk];omega
 have hp : ∃ e f : Int,e ≠ 0 ∧ f ≠ 0 ∧ ∀ x,e * R r x = f * N r x:=⟨g,1,hg,by omega,fun x=>by rw [Rr,Pr,Int.one_mul]⟩
 have hi : ∀ i,i < m → i ≠ r → ∃ g : Int,g ≠ 0 ∧ ∀ x,g * R i x = N r c * N i x - N i c * N r x:=fun i him hir=>by
  obtain ⟨g',h1,h2,_⟩:=Ri i him hir
  refine ⟨g * g',Int.mul_ne_zero hg h1,fun x=>?_⟩
  have a:=h2 x
  have b:=Pr c
  have d:=Pr x
  rw [Po i hir] at a
  rw [Int.mul_assoc,a,← b,← d]
  grind
 have Nc : N r c ≠ 0:=by rw [Nr];exact hne
 have T:=S.step hrm c Nc hp hi
 have len : (piv ++ [c]).length = r + 1:=by simp [hr]
 refine ⟨⟨sw r at_ o,_,by rw [len];exact T,fun j hj=>?_,fun i hi x=>?_,?_⟩,fun i h1 him k hk=>?_,?_,fun q hq=>?_,fun i him=>?_,fun i him k hk=>?_,fun x=>?_⟩
 ·by_cases e : j = r
  ·subst e
   rw [if_pos rfl,hr,List.getElem?_append_right (Nat.le_refl _)]
   simp
  ·rw [if_neg e,List.getElem?_append_left (by rw [len] at hj;omega)]
   exact s2 j (by rw [len] at hj;omega)
 ·obtain ⟨l,hl,e,_⟩:=sw_pick (α:=Nat → Int) r at_ m hrm ham i hi
  rw [e]
  exact s3 l hl x
 ·exact (dep_sw r at_ m hrm ham o).trans s4
 ·rw [len] at h1
  show R i k = 0
  obtain ⟨g',q1,q2,_⟩:=Ri i him (by omega)
  have q:=q2 k
  have zero : P r c * P i k - P i c * P r k = 0:=by
   by_cases ek : k = c
   ·rw [ek]
    rw [Int.mul_comm]
    omega
   ·have a : P r k = 0:=by
     have:=Pr k
     rw [Nt r (Nat.le_refl _) hrm k (by omega)] at this
     exact (Int.mul_eq_zero.1 this).resolve_left hg
    have b : P i k = 0:=by
     rw [Po i (by omega)]
     exact Nt i (by omega) him k (by omega)
    rw [a,b]
    omega
  rw [zero] at q
  exact (Int.mul_eq_zero.1 q).resolve_left q1
 ·rw [List.pairwise_append]
  exact ⟨h.asc,List.pairwise_singleton _ _,fun a ha b hb=>by rw [List.mem_singleton.1 hb];exact h.low a ha⟩
 ·rcases List.mem_append.1 hq with hq|hq
  ·have:=h.low q hq
   omega
  ·rw [List.mem_singleton.1 hq]
   omega
 ·show Nice n (R i)
  by_cases e : i = r
  ·rw [e,Rr]
   exact Pn
  ·exact (Ri i him e).choose_spec.2.2
 ·show R i k = 0
  by_cases e : i = r
  ·rw [e,Rr]
   exact Pz r hrm k hk
  ·obtain ⟨g',q1,q2,_⟩:=Ri i him e
   have q:=q2 k
   rw [Pz i him k hk,Pz r hrm k hk,Int.mul_zero,Int.mul_zero,Int.sub_zero] at q
   exact (Int.mul_eq_zero.1 q).resolve_left q1
 ·exact (ker_step hrm c Nc hp hi).trans ((ker_swap hrm ham).trans (h.ker x))
theorem Inv.skip {m n c : Nat} {A M : Nat → Nat → Int} {piv : List Nat} (h : Inv m n c A M piv) (hz : ∀ i,piv.length ≤ i → i < m → M i c = 0) : Inv m n (c + 1) A M piv :=
 ⟨h.st,fun i h1 h2 k hk=>by
  by_cases e : k = c
  ·rw [e]
   exact hz i h1 h2
  ·exact h.tail i h1 h2 k (by omega),h.asc,fun q hq=>by have:=h.low q hq;omega,h.nice,h.zero,h.ker⟩
theorem Inv.all {m n : Nat} (hm : m ≤ 5) {w : Int → Int} (hw : Keeps w) (pv : Bool) {A : Nat → Nat → Int} : ∀ (k c : Nat) (M : Nat → Nat → Int) (piv : List Nat),c + k = n → Inv m n c A M piv → Inv m n n A (elim w pv n m k c M piv).1 (elim w pv n m k c M piv).2
|0,c,M,piv,hc,h=>by
  obtain rfl : c = n:=by omega
  exact h
|k + 1,c,M,piv,hc,h=>by
  have hr : piv.length ≤ m:=h.st.choose_spec.choose_spec.1.hr
  obtain ⟨f1,f2,f3,f4⟩:=findAt_told M c m (m - piv.length) piv.length (by omega)
  by_cases e : findAt M c m (m - piv.length) piv.length = m
  ·rw [elim,if_pos e]
   exact Inv.all hm hw pv k (c + 1) M piv (by omega) (h.skip fun i h1 h2=>f3 i h1 (by omega))
  ·rw [elim,if_neg e]
   exact Inv.all hm hw pv k (c + 1) _ _ (by omega) (h.next hm (by omega) hw pv f1 (by omega) (f4 (by omega)))
theorem Inv.fin {m n : Nat} {A M : Nat → Nat → Int} {piv : List Nat} (h : Inv m n n A M piv) : ∃ o p,St m piv.length o M p ∧ Fin_ m n piv.length M p ∧ (∀ j,j < piv.length → piv[j]? = some (p j)) ∧ (∀ i,i < m → ∀ x,-9 ≤ o i x ∧ o i x ≤ 9) ∧ (Dep m o ↔ Dep m A):=by
 obtain ⟨o,p,s1,s2,s3,s4⟩:=h.st
 refine ⟨o,p,s1,s1.fin h.tail fun j hj=>h.low _ ?_,s2,s3,s4⟩
 exact List.mem_of_getElem? (s2 j hj)
theorem Inv.dep {m n : Nat} {A M : Nat → Nat → Int} {piv : List Nat} (h : Inv m n n A M piv) (hA : ∀ i,i < m → ∀ k,n ≤ k → A i k = 0) : Dep m A ↔ piv.length < m:=by
 obtain ⟨o,p,s1,s2,s3,s4,s5⟩:=h.fin
 rw [← s5]
 constructor
 ·rintro ⟨d,⟨k,hk,hd⟩,e⟩
  by_cases c : piv.length = m
  ·have:=s1.ind d (by rw [c];exact e) k (by omega)
   exact absurd this hd
  ·have:=s1.hr
   omega
 ·intro hlt
  obtain ⟨a,b,ha,hb,q⟩:=s1.near piv.length (Nat.le_refl _) hlt
  have z : ∀ x,M piv.length x = 0:=fun x=>by
   by_cases hx : x < n
   ·exact s2.tail _ (Nat.le_refl _) hlt x hx
   ·exact h.zero _ hlt x (by omega)
  obtain ⟨s,c,hs,e⟩:=q
  refine ⟨fun k=>if k < piv.length then c k else if k = piv.length then -(s * b) else 0,⟨piv.length,hlt,?_⟩,fun x=>?_⟩
  ·show (if piv.length < piv.length then c piv.length else if piv.length = piv.length then -(s * b) else 0) ≠ 0
   rw [if_neg (by omega),if_pos rfl]
   have:=Int.mul_ne_zero hs hb
   omega
  ·have e : s * (a * M piv.length x + b * o piv.length x) = sm piv.length (fun k=>c k * o k x):=e x
   rw [z x,Int.mul_zero,Int.zero_add] at e
   rw [sm_mono (n:=piv.length + 1) hlt fun k h1 _=>by
    show (if k < piv.length then c k else if k = piv.length then -(s * b) else 0) * o k x = 0
    rw [if_neg (by omega),if_neg (by omega),Int.zero_mul]]
   show sm piv.length _ + (if piv.length < piv.length then c piv.length else if piv.length = piv.length then -(s * b) else 0) * o piv.length x = 0
   rw [if_neg (by omega),if_pos rfl,sm_congr (g:=fun k=>c k * o k x) fun k hk=>by
    show (if k < piv.length then c k else if k = piv.length then -(s * b) else 0) * o k x = _
    rw [if_pos hk],← e]
   grind
end Go.Proofs.Ytdjclffkidoohaa.Lin
end
section
set_option linter.unusedVariables false
set_option linter.unusedSimpArgs false
namespace Go.Proofs.Ytdjclffkidoohaa.Base
open Go.RowKit Go.Proofs.YtdjclffkidoohaaW.PrintWords Go.Proofs.YtdjclffkidoohaaW.PrintLast Go.Proofs.YtdjclffkidoohaaW.PrintMore
theorem w64 {x : Int} (h1 : -9223372036854775808 ≤ x) (h2 : x ≤ 9223372036854775807) : wrap64 x = x:=by
 unfold wrap64
 omega
theorem w64_nat {n : Nat} (h : n ≤ 4611686018427387904) : wrap64 ((n : Int) + 1) = ((n + 1 : Nat) : Int):=by
 rw [w64 (by omega) (by omega)]
 omega
theorem rd_nat (l : List Int) (i : Nat) (h : i < l.length) : rd l (i : Int) = l[i]:=by
 simp [rd,h]
def inB (lo hi x : Int) : Bool:=decide (lo ≤ x ∧ x ≤ hi)
theorem inB_iff {lo hi x : Int} : inB lo hi x = true ↔ lo ≤ x ∧ x ≤ hi:=by simp [inB]
theorem within_is (a lo hi : Int) : (if a ≥ lo then (some (decide (a ≤ hi))) else (some false)) = some (inB lo hi a):=by
 unfold inB
 by_cases h : a ≥ lo
 ·rw [if_pos h]
  congr 1
  by_cases h2 : a ≤ hi <;> simp [h2]
  omega
 ·rw [if_neg h]
  congr 1
  simp
  omega
def ptB (x : List Int) : Bool:=inB 1 4 x.length && x.all (inB (-9) 9)
theorem all_range {l : List Int} {lo hi : Int} (h : l.all (inB lo hi) = true) (i : Nat) (hi' : i < l.length) : lo ≤ l[i] ∧ l[i] ≤ hi:=by
 have:=List.all_eq_true.1 h l[i] (List.getElem_mem hi')
 exact inB_iff.1 this
theorem bne_self (b : Bool) : (b != b) = false:=by cases b <;> rfl
def lbB (x : Int) : Bool:=decide (x = 1 ∨ x = -1)
def smB (ps : List (List Int)) (ls : List Int) : Bool:=decide (ps.length ≤ 16) && decide (ls.length = ps.length) && ls.all lbB && ps.all (fun x=>ptB x && decide (x.length = (ps.headD []).length))
theorem ptB_parts {x : List Int} (h : ptB x = true) : x.all (inB (-9) 9) = true ∧ 1 ≤ x.length ∧ x.length ≤ 4:=by
 unfold ptB at h
 have h2:=Bool.and_eq_true_iff.1 h
 have:=inB_iff.1 h2.1
 exact ⟨h2.2,by omega,by omega⟩
theorem smB_parts {ps : List (List Int)} {ls : List Int} (h : smB ps ls = true) : ps.length ≤ 16 ∧ ls.length = ps.length ∧ ls.all lbB = true ∧ ∀ x ∈ ps,ptB x = true ∧ x.length = (ps.headD []).length:=by
 unfold smB at h
 have h2:=Bool.and_eq_true_iff.1 h
 have h3:=Bool.and_eq_true_iff.1 h2.1
 have h4:=Bool.and_eq_true_iff.1 h3.1
 refine ⟨of_decide_eq_true h4.1,of_decide_eq_true h4.2,h3.2,fun x hx=>?_⟩
 have q:=Bool.and_eq_true_iff.1 (List.all_eq_true.1 h2.2 x hx)
 exact ⟨q.1,of_decide_eq_true q.2⟩
end Go.Proofs.Ytdjclffkidoohaa.Base
end
section
set_option linter.unusedVariables false
set_option linter.unusedSimpArgs false
namespace Go.Proofs.Ytdjclffkidoohaa.Pure
open Go.RowKit Go.Proofs.Ytdjclffkidoohaa.QFnExactInGeneralPosition Go.Proofs.YtdjclffkidoohaaW.PrintWords Go.Proofs.YtdjclffkidoohaaW.PrintLast Go.Proofs.YtdjclffkidoohaaW.PrintMore Go.Proofs.Ytdjclffkidoohaa.Base Go.Proofs.Ytdjclffkidoohaa.Lin
theorem laws_szIntS_is (l : List Int) (a : Int) (h0 : 0 ≤ a) (h1 : a ≤ 4611686018427387904) (hl : l.length ≤ 9223372036854775807) : laws_szIntS.f l a = some (if (l.length : Int) ≤ a then a - l.length else -1):=by
 unfold laws_szIntS.f
 rw [w64 (by omega) (by omega)]
 by_cases h : (l.length : Int) ≤ a
 ·rw [if_neg (by omega),if_pos h]
 ·rw [if_pos (by omega),if_neg h]
theorem laws_szIntSS_l : ∀ (k i : Nat) (x : List (List Int)) (a : Int),0 ≤ a → a ≤ 1048576 → x.length ≤ 1048576 → (∀ r ∈ x,r.length ≤ 9223372036854775807) → i ≤ x.length → x.length < i + k → ∃ v,laws_szIntSS.l0 k x a (i : Int) = some v ∧ (v < 0 ∨ (0 ≤ v ∧ v ≤ a ∧ ∀ r ∈ x.drop i,r.length ≤ 1048576))
|0,_,_,_,_,_,_,_,_,hk=>by omega
|k + 1,i,x,a,h0,h1,hn,hr,hi,hk=>by
  simp only [laws_szIntSS.l0]
  by_cases h : i < x.length
  ·have e : rd_L1 x (i : Int) = x[i]:=by simp [rd_L1,h]
   have hx:=hr x[i] (List.getElem_mem h)
   rw [if_pos (by omega),if_pos (by omega),e,laws_szIntS_is x[i] a h0 (by omega) hx]
   simp only [Option.bind_some]
   by_cases c : (x[i].length : Int) ≤ a
   ·rw [if_pos c,if_neg (by omega),w64_nat (by omega)]
    obtain ⟨v,hv,hc⟩:=laws_szIntSS_l k (i + 1) x (a - x[i].length) (by omega) (by omega) hn hr (by omega) (by omega)
    refine ⟨v,hv,?_⟩
    rcases hc with hc|⟨a1,a2,a3⟩
    ·exact .inl hc
    ·refine .inr ⟨a1,by omega,fun r hr'=>?_⟩
     rw [List.drop_eq_getElem_cons h] at hr'
     rcases List.mem_cons.1 hr' with rfl|hr'
     ·omega
     ·exact a3 r hr'
   ·rw [if_neg c,if_pos (by omega)]
    exact ⟨-1,rfl,.inl (by omega)⟩
  ·rw [if_neg (by omega)]
   refine ⟨a,rfl,.inr ⟨h0,Int.le_refl _,fun r hr'=>?_⟩⟩
   rw [List.drop_of_length_le (by omega)] at hr'
   simp at hr'
theorem laws_szIntSS_tells (k : Nat) (x : List (List Int)) (a : Int) (h0 : 0 ≤ a) (h1 : a ≤ 1048576) (hn : x.length ≤ 9223372036854775807) (hr : ∀ r ∈ x,r.length ≤ 9223372036854775807) (hk : 1048576 < k) : ∃ v,laws_szIntSS.f k x a = some v ∧ (v < 0 ∨ (0 ≤ v ∧ v ≤ a ∧ x.length ≤ 1048576 ∧ ∀ r ∈ x,r.length ≤ 1048576)):=by
 unfold laws_szIntSS.f
 rw [w64 (by omega) (by omega)]
 by_cases c : (x.length : Int) ≤ a
 ·rw [if_neg (by omega)]
  obtain ⟨v,hv,hc⟩:=laws_szIntSS_l k 0 x (a - x.length) (by omega) (by omega) (by omega) hr (by omega) (by omega)
  refine ⟨v,hv,?_⟩
  rcases hc with hc|⟨a1,a2,a3⟩
  ·exact .inl hc
  ·exact .inr ⟨a1,by omega,by omega,by simpa using a3⟩
 ·rw [if_pos (by omega)]
  exact ⟨-1,rfl,.inl (by omega)⟩
theorem spec_l2Labels_l : ∀ (k i : Nat) (l : List Int),l.length ≤ 4611686018427387904 → i ≤ l.length → l.length < i + k → spec_l2Labels.l0 k l (i : Int) = some ((l.drop i).all lbB)
|0,_,_,_,_,hk=>by omega
|k + 1,i,l,hn,hi',hk=>by
  simp only [spec_l2Labels.l0]
  by_cases h : i < l.length
  ·rw [if_pos (by omega),if_pos (by omega),rd_nat l i h,w64_nat (by omega),List.drop_eq_getElem_cons h,List.all_cons,spec_l2Labels_l k (i + 1) l hn (by omega) (by omega)]
   by_cases e1 : l[i] = 1
   ·rw [if_pos e1]
    simp [lbB,e1]
   ·by_cases e2 : l[i] = -1
    ·rw [if_neg e1,if_pos e2]
     simp [lbB,e2]
    ·rw [if_neg e1,if_neg e2]
     simp [lbB,e1,e2]
  ·rw [if_neg (by omega),List.drop_of_length_le (by omega)]
   simp
theorem spec_l2Labels_is (k : Nat) (l : List Int) (hn : l.length ≤ 4611686018427387904) (hk : l.length < k) : spec_l2Labels.f k l = some (l.all lbB):=by
 unfold spec_l2Labels.f
 have:=spec_l2Labels_l k 0 l hn (by omega) (by omega)
 simpa using this
theorem spec_l1In_is (a lo hi : Int) : spec_l1In.f a lo hi = some (inB lo hi a):=by
 unfold spec_l1In.f
 exact within_is a lo hi
theorem spec_l2Numbers_l : ∀ (k i : Nat) (l : List Int) (m : Int),-4611686018427387904 ≤ m → m ≤ 4611686018427387904 → l.length ≤ 4611686018427387904 → i ≤ l.length → l.length < i + k → spec_l2Numbers.l0 k l m (i : Int) = some ((l.drop i).all (inB (-m) m))
|0,_,_,_,_,_,_,_,hk=>by omega
|k + 1,i,l,m,h1,h2,hn,hi,hk=>by
  simp only [spec_l2Numbers.l0]
  by_cases h : i < l.length
  ·rw [if_pos (by omega),if_pos (by omega),spec_l1In_is,rd_nat l i h,w64_nat (by omega),w64 (by omega) (by omega),List.drop_eq_getElem_cons h,List.all_cons,spec_l2Numbers_l k (i + 1) l m h1 h2 hn (by omega) (by omega)]
   simp only [Option.bind_some]
   by_cases e : inB (-m) m l[i] = true
   ·rw [if_pos e,e]
    simp
   ·rw [if_neg e]
    simp [e]
  ·rw [if_neg (by omega),List.drop_of_length_le (by omega)]
   simp
theorem spec_l2Numbers_is (k : Nat) (l : List Int) (m : Int) (h1 : -4611686018427387904 ≤ m) (h2 : m ≤ 4611686018427387904) (hn : l.length ≤ 4611686018427387904) (hk : l.length < k) : spec_l2Numbers.f k l m = some (l.all (inB (-m) m)):=by
 unfold spec_l2Numbers.f
 have:=spec_l2Numbers_l k 0 l m h1 h2 hn (by omega) (by omega)
 simpa using this
theorem spec_l2Point_is (k : Nat) (l : List Int) (hn : l.length ≤ 4611686018427387904) (hk : l.length < k) : spec_l2Point.f k l = some (ptB l):=by
 unfold spec_l2Point.f ptB
 rw [spec_l1In_is,spec_l2Numbers_is k l 9 (by omega) (by omega) hn hk]
 simp only [Option.bind_some]
 cases inB 1 4 (l.length : Int) <;> simp
theorem spec_l2Sample_l (k0 : Nat) (hk0 : 1048576 < k0) : ∀ (k i : Nat) (l : List (List Int)) (m : List Int),l.length ≤ 16 → (∀ r ∈ l,r.length ≤ 1048576) → i ≤ l.length → l.length < i + k → spec_l2Sample.l0 (k + k0) (i : Int) l m = some ((l.drop i).all fun x=>ptB x && decide (x.length = (l.headD []).length))
|0,i,l,m,_,_,_,hk=>by omega
|k + 1,i,l,m,hn,hr,hi,hk=>by
  rw [show k + 1 + k0 = (k + k0) + 1 by omega]
  simp only [spec_l2Sample.l0]
  by_cases h : i < l.length
  ·have e : rd_L1 l (i : Int) = l[i]:=by simp [rd_L1,h]
   have e0 : rd_L1 l 0 = l.headD []:=by cases l <;> simp [rd_L1]
   have hx:=hr l[i] (List.getElem_mem h)
   rw [if_pos (by omega),if_pos (by omega),e,spec_l2Point_is (k + k0) l[i] (by omega) (by omega),e0]
   simp only [Option.bind_some]
   rw [List.drop_eq_getElem_cons h,List.all_cons]
   by_cases c1 : ptB l[i] = true
   ·rw [if_pos c1,if_pos (by omega),c1,Bool.true_and]
    by_cases c2 : l[i].length = (l.headD []).length
    ·rw [if_pos (by omega),w64_nat (by omega),spec_l2Sample_l k0 hk0 k (i + 1) l m hn hr (by omega) (by omega)]
     simp [c2]
    ·rw [if_neg (by omega)]
     simp only [c2,decide_false,Bool.false_and,Bool.and_false]
   ·rw [if_neg c1]
    simp [c1]
  ·rw [if_neg (by omega),List.drop_of_length_le (by omega)]
   simp
theorem spec_l2Sample_is (k : Nat) (l : List (List Int)) (m : List Int) (hr : ∀ r ∈ l,r.length ≤ 1048576) (hm : m.length ≤ 1048576) (hk : 1048600 < k) : spec_l2Sample.f k l m = some (smB l m):=by
 obtain ⟨k,rfl⟩ : ∃ q,k = q + 1:=⟨k - 1,by omega⟩
 unfold spec_l2Sample.f smB
 by_cases c1 : l.length ≤ 16
 ·rw [if_neg (by omega)]
  by_cases c2 : m.length = l.length
  ·rw [if_pos (by omega),spec_l2Labels_is _ m (by omega) (by omega)]
   simp only [Option.bind_some,spec_l2Sample.j0]
   have:=spec_l2Sample_l (k - 17) (by omega) 17 0 l m c1 hr (by omega) (by omega)
   rw [show 17 + (k - 17) = k by omega] at this
   rw [show ((0 : Nat) : Int) = 0 from rfl] at this
   rw [this]
   cases e : m.all lbB
   ·simp
   ·simp [c1,c2]
  ·rw [if_neg (by omega)]
   simp [spec_l2Sample.j0,c2]
 ·rw [if_pos (by omega)]
  simp [spec_l2Sample.j0,c1]
theorem spec_l1Own_is (l : List Int) (h : l.length < 17592186044416) : spec_l1Own.f l = some l:=by
 unfold spec_l1Own.f
 simp only [Option.bind_some]
 rw [if_pos (by simpa using h)]
 simp
theorem laws_toIntS_l : ∀ (k i : Nat) (l acc : List Int),l.length ≤ 4611686018427387904 → acc.length = l.length → i ≤ l.length → l.length < i + k → (∀ j,j < i → acc[j]? = l[j]?) → laws_toIntS.l0 k l acc (i : Int) = some l
|0,i,l,acc,_,_,_,hk,_=>by omega
|k + 1,i,l,acc,hn,hl,hi,hk,hj=>by
  simp only [laws_toIntS.l0]
  by_cases h : i < l.length
  ·rw [if_pos (by omega),if_pos (by omega),if_pos (by omega),rd_nat l i h,w64_nat (by omega)]
   refine laws_toIntS_l k (i + 1) l _ hn (by simp [hl]) (by omega) (by omega) fun j hj'=>?_
   rw [List.getElem?_set]
   by_cases e : i = j
   ·subst e
    simp [h,hl]
   ·simp only [Int.toNat_natCast]
    rw [if_neg e]
    exact hj j (by omega)
  ·rw [if_neg (by omega)]
   congr 1
   refine List.ext_getElem? fun j=>?_
   by_cases e : j < i
   ·exact hj j e
   ·rw [List.getElem?_eq_none (by omega),List.getElem?_eq_none (by omega)]
theorem laws_toIntS_is (k : Nat) (l : List Int) (hn : l.length ≤ 35184372088832) (hk : l.length < k) : laws_toIntS.f k l = some l:=by
 unfold laws_toIntS.f
 rw [if_pos (by omega),if_pos (by omega)]
 exact laws_toIntS_l k 0 l _ (by omega) (by simp) (by omega) (by omega) fun j hj=>by omega
theorem laws_toIntSS_l : ∀ (k i : Nat) (l acc : List (List Int)),l.length ≤ 1048576 → (∀ r ∈ l,r.length ≤ 1048576) → acc.length = l.length → i ≤ l.length → l.length + 1048576 < i + k → (∀ j,j < i → acc[j]? = l[j]?) → laws_toIntSS.l0 k l acc (i : Int) = some l
|0,i,l,acc,_,_,_,_,hk,_=>by omega
|k + 1,i,l,acc,hn,hr,hl,hi,hk,hj=>by
  simp only [laws_toIntSS.l0]
  by_cases h : i < l.length
  ·have e : rd_L1 l (i : Int) = l[i]:=by simp [rd_L1,h]
   have hx:=hr l[i] (List.getElem_mem h)
   rw [if_pos (by omega),if_pos (by omega),e,laws_toIntS_is k l[i] (by omega) (by omega)]
   simp only [Option.bind_some]
   rw [if_pos (by omega),w64_nat (by omega)]
   refine laws_toIntSS_l k (i + 1) l _ hn hr (by simp [hl]) (by omega) (by omega) fun j hj'=>?_
   rw [List.getElem?_set]
   by_cases e : i = j
   ·subst e
    simp [h,hl]
   ·simp only [Int.toNat_natCast]
    rw [if_neg e]
    exact hj j (by omega)
  ·rw [if_neg (by omega)]
   congr 1
   refine List.ext_getElem? fun j=>?_
   by_cases e : j < i
   ·exact hj j e
   ·rw [List.getElem?_eq_none (by omega),List.getElem?_eq_none (by omega)]
theorem laws_toIntSS_is (k : Nat) (l : List (List Int)) (hn : l.length ≤ 1048576) (hr : ∀ r ∈ l,r.length ≤ 1048576) (hk : 2097152 < k) : laws_toIntSS.f k l = some l:=by
 unfold laws_toIntSS.f
 rw [if_pos (by omega),if_pos (by omega)]
 exact laws_toIntSS_l k 0 l _ hn hr (by simp) (by omega) (by omega) fun j hj=>by omega
theorem impl_within_is (a lo hi : Int) : impl_within.f a lo hi = some (inB lo hi a):=by
 unfold impl_within.f
 exact within_is a lo hi
theorem impl_allWithin_l : ∀ (k i : Nat) (l : List Int) (lo hi : Int),l.length ≤ 4611686018427387904 → i ≤ l.length → l.length < i + k → impl_allWithin.l0 k lo hi l (l.length : Int) (i : Int) = some ((l.drop i).all (inB lo hi))
|0,_,_,_,_,_,_,hk=>by omega
|k + 1,i,l,lo,hi,hn,hi',hk=>by
  simp only [impl_allWithin.l0]
  by_cases h : i < l.length
  ·rw [if_pos (by omega),if_pos (by omega),if_pos (by omega),impl_within_is,rd_nat l i h,w64_nat (by omega),List.drop_eq_getElem_cons h,List.all_cons,impl_allWithin_l k (i + 1) l lo hi hn (by omega) (by omega)]
   simp only [Option.bind_some]
   by_cases e : inB lo hi l[i] = true
   ·rw [if_pos e,e]
    simp
   ·rw [if_neg e]
    simp [e]
  ·rw [if_neg (by omega),List.drop_of_length_le (by omega)]
   simp
theorem impl_allWithin_is (k : Nat) (l : List Int) (lo hi : Int) (hn : l.length ≤ 4611686018427387904) (hk : l.length < k) : impl_allWithin.f k l lo hi = some (l.all (inB lo hi)):=by
 unfold impl_allWithin.f
 have:=impl_allWithin_l k 0 l lo hi hn (by omega) (by omega)
 simpa using this
theorem impl_IsPoint_is (k : Nat) (l : List Int) (hn : l.length ≤ 4611686018427387904) (hk : l.length < k) : impl_IsPoint.f k l = some (ptB l):=by
 unfold impl_IsPoint.f ptB
 rw [impl_within_is,impl_allWithin_is k l (-9) 9 hn hk]
 simp only [Option.bind_some]
 cases inB 1 4 (l.length : Int) <;> simp
theorem impl_isLabel_is (a : Int) : impl_isLabel.f a = some (lbB a):=by
 unfold impl_isLabel.f lbB
 by_cases e1 : a = 1
 ·rw [if_pos e1]
  simp [e1]
 ·rw [if_neg e1]
  congr 1
  by_cases e2 : a = -1
  ·simp [e2]
  ·simp [e1,e2]
theorem impl_IsSample_l (k0 : Nat) (hk0 : 1048576 < k0) : ∀ (k i : Nat) (l : List (List Int)) (m : List Int),l.length ≤ 16 → m.length = l.length → (∀ r ∈ l,r.length ≤ 1048576) → i ≤ l.length → l.length < i + k → impl_IsSample.l0 (k + k0) l (l.length : Int) (i : Int) l m = some ((m.drop i).all lbB && (l.drop i).all fun x=>ptB x && decide (x.length = (l.headD []).length))
|0,i,l,m,_,_,_,_,hk=>by omega
|k + 1,i,l,m,hn,hm,hr,hi,hk=>by
  rw [show k + 1 + k0 = (k + k0) + 1 by omega]
  simp only [impl_IsSample.l0]
  by_cases h : i < l.length
  ·have h' : i < m.length:=by omega
   have e : rd_L1 l (i : Int) = l[i]:=by simp [rd_L1,h]
   have e0 : rd_L1 l 0 = l.headD []:=by cases l <;> simp [rd_L1]
   have hx:=hr l[i] (List.getElem_mem h)
   rw [if_pos (by omega),if_pos (by omega),if_pos (by omega),e,impl_IsPoint_is (k + k0) l[i] (by omega) (by omega),e0]
   simp only [Option.bind_some]
   rw [List.drop_eq_getElem_cons h,List.all_cons,List.drop_eq_getElem_cons h',List.all_cons]
   by_cases c1 : ptB l[i] = true
   ·rw [if_pos c1,if_pos (by omega),c1,Bool.true_and]
    by_cases c2 : l[i].length = (l.headD []).length
    ·rw [if_pos (by omega),if_pos (by omega),impl_isLabel_is,rd_nat m i h',w64_nat (by omega),impl_IsSample_l k0 hk0 k (i + 1) l m hn hm hr (by omega) (by omega)]
     simp only [Option.bind_some]
     by_cases c3 : lbB m[i] = true
     ·rw [if_pos c3,c3]
      simp [c2]
     ·rw [if_neg c3]
      simp [c3]
    ·rw [if_neg (by omega)]
     simp only [c2,decide_false,Bool.false_and,Bool.and_false]
   ·rw [if_neg c1]
    simp [c1]
  ·rw [if_neg (by omega),List.drop_of_length_le (by omega),List.drop_of_length_le (by omega)]
   simp
theorem impl_IsSample_is (k : Nat) (l : List (List Int)) (m : List Int) (hr : ∀ r ∈ l,r.length ≤ 1048576) (hm : m.length ≤ 1048576) (hk : 1048600 < k) : impl_IsSample.f k l m = some (smB l m):=by
 obtain ⟨k,rfl⟩ : ∃ q,k = q + 1:=⟨k - 1,by omega⟩
 unfold impl_IsSample.f smB
 by_cases c1 : l.length ≤ 16
 ·rw [if_neg (by omega)]
  simp only [impl_IsSample.j0]
  by_cases c2 : m.length = l.length
  ·rw [if_neg (by simp [c2])]
   have:=impl_IsSample_l (k - 17) (by omega) 17 0 l m c1 c2 hr (by omega) (by omega)
   rw [show 17 + (k - 17) = k by omega] at this
   rw [show ((0 : Nat) : Int) = 0 from rfl] at this
   rw [this]
   simp [c1,c2]
  ·rw [if_pos (by simp;omega)]
   simp [c2]
 ·rw [if_pos (by omega)]
  simp [impl_IsSample.j0,c1]
theorem laws_eqIntS_l : ∀ (k i : Nat) (l r : List Int),l.length ≤ 4611686018427387904 → r.length = l.length → i ≤ l.length → l.length < i + k → laws_eqIntS.l0 k l r (i : Int) = some (decide (l.drop i = r.drop i))
|0,i,l,r,_,_,_,hk=>by omega
|k + 1,i,l,r,hn,hl,hi,hk=>by
  simp only [laws_eqIntS.l0]
  by_cases h : i < l.length
  ·rw [if_pos (by omega),if_pos (by omega),if_pos (by omega),rd_nat l i h,rd_nat r i (by omega),w64_nat (by omega),laws_eqIntS_l k (i + 1) l r hn hl (by omega) (by omega),List.drop_eq_getElem_cons h,List.drop_eq_getElem_cons (show i < r.length by omega)]
   by_cases e : l[i] = r[i]'(by omega)
   ·rw [if_pos e,e]
    simp only [List.cons.injEq,true_and]
   ·rw [if_neg e]
    simp only [List.cons.injEq,e,false_and,decide_false]
  ·rw [if_neg (by omega),List.drop_of_length_le (by omega),List.drop_of_length_le (by omega)]
   simp
theorem laws_eqIntS_is (k : Nat) (l r : List Int) (hn : l.length ≤ 4611686018427387904) (hk : l.length < k) : laws_eqIntS.f k l r = some (decide (l = r)):=by
 unfold laws_eqIntS.f
 by_cases h : l.length = r.length
 ·rw [if_pos (by omega)]
  have:=laws_eqIntS_l k 0 l r hn (by omega) (by omega) (by omega)
  simpa using this
 ·rw [if_neg (by omega)]
  have : l ≠ r:=fun e=>h (by rw [e])
  simp [this]
theorem laws_eqIntS_same (k : Nat) (l : List Int) (hn : l.length ≤ 4611686018427387904) (hk : l.length < k) : laws_eqIntS.f k l l = some true:=by
 rw [laws_eqIntS_is k l l hn hk]
 simp
theorem laws_eqIntSS_l : ∀ (k i : Nat) (l : List (List Int)),l.length ≤ 1048576 → (∀ r ∈ l,r.length ≤ 1048576) → i ≤ l.length → l.length + 1048576 < i + k → laws_eqIntSS.l0 k l l (i : Int) = some true
|0,i,l,_,_,_,hk=>by omega
|k + 1,i,l,hn,hr,hi,hk=>by
  simp only [laws_eqIntSS.l0]
  by_cases h : i < l.length
  ·have e : rd_L1 l (i : Int) = l[i]:=by simp [rd_L1,h]
   have hx:=hr l[i] (List.getElem_mem h)
   rw [if_pos (by omega),if_pos (by omega),if_pos (by omega),e,laws_eqIntS_same k l[i] (by omega) (by omega)]
   simp only [Option.bind_some,if_true]
   rw [w64_nat (by omega)]
   exact laws_eqIntSS_l k (i + 1) l hn hr (by omega) (by omega)
  ·rw [if_neg (by omega)]
theorem laws_eqIntSS_same (k : Nat) (l : List (List Int)) (hn : l.length ≤ 1048576) (hr : ∀ r ∈ l,r.length ≤ 1048576) (hk : 2097152 < k) : laws_eqIntSS.f k l l = some true:=by
 unfold laws_eqIntSS.f
 rw [if_pos rfl]
 exact laws_eqIntSS_l k 0 l hn hr (by omega) (by omega)
theorem ev_of {α : Type} {g : Nat → Option α} {r : α} (B : Nat) (h : ∀ k,B < k → g k = some r) : Ev g r:=⟨B + 1,fun k hk=>h k (by omega)⟩
theorem ev_const {α : Type} (r : α) : Ev (fun _=>some r) r:=Ev.now r
theorem ev_if_pos {α : Type} {c : Prop} [Decidable c] {f g : Nat → Option α} {r : α} (h : c) (k : Ev f r) : Ev (fun n=>if c then f n else g n) r:=Ev.congr (fun n=>if_pos h) k
theorem ev_if_neg {α : Type} {c : Prop} [Decidable c] {f g : Nat → Option α} {r : α} (h : ¬ c) (k : Ev g r) : Ev (fun n=>if c then f n else g n) r:=Ev.congr (fun n=>if_neg h) k
def vf (l : List Int) (k : Nat) : Int:=l.getD k 0
theorem rd_vf (l : List Int) (k : Nat) : rd l (k : Int) = vf l k:=by simp [rd,vf]
theorem vf_get (l : List Int) (k : Nat) (h : k < l.length) : vf l k = l[k]:=by simp [vf,h]
theorem vf_out (l : List Int) (k : Nat) (h : l.length ≤ k) : vf l k = 0:=by simp [vf,List.getD_eq_getElem?_getD,List.getElem?_eq_none h]
theorem vf_ext {a b : List Int} (hl : a.length = b.length) (h : ∀ k,k < a.length → vf a k = vf b k) : a = b:=by
 apply List.ext_getElem hl
 intro i h1 h2
 have:=h i h1
 rwa [vf_get a i h1,vf_get b i h2] at this
theorem vf_set (l : List Int) (i : Nat) (x : Int) (h : i < l.length) (k : Nat) : vf (l.set i x) k = if k = i then x else vf l k:=by
 by_cases e : k = i
 ·subst e
  rw [if_pos rfl,vf_get _ _ (by simpa using h)]
  simp
 ·rw [if_neg e]
  simp only [vf,List.getD_eq_getElem?_getD]
  rw [List.getElem?_set_ne (Ne.symm e)]
def smallV (n : Nat) (v : Nat → Int) : Prop:=∀ k,k < n → -4611686018427387904 ≤ v k ∧ v k ≤ 4611686018427387904
theorem gcdn_le {B : Nat} : ∀ {n : Nat} {v : Nat → Int},(∀ k,k < n → (v k).natAbs ≤ B) → gcdn n v ≤ B
|0,_,_=>Nat.zero_le _
|n + 1,v,h=>by
  have ih:=gcdn_le (n:=n) (v:=v) fun k hk=>h k (by omega)
  have h1:=h n (by omega)
  show Nat.gcd (gcdn n v) (v n).natAbs ≤ B
  rcases Nat.eq_zero_or_pos (v n).natAbs with z|z
  ·rw [z,Nat.gcd_zero_right]
   exact ih
  ·exact Nat.le_trans (Nat.gcd_le_right _ z) h1
theorem gcdn_small {n : Nat} {v : Nat → Int} (h : smallV n v) : gcdn n v ≤ 4611686018427387904:=gcdn_le fun k hk=>by have:=h k hk;omega
theorem div_l1 (l : List Int) (x7 x8 out : Int) : ∀ (N : Nat) (d n : Int),n.natAbs ≤ N → (∀ r : Int,r.natAbs = Nat.gcd d.natAbs n.natAbs → Ev (fun k=>impl_divisor.l0 k r l x7 (wrap64 (x8 + 1))) out) → Ev (fun k=>impl_divisor.l1 k d n l x7 x8) out
|0,d,n,hN,h=>by
  obtain rfl : n = 0:=by omega
  exact Ev.step (fun k=>by rw [impl_divisor.l1,if_pos rfl]) (h d (by simp))
|N + 1,d,n,hN,h=>by
  by_cases c : n = 0
  ·subst c
   exact Ev.step (fun k=>by rw [impl_divisor.l1,if_pos rfl]) (h d (by simp))
  ·refine Ev.step (fun k=>by rw [impl_divisor.l1,if_neg c]) (div_l1 l x7 x8 out N n (Int.tmod d n) ?_ fun r hr=>h r ?_)
   ·rw [Int.natAbs_tmod]
    have:=Nat.mod_lt d.natAbs (y:=n.natAbs) (by omega)
    omega
   ·rw [hr,Int.natAbs_tmod,Nat.gcd_comm d.natAbs,Nat.gcd_rec n.natAbs d.natAbs,Nat.gcd_comm]
theorem impl_divisor_l (l : List Int) (hl : l.length ≤ 1000000) (hs : smallV l.length (vf l)) : ∀ (j i : Nat) (d : Int),i + j = l.length → d.natAbs = gcdn i (vf l) → Ev (fun k=>impl_divisor.l0 k d l (l.length : Int) (i : Int)) (gcdn l.length (vf l) : Int)
|0,i,d,hj,hd=>by
  obtain rfl : i = l.length:=by omega
  have:=gcdn_small hs
  refine Ev.step (f:=fun _=>some (gcdn l.length (vf l) : Int)) (fun k=>?_) (ev_const _)
  rw [impl_divisor.l0,if_neg (by omega),w64 (by omega) (by omega)]
  congr 1
  unfold mx
  split <;> omega
|j + 1,i,d,hj,hd=>by
  refine Ev.step (fun k=>by rw [impl_divisor.l0,if_pos (by omega),if_pos (by omega),if_pos (by omega),rd_vf]) (div_l1 l _ _ _ (vf l i).natAbs d (vf l i) (Nat.le_refl _) fun r hr=>?_)
  rw [w64_nat (by omega)]
  exact impl_divisor_l l hl hs j (i + 1) r (by omega) (by rw [hr,hd];rfl)
theorem impl_divisor_ev (l : List Int) (hl : l.length ≤ 1000000) (hs : smallV l.length (vf l)) : Ev (fun k=>impl_divisor.f k l) (gcdn l.length (vf l) : Int) :=
 impl_divisor_l l hl hs l.length 0 0 (by omega) rfl
def shL (l : List Int) : List Int:=if 1 < gcdn l.length (vf l) then l.map fun x=>Int.tdiv x (gcdn l.length (vf l) : Int) else l
theorem shL_length (l : List Int) : (shL l).length = l.length:=by unfold shL;split <;> simp
theorem shL_vf (l : List Int) (k : Nat) : vf (shL l) k = divn l.length (vf l) k:=by
 unfold shL divn
 by_cases c : 1 < gcdn l.length (vf l)
 ·rw [if_pos c,if_pos c]
  by_cases hk : k < l.length
  ·rw [vf_get _ _ (by simpa using hk)]
   have hd:=gcdn_dvd l.length (vf l) k hk
   rw [vf_get l k hk] at hd ⊢
   simp only [List.getElem_map]
   exact Int.tdiv_eq_ediv_of_dvd hd
  ·rw [vf_out _ _ (by simp;omega),vf_out l k (by omega),Int.zero_ediv]
 ·rw [if_neg c,if_neg c]
theorem tdiv_small {x : Int} {g : Nat} (h : -4611686018427387904 ≤ x ∧ x ≤ 4611686018427387904) : -4611686018427387904 ≤ Int.tdiv x (g : Int) ∧ Int.tdiv x (g : Int) ≤ 4611686018427387904:=by
 have h1 : (Int.tdiv x (g : Int)).natAbs = x.natAbs / g:=by rw [Int.natAbs_tdiv,Int.natAbs_natCast];rfl
 have h2 : x.natAbs / g ≤ x.natAbs:=Nat.div_le_self _ _
 omega
theorem impl_shortened_l (l : List Int) (g : Nat) (hg : 1 < g) (hl : l.length ≤ 1000000) (hs : smallV l.length (vf l)) : ∀ (j i : Nat) (x0 : List Int),i + j = l.length → x0.length = l.length → (∀ k,vf x0 k = if k < i then Int.tdiv (vf l k) (g : Int) else vf l k) → Ev (fun k=>impl_shortened.l0 k x0 (g : Int) (l.length : Int) (i : Int)) (l.map fun x=>Int.tdiv x (g : Int))
|0,i,x0,hj,hx,hv=>by
  obtain rfl : i = l.length:=by omega
  refine Ev.step (f:=fun _=>some (l.map fun x=>Int.tdiv x (g : Int))) (fun k=>?_) (ev_const _)
  rw [impl_shortened.l0,if_neg (by omega)]
  congr 1
  apply vf_ext (by simpa using hx)
  intro k hk
  rw [hv k,if_pos (by omega),vf_get (l.map fun x=>Int.tdiv x (g : Int)) k (by rw [List.length_map];omega),vf_get l k (by omega)]
  simp
|j + 1,i,x0,hj,hx,hv=>by
  have e:=hv i
  rw [if_neg (by omega)] at e
  have h1:=tdiv_small (g:=g) (hs i (by omega))
  refine Ev.step (fun k=>by rw [impl_shortened.l0,if_pos (by omega),if_pos (by omega),if_pos (by omega),if_neg (by omega),rd_vf,e,w64 (by omega) (by omega),w64_nat (by omega),Int.toNat_natCast]) (impl_shortened_l l g hg hl hs j (i + 1) (x0.set i (Int.tdiv (vf l i) (g : Int))) (by omega) (by simpa using hx) fun k=>?_)
  rw [vf_set _ _ _ (by omega),hv k]
  by_cases c : k = i
  ·subst c
   rw [if_pos rfl,if_pos (by omega)]
  ·rw [if_neg c]
   by_cases d : k < i
   ·rw [if_pos d,if_pos (by omega)]
   ·rw [if_neg d,if_neg (by omega)]
theorem impl_shortened_ev (l : List Int) (hl : l.length ≤ 1000000) (hs : smallV l.length (vf l)) : Ev (fun k=>impl_shortened.f k l) (shL l):=by
 unfold impl_shortened.f
 refine Ev.bind (impl_divisor_ev l hl hs) ?_
 unfold shL
 by_cases c : 1 < gcdn l.length (vf l)
 ·rw [if_pos c]
  refine ev_if_pos (by omega) ?_
  have:=impl_shortened_l l (gcdn l.length (vf l)) c hl hs l.length 0 l (by omega) rfl (fun k=>by rw [if_neg (by omega)])
  exact this
 ·rw [if_neg c]
  exact ev_if_neg (by omega) (ev_const _)
theorem l2Gcd_ev : ∀ (N : Nat) (a b : Int),0 ≤ a → 0 ≤ b → b.natAbs ≤ N → Ev (fun k=>spec_l2Gcd.l0 k a b) (Nat.gcd a.natAbs b.natAbs : Int)
|0,a,b,ha,hb,hN=>by
  obtain rfl : b = 0:=by omega
  refine Ev.step (f:=fun _=>some (Nat.gcd a.natAbs (Int.natAbs 0) : Int)) (fun k=>?_) (ev_const _)
  rw [spec_l2Gcd.l0,if_neg (by omega)]
  congr 1
  simp
  omega
|N + 1,a,b,ha,hb,hN=>by
  by_cases c : b = 0
  ·subst c
   refine Ev.step (f:=fun _=>some (Nat.gcd a.natAbs (Int.natAbs 0) : Int)) (fun k=>?_) (ev_const _)
   rw [spec_l2Gcd.l0,if_neg (by omega)]
   congr 1
   simp
   omega
  ·have h1:=Int.natAbs_tmod a b
   have h2:=Nat.mod_lt a.natAbs (y:=b.natAbs) (by omega)
   have h3 : 0 ≤ Int.tmod a b:=Int.tmod_nonneg b ha
   have ih:=l2Gcd_ev N b (Int.tmod a b) hb h3 (by omega)
   rw [h1,show Nat.gcd b.natAbs (a.natAbs % b.natAbs) = Nat.gcd a.natAbs b.natAbs by rw [Nat.gcd_comm a.natAbs,Nat.gcd_rec b.natAbs a.natAbs,Nat.gcd_comm]] at ih
   exact Ev.step (fun k=>by rw [spec_l2Gcd.l0,if_pos (by omega),if_neg c]) ih
theorem spec_l2Gcd_ev (a b : Int) (ha : 0 ≤ a) (hb : 0 ≤ b) : Ev (fun k=>spec_l2Gcd.f k a b) (Nat.gcd a.natAbs b.natAbs : Int):=l2Gcd_ev b.natAbs a b ha hb (Nat.le_refl _)
theorem l1Most_abs (x : Int) (h : -4611686018427387904 ≤ x ∧ x ≤ 4611686018427387904) : spec_l1Most.f x (wrap64 (-x)) = some (x.natAbs : Int):=by
 rw [w64 (by omega) (by omega)]
 unfold spec_l1Most.f
 split
 ·congr 1
  omega
 ·congr 1
  omega
theorem spec_l4Divided_l1 (l : List Int) (g : Nat) (hg : 1 < g) (hl : l.length ≤ 1000000) (hs : smallV l.length (vf l)) : ∀ (j i : Nat) (x0 : List Int),i + j = l.length → x0.length = l.length → (∀ k,vf x0 k = if k < i then Int.tdiv (vf l k) (g : Int) else vf l k) → Ev (fun k=>spec_l4Divided.l1 k (g : Int) x0 (i : Int)) (l.map fun x=>Int.tdiv x (g : Int))
|0,i,x0,hj,hx,hv=>by
  obtain rfl : i = l.length:=by omega
  refine Ev.step (f:=fun _=>some (l.map fun x=>Int.tdiv x (g : Int))) (fun k=>?_) (ev_const _)
  rw [spec_l4Divided.l1,if_neg (by omega)]
  congr 1
  apply vf_ext (by simpa using hx)
  intro k hk
  rw [hv k,if_pos (by omega),vf_get (l.map fun x=>Int.tdiv x (g : Int)) k (by rw [List.length_map];omega),vf_get l k (by omega)]
  simp
|j + 1,i,x0,hj,hx,hv=>by
  have e:=hv i
  rw [if_neg (by omega)] at e
  have h1:=tdiv_small (g:=g) (hs i (by omega))
  refine Ev.step (fun k=>by rw [spec_l4Divided.l1,if_pos (by omega),if_pos (by omega),if_pos (by omega),if_neg (by omega),rd_vf,e,w64 (by omega) (by omega),w64_nat (by omega),Int.toNat_natCast]) (spec_l4Divided_l1 l g hg hl hs j (i + 1) (x0.set i (Int.tdiv (vf l i) (g : Int))) (by omega) (by simpa using hx) fun k=>?_)
  rw [vf_set _ _ _ (by omega),hv k]
  by_cases c : k = i
  ·subst c
   rw [if_pos rfl,if_pos (by omega)]
  ·rw [if_neg c]
   by_cases d : k < i
   ·rw [if_pos d,if_pos (by omega)]
   ·rw [if_neg d,if_neg (by omega)]
theorem spec_l4Divided_l0 (l : List Int) (hl : l.length ≤ 1000000) (hs : smallV l.length (vf l)) : ∀ (j i : Nat),i + j = l.length → Ev (fun k=>spec_l4Divided.l0 k l (gcdn i (vf l) : Int) (i : Int)) (shL l)
|0,i,hj=>by
  obtain rfl : i = l.length:=by omega
  refine Ev.step (f:=fun k=>spec_l4Divided.l1 k (gcdn l.length (vf l) : Int) l 0) (fun k=>?_) ?_
  ·rw [spec_l4Divided.l0,if_neg (by omega),spec_l1Own_is l (by omega)]
   rfl
  ·unfold shL
   by_cases c : 1 < gcdn l.length (vf l)
   ·rw [if_pos c]
    have:=spec_l4Divided_l1 l (gcdn l.length (vf l)) c hl hs l.length 0 l (by omega) rfl (fun k=>by rw [if_neg (by omega)])
    exact this
   ·rw [if_neg c]
    refine Ev.step (f:=fun _=>some l) (fun k=>?_) (ev_const _)
    rw [spec_l4Divided.l1]
    split
    ·rw [if_neg (by omega)]
    ·rfl
|j + 1,i,hj=>by
  have ih:=spec_l4Divided_l0 l hl hs j (i + 1) (by omega)
  have hi:=hs i (by omega)
  by_cases z : vf l i = 0
  ·have e : gcdn (i + 1) (vf l) = gcdn i (vf l):=by
    show Nat.gcd (gcdn i (vf l)) (vf l i).natAbs = _
    rw [z]
    simp
   rw [e] at ih
   exact Ev.step (fun k=>by rw [spec_l4Divided.l0,if_pos (by omega),if_pos (by omega),rd_vf,if_pos z,w64_nat (by omega)]) ih
  ·refine Ev.step (f:=fun k=>(spec_l2Gcd.f k ((vf l i).natAbs : Int) (gcdn i (vf l) : Int)).bind fun t=>spec_l4Divided.l0 k l t (wrap64 (i + 1))) (fun k=>by rw [spec_l4Divided.l0,if_pos (by omega),if_pos (by omega),rd_vf,if_neg z,l1Most_abs _ hi];simp only [Option.bind_some]) (Ev.bind (spec_l2Gcd_ev _ _ (by omega) (by omega)) ?_)
   rw [w64_nat (by omega)]
   have e : Nat.gcd ((vf l i).natAbs : Int).natAbs (gcdn i (vf l) : Int).natAbs = gcdn (i + 1) (vf l):=by
    rw [Int.natAbs_natCast,Int.natAbs_natCast,Nat.gcd_comm]
    rfl
   rw [e]
   exact ih
theorem spec_l4Divided_ev (l : List Int) (hl : l.length ≤ 1000000) (hs : smallV l.length (vf l)) : Ev (fun k=>spec_l4Divided.f k l) (shL l):=by
 unfold spec_l4Divided.f
 exact spec_l4Divided_l0 l hl hs l.length 0 (by omega)
theorem keeps64 : Keeps wrap64:=fun x h1 h2=>w64 h1 h2
theorem rdL_nat (o : List (List Int)) (i : Nat) : rd_L1 o (i : Int) = o.getD i []:=by simp [rd_L1]
structure Rep (m n : Nat) (o : List (List Int)) (M : Nat → Nat → Int) : Prop where
 len : o.length = m
 row : ∀ i,i < m → (o.getD i []).length = n ∧ vf (o.getD i []) = M i
theorem getD_set {o : List (List Int)} {i : Nat} (x : List Int) (h : i < o.length) (k : Nat) : (o.set i x).getD k [] = if k = i then x else o.getD k []:=by
 simp only [List.getD_eq_getElem?_getD]
 by_cases e : k = i
 ·subst e
  rw [if_pos rfl,List.getElem?_set_self h]
  rfl
 ·rw [if_neg e,List.getElem?_set_ne (Ne.symm e)]
theorem wz : wrap64 0 = 0:=w64 (by omega) (by omega)
theorem newRow_out (P : Nat → Nat → Int) (r c i k : Nat) (h1 : P i k = 0) (h2 : P r k = 0) : Lin.newRow wrap64 P r c i k = 0:=by
 unfold Lin.newRow
 rw [h1,h2,Int.zero_mul,Int.zero_mul,wz]
 exact wz
def nrL (n : Nat) (v : Nat → Int) : List Int:=(List.range n).map v
theorem nrL_length (n : Nat) (v : Nat → Int) : (nrL n v).length = n:=by simp [nrL]
theorem nrL_vf (n : Nat) (v : Nat → Int) (hz : ∀ k,n ≤ k → v k = 0) : vf (nrL n v) = v:=by
 funext k
 by_cases h : k < n
 ·rw [vf_get _ _ (by rw [nrL_length];exact h)]
  simp [nrL]
 ·rw [vf_out _ _ (by rw [nrL_length];omega),hz k (by omega)]
theorem shL_fun (l : List Int) : vf (shL l) = divn l.length (vf l):=funext (shL_vf l)
section
variable {m n r c : Nat} {P : Nat → Nat → Int} {out : List Int × List (List Int)} {p : List Int}
theorem red_l3 (hn : n ≤ 1000000) (hp : p.length = r) {o0 : List (List Int)} {i : Nat} (ho : o0.length = m) (hi : i < m) (hr : r < m) (hir : i ≠ r) (hri : (o0.getD i []).length = n ∧ vf (o0.getD i []) = P i) (hrr : (o0.getD r []).length = n ∧ vf (o0.getD r []) = P r) (hz : ∀ k,n ≤ k → P i k = 0 ∧ P r k = 0) (hm : m ≤ 1000000) (nn : Int)
  (h : Ev (fun k=>(impl_shortened.f k (nrL n (Lin.newRow wrap64 P r c i))).bind fun t=>impl_reduced.l2 k m (o0.set i t) p nn (c : Int) (wrap64 ((i : Int) + 1))) out) :
  ∀ (d j : Nat) (x : List Int),j + d = n → x.length = n → (∀ k,vf x k = if k < j then Lin.newRow wrap64 P r c i k else P i k) → Ev (fun k=>impl_reduced.l3 k m (o0.set i x) p nn (c : Int) (i : Int) (P r c) (P i c) n (j : Int)) out
|0,j,x,hj,hx,hv=>by
  obtain rfl : j = n:=by omega
  have e : x = nrL j (Lin.newRow wrap64 P r c i):=by
   apply vf_ext (by rw [nrL_length,hx])
   intro k hk
   rw [nrL_vf _ _ fun k hk=>newRow_out P r c i k (hz k hk).1 (hz k hk).2,hv k,if_pos (by omega)]
  refine Ev.step (fun k=>?_) h
  rw [impl_reduced.l3,if_neg (by omega),rdL_nat,getD_set x (by omega),if_pos rfl,e]
  simp only [Int.toNat_natCast,List.set_set]
|d + 1,j,x,hj,hx,hv=>by
  have e1 : (o0.set i x).getD i [] = x:=by rw [getD_set x (by omega),if_pos rfl]
  have e2 : (o0.set i x).getD r [] = o0.getD r []:=by rw [getD_set x (by omega),if_neg (Ne.symm hir)]
  have e3:=hv j
  rw [if_neg (by omega)] at e3
  refine Ev.step (fun k=>?_) (red_l3 hn hp ho hi hr hir hri hrr hz hm nn h d (j + 1) (x.set j (Lin.newRow wrap64 P r c i j)) (by omega) (by simpa using hx) fun k=>?_)
  ·rw [impl_reduced.l3,if_pos (by omega),if_pos (by omega),hp,rdL_nat,rdL_nat,e1,e2,if_pos (by omega),if_pos (by omega),rd_vf,rd_vf,e3,hrr.2,Int.toNat_natCast,Int.toNat_natCast,List.set_set,w64_nat (by omega)]
   unfold Lin.newRow
   rw [Int.mul_comm (P r c),Int.mul_comm (P i c)]
  ·rw [vf_set _ _ _ (by omega),hv k]
   by_cases c1 : k = j
   ·subst c1
    rw [if_pos rfl,if_pos (by omega)]
   ·rw [if_neg c1]
    by_cases c2 : k < j
    ·rw [if_pos c2,if_pos (by omega)]
    ·rw [if_neg c2,if_neg (by omega)]
theorem red_l2 (hn : n ≤ 1000000) (hp : p.length = r) (hr : r < m) (hc : c < n) (hm : m ≤ 1000000) (hz : ∀ i,i < m → ∀ k,n ≤ k → P i k = 0) (hs : ∀ i,i < m → ∀ k,-184528125 ≤ P i k ∧ P i k ≤ 184528125) (nn : Int)
  (h : ∀ o',Rep m n o' (colS wrap64 n m r c P) → Ev (fun k=>impl_reduced.l0 k m o' (p ++ [(c : Int)]) nn (wrap64 ((c : Int) + 1))) out) :
  ∀ (d i : Nat) (o : List (List Int)),i + d = m → Rep m n o (fun j=>if j < i then colS wrap64 n m r c P j else P j) → Ev (fun k=>impl_reduced.l2 k m o p nn (c : Int) (i : Int)) out
|0,i,o,hd,hv=>by
  obtain rfl : i = m:=by omega
  refine Ev.step (fun k=>?_) (h o ⟨hv.len,fun j hj=>by have:=hv.row j hj;rwa [if_pos hj] at this⟩)
  rw [impl_reduced.l2,if_neg (by omega),if_pos (by omega)]
|d + 1,i,o,hd,hv=>by
  have hri:=hv.row i (by omega)
  rw [if_neg (by omega)] at hri
  have hrr : (o.getD r []).length = n ∧ vf (o.getD r []) = P r:=by
   have:=hv.row r hr
   by_cases q : r < i
   ·rw [if_pos q] at this
    unfold colS at this
    rwa [if_neg (by omega)] at this
   ·rwa [if_neg q] at this
  have next : ∀ o2 : List (List Int),o2.length = m → (∀ j,j < m → j ≠ i → o2.getD j [] = o.getD j []) → ((o2.getD i []).length = n ∧ vf (o2.getD i []) = colS wrap64 n m r c P i) → Rep m n o2 (fun j=>if j < i + 1 then colS wrap64 n m r c P j else P j):=fun o2 h1 h2 h3 =>
   ⟨h1,fun j hj=>by
    by_cases q : j = i
    ·subst q
     rw [if_pos (by omega)]
     exact h3
    ·rw [h2 j hj q]
     have:=hv.row j hj
     by_cases q2 : j < i
     ·rw [if_pos q2] at this
      rwa [if_pos (by omega)]
     ·rw [if_neg q2] at this
      rwa [if_neg (by omega)]⟩
  by_cases e : i = r
  ·refine Ev.step (fun k=>?_) (red_l2 hn hp hr hc hm hz hs nn h d (i + 1) o (by omega) (next o hv.len (fun _ _ _=>rfl) ?_))
   ·rw [impl_reduced.l2,if_pos (by omega),if_pos (by omega),if_pos (by omega),w64_nat (by omega)]
   ·unfold colS
    rw [if_neg (by omega)]
    exact hri
  ·by_cases z : P i c = 0
   ·refine Ev.step (fun k=>?_) (red_l2 hn hp hr hc hm hz hs nn h d (i + 1) o (by omega) (next o hv.len (fun _ _ _=>rfl) ?_))
    ·rw [impl_reduced.l2,if_pos (by omega),if_pos (by omega),if_neg (by omega),if_pos (by omega),rdL_nat,if_pos (by omega),rd_vf,hri.2,if_pos z,w64_nat (by omega)]
    ·unfold colS
     rw [if_neg (by omega)]
     exact hri
   ·have hN : ∀ k,Lin.newRow wrap64 P r c i k = P r c * P i k - P i c * P r k ∧ -68101257834375001 ≤ P r c * P i k - P i c * P r k ∧ P r c * P i k - P i c * P r k ≤ 68101257834375001:=fun k=>by
     have:=newRow_told keeps64 (M:=P) (r:=r) (c:=c) (i:=i) (fun j k hj=>by rcases hj with rfl|rfl;exact hs _ hr k;exact hs _ (by omega) k) k
     exact ⟨this.1,by omega,by omega⟩
    have hzz : ∀ k,n ≤ k → P i k = 0 ∧ P r k = 0:=fun k hk=>⟨hz i (by omega) k hk,hz r hr k hk⟩
    have e1 : vf (nrL n (Lin.newRow wrap64 P r c i)) = Lin.newRow wrap64 P r c i:=nrL_vf _ _ fun k hk=>newRow_out P r c i k (hzz k hk).1 (hzz k hk).2
    have sh:=impl_shortened_ev (nrL n (Lin.newRow wrap64 P r c i)) (by rw [nrL_length];exact hn) (fun k hk=>by rw [e1];have:=hN k;omega)
    have go:=red_l3 (out:=out) (c:=c) hn hp hv.len (show i < m by omega) hr e hri hrr hzz hm nn ?_ n 0 (o.getD i []) (by omega) hri.1 (fun k=>by rw [if_neg (by omega),hri.2])
    ·refine Ev.step (fun k=>?_) go
     have es : o.set i (o.getD i []) = o:=by
      have hlt : i < o.length:=by have:=hv.len;omega
      rw [List.getD_eq_getElem?_getD,List.getElem?_eq_getElem hlt]
      simp
     rw [es,impl_reduced.l2,if_pos (by omega),if_pos (by omega),if_neg (by omega),if_pos (by omega),hp,rdL_nat,rdL_nat,if_pos (by omega),rd_vf,rd_vf,hri.2,hrr.2,if_neg z,if_pos (by omega),if_pos (by omega),hri.1]
     rfl
    ·refine Ev.bind sh ?_
     rw [w64_nat (by omega)]
     refine red_l2 hn hp hr hc hm hz hs nn h d (i + 1) _ (by omega) (next _ (by simpa using hv.len) (fun j _ hj=>?_) ?_)
     ·rw [getD_set _ (by have:=hv.len;omega),if_neg hj]
     ·rw [getD_set _ (by have:=hv.len;omega),if_pos rfl]
      refine ⟨by rw [shL_length,nrL_length],?_⟩
      rw [shL_fun,nrL_length,e1]
      unfold colS
      rw [if_pos ⟨by omega,e,z⟩]
end
theorem divn_abs (n : Nat) (v : Nat → Int) (B : Int) (k : Nat) (h : -B ≤ v k ∧ v k ≤ B) : -B ≤ divn n v k ∧ divn n v k ≤ B:=by
 unfold divn
 by_cases c : 1 < gcdn n v
 ·rw [if_pos c]
  by_cases hk : k < n
  ·have e : (gcdn n v : Int) * (v k / (gcdn n v : Int)) = v k:=Int.mul_ediv_cancel' (gcdn_dvd n v k hk)
   exact abs_le_mul (t:=(gcdn n v : Int)) (by omega) (by rw [e];exact h)
  ·have h1:=Int.natAbs_ediv_le_natAbs (v k) (gcdn n v : Int)
   have : (v k / (gcdn n v : Int)).natAbs ≤ (v k).natAbs:=h1
   omega
 ·rw [if_neg c]
  exact h
section
variable {m n c : Nat} {M : Nat → Nat → Int} {out : List Int × List (List Int)} {p : List Int} {o : List (List Int)}
theorem red_l1 (hv : Rep m n o M) (hc : c < n) (hm : m ≤ 1000000) (nn : Int)
  (hEnd : Ev (fun k=>impl_reduced.l0 k m o p nn (wrap64 ((c : Int) + 1))) out → True)
  (T : Nat) (h1 : T = m → Ev (fun k=>impl_reduced.l0 k m o p nn (wrap64 ((c : Int) + 1))) out)
  (h2 : T < m → p.length < m → Ev (fun k=>(impl_shortened.f k (o.getD T [])).bind fun t=>impl_reduced.l2 k m (((o.set p.length (o.getD T [])).set T (o.getD p.length [])).set p.length t) p nn (c : Int) 0) out) :
  ∀ (f a : Nat),a + f = m → p.length ≤ a → findAt M c m f a = T → Ev (fun k=>impl_reduced.l1 k m o p nn (c : Int) (a : Int)) out
|0,a,ha,hpa,hT=>by
  obtain rfl : a = m:=by omega
  have e : a = T:=hT
  refine Ev.step (fun k=>?_) (h1 e.symm)
  rw [impl_reduced.l1,if_neg (by omega),if_pos rfl]
|f + 1,a,ha,hpa,hT=>by
  have hr:=hv.row a (by omega)
  by_cases z : M a c = 0
  ·have e : findAt M c m (f + 1) a = findAt M c m f (a + 1):=by
    show (if a < m ∧ M a c = 0 then findAt M c m f (a + 1) else a) = _
    rw [if_pos ⟨by omega,z⟩]
   rw [e] at hT
   refine Ev.step (fun k=>?_) (red_l1 hv hc hm nn hEnd T h1 h2 f (a + 1) (by omega) (by omega) hT)
   rw [impl_reduced.l1,if_pos (by omega),if_pos (by omega),if_pos (by omega),rdL_nat,if_pos (by omega),rd_vf,hr.2,if_pos z,w64_nat (by omega)]
  ·have e : findAt M c m (f + 1) a = a:=by
    show (if a < m ∧ M a c = 0 then findAt M c m f (a + 1) else a) = _
    rw [if_neg (fun h=>z h.2)]
   rw [e] at hT
   subst hT
   refine Ev.step (fun k=>?_) (h2 (by omega) (by omega))
   rw [impl_reduced.l1,if_pos (by omega),if_pos (by omega),if_pos (by omega),rdL_nat,if_pos (by omega),rd_vf,hr.2,if_neg z,if_pos (by omega),rdL_nat,Int.toNat_natCast]
end
def ints (l : List Nat) : List Int:=l.map Int.ofNat
theorem ints_length (l : List Nat) : (ints l).length = l.length:=by simp [ints]
theorem ints_snoc (l : List Nat) (c : Nat) : ints l ++ [(c : Int)] = ints (l ++ [c]):=by simp [ints]
theorem impl_reduced_ev {m n : Nat} (hm : m ≤ 5) (hn : n ≤ 1000) {A : Nat → Nat → Int} : ∀ (k c : Nat) (M : Nat → Nat → Int) (piv : List Nat) (o : List (List Int)),c + k = n → Rep m n o M → Inv m n c A M piv →
  ∃ o',Rep m n o' (elim wrap64 true n m k c M piv).1 ∧ Ev (fun K=>impl_reduced.l0 K m o (ints piv) (n : Int) (c : Int)) (ints (elim wrap64 true n m k c M piv).2,o')
|0,c,M,piv,o,hc,hv,hi=>by
  obtain rfl : c = n:=by omega
  refine ⟨o,hv,Ev.step (f:=fun _=>some (ints piv,o)) (fun K=>?_) (ev_const _)⟩
  rw [impl_reduced.l0,if_neg (by omega)]
|k + 1,c,M,piv,o,hc,hv,hi=>by
  have hr : piv.length ≤ m:=hi.st.choose_spec.choose_spec.1.hr
  obtain ⟨f1,f2,f3,f4⟩:=findAt_told M c m (m - piv.length) piv.length (by omega)
  obtain ⟨T,hT⟩ : ∃ T,findAt M c m (m - piv.length) piv.length = T:=⟨_,rfl⟩
  rw [hT] at f1 f2 f3 f4
  rw [elim,hT]
  by_cases e : T = m
  ·rw [if_pos e]
   obtain ⟨o',h1,h2⟩:=impl_reduced_ev hm hn k (c + 1) M piv o (by omega) hv (hi.skip fun i h1 h2=>f3 i h1 (by omega))
   refine ⟨o',h1,Ev.step (fun K=>?_) (red_l1 hv (by omega) (by omega) (n : Int) (fun _=>trivial) T (fun _=>?_) (fun h=>by omega) (m - piv.length) piv.length (by omega) (by rw [ints_length];exact Nat.le_refl _) hT)⟩
   ·rw [impl_reduced.l0,if_pos (by omega),ints_length]
   ·rw [w64_nat (by omega)]
    exact h2
  ·rw [if_neg e]
   have hne:=f4 (by omega)
   have hin:=hi.next hm (by omega) keeps64 true f1 (by omega) hne
   obtain ⟨r,hrr⟩ : ∃ r,piv.length = r:=⟨_,rfl⟩
   rw [hrr] at f1 f3 hin hr hT ⊢
   have hlt : r < m:=by omega
   obtain ⟨P,hP⟩ : ∃ P,P = shortP true n r (sw r T M):=⟨_,rfl⟩
   rw [← hP] at hin ⊢
   have swT : sw r T M r = M T:=by unfold sw;rw [if_pos rfl]
   have Pr : P r = divn n (M T):=by rw [hP];unfold shortP;rw [if_pos rfl,if_pos rfl,swT]
   have Po : ∀ i,i ≠ r → P i = if i = T then M r else M i:=fun i hir=>by
    rw [hP]
    unfold shortP
    rw [if_pos rfl,if_neg hir]
    unfold sw
    rw [if_neg hir]
   have hs : ∀ i,i < m → ∀ x,-184528125 ≤ P i x ∧ P i x ≤ 184528125:=fun i him x=>by
    by_cases q : i = r
    ·rw [q,Pr]
     exact divn_abs n (M T) 184528125 x (hi.small hm T (by omega) x)
    ·rw [Po i q]
     split
     ·exact hi.small hm r hlt x
     ·exact hi.small hm i him x
   have hz : ∀ i,i < m → ∀ x,n ≤ x → P i x = 0:=fun i him x hx=>by
    by_cases q : i = r
    ·rw [q,Pr]
     exact divn_zero n _ x (hi.zero T (by omega) x hx)
    ·rw [Po i q]
     split
     ·exact hi.zero r hlt x hx
     ·exact hi.zero i him x hx
   have hrowT:=hv.row T (by omega)
   have hrowr:=hv.row r hlt
   have sh:=impl_shortened_ev (o.getD T []) (by omega) (fun x hx=>by rw [hrowT.2];have:=hi.small hm T (by omega) x;omega)
   have hlen:=hv.len
   have hrep : Rep m n (((o.set r (o.getD T [])).set T (o.getD r [])).set r (shL (o.getD T []))) P:=by
    refine ⟨by simpa using hlen,fun i him=>?_⟩
    rw [getD_set _ (by simp;omega)]
    by_cases q : i = r
    ·rw [if_pos q,q,Pr]
     exact ⟨by rw [shL_length];exact hrowT.1,by rw [shL_fun,hrowT.1,hrowT.2]⟩
    ·rw [if_neg q,getD_set _ (by simp;omega),Po i q]
     by_cases q2 : i = T
     ·rw [if_pos q2,if_pos q2]
      exact hrowr
     ·rw [if_neg q2,if_neg q2,getD_set _ (by omega),if_neg q]
      exact hv.row i him
   have each : ∀ o',Rep m n o' (colS wrap64 n m r c P) → ∃ o'',Rep m n o'' (elim wrap64 true n m k (c + 1) (colS wrap64 n m r c P) (piv ++ [c])).1 ∧ Ev (fun K=>impl_reduced.l0 K m o' (ints piv ++ [(c : Int)]) (n : Int) (wrap64 ((c : Int) + 1))) (ints (elim wrap64 true n m k (c + 1) (colS wrap64 n m r c P) (piv ++ [c])).2,o''):=fun o' ho'=>by
    obtain ⟨o'',h1,h2⟩:=impl_reduced_ev hm hn k (c + 1) _ (piv ++ [c]) o' (by omega) ho' hin
    refine ⟨o'',h1,?_⟩
    rw [w64_nat (by omega),ints_snoc]
    exact h2
   have one : ∀ o1 o2 : List (List Int),Rep m n o1 (colS wrap64 n m r c P) → Rep m n o2 (colS wrap64 n m r c P) → o1 = o2:=fun o1 o2 h1 h2=>by
    apply List.ext_getElem (by rw [h1.len,h2.len])
    intro i q1 q2
    have a1:=h1.row i (by have:=h1.len;omega)
    have a2:=h2.row i (by have:=h1.len;omega)
    rw [List.getD_eq_getElem?_getD,List.getElem?_eq_getElem q1,Option.getD_some] at a1
    rw [List.getD_eq_getElem?_getD,List.getElem?_eq_getElem q2,Option.getD_some] at a2
    exact vf_ext (by omega) fun x _=>by rw [a1.2,a2.2]
   obtain ⟨oC,hoC⟩ : ∃ oC : List (List Int),Rep m n oC (colS wrap64 n m r c P):=by
    refine ⟨(List.range m).map fun i=>nrL n (colS wrap64 n m r c P i),by simp,fun i him=>?_⟩
    have : ((List.range m).map fun i=>nrL n (colS wrap64 n m r c P i)).getD i [] = nrL n (colS wrap64 n m r c P i):=by
     rw [List.getD_eq_getElem?_getD,List.getElem?_eq_getElem (by simpa using him)]
     simp
    rw [this]
    exact ⟨nrL_length _ _,nrL_vf _ _ fun x hx=>hin.zero i him x hx⟩
   obtain ⟨o'',h1,h2⟩:=each oC hoC
   refine ⟨o'',h1,Ev.step (fun K=>?_) (red_l1 hv (by omega) (by omega) (n : Int) (fun _=>trivial) T (fun h=>by omega) (fun _ _=>?_) (m - r) r (by omega) (by rw [ints_length,hrr];exact Nat.le_refl _) hT)⟩
   ·rw [impl_reduced.l0,if_pos (by omega),ints_length,hrr]
   ·refine Ev.bind sh ?_
    rw [ints_length,hrr]
    exact red_l2 (by omega) (by rw [ints_length,hrr]) hlt (by omega) (by omega) hz hs (n : Int) (fun o' ho'=>by rw [one o' oC ho' hoC];exact h2) m 0 _ (by omega) ⟨hrep.len,fun i him=>by rw [if_neg (by omega)];exact hrep.row i him⟩
section
variable {m n r c : Nat} {P : Nat → Nat → Int} {out : List (List Int) × List Int} {p : List Int}
theorem sred_l3 (hn : n ≤ 1000000) (hp : p.length = r) {o0 : List (List Int)} {i : Nat} (ho : o0.length = m) (hi : i < m) (hr : r < m) (hir : i ≠ r) (hri : (o0.getD i []).length = n ∧ vf (o0.getD i []) = P i) (hrr : (o0.getD r []).length = n ∧ vf (o0.getD r []) = P r) (hz : ∀ k,n ≤ k → P i k = 0 ∧ P r k = 0) (hm : m ≤ 1000000)
  (h : Ev (fun k=>(spec_l4Divided.f k (nrL n (Lin.newRow wrap64 P r c i))).bind fun t=>spec_l4Reduced.l2 k m (o0.set i t) p (n : Int) (c : Int) (wrap64 ((i : Int) + 1))) out) :
  ∀ (d j : Nat) (x : List Int),j + d = n → x.length = n → (∀ k,vf x k = if k < j then Lin.newRow wrap64 P r c i k else P i k) → Ev (fun k=>spec_l4Reduced.l3 k m (o0.set i x) p (n : Int) (c : Int) (i : Int) (P r c) (P i c) (j : Int)) out
|0,j,x,hj,hx,hv=>by
  obtain rfl : j = n:=by omega
  have e : x = nrL j (Lin.newRow wrap64 P r c i):=by
   apply vf_ext (by rw [nrL_length,hx])
   intro k hk
   rw [nrL_vf _ _ fun k hk=>newRow_out P r c i k (hz k hk).1 (hz k hk).2,hv k,if_pos (by omega)]
  refine Ev.step (fun k=>?_) h
  rw [spec_l4Reduced.l3,if_neg (by omega),rdL_nat,getD_set x (by omega),if_pos rfl,e]
  simp only [Int.toNat_natCast,List.set_set]
|d + 1,j,x,hj,hx,hv=>by
  have e1 : (o0.set i x).getD i [] = x:=by rw [getD_set x (by omega),if_pos rfl]
  have e2 : (o0.set i x).getD r [] = o0.getD r []:=by rw [getD_set x (by omega),if_neg (Ne.symm hir)]
  have e3:=hv j
  rw [if_neg (by omega)] at e3
  refine Ev.step (fun k=>?_) (sred_l3 hn hp ho hi hr hir hri hrr hz hm h d (j + 1) (x.set j (Lin.newRow wrap64 P r c i j)) (by omega) (by simpa using hx) fun k=>?_)
  ·rw [spec_l4Reduced.l3,if_pos (by omega),if_pos (by omega),hp,rdL_nat,rdL_nat,e1,e2,if_pos (by omega),if_pos (by omega),rd_vf,rd_vf,e3,hrr.2,Int.toNat_natCast,Int.toNat_natCast,List.set_set,w64_nat (by omega)]
   rfl
  ·rw [vf_set _ _ _ (by omega),hv k]
   by_cases c1 : k = j
   ·subst c1
    rw [if_pos rfl,if_pos (by omega)]
   ·rw [if_neg c1]
    by_cases c2 : k < j
    ·rw [if_pos c2,if_pos (by omega)]
    ·rw [if_neg c2,if_neg (by omega)]
theorem sred_l2 (hn : n ≤ 1000000) (hp : p.length = r) (hr : r < m) (hc : c < n) (hm : m ≤ 1000000) (hz : ∀ i,i < m → ∀ k,n ≤ k → P i k = 0) (hs : ∀ i,i < m → ∀ k,-184528125 ≤ P i k ∧ P i k ≤ 184528125)
  (h : ∀ o',Rep m n o' (colS wrap64 n m r c P) → Ev (fun k=>spec_l4Reduced.l0 k m o' (p ++ [(c : Int)]) (n : Int) (wrap64 ((c : Int) + 1))) out) :
  ∀ (d i : Nat) (o : List (List Int)),i + d = m → Rep m n o (fun j=>if j < i then colS wrap64 n m r c P j else P j) → Ev (fun k=>spec_l4Reduced.l2 k m o p (n : Int) (c : Int) (i : Int)) out
|0,i,o,hd,hv=>by
  obtain rfl : i = m:=by omega
  refine Ev.step (fun k=>?_) (h o ⟨hv.len,fun j hj=>by have:=hv.row j hj;rwa [if_pos hj] at this⟩)
  rw [spec_l4Reduced.l2,if_neg (by omega),if_pos (by omega)]
|d + 1,i,o,hd,hv=>by
  have hri:=hv.row i (by omega)
  rw [if_neg (by omega)] at hri
  have hrr : (o.getD r []).length = n ∧ vf (o.getD r []) = P r:=by
   have:=hv.row r hr
   by_cases q : r < i
   ·rw [if_pos q] at this
    unfold colS at this
    rwa [if_neg (by omega)] at this
   ·rwa [if_neg q] at this
  have next : ∀ o2 : List (List Int),o2.length = m → (∀ j,j < m → j ≠ i → o2.getD j [] = o.getD j []) → ((o2.getD i []).length = n ∧ vf (o2.getD i []) = colS wrap64 n m r c P i) → Rep m n o2 (fun j=>if j < i + 1 then colS wrap64 n m r c P j else P j):=fun o2 h1 h2 h3 =>
   ⟨h1,fun j hj=>by
    by_cases q : j = i
    ·subst q
     rw [if_pos (by omega)]
     exact h3
    ·rw [h2 j hj q]
     have:=hv.row j hj
     by_cases q2 : j < i
     ·rw [if_pos q2] at this
      rwa [if_pos (by omega)]
     ·rw [if_neg q2] at this
      rwa [if_neg (by omega)]⟩
  by_cases e : i = r
  ·refine Ev.step (fun k=>?_) (sred_l2 hn hp hr hc hm hz hs h d (i + 1) o (by omega) (next o hv.len (fun _ _ _=>rfl) ?_))
   ·rw [spec_l4Reduced.l2,if_pos (by omega),if_pos (by omega),if_pos (by omega),w64_nat (by omega)]
   ·unfold colS
    rw [if_neg (by omega)]
    exact hri
  ·by_cases z : P i c = 0
   ·refine Ev.step (fun k=>?_) (sred_l2 hn hp hr hc hm hz hs h d (i + 1) o (by omega) (next o hv.len (fun _ _ _=>rfl) ?_))
    ·rw [spec_l4Reduced.l2,if_pos (by omega),if_pos (by omega),if_neg (by omega),if_pos (by omega),rdL_nat,if_pos (by omega),rd_vf,hri.2,if_pos z,w64_nat (by omega)]
    ·unfold colS
     rw [if_neg (by omega)]
     exact hri
   ·have hN : ∀ k,Lin.newRow wrap64 P r c i k = P r c * P i k - P i c * P r k ∧ -68101257834375001 ≤ P r c * P i k - P i c * P r k ∧ P r c * P i k - P i c * P r k ≤ 68101257834375001:=fun k=>by
     have:=newRow_told keeps64 (M:=P) (r:=r) (c:=c) (i:=i) (fun j k hj=>by rcases hj with rfl|rfl;exact hs _ hr k;exact hs _ (by omega) k) k
     exact ⟨this.1,by omega,by omega⟩
    have hzz : ∀ k,n ≤ k → P i k = 0 ∧ P r k = 0:=fun k hk=>⟨hz i (by omega) k hk,hz r hr k hk⟩
    have e1 : vf (nrL n (Lin.newRow wrap64 P r c i)) = Lin.newRow wrap64 P r c i:=nrL_vf _ _ fun k hk=>newRow_out P r c i k (hzz k hk).1 (hzz k hk).2
    have sh:=spec_l4Divided_ev (nrL n (Lin.newRow wrap64 P r c i)) (by rw [nrL_length];exact hn) (fun k hk=>by rw [e1];have:=hN k;omega)
    have go:=sred_l3 (out:=out) (c:=c) hn hp hv.len (show i < m by omega) hr e hri hrr hzz hm ?_ n 0 (o.getD i []) (by omega) hri.1 (fun k=>by rw [if_neg (by omega),hri.2])
    ·refine Ev.step (fun k=>?_) go
     have es : o.set i (o.getD i []) = o:=by
      have hlt : i < o.length:=by have:=hv.len;omega
      rw [List.getD_eq_getElem?_getD,List.getElem?_eq_getElem hlt]
      simp
     rw [es,spec_l4Reduced.l2,if_pos (by omega),if_pos (by omega),if_neg (by omega),if_pos (by omega),hp,rdL_nat,rdL_nat,if_pos (by omega),rd_vf,rd_vf,hri.2,hrr.2,if_neg z,if_pos (by omega),if_pos (by omega)]
     rfl
    ·refine Ev.bind sh ?_
     rw [w64_nat (by omega)]
     refine sred_l2 hn hp hr hc hm hz hs h d (i + 1) _ (by omega) (next _ (by simpa using hv.len) (fun j _ hj=>?_) ?_)
     ·rw [getD_set _ (by have:=hv.len;omega),if_neg hj]
     ·rw [getD_set _ (by have:=hv.len;omega),if_pos rfl]
      refine ⟨by rw [shL_length,nrL_length],?_⟩
      rw [shL_fun,nrL_length,e1]
      unfold colS
      rw [if_pos ⟨by omega,e,z⟩]
end
section
variable {m n c : Nat} {M : Nat → Nat → Int} {out : List (List Int) × List Int} {p : List Int} {o : List (List Int)}
theorem sred_l1 (hv : Rep m n o M) (hc : c < n) (hm : m ≤ 1000000) (nn : Int)
  (hEnd : Ev (fun k=>spec_l4Reduced.l0 k m o p nn (wrap64 ((c : Int) + 1))) out → True)
  (T : Nat) (h1 : T = m → Ev (fun k=>spec_l4Reduced.l0 k m o p nn (wrap64 ((c : Int) + 1))) out)
  (h2 : T < m → p.length < m → Ev (fun k=>spec_l4Reduced.l2 k m ((o.set T (o.getD p.length [])).set p.length (o.getD T [])) p nn (c : Int) 0) out) :
  ∀ (f a : Nat),a + f = m → p.length ≤ a → findAt M c m f a = T → Ev (fun k=>spec_l4Reduced.l1 k m o p nn (c : Int) (a : Int)) out
|0,a,ha,hpa,hT=>by
  obtain rfl : a = m:=by omega
  have e : a = T:=hT
  refine Ev.step (fun k=>?_) (h1 e.symm)
  rw [spec_l4Reduced.l1,if_neg (by omega),if_pos rfl]
|f + 1,a,ha,hpa,hT=>by
  have hr:=hv.row a (by omega)
  by_cases z : M a c = 0
  ·have e : findAt M c m (f + 1) a = findAt M c m f (a + 1):=by
    show (if a < m ∧ M a c = 0 then findAt M c m f (a + 1) else a) = _
    rw [if_pos ⟨by omega,z⟩]
   rw [e] at hT
   refine Ev.step (fun k=>?_) (sred_l1 hv hc hm nn hEnd T h1 h2 f (a + 1) (by omega) (by omega) hT)
   rw [spec_l4Reduced.l1,if_pos (by omega),if_pos (by omega),if_pos (by omega),rdL_nat,if_pos (by omega),rd_vf,hr.2,if_pos z,w64_nat (by omega)]
  ·have e : findAt M c m (f + 1) a = a:=by
    show (if a < m ∧ M a c = 0 then findAt M c m f (a + 1) else a) = _
    rw [if_neg (fun h=>z h.2)]
   rw [e] at hT
   subst hT
   refine Ev.step (fun k=>?_) (h2 (by omega) (by omega))
   rw [spec_l4Reduced.l1,if_pos (by omega),if_pos (by omega),if_pos (by omega),rdL_nat,if_pos (by omega),rd_vf,hr.2,if_neg z,if_pos (by omega),rdL_nat,Int.toNat_natCast]
end
theorem spec_l4Reduced_ev {m n : Nat} (hm : m ≤ 5) (hn : n ≤ 1000) {A : Nat → Nat → Int} : ∀ (k c : Nat) (M : Nat → Nat → Int) (piv : List Nat) (o : List (List Int)),c + k = n → Rep m n o M → Inv m n c A M piv →
  ∃ o',Rep m n o' (elim wrap64 false n m k c M piv).1 ∧ Ev (fun K=>spec_l4Reduced.l0 K m o (ints piv) (n : Int) (c : Int)) (o',ints (elim wrap64 false n m k c M piv).2)
|0,c,M,piv,o,hc,hv,hi=>by
  obtain rfl : c = n:=by omega
  refine ⟨o,hv,Ev.step (f:=fun _=>some (o,ints piv)) (fun K=>?_) (ev_const _)⟩
  rw [spec_l4Reduced.l0,if_neg (by omega)]
|k + 1,c,M,piv,o,hc,hv,hi=>by
  have hr : piv.length ≤ m:=hi.st.choose_spec.choose_spec.1.hr
  obtain ⟨f1,f2,f3,f4⟩:=findAt_told M c m (m - piv.length) piv.length (by omega)
  obtain ⟨T,hT⟩ : ∃ T,findAt M c m (m - piv.length) piv.length = T:=⟨_,rfl⟩
  rw [hT] at f1 f2 f3 f4
  rw [elim,hT]
  by_cases e : T = m
  ·rw [if_pos e]
   obtain ⟨o',h1,h2⟩:=spec_l4Reduced_ev hm hn k (c + 1) M piv o (by omega) hv (hi.skip fun i h1 h2=>f3 i h1 (by omega))
   refine ⟨o',h1,Ev.step (fun K=>?_) (sred_l1 hv (by omega) (by omega) (n : Int) (fun _=>trivial) T (fun _=>?_) (fun h=>by omega) (m - piv.length) piv.length (by omega) (by rw [ints_length];exact Nat.le_refl _) hT)⟩
   ·rw [spec_l4Reduced.l0,if_pos (by omega),ints_length]
   ·rw [w64_nat (by omega)]
    exact h2
  ·rw [if_neg e]
   have hne:=f4 (by omega)
   have hin:=hi.next hm (by omega) keeps64 false f1 (by omega) hne
   obtain ⟨r,hrr⟩ : ∃ r,piv.length = r:=⟨_,rfl⟩
   rw [hrr] at f1 f3 hin hr hT ⊢
   have hlt : r < m:=by omega
   obtain ⟨P,hP⟩ : ∃ P,P = shortP false n r (sw r T M):=⟨_,rfl⟩
   rw [← hP] at hin ⊢
   have swT : sw r T M r = M T:=by unfold sw;rw [if_pos rfl]
   have Pr : P r = M T:=by rw [hP];unfold shortP;rw [if_neg (by simp),swT]
   have Po : ∀ i,i ≠ r → P i = if i = T then M r else M i:=fun i hir=>by
    rw [hP]
    unfold shortP
    rw [if_neg (by simp)]
    unfold sw
    rw [if_neg hir]
   have hs : ∀ i,i < m → ∀ x,-184528125 ≤ P i x ∧ P i x ≤ 184528125:=fun i him x=>by
    by_cases q : i = r
    ·rw [q,Pr]
     exact hi.small hm T (by omega) x
    ·rw [Po i q]
     split
     ·exact hi.small hm r hlt x
     ·exact hi.small hm i him x
   have hz : ∀ i,i < m → ∀ x,n ≤ x → P i x = 0:=fun i him x hx=>by
    by_cases q : i = r
    ·rw [q,Pr]
     exact hi.zero T (by omega) x hx
    ·rw [Po i q]
     split
     ·exact hi.zero r hlt x hx
     ·exact hi.zero i him x hx
   have hrowT:=hv.row T (by omega)
   have hrowr:=hv.row r hlt
   have hlen:=hv.len
   have hrep : Rep m n ((o.set T (o.getD r [])).set r (o.getD T [])) P:=by
    refine ⟨by simpa using hlen,fun i him=>?_⟩
    rw [getD_set _ (by simp;omega)]
    by_cases q : i = r
    ·rw [if_pos q,q,Pr]
     exact hrowT
    ·rw [if_neg q,getD_set _ (by omega),Po i q]
     by_cases q2 : i = T
     ·rw [if_pos q2,if_pos q2]
      exact hrowr
     ·rw [if_neg q2,if_neg q2]
      exact hv.row i him
   have each : ∀ o',Rep m n o' (colS wrap64 n m r c P) → ∃ o'',Rep m n o'' (elim wrap64 false n m k (c + 1) (colS wrap64 n m r c P) (piv ++ [c])).1 ∧ Ev (fun K=>spec_l4Reduced.l0 K m o' (ints piv ++ [(c : Int)]) (n : Int) (wrap64 ((c : Int) + 1))) (o'',ints (elim wrap64 false n m k (c + 1) (colS wrap64 n m r c P) (piv ++ [c])).2):=fun o' ho'=>by
    obtain ⟨o'',h1,h2⟩:=spec_l4Reduced_ev hm hn k (c + 1) _ (piv ++ [c]) o' (by omega) ho' hin
    refine ⟨o'',h1,?_⟩
    rw [w64_nat (by omega),ints_snoc]
    exact h2
   have one : ∀ o1 o2 : List (List Int),Rep m n o1 (colS wrap64 n m r c P) → Rep m n o2 (colS wrap64 n m r c P) → o1 = o2:=fun o1 o2 h1 h2=>by
    apply List.ext_getElem (by rw [h1.len,h2.len])
    intro i q1 q2
    have a1:=h1.row i (by have:=h1.len;omega)
    have a2:=h2.row i (by have:=h1.len;omega)
    rw [List.getD_eq_getElem?_getD,List.getElem?_eq_getElem q1,Option.getD_some] at a1
    rw [List.getD_eq_getElem?_getD,List.getElem?_eq_getElem q2,Option.getD_some] at a2
    exact vf_ext (by omega) fun x _=>by rw [a1.2,a2.2]
   obtain ⟨oC,hoC⟩ : ∃ oC : List (List Int),Rep m n oC (colS wrap64 n m r c P):=by
    refine ⟨(List.range m).map fun i=>nrL n (colS wrap64 n m r c P i),by simp,fun i him=>?_⟩
    have : ((List.range m).map fun i=>nrL n (colS wrap64 n m r c P i)).getD i [] = nrL n (colS wrap64 n m r c P i):=by
     rw [List.getD_eq_getElem?_getD,List.getElem?_eq_getElem (by simpa using him)]
     simp
    rw [this]
    exact ⟨nrL_length _ _,nrL_vf _ _ fun x hx=>hin.zero i him x hx⟩
   obtain ⟨o'',h1,h2⟩:=each oC hoC
   refine ⟨o'',h1,Ev.step (fun K=>?_) (sred_l1 hv (by omega) (by omega) (n : Int) (fun _=>trivial) T (fun h=>by omega) (fun _ _=>?_) (m - r) r (by omega) (by rw [ints_length,hrr];exact Nat.le_refl _) hT)⟩
   ·rw [spec_l4Reduced.l0,if_pos (by omega),ints_length,hrr]
   ·rw [ints_length,hrr]
    exact sred_l2 (by omega) (by rw [ints_length,hrr]) hlt (by omega) (by omega) hz hs (fun o' ho'=>by rw [one o' oC ho' hoC];exact h2) m 0 _ (by omega) ⟨hrep.len,fun i him=>by rw [if_neg (by omega)];exact hrep.row i him⟩
theorem spec_l2Rows_l (l : List (List Int)) (hl : l.length ≤ 1000000) (hr : ∀ x ∈ l,x.length ≤ 1000000) : ∀ (j i : Nat) (acc : List (List Int)),i + j = l.length → acc = l.take i → Ev (fun k=>spec_l2Rows.l0 k l acc (i : Int)) l
|0,i,acc,hj,ha=>by
  obtain rfl : i = l.length:=by omega
  refine Ev.step (f:=fun _=>some l) (fun k=>?_) (ev_const _)
  rw [spec_l2Rows.l0,if_neg (by omega),ha,List.take_length]
|j + 1,i,acc,hj,ha=>by
  have hlt : i < l.length:=by omega
  have e : rd_L1 l (i : Int) = l[i]:=by simp [rd_L1,hlt]
  refine Ev.step (fun k=>?_) (spec_l2Rows_l l hl hr j (i + 1) (acc ++ [l[i]]) (by omega) (by rw [ha,List.take_succ_eq_append_getElem hlt]))
  have h1 : acc.length ≤ 1000000:=by rw [ha,List.length_take];omega
  have h2:=hr l[i] (List.getElem_mem hlt)
  rw [spec_l2Rows.l0,if_pos (by omega),if_pos (by omega),e,spec_l1Own_is _ (by omega)]
  simp only [Option.bind_some]
  rw [if_pos (by omega),w64_nat (by omega)]
theorem spec_l2Rows_ev (l : List (List Int)) (hl : l.length ≤ 1000000) (hr : ∀ x ∈ l,x.length ≤ 1000000) : Ev (fun k=>spec_l2Rows.f k l) l:=spec_l2Rows_l l hl hr l.length 0 [] (by omega) rfl
theorem getD_get (vs : List (List Int)) (i : Nat) (h : i < vs.length) : vs.getD i [] = vs[i]:=by simp [h]
theorem getD_out (vs : List (List Int)) (i : Nat) (h : vs.length ≤ i) : vs.getD i [] = []:=by rw [List.getD_eq_getElem?_getD,List.getElem?_eq_none h];rfl
theorem vf_nil (k : Nat) : vf [] k = 0:=by simp [vf]
def colL (vs : List (List Int)) (k : Nat) : List Int:=vs.map fun v=>vf v k
theorem colL_vf (vs : List (List Int)) (k j : Nat) : vf (colL vs k) j = vf (vs.getD j []) k:=by
 by_cases h : j < vs.length
 ·rw [vf_get _ _ (by simpa [colL] using h),getD_get vs j h]
  simp [colL]
 ·rw [vf_out _ _ (by simp [colL];omega),getD_out vs j (by omega),vf_nil]
def matT (m : Nat) (vs : List (List Int)) : List (List Int):=(List.range m).map (colL vs)
theorem matT_rep (m : Nat) (vs : List (List Int)) : Rep m vs.length (matT m vs) (fun i j=>vf (vs.getD j []) i):=by
 refine ⟨by simp [matT],fun i hi=>?_⟩
 have e : (matT m vs).getD i [] = colL vs i:=by
  rw [getD_get _ _ (by simpa [matT] using hi)]
  simp [matT]
 rw [e]
 exact ⟨by simp [colL],funext fun j=>colL_vf vs i j⟩
def eqL (d : Nat) (pts : List (List Int)) : List (List Int):=matT d pts ++ [List.replicate pts.length 1]
def eqA (d : Nat) (pts : List (List Int)) (i j : Nat) : Int:=if i < d then vf (pts.getD j []) i else if j < pts.length then 1 else 0
theorem vf_ones (n k : Nat) : vf (List.replicate n 1) k = if k < n then 1 else 0:=by
 by_cases h : k < n
 ·rw [vf_get _ _ (by simpa using h),if_pos h];simp
 ·rw [vf_out _ _ (by simp;omega),if_neg h]
theorem eqL_length (d : Nat) (pts : List (List Int)) : (eqL d pts).length = d + 1:=by simp [eqL,matT]
theorem eqL_rep (d : Nat) (pts : List (List Int)) : Rep (d + 1) pts.length (eqL d pts) (eqA d pts):=by
 refine ⟨eqL_length d pts,fun i hi=>?_⟩
 have r:=(matT_rep d pts).row
 have ml : (matT d pts).length = d:=by simp [matT]
 by_cases c : i < d
 ·have e : (eqL d pts).getD i [] = (matT d pts).getD i []:=by
   unfold eqL
   rw [List.getD_eq_getElem?_getD,List.getD_eq_getElem?_getD,List.getElem?_append_left (by omega)]
  rw [e]
  refine ⟨(r i c).1,?_⟩
  rw [(r i c).2]
  funext j
  unfold eqA
  rw [if_pos c]
 ·obtain rfl : i = d:=by omega
  have e : (eqL i pts).getD i [] = List.replicate pts.length 1:=by
   unfold eqL
   rw [List.getD_eq_getElem?_getD,List.getElem?_append_right (by omega),ml]
   simp
  rw [e]
  refine ⟨by simp,?_⟩
  funext j
  rw [vf_ones]
  unfold eqA
  simp
section
variable {d n : Nat} {pts : List (List Int)}
theorem eq_l2 (hn : pts.length = n) (hn2 : n ≤ 1000) (x3 : List (List Int)) (h3 : x3.length ≤ 1000) : ∀ (j i : Nat) (acc : List Int),i + j = n → acc = List.replicate i 1 → Ev (fun k=>spec_l4Equations.l2 k pts x3 acc (i : Int)) (x3 ++ [List.replicate n 1])
|0,i,acc,hj,ha=>by
  obtain rfl : i = n:=by omega
  refine Ev.step (f:=fun _=>some (x3 ++ [List.replicate i 1])) (fun k=>?_) (ev_const _)
  rw [spec_l4Equations.l2,if_neg (by omega),if_pos (by omega),ha]
|j + 1,i,acc,hj,ha=>by
  refine Ev.step (fun k=>?_) (eq_l2 hn hn2 x3 h3 j (i + 1) (acc ++ [1]) (by omega) (by rw [ha,List.replicate_succ']))
  have : acc.length = i:=by rw [ha];simp
  rw [spec_l4Equations.l2,if_pos (by omega),if_pos (by omega),w64_nat (by omega)]
theorem eq_l1 (hn : pts.length = n) (hv : ∀ v ∈ pts,v.length = d) (hd : d ≤ 1000) (hn2 : n ≤ 1000) (kc : Nat) (hk : kc < d) (x3 : List (List Int)) (h3 : x3.length ≤ 1000) (x4 : List Int) {out : List (List Int)}
  (h : Ev (fun k=>spec_l4Equations.l0 k pts (x3 ++ [colL pts kc]) x4 (wrap64 ((kc : Int) + 1))) out) :
  ∀ (j i : Nat) (acc : List Int),i + j = n → acc = (colL pts kc).take i → Ev (fun k=>spec_l4Equations.l1 k pts x3 x4 (kc : Int) acc (i : Int)) out
|0,i,acc,hj,ha=>by
  obtain rfl : i = n:=by omega
  refine Ev.step (fun k=>?_) h
  rw [spec_l4Equations.l1,if_neg (by omega),if_pos (by omega),ha,List.take_of_length_le (by simp [colL];omega)]
|j + 1,i,acc,hj,ha=>by
  have hlt : i < pts.length:=by omega
  have hl : (pts.getD i []).length = d:=by rw [getD_get _ _ hlt];exact hv _ (List.getElem_mem hlt)
  have hc : i < (colL pts kc).length:=by simpa [colL] using hlt
  have ha2 : acc.length ≤ 1000:=by rw [ha,List.length_take];omega
  refine Ev.step (fun k=>?_) (eq_l1 hn hv hd hn2 kc hk x3 h3 x4 h j (i + 1) (acc ++ [vf (pts.getD i []) kc]) (by omega) ?_)
  ·rw [spec_l4Equations.l1,if_pos (by omega),if_pos (by omega),if_pos (by omega),rdL_nat,if_pos (by omega),if_pos (by omega),rd_vf,w64_nat (by omega)]
  ·rw [ha,List.take_succ_eq_append_getElem hc,← vf_get _ _ hc,colL_vf]
theorem eq_l0 (hn : pts.length = n) (hn1 : 1 ≤ n) (hv : ∀ v ∈ pts,v.length = d) (hd : d ≤ 1000) (hn2 : n ≤ 1000) : ∀ (j i : Nat) (x3 : List (List Int)),i + j = d → x3 = (matT d pts).take i → Ev (fun k=>spec_l4Equations.l0 k pts x3 [] (i : Int)) (eqL d pts)
|0,i,x3,hj,h3=>by
  obtain rfl : i = d:=by omega
  have ml : (matT i pts).length = i:=by simp [matT]
  have h3' : x3 = matT i pts:=by rw [h3,List.take_of_length_le (by omega)]
  have hv0 : (pts.getD 0 []).length = i:=by rw [getD_get _ _ (by omega)];exact hv _ (List.getElem_mem (by omega))
  refine Ev.step (f:=fun k=>spec_l4Equations.j1 k pts x3 [] (i : Int) false) (fun k=>?_) (Ev.step (f:=fun k=>spec_l4Equations.l2 k pts x3 [] 0) (fun k=>?_) ?_)
  ·rw [spec_l4Equations.l0,if_pos (by omega),if_pos (by omega),show (0 : Int) = ((0 : Nat) : Int) from rfl,rdL_nat,hv0,decide_eq_false (by omega)]
  ·rw [spec_l4Equations.j1,if_neg (by simp)]
  ·have:=eq_l2 hn hn2 x3 (by rw [h3',ml];exact hd) n 0 [] (by omega) rfl
   rw [h3'] at this ⊢
   unfold eqL
   rw [hn]
   exact this
|j + 1,i,x3,hj,h3=>by
  have hl : i < (matT d pts).length:=by simp [matT];omega
  have h3l : x3.length ≤ 1000:=by rw [h3,List.length_take];omega
  have hv0 : (pts.getD 0 []).length = d:=by rw [getD_get _ _ (by omega)];exact hv _ (List.getElem_mem (by omega))
  refine Ev.step (f:=fun k=>spec_l4Equations.j1 k pts x3 [] (i : Int) true) (fun k=>?_) (Ev.step (f:=fun k=>spec_l4Equations.l1 k pts x3 [] (i : Int) [] 0) (fun k=>?_) ?_)
  ·rw [spec_l4Equations.l0,if_pos (by omega),if_pos (by omega),show (0 : Int) = ((0 : Nat) : Int) from rfl,rdL_nat,hv0,decide_eq_true (by omega)]
  ·rw [spec_l4Equations.j1,if_pos rfl]
  ·refine eq_l1 hn hv hd hn2 i (by omega) x3 h3l [] ?_ n 0 [] (by omega) (by simp)
   rw [w64_nat (by omega)]
   refine eq_l0 hn hn1 hv hd hn2 j (i + 1) _ (by omega) ?_
   rw [h3,List.take_succ_eq_append_getElem hl]
   congr 1
   simp [matT]
theorem spec_l4Equations_ev (hn : pts.length = n) (hn1 : 1 ≤ n) (hv : ∀ v ∈ pts,v.length = d) (hd : d ≤ 1000) (hn2 : n ≤ 1000) : Ev (fun k=>spec_l4Equations.f k pts) (eqL d pts):=eq_l0 hn hn1 hv hd hn2 d 0 [] (by omega) rfl
end
def chL (kk n : Nat) : Nat → List Int → List (List Int)
|0,_=>[]
|f + 1,set=>(if set.length + 1 = kk then [set ++ [((n - (f + 1) : Nat) : Int)]] else chL kk n f (set ++ [((n - (f + 1) : Nat) : Int)])) ++ chL kk n f set
def chG (kk n f : Nat) (set : List Int) : List (List Int):=if set.length = kk then [set] else chL kk n f set
theorem chL_succ (kk n f : Nat) (set : List Int) : chL kk n (f + 1) set = chG kk n f (set ++ [((n - (f + 1) : Nat) : Int)]) ++ chL kk n f set:=by
 rw [chL,chG]
 simp only [List.length_append,List.length_singleton]
theorem chL_len (kk n : Nat) : ∀ (f : Nat) (set : List Int),(chL kk n f set).length + 1 ≤ 2 ^ f
|0,set=>by simp [chL]
|f + 1,set=>by
  have h1:=chL_len kk n f (set ++ [((n - (f + 1) : Nat) : Int)])
  have h2:=chL_len kk n f set
  have h3 : 2 ^ (f + 1) = 2 ^ f + 2 ^ f:=by rw [Nat.pow_succ];omega
  rw [chL,List.length_append]
  split
  ·simp only [List.length_singleton]
   have:=Nat.one_le_two_pow (n:=f)
   omega
  ·omega
theorem chG_len (kk n f : Nat) (set : List Int) : (chG kk n f set).length ≤ 2 ^ f:=by
 unfold chG
 split
 ·simpa using Nat.one_le_two_pow (n:=f)
 ·have:=chL_len kk n f set
  omega
theorem chL_nil (kk n : Nat) : ∀ (f : Nat) (set : List Int),set.length + f < kk → chL kk n f set = []
|0,set,_=>rfl
|f + 1,set,h=>by
  rw [chL,if_neg (by omega),chL_nil kk n f _ (by simp;omega),chL_nil kk n f set (by omega)]
  rfl
def Asc (n : Nat) (S : List Int) : Prop:=S.Pairwise (· < ·) ∧ ∀ x ∈ S,0 ≤ x ∧ x < (n : Int)
theorem chL_asc (kk n : Nat) : ∀ (f : Nat) (set : List Int),f ≤ n → Asc n set → (∀ x ∈ set,x < ((n - f : Nat) : Int)) → ∀ S ∈ chL kk n f set,Asc n S ∧ S.length = kk
|0,set,_,_,_,S,h=>by simp [chL] at h
|f + 1,set,hf,ha,hb,S,h=>by
  have up : Asc n (set ++ [((n - (f + 1) : Nat) : Int)]):=by
   refine ⟨List.pairwise_append.2 ⟨ha.1,List.pairwise_singleton _ _,fun a h1 b h2=>?_⟩,fun x hx=>?_⟩
   ·rw [List.mem_singleton.1 h2]
    exact hb a h1
   ·rcases List.mem_append.1 hx with hx|hx
    ·exact ha.2 x hx
    ·rw [List.mem_singleton.1 hx]
     omega
  have upb : ∀ x ∈ set ++ [((n - (f + 1) : Nat) : Int)],x < ((n - f : Nat) : Int):=fun x hx=>by
   rcases List.mem_append.1 hx with hx|hx
   ·have:=hb x hx
    omega
   ·rw [List.mem_singleton.1 hx]
    omega
  rw [chL] at h
  rcases List.mem_append.1 h with h|h
  ·by_cases c : set.length + 1 = kk
   ·rw [if_pos c] at h
    rw [List.mem_singleton.1 h]
    exact ⟨up,by simp;omega⟩
   ·rw [if_neg c] at h
    exact chL_asc kk n f _ (by omega) up upb S h
  ·exact chL_asc kk n f set (by omega) ha (fun x hx=>by have:=hb x hx;omega) S h
theorem chG_asc (kk n : Nat) (S : List Int) (h : S ∈ chG kk n n []) : Asc n S ∧ S.length = kk:=by
 unfold chG at h
 split at h
 ·rename_i e
  rw [List.mem_singleton.1 h]
  exact ⟨⟨List.Pairwise.nil,fun x hx=>by simp at hx⟩,e⟩
 ·exact chL_asc kk n n [] (Nat.le_refl _) ⟨List.Pairwise.nil,fun x hx=>by simp at hx⟩ (fun x hx=>by simp at hx) S h
def runV {σ : Type} (t : List Int → Bool) (st : List Int → σ → σ) : List (List Int) → σ → Bool × σ
|[],s=>(false,s)
|S :: L,s=>if t S = true then (true,st S s) else runV t st L (st S s)
theorem runV_append {σ : Type} (t : List Int → Bool) (st : List Int → σ → σ) : ∀ (L1 L2 : List (List Int)) (s : σ),runV t st (L1 ++ L2) s = if (runV t st L1 s).1 = true then (true,(runV t st L1 s).2) else runV t st L2 (runV t st L1 s).2
|[],L2,s=>by simp [runV]
|S :: L1,L2,s=>by
  rw [List.cons_append,runV,runV]
  by_cases c : t S = true
  ·rw [if_pos c,if_pos c,if_pos rfl]
  ·rw [if_neg c,if_neg c]
   exact runV_append t st L1 L2 (st S s)
section
variable {σ : Type} {V : Nat → σ → List Int → Option (Bool × σ)} {t : List Int → Bool} {st : List Int → σ → σ} {n kk : Nat}
theorem choices_ev (hn : n ≤ 1000) : ∀ (f : Nat) (set : List Int) (s : σ),f ≤ n → set.length + f ≤ 1000000 →
  ((∀ S ∈ chG kk n f set,∀ s,Ev (fun k=>V k s S) (t S,st S s)) → Ev (fun k=>impl_choices.g V (n : Int) (kk : Int) k s set ((n - f : Nat) : Int)) (runV t st (chG kk n f set) s)) ∧
  ((∀ S ∈ chL kk n f set,∀ s,Ev (fun k=>V k s S) (t S,st S s)) → Ev (fun k=>impl_choices.l V (n : Int) (kk : Int) k s set ((n - f : Nat) : Int)) (runV t st (chL kk n f set) s))
|f,set,s,hf,hl=>by
  have part2 : (∀ S ∈ chL kk n f set,∀ s,Ev (fun k=>V k s S) (t S,st S s)) → Ev (fun k=>impl_choices.l V (n : Int) (kk : Int) k s set ((n - f : Nat) : Int)) (runV t st (chL kk n f set) s):=by
   match f,hf with
  |0,hf =>
    intro _
    refine Ev.step (f:=fun _=>some (false,s)) (fun k=>?_) (ev_const _)
    rw [impl_choices.l,if_neg (by omega)]
  |f + 1,hf =>
    intro hV
    rw [chL_succ] at hV ⊢
    have a:=(choices_ev hn f (set ++ [((n - (f + 1) : Nat) : Int)]) s (by omega) (by rw [List.length_append,List.length_singleton];omega)).1 (fun S hS=>hV S (List.mem_append_left _ hS))
    refine Ev.step (fun k=>by rw [impl_choices.l,if_pos (by omega),if_pos (by omega),show wrap64 (((n - (f + 1) : Nat) : Int) + 1) = ((n - f : Nat) : Int) by rw [w64 (by omega) (by omega)];omega]) (Ev.bind a ?_)
    rw [runV_append]
    by_cases c : (runV t st (chG kk n f (set ++ [((n - (f + 1) : Nat) : Int)])) s).1 = true
    ·rw [if_pos c]
     exact ev_if_pos c (ev_const _)
    ·rw [if_neg c]
     refine ev_if_neg c ?_
     exact (choices_ev hn f set _ (by omega) (by omega)).2 (fun S hS=>hV S (List.mem_append_right _ hS))
  refine ⟨fun hV=>?_,part2⟩
  unfold chG at hV ⊢
  by_cases c : set.length = kk
  ·rw [if_pos c] at hV ⊢
   have:=hV set (by simp) s
   refine Ev.step (f:=fun k=>V k s set) (fun k=>?_) ?_
   ·rw [impl_choices.g,if_pos (by omega)]
   ·rw [runV]
    cases h : t set with
   |true=>rw [if_pos rfl];rw [h] at this;exact this
   |false=>rw [if_neg (by simp),runV];rw [h] at this;exact this
  ·rw [if_neg c] at hV ⊢
   refine Ev.step (f:=fun k=>impl_choices.l V (n : Int) (kk : Int) k s set ((n - f : Nat) : Int)) (fun k=>?_) (part2 hV)
   rw [impl_choices.g,if_neg (by omega)]
end
theorem impl_choices_ev {σ : Type} {V : Nat → σ → List Int → Option (Bool × σ)} {t : List Int → Bool} {st : List Int → σ → σ} (n kk : Nat) (hn : n ≤ 1000) (s : σ) (hV : ∀ S ∈ chG kk n n [],∀ s,Ev (fun k=>V k s S) (t S,st S s)) : Ev (fun k=>impl_choices.f V k s (n : Int) (kk : Int)) (runV t st (chG kk n n []) s):=by
 have:=(choices_ev (t:=t) (st:=st) hn n [] s (Nat.le_refl _) (by simp;omega)).1 hV
 rw [Nat.sub_self] at this
 exact this
theorem choose_l0 (n kk : Nat) (hn : n ≤ 20) (begun : List Int) (hb : begun.length + 1 ≤ 1000000) (F : Nat)
  (child : ∀ f,f < F → begun.length + (f + 1) ≤ 1000 → Ev (fun k=>spec_l4Choose.f k (n : Int) (kk : Int) (begun ++ [((n - (f + 1) : Nat) : Int)])) (chG kk n f (begun ++ [((n - (f + 1) : Nat) : Int)]))) :
  ∀ (f : Nat) (acc : List (List Int)),f ≤ F → f ≤ n → begun.length + f ≤ 1000 → acc.length + 2 ^ f ≤ 1000000000 → Ev (fun k=>spec_l4Choose.l0 k (n : Int) (kk : Int) begun acc ((n - f : Nat) : Int)) (acc ++ chL kk n f begun)
|0,acc,hF,hf,hl,ha=>by
  refine Ev.step (f:=fun _=>some acc) (fun k=>?_) ?_
  ·rw [spec_l4Choose.l0,if_neg (by omega)]
  ·rw [chL,List.append_nil]
   exact ev_const _
|f + 1,acc,hF,hf,hl,ha=>by
  have h1:=chG_len kk n f (begun ++ [((n - (f + 1) : Nat) : Int)])
  have h3 : 2 ^ (f + 1) = 2 ^ f + 2 ^ f:=by rw [Nat.pow_succ];omega
  have c:=child f (by omega) (by omega)
  rw [chL_succ]
  refine Ev.step (f:=fun k=>(spec_l4Choose.f k (n : Int) (kk : Int) (begun ++ [((n - (f + 1) : Nat) : Int)])).bind fun t=>(if acc.length + t.length < 5864062014805 then (spec_l4Choose.l0 k (n : Int) (kk : Int) begun (acc ++ t) (wrap64 (((n - (f + 1) : Nat) : Int) + 1))) else (none))) (fun k=>?_) (Ev.bind c (ev_if_pos (by omega) ?_))
  ·rw [spec_l4Choose.l0,if_pos (by omega),spec_l1Own_is begun (by omega)]
   simp only [Option.bind_some]
   rw [if_pos (by omega)]
  ·have e : wrap64 (((n - (f + 1) : Nat) : Int) + 1) = ((n - f : Nat) : Int):=by rw [w64 (by omega) (by omega)];omega
   rw [e,← List.append_assoc]
   exact choose_l0 n kk hn begun hb F child f _ (by omega) (by omega) (by omega) (by rw [List.length_append];omega)
theorem choose_f (n kk : Nat) (hn : n ≤ 20) : ∀ (f : Nat) (begun : List Int),f ≤ n → begun.length + f ≤ 1000 → (begun = [] ∧ f = n ∨ ∃ b0,begun = b0 ++ [((n - f : Nat) : Int) - 1] ∧ f < n) → Ev (fun k=>spec_l4Choose.f k (n : Int) (kk : Int) begun) (chG kk n f begun)
|f,begun,hf,hl,hb=>by
  have p20 : 2 ^ n ≤ 1048576:=Nat.le_trans (Nat.pow_le_pow_right (by omega) hn) (by decide)
  have pf : 2 ^ f ≤ 2 ^ n:=Nat.pow_le_pow_right (by omega) hf
  by_cases c : begun.length = kk
  ·unfold chG
   rw [if_pos c]
   refine Ev.step (f:=fun _=>some [begun]) (fun k=>?_) (ev_const _)
   rw [spec_l4Choose.f,if_pos (by omega)]
  ·unfold chG
   rw [if_neg c]
   have loop:=choose_l0 n kk hn begun (by omega) f (fun f' hf' hl'=>choose_f n kk hn f' (begun ++ [((n - (f' + 1) : Nat) : Int)]) (by omega) (by rw [List.length_append,List.length_singleton];omega) (.inr ⟨begun,by congr 2;omega,by omega⟩)) f [] (Nat.le_refl _) hf hl (by simp;omega)
   ·rw [List.nil_append] at loop
    have j0 : Ev (fun k=>spec_l4Choose.j0 k (n : Int) (kk : Int) begun [] ((n - f : Nat) : Int)) (chL kk n f begun):=Ev.step (fun k=>by rw [spec_l4Choose.j0]) loop
    refine Ev.step (f:=fun k=>spec_l4Choose.j0 k (n : Int) (kk : Int) begun [] ((n - f : Nat) : Int)) (fun k=>?_) j0
    rw [spec_l4Choose.f,if_neg (by omega)]
    simp only [Option.bind_some]
    rcases hb with ⟨hb,rfl⟩|⟨b0,hb,hfn⟩
    ·rw [if_neg (by simp [hb]),Nat.sub_self]
     rfl
    ·have hlen : begun.length = b0.length + 1:=by rw [hb];simp
     have ew : wrap64 ((begun.length : Int) - 1) = (b0.length : Int):=by rw [w64 (by omega) (by omega)];omega
     have ev : vf begun b0.length = ((n - f : Nat) : Int) - 1:=by rw [hb];simp [vf]
     rw [if_pos (by omega),ew,if_pos (by omega),if_pos (by omega),rd_vf,ev,w64 (by omega) (by omega)]
     congr 1
     omega
termination_by f=>f
theorem spec_l4Choose_ev (n kk : Nat) (hn : n ≤ 20) : Ev (fun k=>spec_l4Choose.f k (n : Int) (kk : Int) []) (chG kk n n []):=choose_f n kk hn n [] (Nat.le_refl _) (by simp;omega) (.inl ⟨rfl,rfl⟩)
def ones (n : Nat) : List Int:=List.replicate n 1
def fewB (ps : List (List Int)) : Bool:=decide (ps.length ≤ 8) && smB ps (ones ps.length)
theorem fill_l (ps : List (List Int)) (N : Nat) (hN : N ≤ 2000000) {out : Bool} (h : Ev (fun k=>if (ps.length : Int) ≤ 8 then (impl_IsSample.f k ps (ones N)).bind fun t=>some t else some false) out) : ∀ (j i : Nat) (x : List Int),i + j = N → x.length = N → (∀ k,k < i → vf x k = 1) → Ev (fun k=>impl_areFew.l0 k ps x (N : Int) (i : Int)) out
|0,i,x,hj,hx,hv=>by
  have e : x = ones N:=vf_ext (by simp [ones,hx]) fun k hk=>by rw [hv k (by omega),ones,vf_get _ _ (by simp;omega)];simp
  rw [← e] at h
  refine Ev.step (fun k=>?_) h
  rw [impl_areFew.l0,if_neg (by omega)]
|j + 1,i,x,hj,hx,hv=>by
  refine Ev.step (fun k=>?_) (fill_l ps N hN h j (i + 1) (x.set i 1) (by omega) (by simpa using hx) fun k hk=>?_)
  ·rw [impl_areFew.l0,if_pos (by omega),if_pos (by omega),if_pos (by omega),w64_nat (by omega),Int.toNat_natCast]
  ·rw [vf_set _ _ _ (by omega)]
   by_cases c : k = i
   ·rw [if_pos c]
   ·rw [if_neg c]
    exact hv k (by omega)
theorem impl_areFew_ev (ps : List (List Int)) (hl : ps.length ≤ 1048576) (hr : ∀ r ∈ ps,r.length ≤ 1048576) : Ev (fun k=>impl_areFew.f k ps) (fewB ps):=by
 unfold impl_areFew.f
 refine ev_if_pos (by omega) (ev_if_pos (by omega) ?_)
 simp only [Option.bind_some,Int.toNat_natCast,List.length_replicate]
 refine fill_l ps ps.length (by omega) ?_ ps.length 0 _ (by omega) (by simp) (fun k hk=>by omega)
 unfold fewB
 by_cases c : ps.length ≤ 8
 ·rw [decide_eq_true c,Bool.true_and]
  refine ev_if_pos (by omega) ?_
  exact Ev.bind (ev_of 1048600 fun k hk=>impl_IsSample_is k ps _ hr (by simp [ones];omega) hk) (ev_const _)
 ·rw [decide_eq_false c,Bool.false_and]
  exact ev_if_neg (by omega) (ev_const _)
theorem ones_l (ps : List (List Int)) (hl : ps.length ≤ 1048576) (hr : ∀ r ∈ ps,r.length ≤ 1048576) : ∀ (j i : Nat) (x : List Int),i + j = ps.length → x = ones i → Ev (fun k=>spec_l4Points.l0 k ps x (i : Int)) (fewB ps)
|0,i,x,hj,hx=>by
  obtain rfl : i = ps.length:=by omega
  refine Ev.step (f:=fun k=>if (ps.length : Int) ≤ 8 then (spec_l2Sample.f k ps x).bind fun t=>some t else some false) (fun k=>?_) ?_
  ·rw [spec_l4Points.l0,if_neg (by omega)]
  ·rw [hx]
   unfold fewB
   by_cases c : ps.length ≤ 8
   ·rw [decide_eq_true c,Bool.true_and]
    refine ev_if_pos (by omega) ?_
    exact Ev.bind (ev_of 1048600 fun k hk=>spec_l2Sample_is k ps _ hr (by simp [ones];omega) hk) (ev_const _)
   ·rw [decide_eq_false c,Bool.false_and]
    exact ev_if_neg (by omega) (ev_const _)
|j + 1,i,x,hj,hx=>by
  have hxl : x.length = i:=by rw [hx];simp [ones]
  refine Ev.step (fun k=>?_) (ones_l ps hl hr j (i + 1) (x ++ [1]) (by omega) (by rw [hx,ones,ones,List.replicate_succ']))
  rw [spec_l4Points.l0,if_pos (by omega),if_pos (by omega),w64_nat (by omega)]
theorem spec_l4Points_ev (ps : List (List Int)) (hl : ps.length ≤ 1048576) (hr : ∀ r ∈ ps,r.length ≤ 1048576) : Ev (fun k=>spec_l4Points.f k ps) (fewB ps):=ones_l ps hl hr ps.length 0 [] (by omega) rfl
theorem fewB_sm {ps : List (List Int)} (h : fewB ps = true) : ps.length ≤ 8 ∧ smB ps (ones ps.length) = true:=by
 unfold fewB at h
 obtain ⟨a,b⟩:=Bool.and_eq_true_iff.1 h
 exact ⟨of_decide_eq_true a,b⟩
theorem inv_null {m n : Nat} {A M : Nat → Nat → Int} {piv : List Nat} (h : Inv m n n A M piv) : (∃ x,Ker m n A x ∧ ∃ k,k < n ∧ x k ≠ 0) ↔ piv.length < n:=by
 obtain ⟨o,p,s1,s2,s3,s4,s5⟩:=h.fin
 constructor
 ·rintro ⟨x,hx,k,hk,hne⟩
  have le:=s2.le
  by_cases c : piv.length = n
  ·exact absurd (s2.none c ((h.ker x).2 hx) k hk) hne
  ·omega
 ·intro hlt
  obtain ⟨f,hf,hfp⟩:=exists_not_mem piv n hlt
  obtain ⟨x,hx,hxf,_⟩:=s2.free hf (fun j hj e=>hfp (by
   have q:=s3 j hj
   rw [List.getElem?_eq_getElem hj] at q
   have e2 : piv[j] = p j:=Option.some.inj q
   rw [← e,← e2]
   exact List.getElem_mem hj))
  exact ⟨x,(h.ker x).1 hx,f,hf,hxf⟩
theorem sm_insert : ∀ (s p : Nat) (f : Nat → Int),p ≤ s → sm (s + 1) (fun k=>if k < p then f k else if k = p then 0 else f (k - 1)) = sm s f
|s,p,f,hp=>by
  by_cases e : p = s
  ·subst e
   rw [sm,if_neg (by omega),if_pos rfl,Int.add_zero]
   exact sm_congr fun k hk=>if_pos hk
  ·match s,hp,e with
  |0,hp,e=>exact absurd (by omega) e
  |s + 1,hp,e =>
    have ih:=sm_insert s p f (by omega)
    rw [sm,ih,if_neg (by omega),if_neg (by omega)]
    rfl
def rowOf (ps : List (List Int)) (S : List Int) (k x : Nat) : Int:=vf (1 :: rd_L1 ps (vf S k)) x
def dep (ps : List (List Int)) (S : List Int) : Prop:=Dep S.length (rowOf ps S)
noncomputable def depT (ps : List (List Int)) (S : List Int) : Bool:=@decide (dep ps S) (Classical.propDecidable _)
theorem depT_iff (ps : List (List Int)) (S : List Int) : depT ps S = true ↔ dep ps S:=@decide_eq_true_iff _ (Classical.propDecidable _)
theorem vf_app (L1 L2 : List Int) (a : Int) (k : Nat) : vf (L1 ++ a :: L2) k = if k < L1.length then vf (L1 ++ L2) k else if k = L1.length then a else vf (L1 ++ L2) (k - 1):=by
 unfold vf
 simp only [List.getD_eq_getElem?_getD]
 by_cases c : k < L1.length
 ·rw [if_pos c,List.getElem?_append_left c,List.getElem?_append_left c]
 ·rw [if_neg c,List.getElem?_append_right (by omega)]
  by_cases c2 : k = L1.length
  ·rw [if_pos c2,c2]
   simp
  ·rw [if_neg c2,List.getElem?_append_right (by omega)]
   obtain ⟨j,hj⟩ : ∃ j,k - L1.length = j + 1:=⟨k - L1.length - 1,by omega⟩
   rw [hj,show k - 1 - L1.length = j by omega]
   rfl
theorem dep_insert (ps : List (List Int)) (L1 L2 : List Int) (a : Int) (h : dep ps (L1 ++ L2)) : dep ps (L1 ++ a :: L2):=by
 obtain ⟨d,⟨k0,hk0,hne⟩,hz⟩:=h
 have l1 : (L1 ++ a :: L2).length = (L1 ++ L2).length + 1:=by simp;omega
 have l2 : L1.length ≤ (L1 ++ L2).length:=by simp
 refine ⟨fun k=>if k < L1.length then d k else if k = L1.length then 0 else d (k - 1),?_,fun x=>?_⟩
 ·rw [l1]
  by_cases c : k0 < L1.length
  ·exact ⟨k0,by omega,by show (if k0 < L1.length then d k0 else _) ≠ 0;rw [if_pos c];exact hne⟩
  ·refine ⟨k0 + 1,by omega,?_⟩
   show (if k0 + 1 < L1.length then d (k0 + 1) else if k0 + 1 = L1.length then 0 else d (k0 + 1 - 1)) ≠ 0
   rw [if_neg (by omega),if_neg (by omega)]
   exact hne
 ·rw [l1]
  refine Eq.trans (sm_congr fun k _=>?_) ((sm_insert _ L1.length (fun k=>d k * rowOf ps (L1 ++ L2) k x) l2).trans (hz x))
  show (if k < L1.length then d k else if k = L1.length then 0 else d (k - 1)) * rowOf ps (L1 ++ a :: L2) k x = if k < L1.length then d k * rowOf ps (L1 ++ L2) k x else if k = L1.length then 0 else d (k - 1) * rowOf ps (L1 ++ L2) (k - 1) x
  unfold rowOf
  rw [vf_app]
  by_cases c : k < L1.length
  ·rw [if_pos c,if_pos c,if_pos c]
  ·rw [if_neg c,if_neg c,if_neg c]
   by_cases c2 : k = L1.length
   ·rw [if_pos c2,if_pos c2,if_pos c2,Int.zero_mul]
   ·rw [if_neg c2,if_neg c2,if_neg c2]
theorem place_in : ∀ (S : List Int) (a : Int),S.Pairwise (· < ·) → a ∉ S → ∃ L1 L2,S = L1 ++ L2 ∧ (∀ x ∈ L1,x < a) ∧ ∀ x ∈ L2,a < x
|[],a,_,_=>⟨[],[],rfl,by simp,by simp⟩
|x :: S,a,hp,ha=>by
  have hp2:=List.pairwise_cons.1 hp
  by_cases c : x < a
  ·obtain ⟨L1,L2,e,h1,h2⟩:=place_in S a hp2.2 (fun h=>ha (List.mem_cons_of_mem _ h))
   refine ⟨x :: L1,L2,by rw [e];rfl,fun y hy=>?_,h2⟩
   rcases List.mem_cons.1 hy with rfl|hy
   ·exact c
   ·exact h1 y hy
  ·have hne : a ≠ x:=fun e=>ha (by rw [e];exact List.mem_cons_self ..)
   refine ⟨[],x :: S,rfl,by simp,fun y hy=>?_⟩
   rcases List.mem_cons.1 hy with rfl|hy
   ·omega
   ·have:=hp2.1 y hy
    omega
theorem asc_more {n : Nat} {S : List Int} (h : Asc n S) (hl : S.length < n) : ∃ a L1 L2,S = L1 ++ L2 ∧ Asc n (L1 ++ a :: L2):=by
 obtain ⟨f,hf,hfp⟩:=exists_not_mem (S.map Int.toNat) n (by simpa using hl)
 have ha : (f : Int) ∉ S:=fun hm=>hfp (List.mem_map.2 ⟨(f : Int),hm,by simp⟩)
 obtain ⟨L1,L2,e,h1,h2⟩:=place_in S (f : Int) h.1 ha
 have hp:=h.1
 rw [e] at hp
 obtain ⟨q1,q2,q3⟩:=List.pairwise_append.1 hp
 refine ⟨(f : Int),L1,L2,e,List.pairwise_append.2 ⟨q1,List.pairwise_cons.2 ⟨h2,q2⟩,fun x hx y hy=>?_⟩,fun x hx=>?_⟩
 ·rcases List.mem_cons.1 hy with rfl|hy
  ·exact h1 x hx
  ·exact q3 x hx y hy
 ·rcases List.mem_append.1 hx with hx|hx
  ·exact h.2 x (by rw [e];exact List.mem_append_left _ hx)
  ·rcases List.mem_cons.1 hx with rfl|hx
   ·exact ⟨by omega,by omega⟩
   ·exact h.2 x (by rw [e];exact List.mem_append_right _ hx)
theorem dep_up (ps : List (List Int)) {n : Nat} : ∀ (j : Nat) (S : List Int),Asc n S → S.length + j ≤ n → dep ps S → ∃ T,Asc n T ∧ T.length = S.length + j ∧ dep ps T
|0,S,h,_,hd=>⟨S,h,rfl,hd⟩
|j + 1,S,h,hl,hd=>by
  obtain ⟨a,L1,L2,e,h2⟩:=asc_more h (by omega)
  have hl2 : (L1 ++ a :: L2).length = S.length + 1:=by rw [e];simp;omega
  rw [e] at hd
  obtain ⟨T,t1,t2,t3⟩:=dep_up ps j (L1 ++ a :: L2) h2 (by omega) (dep_insert ps L1 L2 a hd)
  exact ⟨T,t1,by omega,t3⟩
theorem chG_all (kk n : Nat) : ∀ (f : Nat) (set R : List Int),f ≤ n → R.Pairwise (· < ·) → (∀ x ∈ R,((n - f : Nat) : Int) ≤ x ∧ x < (n : Int)) → set.length + R.length = kk → set ++ R ∈ chG kk n f set
|f,set,[],hf,hp,hr,hl=>by
  have : set.length = kk:=by simpa using hl
  unfold chG
  rw [if_pos this,List.append_nil]
  exact List.mem_singleton.2 rfl
|0,set,r :: R,hf,hp,hr,hl=>by
  have:=hr r (List.mem_cons_self ..)
  omega
|f + 1,set,r :: R,hf,hp,hr,hl=>by
  have hl2 : set.length + (R.length + 1) = kk:=hl
  have hp2:=List.pairwise_cons.1 hp
  have hrr:=hr r (List.mem_cons_self ..)
  unfold chG
  rw [if_neg (by omega),chL_succ]
  by_cases c : r = ((n - (f + 1) : Nat) : Int)
  ·refine List.mem_append_left _ ?_
   have:=chG_all kk n f (set ++ [r]) R (by omega) hp2.2 (fun x hx=>by
    have a1:=hp2.1 x hx
    have a2:=hr x (List.mem_cons_of_mem _ hx)
    omega) (by rw [List.length_append,List.length_singleton];omega)
   rw [List.append_assoc,List.singleton_append] at this
   rw [← c]
   exact this
  ·refine List.mem_append_right _ ?_
   have:=chG_all kk n f set (r :: R) (by omega) hp (fun x hx=>by
    have a2:=hr x hx
    rcases List.mem_cons.1 hx with rfl|hx
    ·omega
    ·have a1:=hp2.1 x hx
     omega) hl
   unfold chG at this
   rw [if_neg (by omega)] at this
   exact this
theorem chG_mem {kk n : Nat} {S : List Int} (h : Asc n S) (hl : S.length = kk) : S ∈ chG kk n n []:=by
 have:=chG_all kk n n [] S (Nat.le_refl _) h.1 (fun x hx=>by have:=h.2 x hx;omega) (by simpa using hl)
 simpa using this
theorem chG_nil {kk n : Nat} (h : n < kk) : chG kk n n [] = []:=by
 unfold chG
 rw [if_neg (by simp;omega)]
 exact chL_nil kk n n [] (by simpa using h)
noncomputable def anyFrom (ps : List (List Int)) (n : Nat) : Nat → Nat → Bool
|0,_=>false
|j + 1,s=>(chG s n n []).any (depT ps) || anyFrom ps n j (s + 1)
theorem anyFrom_iff (ps : List (List Int)) (n : Nat) : ∀ (j s : Nat),anyFrom ps n j s = true ↔ ∃ S,Asc n S ∧ s ≤ S.length ∧ S.length < s + j ∧ dep ps S
|0,s=>by
  simp only [anyFrom,Bool.false_eq_true,false_iff]
  rintro ⟨S,_,h1,h2,_⟩
  omega
|j + 1,s=>by
  rw [anyFrom,Bool.or_eq_true,anyFrom_iff ps n j (s + 1),List.any_eq_true]
  constructor
  ·rintro (⟨S,hm,hd⟩|⟨S,a,h1,h2,hd⟩)
   ·obtain ⟨a,l⟩:=chG_asc s n S hm
    exact ⟨S,a,by omega,by omega,(depT_iff ps S).1 hd⟩
   ·exact ⟨S,a,by omega,by omega,hd⟩
  ·rintro ⟨S,a,h1,h2,hd⟩
   by_cases c : S.length = s
   ·exact .inl ⟨S,chG_mem a c,(depT_iff ps S).2 hd⟩
   ·exact .inr ⟨S,a,by omega,by omega,hd⟩
theorem asc_len {n : Nat} {S : List Int} (h : Asc n S) : S.length ≤ n:=by
 by_cases c : n < S.length
 ·have:=chG_mem h rfl
  rw [chG_nil c] at this
  simp at this
 ·omega
theorem dep_one (ps : List (List Int)) (S : List Int) (h : S.length = 1) : ¬ dep ps S:=by
 rintro ⟨d,⟨k,hk,hne⟩,hz⟩
 have:=hz 0
 rw [h] at this hk
 obtain rfl : k = 0:=by omega
 have e : rowOf ps S 0 0 = 1:=by simp [rowOf,vf]
 rw [sm,sm,e] at this
 omega
theorem any_same (ps : List (List Int)) {n d M : Nat} (hd : 1 ≤ d) (hn : 1 ≤ n) (hM : M = if d + 1 < n then d + 1 else n) : (chG M n n []).any (depT ps) = anyFrom ps n d 2:=by
 apply Bool.eq_iff_iff.2
 rw [anyFrom_iff,List.any_eq_true]
 have b : M ≤ n ∧ M ≤ d + 1 ∧ (M = n ∨ M = d + 1):=by rw [hM];split <;> omega
 constructor
 ·rintro ⟨S,hm,hs⟩
  obtain ⟨a,l⟩:=chG_asc M n S hm
  have hs:=(depT_iff ps S).1 hs
  refine ⟨S,a,?_,by omega,hs⟩
  by_cases c : S.length = 1
  ·exact absurd hs (dep_one ps S c)
  ·omega
 ·rintro ⟨S,a,h1,h2,hs⟩
  have l:=asc_len a
  obtain ⟨T,t1,t2,t3⟩:=dep_up ps (M - S.length) S a (by omega) hs
  exact ⟨T,chG_mem t1 (by omega),(depT_iff ps T).2 t3⟩
def oneL (ps : List (List Int)) (S : List Int) : List (List Int):=S.map fun x=>1 :: rd_L1 ps x
def ptsOf (ps : List (List Int)) (S : List Int) : List (List Int):=S.map fun x=>rd_L1 ps x
structure Pl (ps : List (List Int)) (S : List Int) (d n : Nat) : Prop where
 len : S.length = n
 pt : ∀ x ∈ S,(rd_L1 ps x).length = d ∧ ∀ k,-9 ≤ vf (rd_L1 ps x) k ∧ vf (rd_L1 ps x) k ≤ 9
 ok : ∀ x ∈ S,0 ≤ x ∧ x < ps.length
 d4 : 1 ≤ d ∧ d ≤ 4
theorem pl_of {ps : List (List Int)} {S : List Int} (hs : smB ps (ones ps.length) = true) (ha : Asc ps.length S) (h0 : 0 < ps.length) : Pl ps S (ps.headD []).length S.length:=by
 obtain ⟨h16,hlen,hlb,hrow⟩:=smB_parts hs
 have ok : ∀ x ∈ S,0 ≤ x ∧ x < ps.length:=fun x hx=>by have:=ha.2 x hx;omega
 have hd : 1 ≤ (ps.headD []).length ∧ (ps.headD []).length ≤ 4:=by
  cases ps with
 |nil=>simp at h0
 |cons a t=>exact (ptB_parts (hrow a (by simp)).1).2
 refine ⟨rfl,fun x hx=>?_,ok,hd⟩
 obtain ⟨q1,q2⟩:=ok x hx
 have e : rd_L1 ps x = ps[x.toNat]'(by omega):=by
  unfold rd_L1
  rw [getD_get _ _ (by omega)]
 rw [e]
 have:=hrow _ (List.getElem_mem (show x.toNat < ps.length by omega))
 refine ⟨this.2,fun k=>?_⟩
 by_cases c : k < (ps[x.toNat]'(by omega)).length
 ·rw [vf_get _ _ c]
  exact all_range (ptB_parts this.1).1 k c
 ·rw [vf_out _ _ (by omega)]
  omega
section
variable {ps : List (List Int)} {S : List Int} {d n : Nat}
theorem vf_cons (a : Int) (p : List Int) (k : Nat) : vf (a :: p) k = match k with|0=>a|k + 1=>vf p k:=by
 cases k <;> simp [vf]
theorem vf_mem (h : Pl ps S d n) (k : Nat) (hk : k < n) : vf S k ∈ S:=by
 have:=h.len
 rw [vf_get S k (by omega)]
 exact List.getElem_mem _
theorem one_rep (h : Pl ps S d n) : Rep n (d + 1) (oneL ps S) (rowOf ps S):=by
 have hl:=h.len
 refine ⟨by simp [oneL,hl],fun i hi=>?_⟩
 have e : (oneL ps S).getD i [] = 1 :: rd_L1 ps (vf S i):=by
  rw [getD_get _ _ (by simp [oneL];omega),vf_get S i (by omega)]
  simp [oneL]
 rw [e]
 refine ⟨?_,rfl⟩
 rw [List.length_cons,(h.pt _ (vf_mem h i hi)).1]
theorem row_9 (h : Pl ps S d n) : ∀ i,i < n → ∀ x,-9 ≤ rowOf ps S i x ∧ rowOf ps S i x ≤ 9:=fun i hi x=>by
 unfold rowOf
 rw [vf_cons]
 cases x with
|zero=>show -9 ≤ (1 : Int) ∧ (1 : Int) ≤ 9;omega
|succ x=>exact (h.pt _ (vf_mem h i hi)).2 x
theorem row_z (h : Pl ps S d n) : ∀ i,i < n → ∀ k,d + 1 ≤ k → rowOf ps S i k = 0:=fun i hi k hk=>by
 unfold rowOf
 refine vf_out _ _ ?_
 rw [List.length_cons,(h.pt _ (vf_mem h i hi)).1]
 exact hk
theorem pts_len (h : Pl ps S d n) : (ptsOf ps S).length = n:=by simp [ptsOf,h.len]
theorem pts_get (h : Pl ps S d n) (k : Nat) (hk : k < n) : (ptsOf ps S).getD k [] = rd_L1 ps (vf S k):=by
 have:=h.len
 rw [getD_get _ _ (by rw [pts_len h];exact hk),vf_get S k (by omega)]
 simp [ptsOf]
theorem eq_9 (h : Pl ps S d n) : ∀ i,i < d + 1 → ∀ x,-9 ≤ eqA d (ptsOf ps S) i x ∧ eqA d (ptsOf ps S) i x ≤ 9:=fun i _ x=>by
 unfold eqA
 by_cases c : i < d
 ·rw [if_pos c]
  by_cases c2 : x < n
  ·rw [pts_get h x c2]
   exact (h.pt _ (vf_mem h x c2)).2 i
  ·rw [getD_out _ _ (by rw [pts_len h];omega),vf_nil]
   omega
 ·rw [if_neg c]
  split <;> omega
theorem eq_z (h : Pl ps S d n) : ∀ i,i < d + 1 → ∀ k,n ≤ k → eqA d (ptsOf ps S) i k = 0:=fun i _ k hk=>by
 unfold eqA
 rw [getD_out _ _ (by rw [pts_len h];exact hk),vf_nil,pts_len h]
 split
 ·rfl
 ·rw [if_neg (by omega)]
theorem ker_dep (h : Pl ps S d n) : (∃ x,Ker (d + 1) n (eqA d (ptsOf ps S)) x ∧ ∃ k,k < n ∧ x k ≠ 0) ↔ dep ps S:=by
 have hl:=h.len
 unfold dep
 rw [hl]
 have e0 : ∀ k,k < n → eqA d (ptsOf ps S) d k = rowOf ps S k 0:=fun k hk=>by
  unfold eqA rowOf
  rw [if_neg (by omega),pts_len h,if_pos hk]
  rfl
 have e1 : ∀ i,i < d → ∀ k,k < n → eqA d (ptsOf ps S) i k = rowOf ps S k (i + 1):=fun i hi k hk=>by
  unfold eqA rowOf
  rw [if_pos hi,pts_get h k hk,vf_cons]
 constructor
 ·rintro ⟨x,hx,hne⟩
  refine ⟨x,hne,fun q=>?_⟩
  cases q with
 |zero=>rw [← hx d (by omega)];exact sm_congr fun k hk=>by rw [e0 k hk,Int.mul_comm]
 |succ q =>
   by_cases c : q < d
   ·rw [← hx q (by omega)]
    exact sm_congr fun k hk=>by rw [e1 q c k hk,Int.mul_comm]
   ·exact sm_zero fun k hk=>by rw [row_z h k hk (q + 1) (by omega),Int.mul_zero]
 ·rintro ⟨x,hne,hx⟩
  refine ⟨x,fun i hi=>?_,hne⟩
  by_cases c : i < d
  ·rw [← hx (i + 1)]
   exact sm_congr fun k hk=>by rw [e1 i c k hk,Int.mul_comm]
  ·obtain rfl : i = d:=by omega
   rw [← hx 0]
   exact sm_congr fun k hk=>by rw [e0 k hk,Int.mul_comm]
theorem one_ev (h : Pl ps S d n) (hn : n ≤ 100) : ∀ (j i : Nat) (acc : List (List Int)),i + j = n → acc = (oneL ps S).take i → Ev (fun k=>impl_InGeneralPosition.v0 ps S k acc (i : Int)) (oneL ps S)
|0,i,acc,hj,ha=>by
  have hl:=h.len
  refine Ev.step (f:=fun _=>some (oneL ps S)) (fun k=>?_) (ev_const _)
  rw [impl_InGeneralPosition.v0,if_neg (by omega),ha,List.take_of_length_le (by simp [oneL];omega)]
|j + 1,i,acc,hj,ha=>by
  have hl:=h.len
  have d4:=h.d4
  have hi : i < S.length:=by omega
  have hiv : i < (oneL ps S).length:=by simp [oneL];omega
  obtain ⟨q1,q2⟩:=h.ok S[i] (List.getElem_mem hi)
  have q3:=(h.pt S[i] (List.getElem_mem hi)).1
  have hal : acc.length ≤ 100:=by rw [ha,List.length_take];omega
  refine Ev.step (fun k=>?_) (one_ev h hn j (i + 1) (acc ++ [[1] ++ rd_L1 ps S[i]]) (by omega) ?_)
  ·rw [impl_InGeneralPosition.v0,if_pos (by omega),if_pos (by omega),rd_vf,vf_get S i hi,if_pos (by omega),if_pos (by omega),if_pos (by omega),if_pos (by omega),w64_nat (by omega)]
  ·rw [ha,List.take_succ_eq_append_getElem hiv]
   congr 1
   simp [oneL]
theorem gvisit_ev (h : Pl ps S d n) (hn1 : 1 ≤ n) (hn5 : n ≤ 5) (s : Unit) : Ev (fun k=>impl_InGeneralPosition.v ps (n : Int) k s S) (depT ps S,s):=by
 have hl:=h.len
 have d4:=h.d4
 have ol : (oneL ps S).length = n:=by simp [oneL,hl]
 have o0 : (rd_L1 (oneL ps S) 0).length = d + 1:=by
  have:=((one_rep h).row 0 (by omega)).1
  rw [← this]
  simp [rd_L1]
 have inv0:=Inv.start n (d + 1) (rowOf ps S) (row_9 h) (row_z h)
 obtain ⟨R,hR,hE⟩:=impl_reduced_ev hn5 (by omega) (d + 1) 0 (rowOf ps S) [] (oneL ps S) (by omega) (one_rep h) inv0
 have inv:=Inv.all hn5 keeps64 true (d + 1) 0 (rowOf ps S) [] (by omega) inv0
 obtain ⟨piv,hpv⟩ : ∃ piv,(elim wrap64 true (d + 1) n (d + 1) 0 (rowOf ps S) []).2 = piv:=⟨_,rfl⟩
 rw [hpv] at inv hE
 have hE' : Ev (fun k=>impl_reduced.f k (oneL ps S) (((rd_L1 (oneL ps S) 0).length : Int))) (ints piv,R):=by
  unfold impl_reduced.f
  rw [o0,ol]
  exact hE
 unfold impl_InGeneralPosition.v
 refine Ev.bind (one_ev h (by omega) n 0 [] (by omega) rfl) (ev_if_pos (by omega) (Ev.bind hE' ?_))
 have e : decide (((ints piv).length : Int) < (n : Int)) = depT ps S:=by
  apply Bool.eq_iff_iff.2
  rw [depT_iff,decide_eq_true_eq,ints_length]
  unfold dep
  rw [hl,inv.dep (row_z h)]
  omega
 show Ev (fun _=>some (decide (((ints piv).length : Int) < (n : Int)),s)) _
 rw [e]
 exact ev_const _
theorem pivots_ev (h : Pl ps S d n) (hn1 : 1 ≤ n) (hn5 : n ≤ 5) : ∃ (R : List (List Int)) (piv : List Int),Ev (fun k=>spec_l4Reduced.f k (eqL d (ptsOf ps S)) (n : Int)) (R,piv) ∧ ((piv.length : Int) < (n : Int) ↔ dep ps S):=by
 have d4:=h.d4
 have rep0:=eqL_rep d (ptsOf ps S)
 rw [pts_len h] at rep0
 have inv0:=Inv.start (d + 1) n (eqA d (ptsOf ps S)) (eq_9 h) (eq_z h)
 obtain ⟨R,hR,hE⟩:=spec_l4Reduced_ev (by omega) (by omega) n 0 (eqA d (ptsOf ps S)) [] (eqL d (ptsOf ps S)) (by omega) rep0 inv0
 have inv:=Inv.all (by omega) keeps64 false n 0 (eqA d (ptsOf ps S)) [] (by omega) inv0
 obtain ⟨piv,hpv⟩ : ∃ piv,(elim wrap64 false n (d + 1) n 0 (eqA d (ptsOf ps S)) []).2 = piv:=⟨_,rfl⟩
 rw [hpv] at inv hE
 have rlen:=rep0.len
 refine ⟨R,ints piv,?_,?_⟩
 ·unfold spec_l4Reduced.f
  refine Ev.bind (spec_l2Rows_ev _ (by omega) fun x hx=>?_) ?_
  ·obtain ⟨i,hi,rfl⟩:=List.getElem_of_mem hx
   have:=(rep0.row i (by omega)).1
   rw [getD_get _ _ hi] at this
   omega
  ·rw [rlen]
   exact hE
 ·rw [← ker_dep h,inv_null inv,ints_length]
  omega
end
section
variable {ps : List (List Int)} {d : Nat}
theorem some_ev {S : List Int} {n : Nat} (h : Pl ps S d n) (hn1 : 1 ≤ n) (hn5 : n ≤ 5) (L : List (List Int)) (i : Nat) (hi : i < L.length) (hS : L.getD i [] = S) {out : Bool × Bool}
  (next : ¬ dep ps S → Ev (fun k=>spec_InGeneralPosition.l1 k ps (n : Int) L (wrap64 ((i : Int) + 1))) out) (hout : dep ps S → out = (false,true)) :
  ∀ (j q : Nat) (acc : List (List Int)),q + j = n → acc = (ptsOf ps S).take q → Ev (fun k=>spec_InGeneralPosition.l2 k ps (n : Int) L (i : Int) acc (q : Int)) out
|0,q,acc,hj,ha=>by
  have pl:=pts_len h
  have d4:=h.d4
  have e : acc = ptsOf ps S:=by rw [ha,List.take_of_length_le (by omega)]
  have EQ:=spec_l4Equations_ev (d:=d) pl hn1 (fun v hv=>by
   obtain ⟨x,hx,rfl⟩:=List.mem_map.1 hv
   exact (h.pt x hx).1) (by omega) (by omega)
  obtain ⟨R,piv,h1,h2⟩:=pivots_ev h hn1 hn5
  refine Ev.step (f:=fun k=>(spec_l4Equations.f k (ptsOf ps S)).bind fun t208=>((spec_l4Reduced.f k t208 (n : Int)).bind fun bt211=>(if (bt211.2.length : Int) < (n : Int) then (some (false,true)) else (spec_InGeneralPosition.l1 k ps (n : Int) L (wrap64 ((i : Int) + 1)))))) (fun k=>?_) (Ev.bind EQ (Ev.bind h1 ?_))
  ·rw [spec_InGeneralPosition.l2,if_neg (by omega),e]
  ·by_cases c : dep ps S
   ·refine ev_if_pos (h2.2 c) ?_
    rw [hout c]
    exact ev_const _
   ·exact ev_if_neg (fun q=>c (h2.1 q)) (next c)
|j + 1,q,acc,hj,ha=>by
  have pl:=pts_len h
  have hl:=h.len
  have hq : q < S.length:=by omega
  have hqp : q < (ptsOf ps S).length:=by omega
  obtain ⟨q1,q2⟩:=h.ok S[q] (List.getElem_mem hq)
  have hal : acc.length ≤ 100:=by rw [ha,List.length_take];omega
  refine Ev.step (fun k=>?_) (some_ev h hn1 hn5 L i hi hS next hout j (q + 1) (acc ++ [rd_L1 ps S[q]]) (by omega) ?_)
  ·rw [spec_InGeneralPosition.l2,if_pos (by omega),if_pos (by omega),if_pos (by omega),if_pos (by omega),rdL_nat,hS,if_pos (by omega),rd_vf,vf_get S q hq,if_pos (by omega),if_pos (by omega),if_pos (by omega),w64_nat (by omega)]
  ·rw [ha,List.take_succ_eq_append_getElem hqp]
   congr 1
   simp [ptsOf]
theorem size_l1 (hs : smB ps (ones ps.length) = true) (h0 : 0 < ps.length) (h8 : ps.length ≤ 8) (s : Nat) (hs1 : 1 ≤ s) (hs5 : s ≤ 5) (L : List (List Int)) (hL : L = chG s ps.length ps.length []) {out : Bool × Bool}
  (next : L.any (depT ps) = false → Ev (fun k=>spec_InGeneralPosition.l0 k ps (wrap64 ((s : Int) + 1))) out) (hout : L.any (depT ps) = true → out = (false,true)) :
  ∀ (j i : Nat),i + j = L.length → L.any (depT ps) = (L.drop i).any (depT ps) → Ev (fun k=>spec_InGeneralPosition.l1 k ps (s : Int) L (i : Int)) out
|0,i,hj,hi=>by
  rw [List.drop_of_length_le (by omega)] at hi
  refine Ev.step (fun k=>?_) (next (hi.trans rfl))
  rw [spec_InGeneralPosition.l1,if_neg (by omega)]
|j + 1,i,hj,hi=>by
  have hlt : i < L.length:=by omega
  have hmem : L[i] ∈ chG s ps.length ps.length []:=by rw [← hL];exact List.getElem_mem hlt
  have hll : L.length ≤ 1000000:=by
   rw [hL]
   have:=chG_len s ps.length ps.length []
   have p : 2 ^ ps.length ≤ 2 ^ 8:=Nat.pow_le_pow_right (by omega) h8
   have : (2 : Nat) ^ 8 = 256:=by decide
   omega
  obtain ⟨asc,len⟩:=chG_asc s ps.length _ hmem
  have pl:=pl_of hs asc h0
  rw [len] at pl
  rw [List.drop_eq_getElem_cons hlt,List.any_cons] at hi
  refine Ev.step (fun k=>by rw [spec_InGeneralPosition.l1,if_pos (by omega)];rfl) (some_ev pl hs1 hs5 L i hlt (by rw [getD_get _ _ hlt]) (fun c=>?_) (fun c=>hout ?_) s 0 [] (by omega) (by simp))
  ·rw [w64_nat (by omega)]
   have e : depT ps L[i] = false:=by
    rw [Bool.eq_false_iff]
    exact fun q=>c ((depT_iff ps _).1 q)
   rw [e,Bool.false_or] at hi
   exact size_l1 hs h0 h8 s hs1 hs5 L hL next hout j (i + 1) (by omega) hi
  ·rw [hi,(depT_iff ps _).2 c,Bool.true_or]
theorem size_l0 (hs : smB ps (ones ps.length) = true) (h0 : 0 < ps.length) (h8 : ps.length ≤ 8) (hd : (ps.headD []).length = d) (hd4 : d ≤ 4) : ∀ (j s : Nat),2 ≤ s → s + j = d + 2 → Ev (fun k=>spec_InGeneralPosition.l0 k ps (s : Int)) (!anyFrom ps ps.length j s,true)
|j,s,hs2,hj=>by
  have e0 : rd_L1 ps 0 = ps.headD []:=by cases ps <;> simp [rd_L1]
  have ew : wrap64 ((d : Int) + 1) = (d : Int) + 1:=w64 (by omega) (by omega)
  match j,hj with
 |0,hj =>
   refine Ev.step (f:=fun k=>spec_InGeneralPosition.j1 k ps (s : Int) false) (fun k=>?_) ?_
   ·rw [spec_InGeneralPosition.l0,if_pos (by omega),if_pos (by omega),e0,hd,ew,decide_eq_false (by omega)]
   ·refine Ev.step (f:=fun _=>some (true,true)) (fun k=>?_) (ev_const _)
    rw [spec_InGeneralPosition.j1,if_neg (by simp)]
 |j + 1,hj =>
   refine Ev.step (f:=fun k=>spec_InGeneralPosition.j1 k ps (s : Int) true) (fun k=>?_) ?_
   ·rw [spec_InGeneralPosition.l0,if_pos (by omega),if_pos (by omega),e0,hd,ew,decide_eq_true (by omega)]
   ·refine Ev.step (f:=fun k=>(spec_l4Choose.f k (ps.length : Int) (s : Int) (([] : List Int))).bind fun t=>(spec_InGeneralPosition.l1 k ps (s : Int) t 0)) (fun k=>by rw [spec_InGeneralPosition.j1,if_pos rfl]) (Ev.bind (spec_l4Choose_ev ps.length s (by omega)) ?_)
    refine size_l1 hs h0 h8 s (by omega) (by omega) _ rfl (fun e=>?_) (fun e=>?_) (chG s ps.length ps.length []).length 0 (by omega) (by rw [List.drop_zero])
    ·rw [w64_nat (by omega),anyFrom,e,Bool.false_or]
     exact size_l0 hs h0 h8 hd hd4 j (s + 1) (by omega) (by omega)
    ·rw [anyFrom,e]
     rfl
end
theorem runV_any (t : List Int → Bool) : ∀ (L : List (List Int)),runV t (fun _ (s : Unit)=>s) L () = (L.any t,())
|[]=>rfl
|S :: L=>by
  rw [runV,runV_any t L,List.any_cons]
  by_cases c : t S = true
  ·rw [if_pos c,c]
   rfl
  ·rw [if_neg c,Bool.eq_false_iff.2 c]
   rfl
theorem general_same (ps : List (List Int)) (hl : ps.length ≤ 1048576) (hr : ∀ r ∈ ps,r.length ≤ 1048576) : ∃ v b,Ev (fun k=>impl_InGeneralPosition.f k ps) (v,b) ∧ Ev (fun k=>spec_InGeneralPosition.f k ps) (v,b):=by
 by_cases c : fewB ps = true
 ·obtain ⟨h8,hs⟩:=fewB_sm c
  by_cases z : ps.length = 0
  ·refine ⟨true,true,?_,?_⟩
   ·unfold impl_InGeneralPosition.f
    exact Ev.bind (impl_areFew_ev ps hl hr) (ev_if_pos c (ev_if_pos (by omega) (ev_const _)))
   ·unfold spec_InGeneralPosition.f
    refine Ev.bind (spec_l4Points_ev ps hl hr) (ev_if_pos c ?_)
    refine Ev.step (f:=fun k=>spec_InGeneralPosition.j1 k ps 2 false) (fun k=>?_) ?_
    ·rw [spec_InGeneralPosition.l0,if_neg (by omega)]
    ·refine Ev.step (f:=fun _=>some (true,true)) (fun k=>?_) (ev_const _)
     rw [spec_InGeneralPosition.j1,if_neg (by simp)]
  ·have h0 : 0 < ps.length:=by omega
   have d4 : 1 ≤ (ps.headD []).length ∧ (ps.headD []).length ≤ 4:=(pl_of (S:=[]) hs ⟨List.Pairwise.nil,by simp⟩ h0).d4
   obtain ⟨d,hd⟩ : ∃ d,(ps.headD []).length = d:=⟨_,rfl⟩
   obtain ⟨M,hM⟩ : ∃ M,M = if d + 1 < ps.length then d + 1 else ps.length:=⟨_,rfl⟩
   have bM : 1 ≤ M ∧ M ≤ 5:=by rw [hM];split <;> omega
   have e0 : rd_L1 ps 0 = ps.headD []:=by cases ps <;> simp [rd_L1]
   have em : mn (ps.length : Int) (wrap64 (((rd_L1 ps 0).length : Int) + 1)) = (M : Int):=by
    rw [e0,hd,w64 (by omega) (by omega),hM]
    unfold mn
    split <;> split <;> omega
   refine ⟨!anyFrom ps ps.length d 2,true,?_,?_⟩
   ·unfold impl_InGeneralPosition.f
    rw [em]
    have ch:=impl_choices_ev (V:=impl_InGeneralPosition.v ps (M : Int)) (t:=depT ps) (st:=fun _ (s : Unit)=>s) ps.length M (by omega) () (fun S hS s=>by
     obtain ⟨asc,len⟩:=chG_asc M ps.length S hS
     have pl:=pl_of hs asc h0
     rw [len] at pl
     exact gvisit_ev pl bM.1 bM.2 s)
    rw [runV_any,any_same ps (by omega) h0 hM] at ch
    exact Ev.bind (impl_areFew_ev ps hl hr) (ev_if_pos c (ev_if_neg (by omega) (ev_if_pos (by omega) (Ev.bind ch (ev_const _)))))
   ·unfold spec_InGeneralPosition.f
    exact Ev.bind (spec_l4Points_ev ps hl hr) (ev_if_pos c (size_l0 hs h0 h8 hd (by omega) d 2 (by omega) (by omega)))
 ·refine ⟨false,false,?_,?_⟩
  ·unfold impl_InGeneralPosition.f
   exact Ev.bind (impl_areFew_ev ps hl hr) (ev_if_neg c (ev_const _))
  ·unfold spec_InGeneralPosition.f
   exact Ev.bind (spec_l4Points_ev ps hl hr) (ev_if_neg c (ev_const _))
theorem FnExactInGeneralPosition : ∀ (l0 : List (List Int)),l0.length ≤ maxLen → (∀ r ∈ l0,r.length ≤ maxLen ∧ ∀ x ∈ r,(Lit.int .i64 x).wf = true) → ∃ k,laws_FnExactInGeneralPosition.f k l0 = some true:=by
 intro l hl hr
 unfold maxLen at hl hr
 refine Ev.rounds (g:=fun k=>laws_FnExactInGeneralPosition.f k l) ?_
 unfold laws_FnExactInGeneralPosition.f
 have sz : ∃ v,Ev (fun k=>laws_szIntSS.f k l 1048576) v ∧ (v < 0 ∨ (0 ≤ v ∧ v ≤ 1048576 ∧ l.length ≤ 1048576 ∧ ∀ r ∈ l,r.length ≤ 1048576)):=by
  obtain ⟨v,hv,hc⟩:=laws_szIntSS_tells 1048577 l 1048576 (by omega) (by omega) (by omega) (fun r h=>by have:=(hr r h).1;omega) (by omega)
  exact ⟨v,Ev.of (fun k=>laws_szIntSS.mono _ _ k) hv,hc⟩
 obtain ⟨v,hv,hc⟩:=sz
 refine Ev.bind hv ?_
 rcases hc with hc|⟨a1,a2,a3,a4⟩
 ·exact ev_if_pos hc (ev_const _)
 ·have ts : Ev (fun k=>laws_toIntSS.f k l) l:=ev_of 3000000 fun k hk=>laws_toIntSS_is k l a3 a4 (by omega)
  have es : Ev (fun k=>laws_eqIntSS.f k l l) true:=ev_of 3000000 fun k hk=>laws_eqIntSS_same k l a3 a4 (by omega)
  obtain ⟨x,b,h1,h2⟩:=general_same l a3 a4
  refine ev_if_neg (by omega) (Ev.bind ts (Ev.bind h2 (Ev.bind ts (Ev.bind h1 (ev_if_neg (by simp) ?_)))))
  simp only [bne_self]
  exact Ev.step (fun k=>by rw [laws_FnExactInGeneralPosition.j0,if_neg (by simp)]) (Ev.bind ts (Ev.bind es (ev_if_pos rfl (ev_const _))))
end Go.Proofs.Ytdjclffkidoohaa.Pure
end
