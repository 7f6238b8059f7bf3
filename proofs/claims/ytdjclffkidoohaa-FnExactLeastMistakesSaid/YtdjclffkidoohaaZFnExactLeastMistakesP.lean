/- Proved: the law FnExactLeastMistakes answers true for every sample; no condition. -/
import Derived.Test.YtdjclffkidoohaaVFnExactLeastMistakes
import Derived.Test.YtdjclffkidoohaaZFnExactLeastMistakesx19
section
set_option linter.unusedVariables false
set_option linter.unusedSimpArgs false
namespace Go.Proofs.Ytdjclffkidoohaa.Lin
def sm : Nat → (Nat → Int) → Int
|0,_=>0
|n + 1,f=>sm n f + f n
theorem sm_congr : ∀ {n : Nat} {f g : Nat → Int},(∀ k,k < n → f k = g k) → sm n f = sm n g
|0,_,_,_=>rfl
|n + 1,f,g,h=>by
  simp only [sm]
  rw [sm_congr (n:=n) fun k hk=>h k (by omega),h n (by omega)]
theorem sm_zero : ∀ {n : Nat} {f : Nat → Int},(∀ k,k < n → f k = 0) → sm n f = 0
|0,_,_=>rfl
|n + 1,f,h=>by
  simp only [sm]
  rw [sm_zero (n:=n) fun k hk=>h k (by omega),h n (by omega)]
  rfl
theorem sm_add : ∀ (n : Nat) (f g : Nat → Int),sm n (fun k=>f k + g k) = sm n f + sm n g
|0,_,_=>rfl
|n + 1,f,g=>by
  simp only [sm,sm_add n f g]
  omega
theorem sm_mul : ∀ (n : Nat) (a : Int) (f : Nat → Int),sm n (fun k=>a * f k) = a * sm n f
|0,a,_=>by simp [sm]
|n + 1,a,f=>by
  simp only [sm,sm_mul n a f]
  rw [Int.mul_add]
theorem sm_single {n : Nat} {f : Nat → Int} {j : Nat} (hj : j < n) (h : ∀ k,k < n → k ≠ j → f k = 0) : sm n f = f j:=by
 induction n with
|zero=>omega
|succ n ih =>
  simp only [sm]
  by_cases e : j = n
  ·subst e
   rw [sm_zero fun k hk=>h k (by omega) (by omega)]
   omega
  ·rw [ih (by omega) fun k hk=>h k (by omega),h n (by omega) (by omega)]
   omega
theorem sm_two {n : Nat} {f : Nat → Int} {i j : Nat} (hi : i < n) (hj : j < n) (hij : i ≠ j) (h : ∀ k,k < n → k ≠ i → k ≠ j → f k = 0) : sm n f = f i + f j:=by
 have e : sm n f = sm n (fun k=>(if k = i then f k else 0) + (if k = i then 0 else f k)):=sm_congr fun k _=>by split <;> omega
 rw [e,sm_add,sm_single (f:=fun k=>if k = i then f k else 0) hi (fun k _ hk=>if_neg hk),sm_single (f:=fun k=>if k = i then 0 else f k) hj (fun k hk1 hk2=>by
  by_cases c : k = i
  ·simp [c]
  ·simp only [if_neg c]
   exact h k hk1 c hk2)]
 show (if i = i then f i else 0) + (if j = i then 0 else f j) = _
 rw [if_pos rfl,if_neg (Ne.symm hij)]
theorem sm_mono : ∀ {n m : Nat} {f : Nat → Int},n ≤ m → (∀ k,n ≤ k → k < m → f k = 0) → sm m f = sm n f
|n,0,f,h,_=>by
  obtain rfl : n = 0:=by omega
  rfl
|n,m + 1,f,h,hz=>by
  by_cases e : n = m + 1
  ·rw [e]
  ·simp only [sm]
   rw [hz m (by omega) (by omega),sm_mono (n:=n) (m:=m) (by omega) fun k h1 h2=>hz k h1 (by omega)]
   omega
theorem sm_abs {B : Int} (hB : 0 ≤ B) : ∀ (n : Nat) (f : Nat → Int),(∀ k,k < n → -B ≤ f k ∧ f k ≤ B) → -(n * B) ≤ sm n f ∧ sm n f ≤ n * B
|0,f,_=>by simp [sm]
|n + 1,f,h=>by
  have ih:=sm_abs hB n f fun k hk=>h k (by omega)
  have:=h n (by omega)
  have e : ((n + 1 : Nat) : Int) * B = n * B + B:=by
   rw [show ((n + 1 : Nat) : Int) = (n : Int) + 1 by omega,Int.add_mul,Int.one_mul]
  simp only [sm]
  omega
theorem sm_range {B : Int} : ∀ (n : Nat) (f : Nat → Int),(∀ k,k < n → 0 ≤ f k ∧ f k ≤ B) → 0 ≤ sm n f ∧ sm n f ≤ n * B
|0,f,_=>by simp [sm]
|n + 1,f,h=>by
  have ih:=sm_range n f fun k hk=>h k (by omega)
  have:=h n (by omega)
  have e : ((n + 1 : Nat) : Int) * B = n * B + B:=by
   rw [show ((n + 1 : Nat) : Int) = (n : Int) + 1 by omega,Int.add_mul,Int.one_mul]
  simp only [sm]
  omega
theorem sm_swap (n m : Nat) (f : Nat → Nat → Int) : sm n (fun i=>sm m (fun j=>f i j)) = sm m (fun j=>sm n (fun i=>f i j)):=by
 induction n with
|zero=>simp only [sm];rw [sm_zero fun _ _=>rfl]
|succ n ih =>
  simp only [sm]
  rw [ih,sm_add]
def QC (o : Nat → Nat → Int) (r : Nat) (v : Nat → Int) : Prop:=∃ (s : Int) (c : Nat → Int),s ≠ 0 ∧ ∀ x,s * v x = sm r (fun k=>c k * o k x)
theorem QC.congr {o : Nat → Nat → Int} {r : Nat} {u v : Nat → Int} (h : QC o r u) (e : ∀ x,v x = u x) : QC o r v:=by
 obtain ⟨s,c,hs,h⟩:=h
 exact ⟨s,c,hs,fun x=>by rw [e];exact h x⟩
theorem QC.base {o o' : Nat → Nat → Int} {r : Nat} {u : Nat → Int} (h : QC o r u) (e : ∀ k,k < r → o' k = o k) : QC o' r u:=by
 obtain ⟨s,c,hs,h⟩:=h
 exact ⟨s,c,hs,fun x=>by rw [h x];exact sm_congr fun k hk=>by rw [e k hk]⟩
theorem QC.zero {o : Nat → Nat → Int} {r : Nat} {v : Nat → Int} (h : ∀ x,v x = 0) : QC o r v :=
 ⟨1,fun _=>0,by omega,fun x=>by rw [h,sm_zero fun k _=>Int.zero_mul _];rfl⟩
theorem QC.lin {o : Nat → Nat → Int} {r : Nat} {u v : Nat → Int} (h1 : QC o r u) (h2 : QC o r v) (a b : Int) : QC o r (fun x=>a * u x + b * v x):=by
 obtain ⟨s1,c1,n1,h1⟩:=h1
 obtain ⟨s2,c2,n2,h2⟩:=h2
 refine ⟨s1 * s2,fun k=>a * s2 * c1 k + b * s1 * c2 k,Int.mul_ne_zero n1 n2,fun x=>?_⟩
 have e : sm r (fun k=>(a * s2 * c1 k + b * s1 * c2 k) * o k x) = sm r (fun k=>(a * s2) * (c1 k * o k x) + (b * s1) * (c2 k * o k x)):=sm_congr fun k _=>by grind
 rw [e,sm_add,sm_mul,sm_mul,← h1 x,← h2 x]
 grind
theorem QC.self {o : Nat → Nat → Int} {r k : Nat} (hk : k < r) : QC o r (o k) :=
 ⟨1,fun j=>if j = k then 1 else 0,by omega,fun x=>by
  rw [sm_single (f:=fun j=>(if j = k then 1 else 0) * o j x) hk (fun j _ hj=>by simp [hj])]
  simp⟩
theorem QC.mono {o : Nat → Nat → Int} {r r' : Nat} {v : Nat → Int} (h : QC o r v) (hr : r ≤ r') : QC o r' v:=by
 obtain ⟨s,c,hs,h⟩:=h
 refine ⟨s,fun k=>if k < r then c k else 0,hs,fun x=>?_⟩
 rw [h x,sm_mono (n:=r) (m:=r') hr fun k h1 _=>by show (if k < r then c k else 0) * o k x = 0;rw [if_neg (by omega)];exact Int.zero_mul _]
 exact sm_congr fun k hk=>by show _ = (if k < r then c k else 0) * o k x;rw [if_pos hk]
theorem QC.div {o : Nat → Nat → Int} {r : Nat} {v : Nat → Int} {t : Int} (h : QC o r (fun x=>t * v x)) (ht : t ≠ 0) : QC o r v:=by
 obtain ⟨s,c,hs,h⟩:=h
 exact ⟨s * t,c,Int.mul_ne_zero hs ht,fun x=>by rw [← h x];grind⟩
theorem QC.sum {o' o : Nat → Nat → Int} {r' : Nat} (c : Nat → Int) : ∀ (r : Nat),(∀ k,k < r → QC o' r' (o k)) → QC o' r' (fun x=>sm r (fun k=>c k * o k x))
|0,_=>QC.zero fun _=>rfl
|r + 1,h=>by
  have:=(QC.sum c r fun k hk=>h k (by omega)).lin (h r (by omega)) 1 (c r)
  exact this.congr fun x=>by simp only [sm];omega
theorem QC.trans {o' o : Nat → Nat → Int} {r' r : Nat} {v : Nat → Int} (h : ∀ k,k < r → QC o' r' (o k)) (hv : QC o r v) : QC o' r' v:=by
 obtain ⟨s,c,hs,hv⟩:=hv
 exact ((QC.sum c r h).congr hv).div hs
theorem pigeon : ∀ (M : Nat) (f : Nat → Nat),(∀ x,x < M + 1 → f x < M) → ∃ x y,x < y ∧ y < M + 1 ∧ f x = f y
|0,f,h=>absurd (h 0 (by omega)) (by omega)
|M + 1,f,h=>by
  by_cases c : ∃ x,x < M + 1 ∧ f x = f (M + 1)
  ·obtain ⟨x,h1,h2⟩:=c
   exact ⟨x,M + 1,h1,by omega,h2⟩
  ·have hne : ∀ x,x < M + 1 → f x ≠ f (M + 1):=fun x hx e=>c ⟨x,hx,e⟩
   have hl:=h (M + 1) (by omega)
   obtain ⟨x,y,h1,h2,h3⟩:=pigeon M (fun x=>if f x < f (M + 1) then f x else f x - 1) (fun x hx=>by
    have:=h x (by omega)
    have:=hne x hx
    show (if f x < f (M + 1) then f x else f x - 1) < M
    split <;> omega)
   refine ⟨x,y,h1,by omega,?_⟩
   have:=hne x (by omega)
   have:=hne y (by omega)
   try simp only at h3
   split at h3 <;> split at h3 <;> omega
theorem pigeon' {N M : Nat} (h : M < N) (f : Nat → Nat) (hf : ∀ x,x < N → f x < M) : ∃ x y,x < y ∧ y < N ∧ f x = f y:=by
 obtain ⟨x,y,h1,h2,h3⟩:=pigeon M f fun x hx=>hf x (by omega)
 exact ⟨x,y,h1,by omega,h3⟩
def dig (b : Nat) : Nat → Nat → Nat
|x,0=>x % b
|x,k + 1=>dig b (x / b) k
theorem dig_lt {b : Nat} (hb : 0 < b) : ∀ (k x : Nat),dig b x k < b
|0,x=>Nat.mod_lt _ hb
|k + 1,x=>dig_lt hb k (x / b)
theorem dig_same {b : Nat} (hb : 0 < b) : ∀ (N x y : Nat),x < b ^ N → y < b ^ N → (∀ k,k < N → dig b x k = dig b y k) → x = y
|0,x,y,hx,hy,_=>by simp at hx hy;omega
|N + 1,x,y,hx,hy,h=>by
  have e : x / b = y / b:=dig_same hb N (x / b) (y / b) (Nat.div_lt_of_lt_mul (by rw [Nat.pow_succ,Nat.mul_comm] at hx;exact hx)) (Nat.div_lt_of_lt_mul (by rw [Nat.pow_succ,Nat.mul_comm] at hy;exact hy)) fun k hk=>h (k + 1) (by omega)
  have m : x % b = y % b:=h 0 (by omega)
  rw [← Nat.div_add_mod x b,← Nat.div_add_mod y b,e,m]
def code (W : Nat) : Nat → (Nat → Nat) → Nat
|0,_=>0
|n + 1,y=>code W n y * W + y n
theorem code_lt {W : Nat} : ∀ (n : Nat) (y : Nat → Nat),(∀ j,j < n → y j < W) → code W n y < W ^ n
|0,_,_=>by simp [code]
|n + 1,y,h=>by
  have:=code_lt n y fun j hj=>h j (by omega)
  have h2:=h n (by omega)
  simp only [code,Nat.pow_succ]
  have : (code W n y + 1) * W ≤ W ^ n * W:=Nat.mul_le_mul_right _ this
  rw [Nat.add_mul] at this
  omega
theorem code_same {W : Nat} : ∀ (n : Nat) (y z : Nat → Nat),(∀ j,j < n → y j < W) → (∀ j,j < n → z j < W) → code W n y = code W n z → ∀ j,j < n → y j = z j
|0,_,_,_,_,_=>fun j hj=>by omega
|n + 1,y,z,hy,hz,h=>by
  have y1:=hy n (by omega)
  have z1:=hz n (by omega)
  simp only [code] at h
  have hW : 0 < W:=by omega
  have e : code W n y = code W n z:=by
   have a:=congrArg (· / W) h
   try simp only at a
   rw [Nat.mul_comm _ W,Nat.mul_add_div hW,Nat.div_eq_of_lt y1,Nat.mul_comm _ W,Nat.mul_add_div hW,Nat.div_eq_of_lt z1] at a
   omega
  have ih:=code_same n y z (fun j hj=>hy j (by omega)) (fun j hj=>hz j (by omega)) e
  intro j hj
  by_cases c : j = n
  ·subst c
   rw [e] at h
   omega
  ·exact ih j (by omega)
theorem siegel (N : Nat) (hN : 1 ≤ N) (B L : Nat) (hL : (N * B) ^ (N - 1) ≤ L) (hB : 1 ≤ B) (u : Nat → Nat → Int) (hu : ∀ k,k < N → ∀ j,j < N - 1 → -(B : Int) ≤ u k j ∧ u k j ≤ B) :
  ∃ c : Nat → Int,(∃ k,k < N ∧ c k ≠ 0) ∧ (∀ k,-(L : Int) ≤ c k ∧ c k ≤ L) ∧ ∀ j,j < N - 1 → sm N (fun k=>c k * u k j) = 0:=by
 have hNB : 1 ≤ N * B:=Nat.mul_pos hN hB
 have key : ∀ (d : Int) (w : Int),0 ≤ d → d ≤ L → -(B : Int) ≤ w → w ≤ B → 0 ≤ d * w + L * (if w < 0 then -w else 0) ∧ d * w + L * (if w < 0 then -w else 0) ≤ B * L:=by
  intro d w d0 d1 w0 w1
  by_cases c : w < 0
  ·rw [if_pos c]
   have a : 0 ≤ (L - d) * (-w):=Int.mul_nonneg (by omega) (by omega)
   have b : (L - d) * (-w) ≤ L * B:=by
    have p : 0 ≤ (L : Int) * (B + w):=Int.mul_nonneg (by omega) (by omega)
    have q : 0 ≤ d * (-w):=Int.mul_nonneg (by omega) (by omega)
    rw [Int.mul_add] at p
    rw [Int.sub_mul]
    have e : (L : Int) * -w = -(L * w):=Int.mul_neg _ _
    omega
   have e : (L - d) * (-w) = d * w + L * (-w):=by grind
   rw [← e]
   exact ⟨a,by rw [Int.mul_comm (B : Int)];exact b⟩
  ·rw [if_neg c,Int.mul_zero,Int.add_zero]
   refine ⟨Int.mul_nonneg d0 (by omega),?_⟩
   have p : 0 ≤ ((L : Int) - d) * w:=Int.mul_nonneg (by omega) (by omega)
   have q : 0 ≤ (L : Int) * (B - w):=Int.mul_nonneg (by omega) (by omega)
   rw [Int.sub_mul] at p
   rw [Int.mul_sub] at q
   rw [Int.mul_comm (B : Int)]
   omega
 let t (x k j : Nat) : Int:=(dig (L + 1) x k : Int) * u k j + L * (if u k j < 0 then -(u k j) else 0)
 have ht : ∀ x k j,k < N → j < N - 1 → 0 ≤ t x k j ∧ t x k j ≤ (B * L : Nat):=fun x k j hk hj=>by
  have h1:=dig_lt (b:=L + 1) (by omega) k x
  have:=key (dig (L + 1) x k) (u k j) (by omega) (by omega) (hu k hk j hj).1 (hu k hk j hj).2
  simpa using this
 have hT : ∀ x j,j < N - 1 → 0 ≤ sm N (fun k=>t x k j) ∧ sm N (fun k=>t x k j) ≤ N * (B * L : Nat):=fun x j hj=>sm_range N _ fun k hk=>ht x k j hk hj
 let W:=N * B * L + 1
 have hW : ∀ x j,j < N - 1 → (sm N (fun k=>t x k j)).toNat < W:=fun x j hj=>by
  have:=hT x j hj
  have e : (N : Int) * ((B * L : Nat) : Int) = ((N * B * L : Nat) : Int):=by
   rw [Nat.mul_assoc]
   exact (Int.natCast_mul _ _).symm
  rw [e] at this
  show _ < N * B * L + 1
  omega
 have hlt : W ^ (N - 1) < (L + 1) ^ N:=by
  have h1 : W ≤ N * B * (L + 1):=by
   show N * B * L + 1 ≤ _
   rw [Nat.mul_add]
   omega
  have h2 : W ^ (N - 1) ≤ (N * B * (L + 1)) ^ (N - 1):=Nat.pow_le_pow_left h1 _
  rw [Nat.mul_pow] at h2
  obtain ⟨n,rfl⟩ : ∃ n,N = n + 1:=⟨N - 1,by omega⟩
  simp only [Nat.add_sub_cancel] at h2 hL ⊢
  have h3 : ((n + 1) * B) ^ n * (L + 1) ^ n ≤ L * (L + 1) ^ n:=Nat.mul_le_mul_right _ hL
  have h4 : L * (L + 1) ^ n < (L + 1) ^ (n + 1):=by
   rw [Nat.pow_succ,Nat.mul_comm _ (L + 1)]
   exact Nat.mul_lt_mul_of_pos_right (by omega) (Nat.pow_pos (by omega))
  omega
 obtain ⟨x,y,hxy,hy,he⟩:=pigeon' hlt (fun x=>code W (N - 1) (fun j=>(sm N (fun k=>t x k j)).toNat)) fun x _=>code_lt _ _ (hW x)
 have hs:=code_same (N - 1) _ _ (hW x) (hW y) he
 refine ⟨fun k=>(dig (L + 1) x k : Int) - dig (L + 1) y k,?_,fun k=>?_,fun j hj=>?_⟩
 ·by_cases c : ∃ k,k < N ∧ dig (L + 1) x k ≠ dig (L + 1) y k
  ·obtain ⟨k,h1,h2⟩:=c
   exact ⟨k,h1,by show (dig (L + 1) x k : Int) - dig (L + 1) y k ≠ 0;omega⟩
  ·exfalso
   have:=dig_same (b:=L + 1) (by omega) N x y (by omega) hy fun k hk=>Classical.byContradiction fun h=>c ⟨k,hk,h⟩
   omega
 ·have h1:=dig_lt (b:=L + 1) (by omega) k x
  have h2:=dig_lt (b:=L + 1) (by omega) k y
  show -(L : Int) ≤ (dig (L + 1) x k : Int) - dig (L + 1) y k ∧ (dig (L + 1) x k : Int) - dig (L + 1) y k ≤ L
  omega
 ·have h1:=hs j hj
  try simp only at h1
  have a:=hT x j hj
  have b:=hT y j hj
  have e : sm N (fun k=>t x k j) = sm N (fun k=>t y k j):=by omega
  have f : sm N (fun k=>t x k j) = sm N (fun k=>((dig (L + 1) x k : Int) - dig (L + 1) y k) * u k j + t y k j):=sm_congr fun k _=>by
   show (dig (L + 1) x k : Int) * u k j + L * (if u k j < 0 then -(u k j) else 0) = _ + ((dig (L + 1) y k : Int) * u k j + L * (if u k j < 0 then -(u k j) else 0))
   rw [Int.sub_mul]
   omega
  have g:=sm_add N (fun k=>((dig (L + 1) x k : Int) - dig (L + 1) y k) * u k j) (fun k=>t y k j)
  show sm N (fun k=>((dig (L + 1) x k : Int) - dig (L + 1) y k) * u k j) = 0
  rw [g,e] at f
  omega
structure St (m r : Nat) (o row : Nat → Nat → Int) (p : Nat → Nat) : Prop where
 hr : r ≤ m
 span : ∀ j,j < r → QC o r (row j)
 back : ∀ k,k < r → QC row r (o k)
 near : ∀ i,r ≤ i → i < m → ∃ a b : Int,a ≠ 0 ∧ b ≠ 0 ∧ QC o r (fun x=>a * row i x + b * o i x)
 piv : ∀ j,j < r → row j (p j) ≠ 0
 off : ∀ j,j < r → ∀ i,i < m → i ≠ j → row i (p j) = 0
 ind : ∀ c : Nat → Int,(∀ x,sm r (fun k=>c k * o k x) = 0) → ∀ k,k < r → c k = 0
theorem St.start (m : Nat) (o : Nat → Nat → Int) (p : Nat → Nat) : St m 0 o o p :=
 ⟨by omega,fun j hj=>by omega,fun k hk=>by omega,fun i _ _=>⟨1,-1,by omega,by omega,QC.zero fun x=>by omega⟩,fun j hj=>by omega,fun j hj=>by omega,fun c _ k hk=>by omega⟩
theorem St.vanish {m r : Nat} {o row : Nat → Nat → Int} {p : Nat → Nat} (h : St m r o row p) {y : Nat → Int} (hy : QC o r y) (hz : ∀ j,j < r → y (p j) = 0) : ∀ x,y x = 0:=by
 obtain ⟨s,c,hs,e⟩:=QC.trans h.back hy
 have hr:=h.hr
 have hc : ∀ j,j < r → c j = 0:=fun j hj=>by
  have q:=e (p j)
  rw [hz j hj,Int.mul_zero,sm_single hj (fun k hk hkj=>by rw [h.off j hj k (by omega) hkj,Int.mul_zero])] at q
  exact (Int.mul_eq_zero.1 q.symm).resolve_right (h.piv j hj)
 intro x
 have q:=e x
 rw [sm_zero fun k hk=>by rw [hc k hk,Int.zero_mul]] at q
 exact (Int.mul_eq_zero.1 q).resolve_left hs
def sw {α : Type} (i j : Nat) (f : Nat → α) : Nat → α:=fun k=>if k = i then f j else if k = j then f i else f k
theorem sw_low {α : Type} {i j r : Nat} (f : Nat → α) (hi : r ≤ i) (hj : r ≤ j) (k : Nat) (hk : k < r) : sw i j f k = f k:=by
 unfold sw
 rw [if_neg (by omega),if_neg (by omega)]
theorem sw_pick {α : Type} (i j m : Nat) (hi : i < m) (hj : j < m) (k : Nat) (hk : k < m) : ∃ l,l < m ∧ (∀ f : Nat → α,sw i j f k = f l) ∧ ∀ r,r ≤ i → r ≤ j → (r ≤ k ↔ r ≤ l) ∧ (k < r → l = k):=by
 by_cases c1 : k = i
 ·exact ⟨j,hj,fun f=>by unfold sw;rw [if_pos c1],fun r h1 h2=>⟨by omega,by omega⟩⟩
 ·by_cases c2 : k = j
  ·exact ⟨i,hi,fun f=>by unfold sw;rw [if_neg c1,if_pos c2],fun r h1 h2=>⟨by omega,by omega⟩⟩
  ·exact ⟨k,hk,fun f=>by unfold sw;rw [if_neg c1,if_neg c2],fun r h1 h2=>⟨by omega,by omega⟩⟩
theorem St.swap {m r : Nat} {o row : Nat → Nat → Int} {p : Nat → Nat} (h : St m r o row p) {i j : Nat} (hi : r ≤ i) (hj : r ≤ j) (him : i < m) (hjm : j < m) : St m r (sw i j o) (sw i j row) p:=by
 have eo : ∀ k,k < r → sw i j o k = o k:=sw_low o hi hj
 have er : ∀ k,k < r → sw i j row k = row k:=sw_low row hi hj
 refine ⟨h.hr,fun k hk=>?_,fun k hk=>?_,fun k hk hkm=>?_,fun k hk=>?_,fun k hk l hl hlk=>?_,fun c hc k hk=>?_⟩
 ·rw [er k hk]
  exact (h.span k hk).base eo
 ·rw [eo k hk]
  exact (h.back k hk).base er
 ·obtain ⟨l,hl,e1,e2⟩:=sw_pick (α:=Nat → Int) i j m him hjm k hkm
  obtain ⟨a,b,ha,hb,q⟩:=h.near l ((e2 r hi hj).1.1 hk) hl
  refine ⟨a,b,ha,hb,?_⟩
  rw [e1,e1]
  exact q.base eo
 ·rw [er k hk]
  exact h.piv k hk
 ·obtain ⟨l',hl',e1,e2⟩:=sw_pick (α:=Nat → Int) i j m him hjm l hl
  rw [e1]
  refine h.off k hk l' hl' fun e=>?_
  subst e
  have:=(e2 r hi hj).1.2
  by_cases c : l < r
  ·exact hlk ((e2 r hi hj).2 c).symm
  ·have:=(e2 r hi hj).1.1 (by omega)
   omega
 ·refine h.ind c (fun x=>?_) k hk
  rw [← hc x]
  exact sm_congr fun k hk=>by rw [eo k hk]
theorem St.step {m r : Nat} {o row row' : Nat → Nat → Int} {p : Nat → Nat} (h : St m r o row p) (hrm : r < m) (c : Nat) (hc : row r c ≠ 0)
  (hp : ∃ e f : Int,e ≠ 0 ∧ f ≠ 0 ∧ ∀ x,e * row' r x = f * row r x)
  (hi : ∀ i,i < m → i ≠ r → ∃ g : Int,g ≠ 0 ∧ ∀ x,g * row' i x = row r c * row i x - row i c * row r x) :
  St m (r + 1) o row' (fun j=>if j = r then c else p j):=by
 obtain ⟨e,f,he,hf,hp⟩:=hp
 obtain ⟨a,b,ha,hb,hn⟩:=h.near r (Nat.le_refl _) hrm
 have hr0 : ∀ j,j < r → row r (p j) = 0:=fun j hj=>h.off j hj r hrm (by omega)
 have R : QC o (r + 1) (row r):=by
  have:=(hn.mono (r':=r + 1) (by omega)).lin (QC.self (o:=o) (k:=r) (r:=r + 1) (by omega)) 1 (-b)
  exact (this.congr (v:=fun x=>a * row r x) fun x=>by grind).div ha
 have R' : QC o (r + 1) (row' r):=by
  have:=R.lin R f 0
  exact (this.congr (v:=fun x=>e * row' r x) fun x=>by rw [hp];grind).div he
 have B0 : QC row' (r + 1) (row r):=by
  have:=(QC.self (o:=row') (k:=r) (r:=r + 1) (by omega)).lin (QC.self (o:=row') (k:=r) (r:=r + 1) (by omega)) e 0
  exact (this.congr (v:=fun x=>f * row r x) fun x=>by rw [← hp];grind).div hf
 have B1 : ∀ j,j < r → QC row' (r + 1) (row j):=fun j hj=>by
  obtain ⟨g,hg,q⟩:=hi j (by omega) (by omega)
  have:=(QC.self (o:=row') (k:=j) (r:=r + 1) (by omega)).lin B0 g (row j c)
  exact (this.congr (v:=fun x=>row r c * row j x) fun x=>by rw [q];grind).div hc
 have B2 : ∀ k,k < r → QC row' (r + 1) (o k):=fun k hk=>QC.trans B1 (h.back k hk)
 refine ⟨hrm,fun j hj=>?_,fun k hk=>?_,fun i hri him=>?_,fun j hj=>?_,fun j hj i him hij=>?_,fun d hd=>?_⟩
 ·by_cases ej : j = r
  ·subst ej
   exact R'
  ·obtain ⟨g,hg,q⟩:=hi j (by omega) ej
   have:=((h.span j (by omega)).mono (r':=r + 1) (by omega)).lin R (row r c) (-(row j c))
   exact (this.congr (v:=fun x=>g * row' j x) fun x=>by rw [q];grind).div hg
 ·by_cases ek : k = r
  ·subst ek
   have:=(QC.trans B2 hn).lin B0 1 (-a)
   exact (this.congr (v:=fun x=>b * o k x) fun x=>by grind).div hb
  ·exact B2 k (by omega)
 ·obtain ⟨g,hg,q⟩:=hi i him (by omega)
  obtain ⟨a',b',ha',hb',hn'⟩:=h.near i (by omega) him
  refine ⟨a' * g,row r c * b',Int.mul_ne_zero ha' hg,Int.mul_ne_zero hc hb',?_⟩
  have:=(hn'.mono (r':=r + 1) (by omega)).lin R (row r c) (-(a' * row i c))
  exact this.congr fun x=>by
   have:=q x
   grind
 ·by_cases ej : j = r
  ·subst ej
   rw [if_pos rfl]
   intro z
   have q:=hp c
   rw [z,Int.mul_zero] at q
   exact (Int.mul_ne_zero hf hc) q.symm
  ·rw [if_neg ej]
   obtain ⟨g,hg,q⟩:=hi j (by omega) ej
   intro z
   have q:=q (p j)
   rw [z,hr0 j (by omega),Int.mul_zero,Int.mul_zero,Int.sub_zero] at q
   exact (Int.mul_ne_zero hc (h.piv j (by omega))) q.symm
 ·by_cases ej : j = r
  ·subst ej
   rw [if_pos rfl]
   obtain ⟨g,hg,q⟩:=hi i him hij
   have q:=q c
   rw [Int.mul_comm (row i c),Int.sub_self] at q
   exact (Int.mul_eq_zero.1 q).resolve_left hg
  ·rw [if_neg ej]
   by_cases ei : i = r
   ·subst ei
    have q:=hp (p j)
    rw [hr0 j (by omega),Int.mul_zero] at q
    exact (Int.mul_eq_zero.1 q).resolve_left he
   ·obtain ⟨g,hg,q⟩:=hi i him ei
    have q:=q (p j)
    rw [hr0 j (by omega),h.off j (by omega) i him hij,Int.mul_zero,Int.mul_zero,Int.sub_self] at q
    exact (Int.mul_eq_zero.1 q).resolve_left hg
 ·simp only [sm] at hd
  have S : QC o r (fun x=>sm r (fun k=>d k * o k x)):=QC.sum d r fun k hk=>QC.self hk
  have Y:=hn.lin S (d r) b
  have V:=h.vanish (Y.congr (v:=fun x=>(d r * a) * row r x) fun x=>by have:=hd x;grind) fun j hj=>by rw [hr0 j hj,Int.mul_zero]
  have d0 : d r = 0:=by
   have q:=(Int.mul_eq_zero.1 (V c)).resolve_right hc
   exact (Int.mul_eq_zero.1 q).resolve_right ha
  intro k hk
  by_cases ek : k = r
  ·rw [ek]
   exact d0
  ·exact h.ind d (fun x=>by have:=hd x;rw [d0,Int.zero_mul] at this;omega) k (by omega)
theorem St.small {m r : Nat} {o row : Nat → Nat → Int} {p : Nat → Nat} (h : St m r o row p) (hm : m ≤ 5) (ho : ∀ i,i < m → ∀ x,-9 ≤ o i x ∧ o i x ≤ 9) (i : Nat) (him : i < m) :
  ∃ v : Nat → Int,(∀ x,-184528125 ≤ v x ∧ v x ≤ 184528125) ∧ ∃ a b : Int,a ≠ 0 ∧ b ≠ 0 ∧ ∀ x,a * row i x = b * v x:=by
 have hr:=h.hr
 have pw : ∀ N,1 ≤ N → N ≤ 5 → (N * 9) ^ (N - 1) ≤ 4100625:=by
  intro N h1 h2
  rcases (show N = 1 ∨ N = 2 ∨ N = 3 ∨ N = 4 ∨ N = 5 by omega) with rfl|rfl|rfl|rfl|rfl <;> decide
 have term : ∀ c w : Int,-4100625 ≤ c → c ≤ 4100625 → -9 ≤ w → w ≤ 9 → -36905625 ≤ c * w ∧ c * w ≤ 36905625:=by
  intro c w h1 h2 h3 h4
  have p1 : 0 ≤ (4100625 - c) * (9 + w):=Int.mul_nonneg (by omega) (by omega)
  have p2 : 0 ≤ (4100625 + c) * (9 - w):=Int.mul_nonneg (by omega) (by omega)
  have p3 : 0 ≤ (4100625 - c) * (9 - w):=Int.mul_nonneg (by omega) (by omega)
  have p4 : 0 ≤ (4100625 + c) * (9 + w):=Int.mul_nonneg (by omega) (by omega)
  rw [Int.sub_mul,Int.mul_add,Int.mul_add] at p1
  rw [Int.add_mul,Int.mul_sub,Int.mul_sub] at p2
  rw [Int.sub_mul,Int.mul_sub,Int.mul_sub] at p3
  rw [Int.add_mul,Int.mul_add,Int.mul_add] at p4
  omega
 by_cases hir : i < r
 ·let q : Nat → Nat:=fun j=>if j < i then p j else p (j + 1)
  obtain ⟨c,⟨k0,hk0,hc0⟩,hcb,hz⟩:=siegel r (by omega) 9 4100625 (pw r (by omega) (by omega)) (by omega) (fun k j=>o k (q j)) (fun k hk j _=>ho k (by omega) _)
  let v : Nat → Int:=fun x=>sm r (fun k=>c k * o k x)
  have V : QC o r v:=QC.sum c r fun k hk=>QC.self hk
  have hv : ∀ j,j < r → j ≠ i → v (p j) = 0:=fun j hj hji=>by
   by_cases c1 : j < i
   ·have:=hz j (by omega)
    simp only [q,if_pos c1] at this
    exact this
   ·have:=hz (j - 1) (by omega)
    simp only [q] at this
    rw [if_neg (by omega),show j - 1 + 1 = j by omega] at this
    exact this
  have E:=h.vanish (V.lin (h.span i hir) (row i (p i)) (-(v (p i)))) fun j hj=>by
   show row i (p i) * v (p j) + -(v (p i)) * row i (p j) = 0
   by_cases ej : j = i
   ·subst ej
    grind
   ·rw [hv j hj ej,h.off j hj i him (Ne.symm ej),Int.mul_zero,Int.mul_zero]
    rfl
  refine ⟨v,fun x=>?_,v (p i),row i (p i),fun z=>?_,h.piv i hir,fun x=>by have:=E x;(try simp only at this);rw [Int.neg_mul] at this;omega⟩
  ·have:=sm_abs (B:=36905625) (by omega) r (fun k=>c k * o k x) fun k hk=>by
    have a:=hcb k
    have b:=ho k (by omega) x
    exact term _ _ (by omega) (by omega) b.1 b.2
   show -184528125 ≤ sm r (fun k=>c k * o k x) ∧ sm r (fun k=>c k * o k x) ≤ 184528125
   omega
  ·have v0 : ∀ x,v x = 0:=fun x=>by
    have:=E x
    simp only [z] at this
    rw [Int.neg_zero,Int.zero_mul,Int.add_zero] at this
    exact (Int.mul_eq_zero.1 this).resolve_left (h.piv i hir)
   exact hc0 (h.ind c v0 k0 hk0)
 ·obtain ⟨a,b,ha,hb,hn⟩:=h.near i (by omega) him
  obtain ⟨c,⟨k0,hk0,hc0⟩,hcb,hz⟩:=siegel (r + 1) (by omega) 9 4100625 (pw (r + 1) (by omega) (by omega)) (by omega) (fun k j=>(if k < r then o k else o i) (p j)) (fun k hk j _=>by
   show -9 ≤ (if k < r then o k else o i) (p j) ∧ (if k < r then o k else o i) (p j) ≤ 9
   split
   ·exact ho k (by omega) _
   ·exact ho i him _)
  let v : Nat → Int:=fun x=>sm r (fun k=>c k * o k x) + c r * o i x
  have ve : ∀ x,sm (r + 1) (fun k=>c k * (if k < r then o k else o i) x) = v x:=fun x=>by
   show sm r (fun k=>c k * (if k < r then o k else o i) x) + c r * (if r < r then o r else o i) x = sm r (fun k=>c k * o k x) + c r * o i x
   rw [if_neg (by omega),sm_congr (g:=fun k=>c k * o k x) fun k hk=>by rw [if_pos hk]]
  have hv : ∀ j,j < r → v (p j) = 0:=fun j hj=>by
   rw [← ve]
   exact hz j (by omega)
  have S : QC o r (fun x=>sm r (fun k=>c k * o k x)):=QC.sum c r fun k hk=>QC.self hk
  have E:=h.vanish ((hn.lin S (c r) b).congr (v:=fun x=>(c r * a) * row i x + b * v x) fun x=>by
   show _ = c r * (a * row i x + b * o i x) + b * sm r (fun k=>c k * o k x)
   show (c r * a) * row i x + b * (sm r (fun k=>c k * o k x) + c r * o i x) = _
   grind) fun j hj=>by
    show (c r * a) * row i (p j) + b * v (p j) = 0
    rw [hv j hj,h.off j hj i him (by omega),Int.mul_zero,Int.mul_zero]
    rfl
  refine ⟨v,fun x=>?_,c r * a,-b,fun z=>?_,by omega,fun x=>by have:=E x;(try simp only at this);rw [Int.neg_mul];omega⟩
  ·have:=sm_abs (B:=36905625) (by omega) (r + 1) (fun k=>c k * (if k < r then o k else o i) x) fun k hk=>by
    have a:=hcb k
    have b : -9 ≤ (if k < r then o k else o i) x ∧ (if k < r then o k else o i) x ≤ 9:=by
     split
     ·exact ho k (by omega) _
     ·exact ho i him _
    exact term _ _ (by omega) (by omega) b.1 b.2
   rw [ve] at this
   omega
  ·have cr : c r = 0:=(Int.mul_eq_zero.1 z).resolve_right ha
   have v0 : ∀ x,v x = 0:=fun x=>by
    have:=E x
    simp only [z] at this
    rw [Int.zero_mul,Int.zero_add] at this
    exact (Int.mul_eq_zero.1 this).resolve_left hb
   by_cases e0 : k0 = r
   ·exact hc0 (by rw [e0];exact cr)
   ·refine hc0 (h.ind c (fun x=>?_) k0 (by omega))
    have:=v0 x
    simp only [v] at this
    rw [cr,Int.zero_mul,Int.add_zero] at this
    exact this
def gcdn : Nat → (Nat → Int) → Nat
|0,_=>0
|n + 1,v=>Nat.gcd (gcdn n v) (v n).natAbs
theorem gcdn_dvd : ∀ (n : Nat) (v : Nat → Int) (k : Nat),k < n → (gcdn n v : Int) ∣ v k
|0,v,k,hk=>by omega
|n + 1,v,k,hk=>by
  by_cases e : k = n
  ·subst e
   exact Int.ofNat_dvd_left.2 (Nat.gcd_dvd_right _ _)
  ·have:=gcdn_dvd n v k (by omega)
   exact Int.dvd_trans (Int.ofNat_dvd.2 (Nat.gcd_dvd_left _ _)) this
theorem dvd_gcdn (a b : Int) : ∀ (n : Nat) (v : Nat → Int),(∀ k,k < n → b ∣ a * v k) → b ∣ a * (gcdn n v : Int)
|0,v,_=>by simp [gcdn]
|n + 1,v,h=>by
  have ih:=dvd_gcdn a b n v fun k hk=>h k (by omega)
  have h2:=h n (by omega)
  rw [← Int.natAbs_dvd_natAbs] at ih h2 ⊢
  rw [Int.natAbs_mul] at ih h2 ⊢
  simp only [gcdn,Int.natAbs_natCast] at ih ⊢
  rw [← Nat.gcd_mul_left]
  exact Nat.dvd_gcd ih h2
theorem prim_mul {n : Nat} {u v : Nat → Int} (hg : gcdn n u = 1) {a b : Int} (ha : a ≠ 0) (hb : b ≠ 0) (h : ∀ x,x < n → a * u x = b * v x) : ∃ t : Int,t ≠ 0 ∧ ∀ x,x < n → v x = t * u x:=by
 have hd:=dvd_gcdn a b n u fun k hk=>⟨v k,h k hk⟩
 rw [hg] at hd
 obtain ⟨t,ht⟩:=hd
 rw [Int.natCast_one,Int.mul_one] at ht
 refine ⟨t,fun z=>ha (by rw [ht,z,Int.mul_zero]),fun x hx=>?_⟩
 have:=h x hx
 rw [ht,Int.mul_assoc] at this
 exact (Int.eq_of_mul_eq_mul_left hb this).symm
theorem abs_le_mul {t u B : Int} (ht : t ≠ 0) (h : -B ≤ t * u ∧ t * u ≤ B) : -B ≤ u ∧ u ≤ B:=by
 have e : (t * u).natAbs = t.natAbs * u.natAbs:=Int.natAbs_mul _ _
 have h1 : 1 ≤ t.natAbs:=by omega
 have h2 : u.natAbs ≤ t.natAbs * u.natAbs:=Nat.le_mul_of_pos_left _ h1
 omega
def Ker (m n : Nat) (row : Nat → Nat → Int) (x : Nat → Int) : Prop:=∀ i,i < m → sm n (fun k=>row i k * x k) = 0
theorem ker_swap {m n i j : Nat} {row : Nat → Nat → Int} {x : Nat → Int} (him : i < m) (hjm : j < m) : Ker m n (sw i j row) x ↔ Ker m n row x:=by
 constructor
 ·intro h k hk
  by_cases c1 : k = i
  ·have:=h j hjm
   simp only [sw] at this
   by_cases c2 : j = i
   ·rw [if_pos c2] at this
    rw [c1,← c2]
    exact this
   ·simp only [if_neg c2,if_true] at this
    rw [c1]
    exact this
  ·by_cases c2 : k = j
   ·have:=h i him
    simp only [sw,if_pos rfl] at this
    rw [c2]
    exact this
   ·have:=h k hk
    simp only [sw,if_neg c1,if_neg c2] at this
    exact this
 ·intro h k hk
  obtain ⟨l,hl,e,_⟩:=sw_pick (α:=Nat → Int) i j m him hjm k hk
  rw [e]
  exact h l hl
theorem sm_lin (n : Nat) (a b : Int) (f g : Nat → Int) : sm n (fun k=>a * f k - b * g k) = a * sm n f - b * sm n g:=by
 have : sm n (fun k=>a * f k - b * g k) = sm n (fun k=>a * f k + (-b) * g k):=sm_congr fun k _=>by grind
 rw [this,sm_add,sm_mul,sm_mul]
 grind
theorem ker_step {m n r : Nat} {row row' : Nat → Nat → Int} {x : Nat → Int} (hrm : r < m) (c : Nat) (hc : row r c ≠ 0)
  (hp : ∃ e f : Int,e ≠ 0 ∧ f ≠ 0 ∧ ∀ x,e * row' r x = f * row r x)
  (hi : ∀ i,i < m → i ≠ r → ∃ g : Int,g ≠ 0 ∧ ∀ x,g * row' i x = row r c * row i x - row i c * row r x) : Ker m n row' x ↔ Ker m n row x:=by
 obtain ⟨e,f,he,hf,hp⟩:=hp
 have P : e * sm n (fun k=>row' r k * x k) = f * sm n (fun k=>row r k * x k):=by
  rw [← sm_mul,← sm_mul]
  exact sm_congr fun k _=>by have:=hp k;grind
 have I : ∀ i,i < m → i ≠ r → ∃ g : Int,g ≠ 0 ∧ g * sm n (fun k=>row' i k * x k) = row r c * sm n (fun k=>row i k * x k) - row i c * sm n (fun k=>row r k * x k):=fun i him hir=>by
  obtain ⟨g,hg,q⟩:=hi i him hir
  refine ⟨g,hg,?_⟩
  rw [← sm_mul,← sm_lin]
  exact sm_congr fun k _=>by have:=q k;grind
 constructor
 ·intro h
  have h0 : sm n (fun k=>row r k * x k) = 0:=by
   rw [h r hrm,Int.mul_zero] at P
   exact (Int.mul_eq_zero.1 P.symm).resolve_left hf
  intro i him
  by_cases ei : i = r
  ·rw [ei]
   exact h0
  ·obtain ⟨g,hg,q⟩:=I i him ei
   rw [h i him,h0,Int.mul_zero,Int.mul_zero,Int.sub_zero] at q
   exact (Int.mul_eq_zero.1 q.symm).resolve_left hc
 ·intro h i him
  by_cases ei : i = r
  ·rw [ei]
   rw [h r hrm,Int.mul_zero] at P
   exact (Int.mul_eq_zero.1 P).resolve_left he
  ·obtain ⟨g,hg,q⟩:=I i him ei
   rw [h i him,h r hrm,Int.mul_zero,Int.mul_zero,Int.sub_zero] at q
   exact (Int.mul_eq_zero.1 q).resolve_left hg
theorem exists_not_mem (l : List Nat) (n : Nat) (h : l.length < n) : ∃ f,f < n ∧ f ∉ l:=by
 apply Classical.byContradiction
 intro hn
 have all : ∀ f,f < n → f ∈ l:=fun f hf=>Classical.byContradiction fun c=>hn ⟨f,hf,c⟩
 obtain ⟨x,y,h1,h2,h3⟩:=pigeon' h (fun f=>l.idxOf f) fun f hf=>List.idxOf_lt_length_of_mem (all f hf)
 have e1:=List.getElem_idxOf (List.idxOf_lt_length_of_mem (all x (by omega)))
 have e2:=List.getElem_idxOf (List.idxOf_lt_length_of_mem (all y h2))
 try simp only at h3
 simp only [h3] at e1
 omega
structure Fin_ (m n r : Nat) (row : Nat → Nat → Int) (p : Nat → Nat) : Prop where
 hr : r ≤ m
 piv : ∀ j,j < r → row j (p j) ≠ 0
 off : ∀ j,j < r → ∀ i,i < m → i ≠ j → row i (p j) = 0
 tail : ∀ i,r ≤ i → i < m → ∀ k,k < n → row i k = 0
 pn : ∀ j,j < r → p j < n
theorem Fin_.inj {m n r : Nat} {row : Nat → Nat → Int} {p : Nat → Nat} (h : Fin_ m n r row p) {i j : Nat} (hi : i < r) (hj : j < r) (e : p i = p j) : i = j:=by
 apply Classical.byContradiction
 intro c
 have hr:=h.hr
 exact h.piv i hi (by rw [e];exact h.off j hj i (by omega) c)
theorem common_mul (r : Nat) (a : Nat → Int) (ha : ∀ j,j < r → a j ≠ 0) : ∃ D : Int,D ≠ 0 ∧ ∃ q : Nat → Int,∀ j,j < r → D = a j * q j:=by
 induction r with
|zero=>exact ⟨1,by omega,fun _=>0,fun j hj=>by omega⟩
|succ r ih =>
  obtain ⟨D,hD,q,hq⟩:=ih fun j hj=>ha j (by omega)
  refine ⟨D * a r,Int.mul_ne_zero hD (ha r (by omega)),fun j=>if j = r then D else q j * a r,fun j hj=>?_⟩
  by_cases e : j = r
  ·subst e
   show D * a j = a j * (if j = j then D else q j * a j)
   rw [if_pos rfl,Int.mul_comm]
  ·show D * a r = a j * (if j = r then D else q j * a r)
   rw [if_neg e,hq j (by omega),Int.mul_assoc]
theorem Fin_.free {m n r : Nat} {row : Nat → Nat → Int} {p : Nat → Nat} (h : Fin_ m n r row p) {f : Nat} (hf : f < n) (hfp : ∀ j,j < r → p j ≠ f) : ∃ x : Nat → Int,Ker m n row x ∧ x f ≠ 0 ∧ ∀ k,k ≠ f → (∀ j,j < r → p j ≠ k) → x k = 0:=by
 obtain ⟨D,hD,q,hq⟩:=common_mul r (fun j=>row j (p j)) h.piv
 let x : Nat → Int:=fun k=>if k = f then D else sm r (fun j=>if p j = k then -(row j f) * q j else 0)
 have xp : ∀ j,j < r → x (p j) = -(row j f) * q j:=fun j hj=>by
  show (if p j = f then D else sm r (fun i=>if p i = p j then -(row i f) * q i else 0)) = _
  rw [if_neg (hfp j hj),sm_single hj fun k hk hkj=>if_neg fun e=>hkj (h.inj hk hj e),if_pos rfl]
 have xf : x f = D:=if_pos rfl
 have x0 : ∀ k,k ≠ f → (∀ j,j < r → p j ≠ k) → x k = 0:=fun k hk hp=>by
  show (if k = f then D else sm r (fun j=>if p j = k then -(row j f) * q j else 0)) = 0
  rw [if_neg hk,sm_zero fun j hj=>if_neg (hp j hj)]
 refine ⟨x,fun i him=>?_,by rw [xf];exact hD,x0⟩
 by_cases c : i < r
 ·rw [sm_two (i:=p i) (j:=f) (h.pn i c) hf (hfp i c) fun k hk h1 h2=>?_]
  ·rw [xp i c,xf,hq i c]
   grind
  ·by_cases d : ∃ j,j < r ∧ p j = k
   ·obtain ⟨j,hj,rfl⟩:=d
    rw [h.off j hj i him fun e=>h1 (by rw [e]),Int.zero_mul]
   ·rw [x0 k h2 fun j hj e=>d ⟨j,hj,e⟩,Int.mul_zero]
 ·exact sm_zero fun k hk=>by rw [h.tail i (by omega) him k hk,Int.zero_mul]
theorem Fin_.cover {m n r : Nat} {row : Nat → Nat → Int} {p : Nat → Nat} (h : Fin_ m n r row p) {f : Nat} (hf : f < n) (hfp : ∀ j,j < r → p j ≠ f) (hrn : r + 1 = n) (k : Nat) (hk : k < n) : k = f ∨ ∃ j,j < r ∧ p j = k:=by
 apply Classical.byContradiction
 intro c
 have c1 : k ≠ f:=fun e=>c (.inl e)
 have c2 : ∀ j,j < r → p j ≠ k:=fun j hj e=>c (.inr ⟨j,hj,e⟩)
 obtain ⟨x,y,h1,h2,h3⟩:=pigeon' (N:=n + 1) (M:=n) (by omega) (fun j=>if j < r then p j else if j = r then f else k) fun j hj=>by
  show (if j < r then p j else if j = r then f else k) < n
  split
  ·exact h.pn j (by assumption)
  ·split <;> omega
 try simp only at h3
 by_cases a : x < r
 ·rw [if_pos a] at h3
  by_cases b : y < r
  ·rw [if_pos b] at h3
   have:=h.inj a b h3
   omega
  ·rw [if_neg b] at h3
   by_cases d : y = r
   ·rw [if_pos d] at h3
    exact hfp x a h3
   ·rw [if_neg d] at h3
    exact c2 x a h3
 ·rw [if_neg a,if_neg (show ¬ y < r by omega),if_pos (show x = r by omega),if_neg (show y ≠ r by omega)] at h3
  exact c1 h3.symm
theorem Fin_.told {m n r : Nat} {row : Nat → Nat → Int} {p : Nat → Nat} (h : Fin_ m n r row p) {f : Nat} (hf : f < n) (hfp : ∀ j,j < r → p j ≠ f) (hrn : r + 1 = n) {x : Nat → Int} (hx : Ker m n row x) (j : Nat) (hj : j < r) : row j (p j) * x (p j) = -(row j f * x f):=by
 have hr:=h.hr
 have e:=hx j (by omega)
 rw [sm_two (i:=p j) (j:=f) (h.pn j hj) hf (hfp j hj) fun k hk h1 h2=>?_] at e
 ·omega
 ·rcases h.cover hf hfp hrn k hk with rfl|⟨i,hi,rfl⟩
  ·exact absurd rfl h2
  ·rw [h.off i hi j (by omega) fun e=>h1 (by rw [e]),Int.zero_mul]
theorem Fin_.line {m n r : Nat} {row : Nat → Nat → Int} {p : Nat → Nat} (h : Fin_ m n r row p) {f : Nat} (hf : f < n) (hfp : ∀ j,j < r → p j ≠ f) (hrn : r + 1 = n) {x y : Nat → Int} (hx : Ker m n row x) (hy : Ker m n row y) (k : Nat) (hk : k < n) : x f * y k = y f * x k:=by
 rcases h.cover hf hfp hrn k hk with rfl|⟨j,hj,rfl⟩
 ·exact Int.mul_comm _ _
 ·have a:=h.told hf hfp hrn hx j hj
  have b:=h.told hf hfp hrn hy j hj
  apply Int.eq_of_mul_eq_mul_left (h.piv j hj)
  grind
def One (n : Nat) (K : (Nat → Int) → Prop) : Prop:=(∃ x,K x ∧ ∃ k,k < n ∧ x k ≠ 0) ∧ ∀ x y,K x → K y → ∃ a b : Int,(a ≠ 0 ∨ b ≠ 0) ∧ ∀ k,k < n → a * x k = b * y k
theorem Fin_.le {m n r : Nat} {row : Nat → Nat → Int} {p : Nat → Nat} (h : Fin_ m n r row p) : r ≤ n:=by
 apply Classical.byContradiction
 intro c
 obtain ⟨x,y,h1,h2,h3⟩:=pigeon' (N:=r) (M:=n) (by omega) p h.pn
 have:=h.inj (by omega) h2 h3
 omega
theorem Fin_.none {m n r : Nat} {row : Nat → Nat → Int} {p : Nat → Nat} (h : Fin_ m n r row p) (hrn : r = n) {x : Nat → Int} (hx : Ker m n row x) (k : Nat) (hk : k < n) : x k = 0:=by
 have hr:=h.hr
 have cov : ∀ k,k < n → ∃ j,j < r ∧ p j = k:=fun k hk=>by
  apply Classical.byContradiction
  intro c
  have c2 : ∀ j,j < r → p j ≠ k:=fun j hj e=>c ⟨j,hj,e⟩
  obtain ⟨x,y,h1,h2,h3⟩:=pigeon' (N:=n + 1) (M:=n) (by omega) (fun j=>if j < r then p j else k) fun j hj=>by
   show (if j < r then p j else k) < n
   split
   ·exact h.pn j (by assumption)
   ·omega
  try simp only at h3
  rw [if_pos (show x < r by omega)] at h3
  by_cases b : y < r
  ·rw [if_pos b] at h3
   have:=h.inj (by omega) b h3
   omega
  ·rw [if_neg b] at h3
   exact c2 x (by omega) h3
 obtain ⟨j,hj,rfl⟩:=cov k hk
 have e:=hx j (by omega)
 rw [sm_single (h.pn j hj) fun k hk h1=>?_] at e
 ·exact (Int.mul_eq_zero.1 e).resolve_left (h.piv j hj)
 ·obtain ⟨i,hi,rfl⟩:=cov k hk
  rw [h.off i hi j (by omega) fun e=>h1 (by rw [e]),Int.zero_mul]
theorem Fin_.one {m n r : Nat} {row : Nat → Nat → Int} {p : Nat → Nat} (h : Fin_ m n r row p) : One n (Ker m n row) ↔ r + 1 = n:=by
 have hle:=h.le
 constructor
 ·rintro ⟨⟨x,hx,k,hk,hne⟩,two⟩
  by_cases e : r = n
  ·exact absurd (h.none e hx k hk) hne
  ·apply Classical.byContradiction
   intro c
   obtain ⟨f,hf,hfp⟩:=exists_not_mem ((List.range r).map p) n (by simp;omega)
   obtain ⟨g,hg,hgp⟩:=exists_not_mem (f :: (List.range r).map p) n (by simp;omega)
   have f1 : ∀ j,j < r → p j ≠ f:=fun j hj e=>hfp (List.mem_map.2 ⟨j,List.mem_range.2 hj,e⟩)
   have g1 : ∀ j,j < r → p j ≠ g:=fun j hj e=>hgp (List.mem_cons_of_mem _ (List.mem_map.2 ⟨j,List.mem_range.2 hj,e⟩))
   have fg : g ≠ f:=fun e=>hgp (by rw [e];exact List.mem_cons_self)
   obtain ⟨u,u1,u2,u3⟩:=h.free hf f1
   obtain ⟨v,v1,v2,v3⟩:=h.free hg g1
   obtain ⟨a,b,hab,e⟩:=two u v u1 v1
   have ef:=e f hf
   have eg:=e g hg
   rw [v3 f (Ne.symm fg) f1,Int.mul_zero] at ef
   rw [u3 g fg g1,Int.mul_zero] at eg
   have a0:=(Int.mul_eq_zero.1 ef).resolve_right u2
   have b0:=(Int.mul_eq_zero.1 eg.symm).resolve_right v2
   omega
 ·intro e
  obtain ⟨f,hf,hfp⟩:=exists_not_mem ((List.range r).map p) n (by simp;omega)
  have f1 : ∀ j,j < r → p j ≠ f:=fun j hj e=>hfp (List.mem_map.2 ⟨j,List.mem_range.2 hj,e⟩)
  obtain ⟨u,u1,u2,u3⟩:=h.free hf f1
  refine ⟨⟨u,u1,f,hf,u2⟩,fun x y hx hy=>?_⟩
  by_cases c : x f = 0
  ·refine ⟨1,0,.inl (by omega),fun k hk=>?_⟩
   have:=h.line hf f1 e u1 hx k hk
   rw [c,Int.zero_mul] at this
   rw [(Int.mul_eq_zero.1 this).resolve_left u2]
   omega
  ·exact ⟨y f,x f,.inr c,fun k hk=>(h.line hf f1 e hx hy k hk).symm⟩
theorem St.fin {m r n : Nat} {o row : Nat → Nat → Int} {p : Nat → Nat} (h : St m r o row p) (tail : ∀ i,r ≤ i → i < m → ∀ k,k < n → row i k = 0) (pn : ∀ j,j < r → p j < n) : Fin_ m n r row p:=⟨h.hr,h.piv,h.off,tail,pn⟩
def Nice (n : Nat) (v : Nat → Int) : Prop:=gcdn n v = 1 ∨ ∀ k,k < n → -9 ≤ v k ∧ v k ≤ 9
theorem St.bound {m r n : Nat} {o row : Nat → Nat → Int} {p : Nat → Nat} (h : St m r o row p) (hm : m ≤ 5) (ho : ∀ i,i < m → ∀ x,-9 ≤ o i x ∧ o i x ≤ 9) (i : Nat) (him : i < m) (hn : Nice n (row i)) (k : Nat) (hk : k < n) : -184528125 ≤ row i k ∧ row i k ≤ 184528125:=by
 rcases hn with hn|hn
 ·obtain ⟨v,hv,a,b,ha,hb,e⟩:=h.small hm ho i him
  obtain ⟨t,ht,q⟩:=prim_mul hn ha hb fun x _=>e x
  have:=hv k
  rw [q k hk] at this
  exact abs_le_mul ht this
 ·have:=hn k hk
  omega
theorem gcdn_zero {n : Nat} {w : Nat → Int} (h : ∀ k,k < n → w k = 0) : gcdn n w = 0:=by
 induction n with
|zero=>rfl
|succ n ih =>
  simp only [gcdn]
  rw [ih fun k hk=>h k (by omega),h n (by omega)]
  rfl
theorem St.kernel {m r n : Nat} {o row : Nat → Nat → Int} {p : Nat → Nat} (h : St m r o row p) (hf : Fin_ m n r row p) (hrn : r + 1 = n) (hn6 : n ≤ 6) (ho : ∀ i,i < m → ∀ x,-9 ≤ o i x ∧ o i x ≤ 9) {w : Nat → Int} (hw : Ker m n row w) (hg : gcdn n w = 1) (k : Nat) (hk : k < n) : -459165024 ≤ w k ∧ w k ≤ 459165024:=by
 have hr:=h.hr
 have pw : (n * 9) ^ (n - 1) ≤ 459165024:=by
  rcases (show n = 1 ∨ n = 2 ∨ n = 3 ∨ n = 4 ∨ n = 5 ∨ n = 6 by omega) with rfl|rfl|rfl|rfl|rfl|rfl <;> decide
 obtain ⟨c,⟨k0,hk0,hc0⟩,hcb,hz⟩:=siegel n (by omega) 9 459165024 pw (by omega) (fun k j=>o j k) (fun k hk j hj=>ho j (by omega) k)
 have hc : Ker m n row c:=fun i him=>by
  by_cases hir : i < r
  ·obtain ⟨s,d,hs,e⟩:=h.span i hir
   have q : s * sm n (fun k=>row i k * c k) = 0:=by
    rw [← sm_mul,sm_congr (g:=fun k=>sm r (fun j=>d j * (c k * o j k))) fun k hk=>?_,sm_swap,sm_zero fun j hj=>?_]
    ·rw [sm_mul,hz j (by omega),Int.mul_zero]
    ·have e:=e k
     rw [← Int.mul_assoc,e,Int.mul_comm,← sm_mul]
     exact sm_congr fun j _=>by grind
   exact (Int.mul_eq_zero.1 q).resolve_left hs
  ·exact sm_zero fun k hk=>by rw [hf.tail i (by omega) him k hk,Int.zero_mul]
 obtain ⟨f,hfn,hfp⟩:=exists_not_mem ((List.range r).map p) n (by simp;omega)
 have f1 : ∀ j,j < r → p j ≠ f:=fun j hj e=>hfp (List.mem_map.2 ⟨j,List.mem_range.2 hj,e⟩)
 have nz : ∀ x,Ker m n row x → x f = 0 → ∀ k,k < n → x k = 0:=fun x hx x0 k hk=>by
  rcases hf.cover hfn f1 hrn k hk with rfl|⟨j,hj,rfl⟩
  ·exact x0
  ·have:=hf.told hfn f1 hrn hx j hj
   rw [x0,Int.mul_zero,Int.neg_zero] at this
   exact (Int.mul_eq_zero.1 this).resolve_left (h.piv j hj)
 have cf : c f ≠ 0:=fun e=>hc0 (nz c hc e k0 hk0)
 have wf : w f ≠ 0:=fun e=>by
  have:=gcdn_zero (nz w hw e)
  omega
 obtain ⟨t,ht,q⟩:=prim_mul (u:=w) (v:=c) hg cf wf fun x hx=>(hf.line hfn f1 hrn hw hc x hx).symm
 have:=hcb k
 rw [q k hk] at this
 exact abs_le_mul ht (by omega)
theorem Fin_.divides {m n r : Nat} {row : Nat → Nat → Int} {p : Nat → Nat} (h : Fin_ m n r row p) {f : Nat} (hf : f < n) (hfp : ∀ j,j < r → p j ≠ f) (hrn : r + 1 = n) {w : Nat → Int} (hw : Ker m n row w) (j : Nat) (hj : j < r) (hn : Nice n (row j)) : row j (p j) ∣ 2520 * w f:=by
 have hr:=h.hr
 rcases hn with hn|hn
 ·have d:=dvd_gcdn (w f) (row j (p j)) n (row j) fun k hk=>by
   rcases h.cover hf hfp hrn k hk with rfl|⟨i,hi,rfl⟩
   ·have:=h.told hf hfp hrn hw j hj
    exact ⟨-(w (p j)),by rw [Int.mul_neg,this];grind⟩
   ·by_cases e : i = j
    ·subst e
     exact Int.dvd_mul_left _ _
    ·rw [h.off i hi j (by omega) (Ne.symm e),Int.mul_zero]
     exact Int.dvd_zero _
  rw [hn,Int.natCast_one,Int.mul_one] at d
  exact Int.dvd_trans d (Int.dvd_mul_left _ _)
 ·have b:=hn (p j) (h.pn j hj)
  have z:=h.piv j hj
  refine Int.dvd_trans ?_ (Int.dvd_mul_right _ _)
  generalize row j (p j) = x at b z
  rcases (show x = -9 ∨ x = -8 ∨ x = -7 ∨ x = -6 ∨ x = -5 ∨ x = -4 ∨ x = -3 ∨ x = -2 ∨ x = -1 ∨ x = 1 ∨ x = 2 ∨ x = 3 ∨ x = 4 ∨ x = 5 ∨ x = 6 ∨ x = 7 ∨ x = 8 ∨ x = 9 by omega) with rfl|rfl|rfl|rfl|rfl|rfl|rfl|rfl|rfl|rfl|rfl|rfl|rfl|rfl|rfl|rfl|rfl|rfl <;> decide
def newRow (w : Int → Int) (M : Nat → Nat → Int) (r c i : Nat) : Nat → Int:=fun k=>w (w (M i k * M r c) - w (M r k * M i c))
def divn (n : Nat) (v : Nat → Int) : Nat → Int:=if 1 < gcdn n v then fun k=>v k / (gcdn n v : Int) else v
def shortP (pv : Bool) (n r : Nat) (M : Nat → Nat → Int) : Nat → Nat → Int:=if pv then fun i=>if i = r then divn n (M r) else M i else M
def colS (w : Int → Int) (n m r c : Nat) (P : Nat → Nat → Int) : Nat → Nat → Int:=fun i=>if i < m ∧ i ≠ r ∧ P i c ≠ 0 then divn n (newRow w P r c i) else P i
def findAt (M : Nat → Nat → Int) (c m : Nat) : Nat → Nat → Nat
|0,i=>i
|f + 1,i=>if i < m ∧ M i c = 0 then findAt M c m f (i + 1) else i
def elim (w : Int → Int) (pv : Bool) (n m : Nat) : Nat → Nat → (Nat → Nat → Int) → List Nat → (Nat → Nat → Int) × List Nat
|0,_,M,piv=>(M,piv)
|k + 1,c,M,piv =>
  if findAt M c m (m - piv.length) piv.length = m then elim w pv n m k (c + 1) M piv
  else elim w pv n m k (c + 1) (colS w n m piv.length c (shortP pv n piv.length (sw piv.length (findAt M c m (m - piv.length) piv.length) M))) (piv ++ [c])
theorem findAt_told (M : Nat → Nat → Int) (c m : Nat) : ∀ (f i : Nat),i + f = m → i ≤ findAt M c m f i ∧ findAt M c m f i ≤ m ∧ (∀ j,i ≤ j → j < findAt M c m f i → M j c = 0) ∧ (findAt M c m f i < m → M (findAt M c m f i) c ≠ 0)
|0,i,h=>⟨by simp [findAt],by simp [findAt];omega,fun j h1 h2=>by simp [findAt] at h2;omega,fun h1=>by simp [findAt] at h1;omega⟩
|f + 1,i,h=>by
  by_cases c1 : i < m ∧ M i c = 0
  ·obtain ⟨a,b,d,e⟩:=findAt_told M c m f (i + 1) (by omega)
   have q : findAt M c m (f + 1) i = findAt M c m f (i + 1):=by
    show (if i < m ∧ M i c = 0 then findAt M c m f (i + 1) else i) = _
    rw [if_pos c1]
   rw [q]
   refine ⟨by omega,b,fun j h1 h2=>?_,e⟩
   by_cases ej : j = i
   ·rw [ej]
    exact c1.2
   ·exact d j (by omega) h2
  ·have q : findAt M c m (f + 1) i = i:=by
    show (if i < m ∧ M i c = 0 then findAt M c m f (i + 1) else i) = _
    rw [if_neg c1]
   rw [q]
   exact ⟨by omega,by omega,fun j h1 h2=>by omega,fun h1 h2=>c1 ⟨h1,h2⟩⟩
theorem gcdn_congr : ∀ {n : Nat} {u v : Nat → Int},(∀ k,k < n → u k = v k) → gcdn n u = gcdn n v
|0,_,_,_=>rfl
|n + 1,u,v,h=>by
  simp only [gcdn]
  rw [gcdn_congr (n:=n) fun k hk=>h k (by omega),h n (by omega)]
theorem gcdn_mul (g : Nat) : ∀ (n : Nat) (v : Nat → Int),gcdn n (fun k=>(g : Int) * v k) = g * gcdn n v
|0,_=>by simp [gcdn]
|n + 1,v=>by
  simp only [gcdn]
  rw [gcdn_mul g n v,Int.natAbs_mul,Int.natAbs_natCast,Nat.gcd_mul_left]
theorem divn_told (n : Nat) (v : Nat → Int) (hz : ∀ k,n ≤ k → v k = 0) : ∃ g : Int,0 < g ∧ (∀ k,g * divn n v k = v k) ∧ (gcdn n (divn n v) = 1 ∨ ∀ k,k < n → divn n v k = 0):=by
 unfold divn
 by_cases c : 1 < gcdn n v
 ·rw [if_pos c]
  have e : ∀ k,(gcdn n v : Int) * (v k / (gcdn n v : Int)) = v k:=fun k=>by
   by_cases hk : k < n
   ·exact Int.mul_ediv_cancel' (gcdn_dvd n v k hk)
   ·rw [hz k (by omega),Int.zero_ediv,Int.mul_zero]
  refine ⟨gcdn n v,by omega,e,.inl ?_⟩
  have a:=gcdn_mul (gcdn n v) n (fun k=>v k / (gcdn n v : Int))
  rw [gcdn_congr (v:=v) fun k _=>e k] at a
  have : gcdn n v * 1 = gcdn n v * gcdn n (fun k=>v k / (gcdn n v : Int)):=by omega
  exact (Nat.eq_of_mul_eq_mul_left (by omega) this).symm
 ·rw [if_neg c]
  refine ⟨1,by omega,fun k=>Int.one_mul _,?_⟩
  rcases (show gcdn n v = 1 ∨ gcdn n v = 0 by omega) with h|h
  ·exact .inl h
  ·refine .inr fun k hk=>?_
   have:=gcdn_dvd n v k hk
   rw [h] at this
   exact Int.zero_dvd.1 this
theorem divn_zero (n : Nat) (v : Nat → Int) (k : Nat) (h : v k = 0) : divn n v k = 0:=by
 unfold divn
 split
 ·simp [h]
 ·exact h
def Dep (m : Nat) (f : Nat → Nat → Int) : Prop:=∃ d : Nat → Int,(∃ k,k < m ∧ d k ≠ 0) ∧ ∀ x,sm m (fun k=>d k * f k x) = 0
theorem sm_sw {α : Type} (i j m : Nat) (hi : i < m) (hj : j < m) (d : Nat → Int) (f : Nat → Nat → Int) (x : Nat) : sm m (fun k=>sw i j d k * sw i j f k x) = sm m (fun k=>d k * f k x):=by
 by_cases e : i = j
 ·subst e
  exact sm_congr fun k _=>by
   have : ∀ {β : Type} (g : Nat → β),sw i i g k = g k:=fun g=>by
    unfold sw
    by_cases c : k = i
    ·rw [if_pos c,c]
    ·rw [if_neg c,if_neg c]
   rw [this,this]
 ·have part : ∀ g : Nat → Int,sm m g = sm m (fun k=>if k = i ∨ k = j then 0 else g k) + (g i + g j):=fun g=>by
   have e1 : sm m g = sm m (fun k=>(if k = i ∨ k = j then 0 else g k) + (if k = i ∨ k = j then g k else 0)):=sm_congr fun k _=>by split <;> omega
   rw [e1,sm_add,sm_two (f:=fun k=>if k = i ∨ k = j then g k else 0) hi hj e fun k _ h1 h2=>if_neg (by omega)]
   show _ + ((if i = i ∨ i = j then g i else 0) + (if j = i ∨ j = j then g j else 0)) = _
   rw [if_pos (.inl rfl),if_pos (.inr rfl)]
  rw [part (fun k=>sw i j d k * sw i j f k x),part (fun k=>d k * f k x)]
  have z : sm m (fun k=>if k = i ∨ k = j then 0 else sw i j d k * sw i j f k x) = sm m (fun k=>if k = i ∨ k = j then 0 else d k * f k x):=sm_congr fun k _=>by
   by_cases c : k = i ∨ k = j
   ·rw [if_pos c,if_pos c]
   ·rw [if_neg c,if_neg c]
    unfold sw
    rw [if_neg (by omega),if_neg (by omega),if_neg (by omega),if_neg (by omega)]
  have a : sw i j d i * sw i j f i x = d j * f j x:=by
   unfold sw
   rw [if_pos rfl,if_pos rfl]
  have b : sw i j d j * sw i j f j x = d i * f i x:=by
   unfold sw
   rw [if_neg (Ne.symm e),if_pos rfl,if_neg (Ne.symm e),if_pos rfl]
  show _ + (sw i j d i * sw i j f i x + sw i j d j * sw i j f j x) = _ + (d i * f i x + d j * f j x)
  rw [z,a,b]
  omega
theorem sw_sw {α : Type} (i j : Nat) (f : Nat → α) (k : Nat) : sw i j (sw i j f) k = f k:=by
 unfold sw
 by_cases c1 : k = i
 ·subst c1
  rw [if_pos rfl]
  by_cases c2 : j = k
  ·rw [if_pos c2,c2]
  ·rw [if_neg c2,if_pos rfl]
 ·rw [if_neg c1]
  by_cases c2 : k = j
  ·subst c2
   rw [if_pos rfl,if_pos rfl]
  ·rw [if_neg c2,if_neg c1,if_neg c2]
theorem dep_sw (i j m : Nat) (hi : i < m) (hj : j < m) (f : Nat → Nat → Int) : Dep m (sw i j f) ↔ Dep m f:=by
 have one : ∀ g : Nat → Nat → Int,Dep m g → Dep m (sw i j g):=fun g ⟨d,⟨k,hk,hd⟩,e⟩=>by
  obtain ⟨l,hl,q,_⟩:=sw_pick (α:=Int) i j m hi hj k hk
  refine ⟨sw i j d,⟨l,hl,?_⟩,fun x=>by rw [sm_sw (α:=Int) i j m hi hj];exact e x⟩
  have:=q (sw i j d)
  rw [sw_sw] at this
  rw [← this]
  exact hd
 refine ⟨fun h=>?_,one f⟩
 obtain ⟨d,hd,e⟩:=one _ h
 exact ⟨d,hd,fun x=>by rw [← e x];exact sm_congr fun k _=>by rw [sw_sw]⟩
structure Inv (m n c : Nat) (A M : Nat → Nat → Int) (piv : List Nat) : Prop where
 st : ∃ o p,St m piv.length o M p ∧ (∀ j,j < piv.length → piv[j]? = some (p j)) ∧ (∀ i,i < m → ∀ x,-9 ≤ o i x ∧ o i x ≤ 9) ∧ (Dep m o ↔ Dep m A)
 tail : ∀ i,piv.length ≤ i → i < m → ∀ k,k < c → M i k = 0
 asc : piv.Pairwise (· < ·)
 low : ∀ q,q ∈ piv → q < c
 nice : ∀ i,i < m → Nice n (M i)
 zero : ∀ i,i < m → ∀ k,n ≤ k → M i k = 0
 ker : ∀ x,Ker m n M x ↔ Ker m n A x
theorem Inv.start (m n : Nat) (A : Nat → Nat → Int) (h9 : ∀ i,i < m → ∀ x,-9 ≤ A i x ∧ A i x ≤ 9) (hz : ∀ i,i < m → ∀ k,n ≤ k → A i k = 0) : Inv m n 0 A A [] :=
 ⟨⟨A,fun _=>0,St.start m A _,fun j hj=>by simp at hj,h9,Iff.rfl⟩,fun i _ _ k hk=>by omega,List.Pairwise.nil,fun q hq=>by simp at hq,fun i hi=>.inr fun k _=>h9 i hi k,hz,fun x=>Iff.rfl⟩
theorem Inv.small {m n c : Nat} {A M : Nat → Nat → Int} {piv : List Nat} (h : Inv m n c A M piv) (hm : m ≤ 5) (i : Nat) (hi : i < m) (k : Nat) : -184528125 ≤ M i k ∧ M i k ≤ 184528125:=by
 by_cases hk : k < n
 ·obtain ⟨o,p,h1,h2,h3,_⟩:=h.st
  exact h1.bound hm h3 i hi (h.nice i hi) k hk
 ·rw [h.zero i hi k (by omega)]
  omega
def Keeps (w : Int → Int) : Prop:=∀ x : Int,-9223372036854775808 ≤ x → x ≤ 9223372036854775807 → w x = x
theorem newRow_told {w : Int → Int} (hw : Keeps w) {M : Nat → Nat → Int} {r c i : Nat} (h : ∀ j k,j = r ∨ j = i → -184528125 ≤ M j k ∧ M j k ≤ 184528125) (k : Nat) : newRow w M r c i k = M r c * M i k - M i c * M r k ∧ -68101257834375001 ≤ M r c * M i k - M i c * M r k ∧ M r c * M i k - M i c * M r k ≤ 68101257834375001:=by
 have mr : ∀ a b : Int,-184528125 ≤ a → a ≤ 184528125 → -184528125 ≤ b → b ≤ 184528125 → -34050628916015625 ≤ a * b ∧ a * b ≤ 34050628916015625:=by
  intro c w h1 h2 h3 h4
  have p1 : 0 ≤ (184528125 - c) * (184528125 + w):=Int.mul_nonneg (by omega) (by omega)
  have p2 : 0 ≤ (184528125 + c) * (184528125 - w):=Int.mul_nonneg (by omega) (by omega)
  have p3 : 0 ≤ (184528125 - c) * (184528125 - w):=Int.mul_nonneg (by omega) (by omega)
  have p4 : 0 ≤ (184528125 + c) * (184528125 + w):=Int.mul_nonneg (by omega) (by omega)
  rw [Int.sub_mul,Int.mul_add,Int.mul_add] at p1
  rw [Int.add_mul,Int.mul_sub,Int.mul_sub] at p2
  rw [Int.sub_mul,Int.mul_sub,Int.mul_sub] at p3
  rw [Int.add_mul,Int.mul_add,Int.mul_add] at p4
  omega
 have a:=h r c (.inl rfl)
 have b:=h i k (.inr rfl)
 have d:=h r k (.inl rfl)
 have e:=h i c (.inr rfl)
 have p:=mr _ _ b.1 b.2 a.1 a.2
 have q:=mr _ _ d.1 d.2 e.1 e.2
 have c1 : M r c * M i k = M i k * M r c:=Int.mul_comm _ _
 have c2 : M i c * M r k = M r k * M i c:=Int.mul_comm _ _
 unfold newRow
 rw [hw (M i k * M r c) (by omega) (by omega),hw (M r k * M i c) (by omega) (by omega),hw (_ - _) (by omega) (by omega),c1,c2]
 exact ⟨rfl,by omega,by omega⟩
theorem Inv.next {m n c : Nat} {A M : Nat → Nat → Int} {piv : List Nat} (h : Inv m n c A M piv) (hm : m ≤ 5) (hcn : c < n) {w : Int → Int} (hw : Keeps w) (pv : Bool) {at_ : Nat} (hat : piv.length ≤ at_) (ham : at_ < m) (hne : M at_ c ≠ 0) :
  Inv m n (c + 1) A (colS w n m piv.length c (shortP pv n piv.length (sw piv.length at_ M))) (piv ++ [c]):=by
 obtain ⟨o,p,s1,s2,s3,s4⟩:=h.st
 obtain ⟨r,hr⟩ : ∃ r,r = piv.length:=⟨_,rfl⟩
 rw [← hr] at s1 s2 hat ⊢
 have hrm : r < m:=by omega
 have S:=s1.swap (Nat.le_refl r) hat hrm ham
 let N:=sw r at_ M
 have Nr : N r = M at_:=if_pos rfl
 have pick : ∀ i,i < m → ∃ l,l < m ∧ N i = M l ∧ (r ≤ i ↔ r ≤ l):=fun i hi=>by
  obtain ⟨l,hl,e,q⟩:=sw_pick (α:=Nat → Int) r at_ m hrm ham i hi
  exact ⟨l,hl,e M,(q r (Nat.le_refl _) hat).1⟩
 have Nz : ∀ i,i < m → ∀ k,n ≤ k → N i k = 0:=fun i hi k hk=>by
  obtain ⟨l,hl,e,_⟩:=pick i hi
  rw [e]
  exact h.zero l hl k hk
 have Ns : ∀ i,i < m → ∀ k,-184528125 ≤ N i k ∧ N i k ≤ 184528125:=fun i hi k=>by
  obtain ⟨l,hl,e,_⟩:=pick i hi
  rw [e]
  exact h.small hm l hl k
 have Nn : ∀ i,i < m → Nice n (N i):=fun i hi=>by
  obtain ⟨l,hl,e,_⟩:=pick i hi
  rw [e]
  exact h.nice l hl
 have Nt : ∀ i,r ≤ i → i < m → ∀ k,k < c → N i k = 0:=fun i h1 hi k hk=>by
  obtain ⟨l,hl,e,q⟩:=pick i hi
  rw [e]
  exact h.tail l (by rw [← hr];exact q.1 h1) hl k hk
 let P:=shortP pv n r N
 obtain ⟨g,hg,Pr,Pn⟩ : ∃ g : Int,g ≠ 0 ∧ (∀ k,g * P r k = N r k) ∧ Nice n (P r):=by
  cases pv
  ·exact ⟨1,by omega,fun k=>Int.one_mul _,Nn r hrm⟩
  ·obtain ⟨g,h1,h2,h3⟩:=divn_told n (N r) (Nz r hrm)
   have h1 : g ≠ 0:=by omega
   have e : P r = divn n (N r):=if_pos rfl
   rw [e]
   refine ⟨g,h1,h2,h3.elim .inl fun q=>.inr fun k hk=>by rw [q k hk];omega⟩
 have Po : ∀ i,i ≠ r → P i = N i:=fun i hi=>by
  cases pv
  ·rfl
  ·exact if_neg hi
 have Pz : ∀ i,i < m → ∀ k,n ≤ k → P i k = 0:=fun i hi k hk=>by
  by_cases e : i = r
  ·subst e
   have:=Pr k
   rw [Nz i hi k hk] at this
   exact (Int.mul_eq_zero.1 this).resolve_left hg
  ·rw [Po i e]
   exact Nz i hi k hk
 have Ps : ∀ i,i < m → ∀ k,-184528125 ≤ P i k ∧ P i k ≤ 184528125:=fun i hi k=>by
  by_cases e : i = r
  ·subst e
   have:=Ns i hi k
   rw [← Pr k] at this
   exact abs_le_mul hg this
  ·rw [Po i e]
   exact Ns i hi k
 have Pc : P r c ≠ 0:=fun e=>by
  have:=Pr c
  rw [e,Int.mul_zero,Nr] at this
  exact hne this.symm
 let R:=colS w n m r c P
 have Rr : R r = P r:=if_neg fun q=>q.2.1 rfl
 have told : ∀ i,i < m → ∀ k,newRow w P r c i k = P r c * P i k - P i c * P r k:=fun i hi k=>(newRow_told hw (fun j k hj=>by
  rcases hj with rfl|rfl
  ·exact Ps _ hrm k
  ·exact Ps _ hi k) k).1
 have Ri : ∀ i,i < m → i ≠ r → ∃ g : Int,g ≠ 0 ∧ (∀ k,g * R i k = P r c * P i k - P i c * P r k) ∧ Nice n (R i):=fun i hi hir=>by
  by_cases z : P i c = 0
  ·have e : R i = P i:=if_neg fun q=>q.2.2 z
   refine ⟨P r c,Pc,fun k=>by rw [e,z];omega,?_⟩
   rw [e,Po i hir]
   exact Nn i hi
  ·have e : R i = divn n (newRow w P r c i):=if_pos ⟨hi,hir,z⟩
   obtain ⟨g',h1,h2,h3⟩:=divn_told n (newRow w P r c i) fun k hk=>by
    rw [told i hi k,Pz i hi k hk,Pz r hrm k hk]
    omega
   have h1 : g' ≠ 0:=by omega
   refine ⟨g',h1,fun k=>by rw [e,h2 k];exact told i hi k,?_⟩
   rw [e]
   exact h3.elim .inl fun q=>.inr fun k hk=>by rw [q k hk];omega
 have hp : ∃ e f : Int,e ≠ 0 ∧ f ≠ 0 ∧ ∀ x,e * R r x = f * N r x:=⟨g,1,hg,by omega,fun x=>by rw [Rr,Pr,Int.one_mul]⟩
 have hi : ∀ i,i < m → i ≠ r → ∃ g : Int,g ≠ 0 ∧ ∀ x,g * R i x = N r c * N i x - N i c * N r x:=fun i him hir=>by
  obtain ⟨g',h1,h2,_⟩:=Ri i him hir
  refine ⟨g * g',Int.mul_ne_zero hg h1,fun x=>?_⟩
  have a:=h2 x
  have b:=Pr c
  have d:=Pr x
  rw [Po i hir] at a
  rw [Int.mul_assoc,a,← b,← d]
  grind
 have Nc : N r c ≠ 0:=by rw [Nr];exact hne
 have T:=S.step hrm c Nc hp hi
 have len : (piv ++ [c]).length = r + 1:=by simp [hr]
 refine ⟨⟨sw r at_ o,_,by rw [len];exact T,fun j hj=>?_,fun i hi x=>?_,?_⟩,fun i h1 him k hk=>?_,?_,fun q hq=>?_,fun i him=>?_,fun i him k hk=>?_,fun x=>?_⟩
 ·by_cases e : j = r
  ·subst e
   rw [if_pos rfl,hr,List.getElem?_append_right (Nat.le_refl _)]
   simp
  ·rw [if_neg e,List.getElem?_append_left (by rw [len] at hj;omega)]
   exact s2 j (by rw [len] at hj;omega)
 ·obtain ⟨l,hl,e,_⟩:=sw_pick (α:=Nat → Int) r at_ m hrm ham i hi
  rw [e]
  exact s3 l hl x
 ·exact (dep_sw r at_ m hrm ham o).trans s4
 ·rw [len] at h1
  show R i k = 0
  obtain ⟨g',q1,q2,_⟩:=Ri i him (by omega)
  have q:=q2 k
  have zero : P r c * P i k - P i c * P r k = 0:=by
   by_cases ek : k = c
   ·rw [ek]
    rw [Int.mul_comm]
    omega
   ·have a : P r k = 0:=by
     have:=Pr k
     rw [Nt r (Nat.le_refl _) hrm k (by omega)] at this
     exact (Int.mul_eq_zero.1 this).resolve_left hg
    have b : P i k = 0:=by
     rw [Po i (by omega)]
     exact Nt i (by omega) him k (by omega)
    rw [a,b]
    omega
  rw [zero] at q
  exact (Int.mul_eq_zero.1 q).resolve_left q1
 ·rw [List.pairwise_append]
  exact ⟨h.asc,List.pairwise_singleton _ _,fun a ha b hb=>by rw [List.mem_singleton.1 hb];exact h.low a ha⟩
 ·rcases List.mem_append.1 hq with hq|hq
  ·have:=h.low q hq
   omega
  ·rw [List.mem_singleton.1 hq]
   omega
 ·show Nice n (R i)
  by_cases e : i = r
  ·rw [e,Rr]
   exact Pn
  ·exact (Ri i him e).choose_spec.2.2
 ·show R i k = 0
  by_cases e : i = r
  ·rw [e,Rr]
   exact Pz r hrm k hk
  ·obtain ⟨g',q1,q2,_⟩:=Ri i him e
   have q:=q2 k
   rw [Pz i him k hk,Pz r hrm k hk,Int.mul_zero,Int.mul_zero,Int.sub_zero] at q
   exact (Int.mul_eq_zero.1 q).resolve_left q1
 ·exact (ker_step hrm c Nc hp hi).trans ((ker_swap hrm ham).trans (h.ker x))
theorem Inv.skip {m n c : Nat} {A M : Nat → Nat → Int} {piv : List Nat} (h : Inv m n c A M piv) (hz : ∀ i,piv.length ≤ i → i < m → M i c = 0) : Inv m n (c + 1) A M piv :=
 ⟨h.st,fun i h1 h2 k hk=>by
  by_cases e : k = c
  ·rw [e]
   exact hz i h1 h2
  ·exact h.tail i h1 h2 k (by omega),h.asc,fun q hq=>by have:=h.low q hq;omega,h.nice,h.zero,h.ker⟩
theorem Inv.all {m n : Nat} (hm : m ≤ 5) {w : Int → Int} (hw : Keeps w) (pv : Bool) {A : Nat → Nat → Int} : ∀ (k c : Nat) (M : Nat → Nat → Int) (piv : List Nat),c + k = n → Inv m n c A M piv → Inv m n n A (elim w pv n m k c M piv).1 (elim w pv n m k c M piv).2
|0,c,M,piv,hc,h=>by
  obtain rfl : c = n:=by omega
  exact h
|k + 1,c,M,piv,hc,h=>by
  have hr : piv.length ≤ m:=h.st.choose_spec.choose_spec.1.hr
  obtain ⟨f1,f2,f3,f4⟩:=findAt_told M c m (m - piv.length) piv.length (by omega)
  by_cases e : findAt M c m (m - piv.length) piv.length = m
  ·rw [elim,if_pos e]
   exact Inv.all hm hw pv k (c + 1) M piv (by omega) (h.skip fun i h1 h2=>f3 i h1 (by omega))
  ·rw [elim,if_neg e]
   exact Inv.all hm hw pv k (c + 1) _ _ (by omega) (h.next hm (by omega) hw pv f1 (by omega) (f4 (by omega)))
theorem Inv.fin {m n : Nat} {A M : Nat → Nat → Int} {piv : List Nat} (h : Inv m n n A M piv) : ∃ o p,St m piv.length o M p ∧ Fin_ m n piv.length M p ∧ (∀ j,j < piv.length → piv[j]? = some (p j)) ∧ (∀ i,i < m → ∀ x,-9 ≤ o i x ∧ o i x ≤ 9) ∧ (Dep m o ↔ Dep m A):=by
 obtain ⟨o,p,s1,s2,s3,s4⟩:=h.st
 refine ⟨o,p,s1,s1.fin h.tail fun j hj=>h.low _ ?_,s2,s3,s4⟩
 exact List.mem_of_getElem? (s2 j hj)
def lcs (a : Nat → Int) : Nat → Int
|0=>1
|j + 1=>lcs a j / (Int.gcd (lcs a j) (a j) : Int) * ((a j).natAbs : Int)
theorem lcm_step (x y : Nat) (hx : 0 < x) : x / Nat.gcd x y * y = Nat.lcm x y:=by
 have hg : 0 < Nat.gcd x y:=Nat.gcd_pos_of_pos_left _ hx
 apply Nat.eq_of_mul_eq_mul_left hg
 rw [Nat.gcd_mul_lcm,← Nat.mul_assoc,Nat.mul_div_cancel' (Nat.gcd_dvd_left x y)]
theorem lcs_nat (a : Nat → Int) : ∀ (r : Nat),(∀ j,j < r → a j ≠ 0) → ∃ L : Nat,lcs a r = (L : Int) ∧ 0 < L ∧ (∀ j,j < r → (a j).natAbs ∣ L) ∧ ∀ D : Nat,(∀ j,j < r → (a j).natAbs ∣ D) → L ∣ D
|0,_=>⟨1,rfl,by omega,fun j hj=>by omega,fun D _=>Nat.one_dvd _⟩
|r + 1,h=>by
  obtain ⟨L,e,hL,d,l⟩:=lcs_nat a r fun j hj=>h j (by omega)
  have ha : 0 < (a r).natAbs:=by
   have:=h r (by omega)
   omega
  refine ⟨Nat.lcm L (a r).natAbs,?_,Nat.lcm_pos hL ha,fun j hj=>?_,fun D hD=>?_⟩
  ·rw [← lcm_step L _ hL]
   show lcs a r / (Int.gcd (lcs a r) (a r) : Int) * ((a r).natAbs : Int) = _
   rw [e,Int.gcd,Int.natAbs_natCast]
   simp
  ·by_cases c : j = r
   ·subst c
    exact Nat.dvd_lcm_right _ _
   ·exact Nat.dvd_trans (d j (by omega)) (Nat.dvd_lcm_left _ _)
  ·exact Nat.lcm_dvd (l D fun j hj=>hD j (by omega)) (hD r (by omega))
theorem Inv.rel {m n : Nat} {A M : Nat → Nat → Int} {piv : List Nat} (h : Inv m n n A M piv) (hm : m ≤ 5) (hn6 : n ≤ 6) (hrn : piv.length + 1 = n) {f : Nat} (hf : f < n) (hfp : f ∉ piv) {a : Nat → Int} (ha : ∀ j q,piv[j]? = some q → a j = M j q) {u : Nat → Int} (hu1 : u f = lcs a piv.length) (hu2 : ∀ j q,piv[j]? = some q → u q = -(M j f) * (lcs a piv.length / M j q)) (hu3 : ∀ k,n ≤ k → u k = 0) :
  (Ker m n A (divn n u) ∧ gcdn n (divn n u) = 1 ∧ 0 < divn n u f) ∧ (∀ k,-1157095860480 ≤ u k ∧ u k ≤ 1157095860480) ∧ (∀ j,j ≤ piv.length → 0 < lcs a j ∧ lcs a j ≤ 1157095860480) ∧ One n (Ker m n A):=by
 obtain ⟨o,p,s1,s2,s3,s4,s5⟩:=h.fin
 obtain ⟨r,hr⟩ : ∃ r,r = piv.length:=⟨_,rfl⟩
 rw [← hr] at s1 s2 s3 hrn hu1 ⊢
 have f1 : ∀ j,j < r → p j ≠ f:=fun j hj e=>hfp (by rw [← e];exact List.mem_of_getElem? (s3 j hj))
 have aj : ∀ j,j < r → a j = M j (p j):=fun j hj=>ha j _ (s3 j hj)
 have a0 : ∀ j,j < r → a j ≠ 0:=fun j hj=>by rw [aj j hj];exact s2.piv j hj
 have up : ∀ j,j < r → u (p j) = -(M j f) * (lcs a r / M j (p j)):=fun j hj=>by rw [hr];exact hu2 j _ (s3 j hj)
 obtain ⟨L,eL,hL,dL,lL⟩:=lcs_nat a r a0
 obtain ⟨x,x1,x2,x3⟩:=s2.free hf f1
 have zx : ∀ k,n ≤ k → (fun k=>if k < n then x k else 0) k = 0:=fun k hk=>if_neg (by omega)
 obtain ⟨g,g1,g2,g3⟩:=divn_told n (fun k=>if k < n then x k else 0) zx
 obtain ⟨w,hw⟩ : ∃ w,w = divn n (fun k=>if k < n then x k else 0):=⟨_,rfl⟩
 rw [← hw] at g2 g3
 have wf : w f ≠ 0:=fun e=>by
  have:=g2 f
  rw [e,Int.mul_zero] at this
  simp only [if_pos hf] at this
  exact x2 this.symm
 have wg : gcdn n w = 1:=g3.resolve_right fun q=>wf (q f hf)
 have wk : Ker m n M w:=fun i hi=>by
  have e : g * sm n (fun k=>M i k * w k) = 0:=by
   rw [← sm_mul,← x1 i hi]
   exact sm_congr fun k hk=>by
    have:=g2 k
    simp only [if_pos hk] at this
    rw [← this]
    grind
  exact (Int.mul_eq_zero.1 e).resolve_left (by omega)
 have ws : ∀ k,k < n → -459165024 ≤ w k ∧ w k ≤ 459165024:=fun k hk=>s1.kernel s2 hrn hn6 s4 wk wg k hk
 have dv : ∀ j,j < r → a j ∣ 2520 * w f:=fun j hj=>by
  rw [aj j hj]
  exact s2.divides hf f1 hrn wk j hj (h.nice j (by have:=s2.hr;omega))
 have small : ∀ j,j ≤ r → 0 < lcs a j ∧ lcs a j ≤ 1157095860480 ∧ lcs a j ∣ 2520 * w f:=fun j hj=>by
  obtain ⟨K,eK,hK,_,lK⟩:=lcs_nat a j fun i hi=>a0 i (by omega)
  have d:=lK (2520 * w f).natAbs fun i hi=>Int.natAbs_dvd_natAbs.2 (dv i (by omega))
  have b:=ws f hf
  have:=Nat.le_of_dvd (by omega) d
  rw [eK]
  exact ⟨by omega,by omega,Int.ofNat_dvd_left.2 d⟩
 have uk : Ker m n M u:=fun i hi=>by
  by_cases c : i < r
  ·rw [sm_two (i:=p i) (j:=f) (s2.pn i c) hf (f1 i c) fun k hk h1 h2=>?_]
   ·have d : M i (p i) ∣ lcs a r:=by
     rw [eL,← aj i c]
     exact Int.ofNat_dvd_right.2 (dL i c)
    rw [up i c,hu1,Int.neg_mul,Int.mul_neg,← Int.mul_assoc,Int.mul_comm (M i (p i)),Int.mul_assoc,Int.mul_ediv_cancel' d]
    omega
   ·rcases s2.cover hf f1 hrn k hk with rfl|⟨j,hj,rfl⟩
    ·exact absurd rfl h2
    ·rw [s2.off j hj i hi fun e=>h1 (by rw [e]),Int.zero_mul]
  ·exact sm_zero fun k hk=>by rw [s2.tail i (by omega) hi k hk,Int.zero_mul]
 have uf : u f ≠ 0:=by
  rw [hu1,eL]
  omega
 obtain ⟨g',q1,q2,q3⟩:=divn_told n u hu3
 have vf : 0 < divn n u f:=by
  have e:=q2 f
  rw [hu1,eL] at e
  apply Classical.byContradiction
  intro c
  have : 0 ≤ g' * -(divn n u f):=Int.mul_nonneg (by omega) (by omega)
  rw [Int.mul_neg] at this
  omega
 refine ⟨⟨(h.ker _).1 fun i hi=>?_,q3.resolve_right fun q=>by have:=q f hf;omega,vf⟩,fun k=>?_,fun j hj=>⟨(small j hj).1,(small j hj).2.1⟩,?_⟩
 ·have e : g' * sm n (fun k=>M i k * divn n u k) = 0:=by
   rw [← sm_mul,← uk i hi]
   exact sm_congr fun k hk=>by
    rw [← q2 k]
    grind
  exact (Int.mul_eq_zero.1 e).resolve_left (by omega)
 ·by_cases hk : k < n
  ·obtain ⟨s,hs⟩:=(small r (Nat.le_refl _)).2.2
   have l:=s2.line hf f1 hrn uk wk k hk
   rw [hu1] at l
   have e : w f * (s * u k) = w f * (2520 * w k):=by
    have : w f * (s * u k) = s * (w f * u k):=by grind
    rw [this,← l]
    have : s * (lcs a r * w k) = (lcs a r * s) * w k:=by grind
    rw [this,← hs]
    grind
   have e:=Int.eq_of_mul_eq_mul_left wf e
   have s0 : s ≠ 0:=fun z=>by
    rw [z,Int.mul_zero] at hs
    exact wf ((Int.mul_eq_zero.1 hs).resolve_left (by omega))
   have b:=ws k hk
   exact abs_le_mul s0 (by omega)
  ·rw [hu3 k (by omega)]
   omega
 ·have:=s2.one.2 hrn
  obtain ⟨⟨y,y1,y2⟩,t⟩:=this
  exact ⟨⟨y,(h.ker y).1 y1,y2⟩,fun x y hx hy=>t x y ((h.ker x).2 hx) ((h.ker y).2 hy)⟩
theorem Inv.one {m n : Nat} {A M : Nat → Nat → Int} {piv : List Nat} (h : Inv m n n A M piv) : One n (Ker m n A) ↔ piv.length + 1 = n:=by
 obtain ⟨o,p,s1,s2,s3,s4,s5⟩:=h.fin
 rw [← s2.one]
 constructor
 ·rintro ⟨⟨y,y1,y2⟩,t⟩
  exact ⟨⟨y,(h.ker y).2 y1,y2⟩,fun x y hx hy=>t x y ((h.ker x).1 hx) ((h.ker y).1 hy)⟩
 ·rintro ⟨⟨y,y1,y2⟩,t⟩
  exact ⟨⟨y,(h.ker y).1 y1,y2⟩,fun x y hx hy=>t x y ((h.ker x).2 hx) ((h.ker y).2 hy)⟩
theorem line_sign {n : Nat} {K : (Nat → Int) → Prop} (hK : One n K) {u v : Nat → Int} (hu : K u) (hv : K v) (gu : gcdn n u = 1) (gv : gcdn n v = 1) : ∃ t : Int,(t = 1 ∨ t = -1) ∧ ∀ k,k < n → v k = t * u k:=by
 obtain ⟨a,b,hab,e⟩:=hK.2 u v hu hv
 have nz : ∀ w : Nat → Int,gcdn n w = 1 → ∃ k,k < n ∧ w k ≠ 0:=fun w hw=>Classical.byContradiction fun c=>by
  have:=gcdn_zero (n:=n) (w:=w) fun k hk=>Classical.byContradiction fun d=>c ⟨k,hk,d⟩
  omega
 have a0 : a ≠ 0:=fun z=>by
  obtain ⟨k,hk,q⟩:=nz v gv
  have:=e k hk
  rw [z,Int.zero_mul] at this
  have:=(Int.mul_eq_zero.1 this.symm).resolve_right q
  omega
 have b0 : b ≠ 0:=fun z=>by
  obtain ⟨k,hk,q⟩:=nz u gu
  have:=e k hk
  rw [z,Int.zero_mul] at this
  exact a0 ((Int.mul_eq_zero.1 this).resolve_right q)
 obtain ⟨t,ht,q⟩:=prim_mul gu a0 b0 e
 obtain ⟨t',ht',q'⟩:=prim_mul gv b0 a0 fun k hk=>(e k hk).symm
 obtain ⟨k,hk,z⟩:=nz u gu
 have c:=q' k hk
 rw [q k hk,← Int.mul_assoc] at c
 have d : t' * t = 1:=by
  have : (t' * t) * u k = 1 * u k:=by omega
  exact Int.eq_of_mul_eq_mul_right z this
 refine ⟨t,?_,q⟩
 have d2 : t'.natAbs * t.natAbs = 1:=by
  rw [← Int.natAbs_mul,d]
  rfl
 have:=Nat.eq_one_of_mul_eq_one_left d2
 omega
theorem signs_same {n : Nat} {w1 w2 l : Nat → Int} {t : Int} (ht : t = 1 ∨ t = -1) (h : ∀ k,k < n → w2 k = t * (l k * w1 k)) {f : Nat} (hf : f < n) (hpos : 0 < w2 f) (h0 : 0 < n) :
  ((∀ k,k < n → 0 < (if w1 0 * l 0 < 0 then -1 else 1) * w1 k * l k) ↔ ∀ k,k < n → 0 < w2 k) ∧ ((∀ k,k < n → 0 < w2 k) → ∀ k,k < n → (if w1 0 * l 0 < 0 then -1 else 1) * w1 k * l k = w2 k):=by
 have e : ∀ (s : Int) k,s * w1 k * l k = s * (l k * w1 k):=fun s k=>by grind
 have c0 : w1 0 * l 0 = l 0 * w1 0:=Int.mul_comm _ _
 have z:=h 0 h0
 have hfq:=h f hf
 rcases ht with rfl|rfl
 ·simp only [Int.one_mul] at h z hfq
  by_cases c : w1 0 * l 0 < 0
  ·rw [if_pos c]
   refine ⟨⟨fun q=>?_,fun q=>?_⟩,fun q=>?_⟩
   ·have:=q f hf
    rw [e] at this
    omega
   ·have:=q 0 h0
    omega
   ·have:=q 0 h0
    omega
  ·rw [if_neg c]
   refine ⟨⟨fun q k hk=>?_,fun q k hk=>?_⟩,fun q k hk=>?_⟩
   ·have:=q k hk
    rw [e] at this
    rw [h k hk]
    omega
   ·rw [e]
    have:=q k hk
    rw [h k hk] at this
    omega
   ·rw [e,h k hk]
    omega
 ·by_cases c : w1 0 * l 0 < 0
  ·rw [if_pos c]
   refine ⟨⟨fun q k hk=>?_,fun q k hk=>?_⟩,fun q k hk=>?_⟩
   ·have:=q k hk
    rw [e] at this
    rw [h k hk]
    exact this
   ·rw [e,← h k hk]
    exact q k hk
   ·rw [e,h k hk]
  ·rw [if_neg c]
   refine ⟨⟨fun q=>?_,fun q=>?_⟩,fun q=>?_⟩
   ·have:=q f hf
    rw [e] at this
    omega
   ·have:=q 0 h0
    omega
   ·have:=q 0 h0
    omega
end Go.Proofs.Ytdjclffkidoohaa.Lin
end
section
set_option linter.unusedVariables false
set_option linter.unusedSimpArgs false
namespace Go.Proofs.Ytdjclffkidoohaa.Base
open Go.RowKit Go.Proofs.YtdjclffkidoohaaW.PrintWords Go.Proofs.YtdjclffkidoohaaW.PrintLast Go.Proofs.YtdjclffkidoohaaW.PrintMore
theorem w64 {x : Int} (h1 : -9223372036854775808 ≤ x) (h2 : x ≤ 9223372036854775807) : wrap64 x = x:=by
 unfold wrap64
 omega
theorem w64_nat {n : Nat} (h : n ≤ 4611686018427387904) : wrap64 ((n : Int) + 1) = ((n + 1 : Nat) : Int):=by
 rw [w64 (by omega) (by omega)]
 omega
theorem rd_nat (l : List Int) (i : Nat) (h : i < l.length) : rd l (i : Int) = l[i]:=by
 simp [rd,h]
def inB (lo hi x : Int) : Bool:=decide (lo ≤ x ∧ x ≤ hi)
theorem inB_iff {lo hi x : Int} : inB lo hi x = true ↔ lo ≤ x ∧ x ≤ hi:=by simp [inB]
theorem within_is (a lo hi : Int) : (if a ≥ lo then (some (decide (a ≤ hi))) else (some false)) = some (inB lo hi a):=by
 unfold inB
 by_cases h : a ≥ lo
 ·rw [if_pos h]
  congr 1
  by_cases h2 : a ≤ hi <;> simp [h2]
  omega
 ·rw [if_neg h]
  congr 1
  simp
  omega
def marks : Int → Nat → List Int
|_,0=>[]
|a,n + 1=>a :: marks (a + 1) n
theorem marks_length : ∀ (n : Nat) (a : Int),(marks a n).length = n
|0,_=>rfl
|n + 1,a=>by simp [marks,marks_length n]
theorem marks_get : ∀ (n : Nat) (a : Int) (i : Nat) (h : i < (marks a n).length),(marks a n)[i] = a + i
|0,_,i,h=>by simp [marks] at h
|n + 1,a,0,h=>by simp [marks]
|n + 1,a,i + 1,h=>by
  simp only [marks,List.getElem_cons_succ]
  rw [marks_get n (a + 1) i]
  omega
def ptB (x : List Int) : Bool:=inB 1 4 x.length && x.all (inB (-9) 9)
theorem all_range {l : List Int} {lo hi : Int} (h : l.all (inB lo hi) = true) (i : Nat) (hi' : i < l.length) : lo ≤ l[i] ∧ l[i] ≤ hi:=by
 have:=List.all_eq_true.1 h l[i] (List.getElem_mem hi')
 exact inB_iff.1 this
theorem set_mid (pre post : List Int) (x y : Int) (n : Nat) (h : n = pre.length) : (pre ++ x :: post).set n y = pre ++ y :: post:=by
 subst h
 simp
def lbB (x : Int) : Bool:=decide (x = 1 ∨ x = -1)
def smB (ps : List (List Int)) (ls : List Int) : Bool:=decide (ps.length ≤ 16) && decide (ls.length = ps.length) && ls.all lbB && ps.all (fun x=>ptB x && decide (x.length = (ps.headD []).length))
theorem ptB_parts {x : List Int} (h : ptB x = true) : x.all (inB (-9) 9) = true ∧ 1 ≤ x.length ∧ x.length ≤ 4:=by
 unfold ptB at h
 have h2:=Bool.and_eq_true_iff.1 h
 have:=inB_iff.1 h2.1
 exact ⟨h2.2,by omega,by omega⟩
theorem smB_parts {ps : List (List Int)} {ls : List Int} (h : smB ps ls = true) : ps.length ≤ 16 ∧ ls.length = ps.length ∧ ls.all lbB = true ∧ ∀ x ∈ ps,ptB x = true ∧ x.length = (ps.headD []).length:=by
 unfold smB at h
 have h2:=Bool.and_eq_true_iff.1 h
 have h3:=Bool.and_eq_true_iff.1 h2.1
 have h4:=Bool.and_eq_true_iff.1 h3.1
 refine ⟨of_decide_eq_true h4.1,of_decide_eq_true h4.2,h3.2,fun x hx=>?_⟩
 have q:=Bool.and_eq_true_iff.1 (List.all_eq_true.1 h2.2 x hx)
 exact ⟨q.1,of_decide_eq_true q.2⟩
def signedL (l : Int) (p : List Int) : List Int:=l :: p.map fun x=>wrap64 (x * l)
end Go.Proofs.Ytdjclffkidoohaa.Base
end
section
set_option linter.unusedVariables false
set_option linter.unusedSimpArgs false
namespace Go.Proofs.Ytdjclffkidoohaa.Pure
open Go.RowKit Go.Proofs.Ytdjclffkidoohaa.QFnExactLeastMistakes Go.Proofs.YtdjclffkidoohaaW.PrintWords Go.Proofs.YtdjclffkidoohaaW.PrintLast Go.Proofs.YtdjclffkidoohaaW.PrintMore Go.Proofs.Ytdjclffkidoohaa.Base Go.Proofs.Ytdjclffkidoohaa.Lin
theorem laws_szIntS_is (l : List Int) (a : Int) (h0 : 0 ≤ a) (h1 : a ≤ 4611686018427387904) (hl : l.length ≤ 9223372036854775807) : Gw.f l a = some (if (l.length : Int) ≤ a then a - l.length else -1):=by
 unfold Gw.f
 rw [w64 (by omega) (by omega)]
 by_cases h : (l.length : Int) ≤ a
 ·rw [if_neg (by omega),if_pos h]
 ·rw [if_pos (by omega),if_neg h]
theorem laws_szIntSS_l : ∀ (k i : Nat) (x : List (List Int)) (a : Int),0 ≤ a → a ≤ 1048576 → x.length ≤ 1048576 → (∀ r ∈ x,r.length ≤ 9223372036854775807) → i ≤ x.length → x.length < i + k → ∃ v,Jq1.l0 k x a (i : Int) = some v ∧ (v < 0 ∨ (0 ≤ v ∧ v ≤ a ∧ ∀ r ∈ x.drop i,r.length ≤ 1048576))
|0,_,_,_,_,_,_,_,_,hk=>by omega
|k + 1,i,x,a,h0,h1,hn,hr,hi,hk=>by
  simp only [Jq1.l0]
  by_cases h : i < x.length
  ·have e : rd_L1 x (i : Int) = x[i]:=by simp [rd_L1,h]
   have hx:=hr x[i] (List.getElem_mem h)
   rw [if_pos (by omega),if_pos (by omega),e,laws_szIntS_is x[i] a h0 (by omega) hx]
   simp only [Option.bind_some]
   by_cases c : (x[i].length : Int) ≤ a
   ·rw [if_pos c,if_neg (by omega),w64_nat (by omega)]
    obtain ⟨v,hv,hc⟩:=laws_szIntSS_l k (i + 1) x (a - x[i].length) (by omega) (by omega) hn hr (by omega) (by omega)
    refine ⟨v,hv,?_⟩
    rcases hc with hc|⟨a1,a2,a3⟩
    ·exact .inl hc
    ·refine .inr ⟨a1,by omega,fun r hr'=>?_⟩
     rw [List.drop_eq_getElem_cons h] at hr'
     rcases List.mem_cons.1 hr' with rfl|hr'
     ·omega
     ·exact a3 r hr'
   ·rw [if_neg c,if_pos (by omega)]
    exact ⟨-1,rfl,.inl (by omega)⟩
  ·rw [if_neg (by omega)]
   refine ⟨a,rfl,.inr ⟨h0,Int.le_refl _,fun r hr'=>?_⟩⟩
   rw [List.drop_of_length_le (by omega)] at hr'
   simp at hr'
theorem laws_szIntSS_tells (k : Nat) (x : List (List Int)) (a : Int) (h0 : 0 ≤ a) (h1 : a ≤ 1048576) (hn : x.length ≤ 9223372036854775807) (hr : ∀ r ∈ x,r.length ≤ 9223372036854775807) (hk : 1048576 < k) : ∃ v,Jq1.f k x a = some v ∧ (v < 0 ∨ (0 ≤ v ∧ v ≤ a ∧ x.length ≤ 1048576 ∧ ∀ r ∈ x,r.length ≤ 1048576)):=by
 unfold Jq1.f
 rw [w64 (by omega) (by omega)]
 by_cases c : (x.length : Int) ≤ a
 ·rw [if_neg (by omega)]
  obtain ⟨v,hv,hc⟩:=laws_szIntSS_l k 0 x (a - x.length) (by omega) (by omega) (by omega) hr (by omega) (by omega)
  refine ⟨v,hv,?_⟩
  rcases hc with hc|⟨a1,a2,a3⟩
  ·exact .inl hc
  ·exact .inr ⟨a1,by omega,by omega,by simpa using a3⟩
 ·rw [if_pos (by omega)]
  exact ⟨-1,rfl,.inl (by omega)⟩
theorem laws_szSample_tells (k : Nat) (x : List (List Int)) (m : List Int) (a : Int) (h0 : 0 ≤ a) (h1 : a ≤ 1048576) (hn : x.length ≤ 9223372036854775807) (hr : ∀ r ∈ x,r.length ≤ 9223372036854775807) (hm : m.length ≤ 9223372036854775807) (hk : 1048576 < k) : ∃ v,Kq1.f k x m a = some v ∧ (v < 0 ∨ (0 ≤ v ∧ v ≤ a ∧ x.length ≤ 1048576 ∧ (∀ r ∈ x,r.length ≤ 1048576) ∧ m.length ≤ 1048576)):=by
 unfold Kq1.f
 obtain ⟨v,hv,hc⟩:=laws_szIntSS_tells k x a h0 h1 hn hr hk
 rw [hv]
 simp only [Option.bind_some]
 rcases hc with hc|⟨a1,a2,a3,a4⟩
 ·rw [if_pos hc]
  exact ⟨-1,rfl,.inl (by omega)⟩
 ·rw [if_neg (by omega),laws_szIntS_is m v a1 (by omega) hm]
  simp only [Option.bind_some]
  by_cases c : (m.length : Int) ≤ v
  ·rw [if_pos c,if_neg (by omega)]
   exact ⟨_,rfl,.inr ⟨by omega,by omega,a3,a4,by omega⟩⟩
  ·rw [if_neg c,if_pos (by omega)]
   exact ⟨-1,rfl,.inl (by omega)⟩
theorem laws_toIntS_l : ∀ (k i : Nat) (l acc : List Int),l.length ≤ 4611686018427387904 → acc.length = l.length → i ≤ l.length → l.length < i + k → (∀ j,j < i → acc[j]? = l[j]?) → Xq1.l0 k l acc (i : Int) = some l
|0,i,l,acc,_,_,_,hk,_=>by omega
|k + 1,i,l,acc,hn,hl,hi,hk,hj=>by
  simp only [Xq1.l0]
  by_cases h : i < l.length
  ·rw [if_pos (by omega),if_pos (by omega),if_pos (by omega),rd_nat l i h,w64_nat (by omega)]
   refine laws_toIntS_l k (i + 1) l _ hn (by simp [hl]) (by omega) (by omega) fun j hj'=>?_
   rw [List.getElem?_set]
   by_cases e : i = j
   ·subst e
    simp [h,hl]
   ·simp only [Int.toNat_natCast]
    rw [if_neg e]
    exact hj j (by omega)
  ·rw [if_neg (by omega)]
   congr 1
   refine List.ext_getElem? fun j=>?_
   by_cases e : j < i
   ·exact hj j e
   ·rw [List.getElem?_eq_none (by omega),List.getElem?_eq_none (by omega)]
theorem laws_toIntS_is (k : Nat) (l : List Int) (hn : l.length ≤ 35184372088832) (hk : l.length < k) : Xq1.f k l = some l:=by
 unfold Xq1.f
 rw [if_pos (by omega),if_pos (by omega)]
 exact laws_toIntS_l k 0 l _ (by omega) (by simp) (by omega) (by omega) fun j hj=>by omega
theorem laws_toIntSS_l : ∀ (k i : Nat) (l acc : List (List Int)),l.length ≤ 1048576 → (∀ r ∈ l,r.length ≤ 1048576) → acc.length = l.length → i ≤ l.length → l.length + 1048576 < i + k → (∀ j,j < i → acc[j]? = l[j]?) → Yq1.l0 k l acc (i : Int) = some l
|0,i,l,acc,_,_,_,_,hk,_=>by omega
|k + 1,i,l,acc,hn,hr,hl,hi,hk,hj=>by
  simp only [Yq1.l0]
  by_cases h : i < l.length
  ·have e : rd_L1 l (i : Int) = l[i]:=by simp [rd_L1,h]
   have hx:=hr l[i] (List.getElem_mem h)
   rw [if_pos (by omega),if_pos (by omega),e,laws_toIntS_is k l[i] (by omega) (by omega)]
   simp only [Option.bind_some]
   rw [if_pos (by omega),w64_nat (by omega)]
   refine laws_toIntSS_l k (i + 1) l _ hn hr (by simp [hl]) (by omega) (by omega) fun j hj'=>?_
   rw [List.getElem?_set]
   by_cases e : i = j
   ·subst e
    simp [h,hl]
   ·simp only [Int.toNat_natCast]
    rw [if_neg e]
    exact hj j (by omega)
  ·rw [if_neg (by omega)]
   congr 1
   refine List.ext_getElem? fun j=>?_
   by_cases e : j < i
   ·exact hj j e
   ·rw [List.getElem?_eq_none (by omega),List.getElem?_eq_none (by omega)]
theorem laws_toIntSS_is (k : Nat) (l : List (List Int)) (hn : l.length ≤ 1048576) (hr : ∀ r ∈ l,r.length ≤ 1048576) (hk : 2097152 < k) : Yq1.f k l = some l:=by
 unfold Yq1.f
 rw [if_pos (by omega),if_pos (by omega)]
 exact laws_toIntSS_l k 0 l _ hn hr (by simp) (by omega) (by omega) fun j hj=>by omega
theorem laws_toSample_is (k : Nat) (l : List (List Int)) (m : List Int) (hn : l.length ≤ 1048576) (hr : ∀ r ∈ l,r.length ≤ 1048576) (hm : m.length ≤ 1048576) (hk : 2097152 < k) : Zq1.f k l m = some (l,m):=by
 unfold Zq1.f
 rw [laws_toIntSS_is k l hn hr hk,Option.bind_some,laws_toIntS_is k m (by omega) (by omega)]
 rfl
theorem laws_eqIntS_l : ∀ (k i : Nat) (l r : List Int),l.length ≤ 4611686018427387904 → r.length = l.length → i ≤ l.length → l.length < i + k → Gv.l0 k l r (i : Int) = some (decide (l.drop i = r.drop i))
|0,i,l,r,_,_,_,hk=>by omega
|k + 1,i,l,r,hn,hl,hi,hk=>by
  simp only [Gv.l0]
  by_cases h : i < l.length
  ·rw [if_pos (by omega),if_pos (by omega),if_pos (by omega),rd_nat l i h,rd_nat r i (by omega),w64_nat (by omega),laws_eqIntS_l k (i + 1) l r hn hl (by omega) (by omega),List.drop_eq_getElem_cons h,List.drop_eq_getElem_cons (show i < r.length by omega)]
   by_cases e : l[i] = r[i]'(by omega)
   ·rw [if_pos e,e]
    simp only [List.cons.injEq,true_and]
   ·rw [if_neg e]
    simp only [List.cons.injEq,e,false_and,decide_false]
  ·rw [if_neg (by omega),List.drop_of_length_le (by omega),List.drop_of_length_le (by omega)]
   simp
theorem laws_eqIntS_is (k : Nat) (l r : List Int) (hn : l.length ≤ 4611686018427387904) (hk : l.length < k) : Gv.f k l r = some (decide (l = r)):=by
 unfold Gv.f
 by_cases h : l.length = r.length
 ·rw [if_pos (by omega)]
  have:=laws_eqIntS_l k 0 l r hn (by omega) (by omega) (by omega)
  simpa using this
 ·rw [if_neg (by omega)]
  have : l ≠ r:=fun e=>h (by rw [e])
  simp [this]
theorem laws_eqIntS_same (k : Nat) (l : List Int) (hn : l.length ≤ 4611686018427387904) (hk : l.length < k) : Gv.f k l l = some true:=by
 rw [laws_eqIntS_is k l l hn hk]
 simp
theorem laws_eqIntSS_l : ∀ (k i : Nat) (l : List (List Int)),l.length ≤ 1048576 → (∀ r ∈ l,r.length ≤ 1048576) → i ≤ l.length → l.length + 1048576 < i + k → Jw.l0 k l l (i : Int) = some true
|0,i,l,_,_,_,hk=>by omega
|k + 1,i,l,hn,hr,hi,hk=>by
  simp only [Jw.l0]
  by_cases h : i < l.length
  ·have e : rd_L1 l (i : Int) = l[i]:=by simp [rd_L1,h]
   have hx:=hr l[i] (List.getElem_mem h)
   rw [if_pos (by omega),if_pos (by omega),if_pos (by omega),e,laws_eqIntS_same k l[i] (by omega) (by omega)]
   simp only [Option.bind_some,if_true]
   rw [w64_nat (by omega)]
   exact laws_eqIntSS_l k (i + 1) l hn hr (by omega) (by omega)
  ·rw [if_neg (by omega)]
theorem laws_eqIntSS_same (k : Nat) (l : List (List Int)) (hn : l.length ≤ 1048576) (hr : ∀ r ∈ l,r.length ≤ 1048576) (hk : 2097152 < k) : Jw.f k l l = some true:=by
 unfold Jw.f
 rw [if_pos rfl]
 exact laws_eqIntSS_l k 0 l hn hr (by omega) (by omega)
theorem laws_eqSample_same (k : Nat) (l : List (List Int)) (m : List Int) (hn : l.length ≤ 1048576) (hr : ∀ r ∈ l,r.length ≤ 1048576) (hm : m.length ≤ 1048576) (hk : 2097152 < k) : Kw.f k l m l m = some true:=by
 unfold Kw.f
 rw [laws_eqIntSS_same k l hn hr hk,laws_eqIntS_same k m (by omega) (by omega)]
 rfl
theorem laws_markIntS_l : ∀ (k : Nat) (post pre : List Int) (a : Int),-4611686018427387904 ≤ a → a + post.length ≤ 4611686018427387904 → pre.length + post.length ≤ 4611686018427387904 → post.length < k → Yw.l0 k (pre ++ post) a (pre.length : Int) = some (a + post.length,pre ++ marks a post.length)
|0,_,_,_,_,_,_,hk=>by omega
|k + 1,[],pre,a,_,_,_,_=>by
  simp only [Yw.l0]
  rw [if_neg (by simp)]
  simp [marks]
|k + 1,x :: post,pre,a,h1,h2,h3,hk=>by
  simp only [Yw.l0]
  simp only [List.length_cons] at h2 h3 hk
  rw [if_pos (by simp;omega),if_pos (by omega),w64_nat (by omega),w64 (by omega) (by omega)]
  rw [set_mid pre post x a _ (by simp)]
  have:=laws_markIntS_l k post (pre ++ [a]) (a + 1) (by omega) (by omega) (by simp;omega) (by omega)
  simp only [List.append_assoc,List.singleton_append,List.length_append,List.length_cons,List.length_nil,Nat.zero_add] at this
  rw [this]
  simp only [List.length_cons,marks]
  congr 2
  omega
theorem laws_markIntS_is (k : Nat) (l : List Int) (a : Int) (h1 : -4611686018427387904 ≤ a) (h2 : a + l.length ≤ 4611686018427387904) (h3 : l.length ≤ 4611686018427387904) (hk : l.length < k) : Yw.f k l a = some (a + l.length,marks a l.length):=by
 unfold Yw.f
 exact laws_markIntS_l k l [] a h1 h2 (by simpa using h3) hk
theorem laws_markIntSS_l : ∀ (m k i : Nat) (l : List (List Int)) (a : Int),i + m = l.length → l.length ≤ 1048576 → (∀ r ∈ l,r.length ≤ 1048576) → 0 ≤ a → a + m * 1048576 ≤ 4611686018427387904 → 1048576 + m < k → ∃ v l',Zw.l0 k l a (i : Int) = some (v,l') ∧ a ≤ v ∧ v ≤ a + m * 1048576
|0,k,i,l,a,hi,hn,hr,ha,hb,hk=>by
  obtain ⟨k,rfl⟩ : ∃ q,k = q + 1:=⟨k - 1,by omega⟩
  rw [Zw.l0,if_neg (by omega)]
  exact ⟨a,l,rfl,by omega,by omega⟩
|m + 1,k,i,l,a,hi,hn,hr,ha,hb,hk=>by
  obtain ⟨k,rfl⟩ : ∃ q,k = q + 1:=⟨k - 1,by omega⟩
  have h : i < l.length:=by omega
  have e : rd_L1 l (i : Int) = l[i]:=by simp [rd_L1,h]
  have hx:=hr l[i] (List.getElem_mem h)
  rw [Zw.l0,if_pos (by omega),if_pos (by omega),e,laws_markIntS_is k l[i] a (by omega) (by omega) (by omega) (by omega)]
  simp only [Option.bind_some]
  rw [w64_nat (by omega)]
  obtain ⟨v,l',hv,h1,h2⟩:=laws_markIntSS_l m k (i + 1) (l.set (i : Int).toNat (marks a l[i].length)) (a + l[i].length) (by simp;omega) (by simpa using hn) (fun r hr'=>by
   rcases List.mem_or_eq_of_mem_set hr' with h|rfl
   ·exact hr r h
   ·rw [marks_length];omega) (by omega) (by omega) (by omega)
  exact ⟨v,l',hv,by omega,by omega⟩
theorem laws_markIntSS_tells (k : Nat) (l : List (List Int)) (hn : l.length ≤ 1048576) (hr : ∀ r ∈ l,r.length ≤ 1048576) (hk : 2097152 < k) : ∃ v l',Zw.f k l 1 = some (v,l') ∧ 1 ≤ v ∧ v ≤ 1099511627777:=by
 unfold Zw.f
 obtain ⟨v,l',hv,h1,h2⟩:=laws_markIntSS_l l.length k 0 l 1 (by omega) hn hr (by omega) (by omega) (by omega)
 exact ⟨v,l',hv,by omega,by omega⟩
theorem laws_markSample_tells (k : Nat) (l : List (List Int)) (m : List Int) (hn : l.length ≤ 1048576) (hr : ∀ r ∈ l,r.length ≤ 1048576) (hm : m.length ≤ 1048576) (hk : 2097152 < k) : ∃ v l' m',Vw.f k l m 1 = some (v,l',m') ∧ 1 ≤ v ∧ v ≤ 1099512676353:=by
 unfold Vw.f
 obtain ⟨v,l',hv,h1,h2⟩:=laws_markIntSS_tells k l hn hr hk
 rw [hv,Option.bind_some,laws_markIntS_is k m v (by omega) (by omega) (by omega) (by omega)]
 exact ⟨_,_,_,rfl,by omega,by omega⟩
theorem laws_heldIntS_l : ∀ (k n i : Nat) (a b : Int),-4611686018427387904 ≤ a → a + n ≤ 4611686018427387904 → n ≤ 4611686018427387904 → i ≤ n → n < i + k → b = a + i → Xw.l0 k (marks a n) b (i : Int) = some (a + n)
|0,_,_,_,_,_,_,_,_,hk,_=>by omega
|k + 1,n,i,a,b,h1,h2,h3,hi,hk,hb=>by
  simp only [Xw.l0,marks_length]
  by_cases h : i < n
  ·rw [if_pos (by omega),if_pos (by omega),rd_nat _ i (by rw [marks_length];exact h),marks_get,if_pos hb.symm,w64_nat (by omega),w64 (by omega) (by omega)]
   exact laws_heldIntS_l k n (i + 1) a _ h1 h2 h3 (by omega) (by omega) (by omega)
  ·rw [if_neg (by omega)]
   congr 1
   omega
theorem laws_heldIntS_is (k n : Nat) (a : Int) (h1 : -4611686018427387904 ≤ a) (h2 : a + n ≤ 4611686018427387904) (h3 : n ≤ 4611686018427387904) (hk : n < k) : Xw.f k (marks a n) a = some (a + n):=by
 unfold Xw.f
 exact laws_heldIntS_l k n 0 a a h1 h2 h3 (by omega) (by omega) (by omega)
theorem spec_l1Own_is (l : List Int) (h : l.length < 17592186044416) : Yj1.f l = some l:=by
 unfold Yj1.f
 simp only [Option.bind_some]
 rw [if_pos (by simpa using h)]
 simp
theorem spec_l2Labels_l : ∀ (k i : Nat) (l : List Int),l.length ≤ 4611686018427387904 → i ≤ l.length → l.length < i + k → Vj1.l0 k l (i : Int) = some ((l.drop i).all lbB)
|0,_,_,_,_,hk=>by omega
|k + 1,i,l,hn,hi',hk=>by
  simp only [Vj1.l0]
  by_cases h : i < l.length
  ·rw [if_pos (by omega),if_pos (by omega),rd_nat l i h,w64_nat (by omega),List.drop_eq_getElem_cons h,List.all_cons,spec_l2Labels_l k (i + 1) l hn (by omega) (by omega)]
   by_cases e1 : l[i] = 1
   ·rw [if_pos e1]
    simp [lbB,e1]
   ·by_cases e2 : l[i] = -1
    ·rw [if_neg e1,if_pos e2]
     simp [lbB,e2]
    ·rw [if_neg e1,if_neg e2]
     simp [lbB,e1,e2]
  ·rw [if_neg (by omega),List.drop_of_length_le (by omega)]
   simp
theorem spec_l2Labels_is (k : Nat) (l : List Int) (hn : l.length ≤ 4611686018427387904) (hk : l.length < k) : Vj1.f k l = some (l.all lbB):=by
 unfold Vj1.f
 have:=spec_l2Labels_l k 0 l hn (by omega) (by omega)
 simpa using this
theorem spec_l1In_is (a lo hi : Int) : spec_l1In.f a lo hi = some (inB lo hi a):=by
 unfold spec_l1In.f
 exact within_is a lo hi
theorem spec_l2Numbers_l : ∀ (k i : Nat) (l : List Int) (m : Int),-4611686018427387904 ≤ m → m ≤ 4611686018427387904 → l.length ≤ 4611686018427387904 → i ≤ l.length → l.length < i + k → Gj1.l0 k l m (i : Int) = some ((l.drop i).all (inB (-m) m))
|0,_,_,_,_,_,_,_,hk=>by omega
|k + 1,i,l,m,h1,h2,hn,hi,hk=>by
  simp only [Gj1.l0]
  by_cases h : i < l.length
  ·rw [if_pos (by omega),if_pos (by omega),spec_l1In_is,rd_nat l i h,w64_nat (by omega),w64 (by omega) (by omega),List.drop_eq_getElem_cons h,List.all_cons,spec_l2Numbers_l k (i + 1) l m h1 h2 hn (by omega) (by omega)]
   simp only [Option.bind_some]
   by_cases e : inB (-m) m l[i] = true
   ·rw [if_pos e,e]
    simp
   ·rw [if_neg e]
    simp [e]
  ·rw [if_neg (by omega),List.drop_of_length_le (by omega)]
   simp
theorem spec_l2Numbers_is (k : Nat) (l : List Int) (m : Int) (h1 : -4611686018427387904 ≤ m) (h2 : m ≤ 4611686018427387904) (hn : l.length ≤ 4611686018427387904) (hk : l.length < k) : Gj1.f k l m = some (l.all (inB (-m) m)):=by
 unfold Gj1.f
 have:=spec_l2Numbers_l k 0 l m h1 h2 hn (by omega) (by omega)
 simpa using this
theorem spec_l2Point_is (k : Nat) (l : List Int) (hn : l.length ≤ 4611686018427387904) (hk : l.length < k) : Kz1.f k l = some (ptB l):=by
 unfold Kz1.f ptB
 rw [spec_l1In_is,spec_l2Numbers_is k l 9 (by omega) (by omega) hn hk]
 simp only [Option.bind_some]
 cases inB 1 4 (l.length : Int) <;> simp
theorem spec_l2Sample_l (k0 : Nat) (hk0 : 1048576 < k0) : ∀ (k i : Nat) (l : List (List Int)) (m : List Int),l.length ≤ 16 → (∀ r ∈ l,r.length ≤ 1048576) → i ≤ l.length → l.length < i + k → Yz1.l0 (k + k0) (i : Int) l m = some ((l.drop i).all fun x=>ptB x && decide (x.length = (l.headD []).length))
|0,i,l,m,_,_,_,hk=>by omega
|k + 1,i,l,m,hn,hr,hi,hk=>by
  rw [show k + 1 + k0 = (k + k0) + 1 by omega]
  simp only [Yz1.l0]
  by_cases h : i < l.length
  ·have e : rd_L1 l (i : Int) = l[i]:=by simp [rd_L1,h]
   have e0 : rd_L1 l 0 = l.headD []:=by cases l <;> simp [rd_L1]
   have hx:=hr l[i] (List.getElem_mem h)
   rw [if_pos (by omega),if_pos (by omega),e,spec_l2Point_is (k + k0) l[i] (by omega) (by omega),e0]
   simp only [Option.bind_some]
   rw [List.drop_eq_getElem_cons h,List.all_cons]
   by_cases c1 : ptB l[i] = true
   ·rw [if_pos c1,if_pos (by omega),c1,Bool.true_and]
    by_cases c2 : l[i].length = (l.headD []).length
    ·rw [if_pos (by omega),w64_nat (by omega),spec_l2Sample_l k0 hk0 k (i + 1) l m hn hr (by omega) (by omega)]
     simp [c2]
    ·rw [if_neg (by omega)]
     simp only [c2,decide_false,Bool.false_and,Bool.and_false]
   ·rw [if_neg c1]
    simp [c1]
  ·rw [if_neg (by omega),List.drop_of_length_le (by omega)]
   simp
theorem spec_l2Sample_is (k : Nat) (l : List (List Int)) (m : List Int) (hr : ∀ r ∈ l,r.length ≤ 1048576) (hm : m.length ≤ 1048576) (hk : 1048600 < k) : Yz1.f k l m = some (smB l m):=by
 obtain ⟨k,rfl⟩ : ∃ q,k = q + 1:=⟨k - 1,by omega⟩
 unfold Yz1.f smB
 by_cases c1 : l.length ≤ 16
 ·rw [if_neg (by omega)]
  by_cases c2 : m.length = l.length
  ·rw [if_pos (by omega),spec_l2Labels_is _ m (by omega) (by omega)]
   simp only [Option.bind_some,Yz1.j0]
   have:=spec_l2Sample_l (k - 17) (by omega) 17 0 l m c1 hr (by omega) (by omega)
   rw [show 17 + (k - 17) = k by omega] at this
   rw [show ((0 : Nat) : Int) = 0 from rfl] at this
   rw [this]
   cases e : m.all lbB
   ·simp
   ·simp [c1,c2]
  ·rw [if_neg (by omega)]
   simp [Yz1.j0,c2]
 ·rw [if_pos (by omega)]
  simp [Yz1.j0,c1]
theorem spec_l1Has_l : ∀ (k i : Nat) (l : List Int) (a : Int),l.length ≤ 4611686018427387904 → i ≤ l.length → l.length < i + k → Kj1.l0 k l a (i : Int) = some ((l.drop i).any fun x=>decide (x = a))
|0,_,_,_,_,_,hk=>by omega
|k + 1,i,l,a,hn,hi',hk=>by
  simp only [Kj1.l0]
  by_cases h : i < l.length
  ·rw [if_pos (by omega),if_pos (by omega),rd_nat l i h,w64_nat (by omega),List.drop_eq_getElem_cons h,List.any_cons,spec_l1Has_l k (i + 1) l a hn (by omega) (by omega)]
   by_cases e : l[i] = a
   ·rw [if_pos e]
    simp [e]
   ·rw [if_neg e]
    simp [e]
  ·rw [if_neg (by omega),List.drop_of_length_le (by omega)]
   simp
theorem spec_l1Has_is (k : Nat) (l : List Int) (a : Int) (hn : l.length ≤ 4611686018427387904) (hk : l.length < k) : Kj1.f k l a = some (l.any fun x=>decide (x = a)):=by
 unfold Kj1.f
 have:=spec_l1Has_l k 0 l a hn (by omega) (by omega)
 simpa using this
theorem impl_within_is (a lo hi : Int) : Yv.f a lo hi = some (inB lo hi a):=by
 unfold Yv.f
 exact within_is a lo hi
theorem impl_allWithin_l : ∀ (k i : Nat) (l : List Int) (lo hi : Int),l.length ≤ 4611686018427387904 → i ≤ l.length → l.length < i + k → Xk.l0 k lo hi l (l.length : Int) (i : Int) = some ((l.drop i).all (inB lo hi))
|0,_,_,_,_,_,_,hk=>by omega
|k + 1,i,l,lo,hi,hn,hi',hk=>by
  simp only [Xk.l0]
  by_cases h : i < l.length
  ·rw [if_pos (by omega),if_pos (by omega),if_pos (by omega),impl_within_is,rd_nat l i h,w64_nat (by omega),List.drop_eq_getElem_cons h,List.all_cons,impl_allWithin_l k (i + 1) l lo hi hn (by omega) (by omega)]
   simp only [Option.bind_some]
   by_cases e : inB lo hi l[i] = true
   ·rw [if_pos e,e]
    simp
   ·rw [if_neg e]
    simp [e]
  ·rw [if_neg (by omega),List.drop_of_length_le (by omega)]
   simp
theorem impl_allWithin_is (k : Nat) (l : List Int) (lo hi : Int) (hn : l.length ≤ 4611686018427387904) (hk : l.length < k) : Xk.f k l lo hi = some (l.all (inB lo hi)):=by
 unfold Xk.f
 have:=impl_allWithin_l k 0 l lo hi hn (by omega) (by omega)
 simpa using this
theorem impl_IsPoint_is (k : Nat) (l : List Int) (hn : l.length ≤ 4611686018427387904) (hk : l.length < k) : Xx.f k l = some (ptB l):=by
 unfold Xx.f ptB
 rw [impl_within_is,impl_allWithin_is k l (-9) 9 hn hk]
 simp only [Option.bind_some]
 cases inB 1 4 (l.length : Int) <;> simp
theorem impl_isLabel_is (a : Int) : Jv.f a = some (lbB a):=by
 unfold Jv.f lbB
 by_cases e1 : a = 1
 ·rw [if_pos e1]
  simp [e1]
 ·rw [if_neg e1]
  congr 1
  by_cases e2 : a = -1
  ·simp [e2]
  ·simp [e1,e2]
theorem impl_IsSample_l (k0 : Nat) (hk0 : 1048576 < k0) : ∀ (k i : Nat) (l : List (List Int)) (m : List Int),l.length ≤ 16 → m.length = l.length → (∀ r ∈ l,r.length ≤ 1048576) → i ≤ l.length → l.length < i + k → Yx.l0 (k + k0) l (l.length : Int) (i : Int) l m = some ((m.drop i).all lbB && (l.drop i).all fun x=>ptB x && decide (x.length = (l.headD []).length))
|0,i,l,m,_,_,_,_,hk=>by omega
|k + 1,i,l,m,hn,hm,hr,hi,hk=>by
  rw [show k + 1 + k0 = (k + k0) + 1 by omega]
  simp only [Yx.l0]
  by_cases h : i < l.length
  ·have h' : i < m.length:=by omega
   have e : rd_L1 l (i : Int) = l[i]:=by simp [rd_L1,h]
   have e0 : rd_L1 l 0 = l.headD []:=by cases l <;> simp [rd_L1]
   have hx:=hr l[i] (List.getElem_mem h)
   rw [if_pos (by omega),if_pos (by omega),if_pos (by omega),e,impl_IsPoint_is (k + k0) l[i] (by omega) (by omega),e0]
   simp only [Option.bind_some]
   rw [List.drop_eq_getElem_cons h,List.all_cons,List.drop_eq_getElem_cons h',List.all_cons]
   by_cases c1 : ptB l[i] = true
   ·rw [if_pos c1,if_pos (by omega),c1,Bool.true_and]
    by_cases c2 : l[i].length = (l.headD []).length
    ·rw [if_pos (by omega),if_pos (by omega),impl_isLabel_is,rd_nat m i h',w64_nat (by omega),impl_IsSample_l k0 hk0 k (i + 1) l m hn hm hr (by omega) (by omega)]
     simp only [Option.bind_some]
     by_cases c3 : lbB m[i] = true
     ·rw [if_pos c3,c3]
      simp [c2]
     ·rw [if_neg c3]
      simp [c3]
    ·rw [if_neg (by omega)]
     simp only [c2,decide_false,Bool.false_and,Bool.and_false]
   ·rw [if_neg c1]
    simp [c1]
  ·rw [if_neg (by omega),List.drop_of_length_le (by omega),List.drop_of_length_le (by omega)]
   simp
theorem impl_IsSample_is (k : Nat) (l : List (List Int)) (m : List Int) (hr : ∀ r ∈ l,r.length ≤ 1048576) (hm : m.length ≤ 1048576) (hk : 1048600 < k) : Yx.f k l m = some (smB l m):=by
 obtain ⟨k,rfl⟩ : ∃ q,k = q + 1:=⟨k - 1,by omega⟩
 unfold Yx.f smB
 by_cases c1 : l.length ≤ 16
 ·rw [if_neg (by omega)]
  simp only [Yx.j0]
  by_cases c2 : m.length = l.length
  ·rw [if_neg (by simp [c2])]
   have:=impl_IsSample_l (k - 17) (by omega) 17 0 l m c1 c2 hr (by omega) (by omega)
   rw [show 17 + (k - 17) = k by omega] at this
   rw [show ((0 : Nat) : Int) = 0 from rfl] at this
   rw [this]
   simp [c1,c2]
  ·rw [if_pos (by simp;omega)]
   simp [c2]
 ·rw [if_pos (by omega)]
  simp [Yx.j0,c1]
theorem impl_copied_is (l : List Int) (h : l.length < 17592186044416) : Vk.f l = some l:=by
 unfold Vk.f
 simp only [Option.bind_some]
 rw [if_pos (by simpa using h)]
 simp
theorem impl_Sample_signed_l (ps : List (List Int)) (ls : List Int) (i : Nat) (hi : i < ls.length) (p : List Int) (hp : p.length ≤ 4) : ∀ (k j : Nat) (acc : List Int),acc.length = j + 1 → j ≤ p.length → p.length < j + k → Kk.l0 k (i : Int) acc p (p.length : Int) (j : Int) ps ls = some (acc ++ (p.drop j).map fun x=>wrap64 (x * rd ls i))
|0,_,_,_,_,hk=>by omega
|k + 1,j,acc,ha,hj,hk=>by
  simp only [Kk.l0]
  by_cases h : j < p.length
  ·rw [if_pos (by omega),if_pos (by omega),if_pos (by omega),if_pos (by omega),if_pos (by omega),if_pos (by omega),rd_nat p j h,w64_nat (by omega),impl_Sample_signed_l ps ls i hi p hp k (j + 1) _ (by simp [ha]) (by omega) (by omega),List.drop_eq_getElem_cons h]
   simp only [List.map_cons,List.append_assoc,List.singleton_append]
  ·rw [if_neg (by omega),List.drop_of_length_le (by omega)]
   simp
theorem impl_Sample_signed_is (k : Nat) (ps : List (List Int)) (ls : List Int) (i : Nat) (hs : smB ps ls = true) (hi : i < ps.length) (hk : 10 < k) : Kk.f k ps ls (i : Int) = some (signedL (rd ls i) (rd_L1 ps i)):=by
 obtain ⟨h16,hlen,_,hrow⟩:=smB_parts hs
 have e : rd_L1 ps (i : Int) = ps[i]:=by simp [rd_L1,hi]
 have q:=ptB_parts (hrow ps[i] (List.getElem_mem hi)).1
 unfold Kk.f signedL
 rw [if_pos (by omega),if_pos (by omega),if_pos (by omega),e]
 have:=impl_Sample_signed_l ps ls i (by omega) ps[i] q.2.2 k 0 [rd ls i] rfl (by omega) (by omega)
 rw [show ((0 : Nat) : Int) = 0 from rfl] at this
 rw [this]
 simp
theorem ev_of {α : Type} {g : Nat → Option α} {r : α} (B : Nat) (h : ∀ k,B < k → g k = some r) : Ev g r:=⟨B + 1,fun k hk=>h k (by omega)⟩
theorem ev_const {α : Type} (r : α) : Ev (fun _=>some r) r:=Ev.now r
theorem ev_if_pos {α : Type} {c : Prop} [Decidable c] {f g : Nat → Option α} {r : α} (h : c) (k : Ev f r) : Ev (fun n=>if c then f n else g n) r:=Ev.congr (fun n=>if_pos h) k
theorem ev_if_neg {α : Type} {c : Prop} [Decidable c] {f g : Nat → Option α} {r : α} (h : ¬ c) (k : Ev g r) : Ev (fun n=>if c then f n else g n) r:=Ev.congr (fun n=>if_neg h) k
def vf (l : List Int) (k : Nat) : Int:=l.getD k 0
theorem rd_vf (l : List Int) (k : Nat) : rd l (k : Int) = vf l k:=by simp [rd,vf]
theorem vf_get (l : List Int) (k : Nat) (h : k < l.length) : vf l k = l[k]:=by simp [vf,h]
theorem vf_out (l : List Int) (k : Nat) (h : l.length ≤ k) : vf l k = 0:=by simp [vf,List.getD_eq_getElem?_getD,List.getElem?_eq_none h]
theorem vf_ext {a b : List Int} (hl : a.length = b.length) (h : ∀ k,k < a.length → vf a k = vf b k) : a = b:=by
 apply List.ext_getElem hl
 intro i h1 h2
 have:=h i h1
 rwa [vf_get a i h1,vf_get b i h2] at this
theorem vf_set (l : List Int) (i : Nat) (x : Int) (h : i < l.length) (k : Nat) : vf (l.set i x) k = if k = i then x else vf l k:=by
 by_cases e : k = i
 ·subst e
  rw [if_pos rfl,vf_get _ _ (by simpa using h)]
  simp
 ·rw [if_neg e]
  simp only [vf,List.getD_eq_getElem?_getD]
  rw [List.getElem?_set_ne (Ne.symm e)]
def smallV (n : Nat) (v : Nat → Int) : Prop:=∀ k,k < n → -4611686018427387904 ≤ v k ∧ v k ≤ 4611686018427387904
theorem gcdn_le {B : Nat} : ∀ {n : Nat} {v : Nat → Int},(∀ k,k < n → (v k).natAbs ≤ B) → gcdn n v ≤ B
|0,_,_=>Nat.zero_le _
|n + 1,v,h=>by
  have ih:=gcdn_le (n:=n) (v:=v) fun k hk=>h k (by omega)
  have h1:=h n (by omega)
  show Nat.gcd (gcdn n v) (v n).natAbs ≤ B
  rcases Nat.eq_zero_or_pos (v n).natAbs with z|z
  ·rw [z,Nat.gcd_zero_right]
   exact ih
  ·exact Nat.le_trans (Nat.gcd_le_right _ z) h1
theorem gcdn_small {n : Nat} {v : Nat → Int} (h : smallV n v) : gcdn n v ≤ 4611686018427387904:=gcdn_le fun k hk=>by have:=h k hk;omega
theorem div_l1 (l : List Int) (x7 x8 out : Int) : ∀ (N : Nat) (d n : Int),n.natAbs ≤ N → (∀ r : Int,r.natAbs = Nat.gcd d.natAbs n.natAbs → Ev (fun k=>Gk.l0 k r l x7 (wrap64 (x8 + 1))) out) → Ev (fun k=>Gk.l1 k d n l x7 x8) out
|0,d,n,hN,h=>by
  obtain rfl : n = 0:=by omega
  exact Ev.step (fun k=>by rw [Gk.l1,if_pos rfl]) (h d (by simp))
|N + 1,d,n,hN,h=>by
  by_cases c : n = 0
  ·subst c
   exact Ev.step (fun k=>by rw [Gk.l1,if_pos rfl]) (h d (by simp))
  ·refine Ev.step (fun k=>by rw [Gk.l1,if_neg c]) (div_l1 l x7 x8 out N n (Int.tmod d n) ?_ fun r hr=>h r ?_)
   ·rw [Int.natAbs_tmod]
    have:=Nat.mod_lt d.natAbs (y:=n.natAbs) (by omega)
    omega
   ·rw [hr,Int.natAbs_tmod,Nat.gcd_comm d.natAbs,Nat.gcd_rec n.natAbs d.natAbs,Nat.gcd_comm]
theorem impl_divisor_l (l : List Int) (hl : l.length ≤ 1000000) (hs : smallV l.length (vf l)) : ∀ (j i : Nat) (d : Int),i + j = l.length → d.natAbs = gcdn i (vf l) → Ev (fun k=>Gk.l0 k d l (l.length : Int) (i : Int)) (gcdn l.length (vf l) : Int)
|0,i,d,hj,hd=>by
  obtain rfl : i = l.length:=by omega
  have:=gcdn_small hs
  refine Ev.step (f:=fun _=>some (gcdn l.length (vf l) : Int)) (fun k=>?_) (ev_const _)
  rw [Gk.l0,if_neg (by omega),w64 (by omega) (by omega)]
  congr 1
  unfold mx
  split <;> omega
|j + 1,i,d,hj,hd=>by
  refine Ev.step (fun k=>by rw [Gk.l0,if_pos (by omega),if_pos (by omega),if_pos (by omega),rd_vf]) (div_l1 l _ _ _ (vf l i).natAbs d (vf l i) (Nat.le_refl _) fun r hr=>?_)
  rw [w64_nat (by omega)]
  exact impl_divisor_l l hl hs j (i + 1) r (by omega) (by rw [hr,hd];rfl)
theorem impl_divisor_ev (l : List Int) (hl : l.length ≤ 1000000) (hs : smallV l.length (vf l)) : Ev (fun k=>Gk.f k l) (gcdn l.length (vf l) : Int) :=
 impl_divisor_l l hl hs l.length 0 0 (by omega) rfl
def shL (l : List Int) : List Int:=if 1 < gcdn l.length (vf l) then l.map fun x=>Int.tdiv x (gcdn l.length (vf l) : Int) else l
theorem shL_length (l : List Int) : (shL l).length = l.length:=by unfold shL;split <;> simp
theorem shL_vf (l : List Int) (k : Nat) : vf (shL l) k = divn l.length (vf l) k:=by
 unfold shL divn
 by_cases c : 1 < gcdn l.length (vf l)
 ·rw [if_pos c,if_pos c]
  by_cases hk : k < l.length
  ·rw [vf_get _ _ (by simpa using hk)]
   have hd:=gcdn_dvd l.length (vf l) k hk
   rw [vf_get l k hk] at hd ⊢
   simp only [List.getElem_map]
   exact Int.tdiv_eq_ediv_of_dvd hd
  ·rw [vf_out _ _ (by simp;omega),vf_out l k (by omega),Int.zero_ediv]
 ·rw [if_neg c,if_neg c]
theorem tdiv_small {x : Int} {g : Nat} (h : -4611686018427387904 ≤ x ∧ x ≤ 4611686018427387904) : -4611686018427387904 ≤ Int.tdiv x (g : Int) ∧ Int.tdiv x (g : Int) ≤ 4611686018427387904:=by
 have h1 : (Int.tdiv x (g : Int)).natAbs = x.natAbs / g:=by rw [Int.natAbs_tdiv,Int.natAbs_natCast];rfl
 have h2 : x.natAbs / g ≤ x.natAbs:=Nat.div_le_self _ _
 omega
theorem impl_shortened_l (l : List Int) (g : Nat) (hg : 1 < g) (hl : l.length ≤ 1000000) (hs : smallV l.length (vf l)) : ∀ (j i : Nat) (x0 : List Int),i + j = l.length → x0.length = l.length → (∀ k,vf x0 k = if k < i then Int.tdiv (vf l k) (g : Int) else vf l k) → Ev (fun k=>Xv.l0 k x0 (g : Int) (l.length : Int) (i : Int)) (l.map fun x=>Int.tdiv x (g : Int))
|0,i,x0,hj,hx,hv=>by
  obtain rfl : i = l.length:=by omega
  refine Ev.step (f:=fun _=>some (l.map fun x=>Int.tdiv x (g : Int))) (fun k=>?_) (ev_const _)
  rw [Xv.l0,if_neg (by omega)]
  congr 1
  apply vf_ext (by simpa using hx)
  intro k hk
  rw [hv k,if_pos (by omega),vf_get (l.map fun x=>Int.tdiv x (g : Int)) k (by rw [List.length_map];omega),vf_get l k (by omega)]
  simp
|j + 1,i,x0,hj,hx,hv=>by
  have e:=hv i
  rw [if_neg (by omega)] at e
  have h1:=tdiv_small (g:=g) (hs i (by omega))
  refine Ev.step (fun k=>by rw [Xv.l0,if_pos (by omega),if_pos (by omega),if_pos (by omega),if_neg (by omega),rd_vf,e,w64 (by omega) (by omega),w64_nat (by omega),Int.toNat_natCast]) (impl_shortened_l l g hg hl hs j (i + 1) (x0.set i (Int.tdiv (vf l i) (g : Int))) (by omega) (by simpa using hx) fun k=>?_)
  rw [vf_set _ _ _ (by omega),hv k]
  by_cases c : k = i
  ·subst c
   rw [if_pos rfl,if_pos (by omega)]
  ·rw [if_neg c]
   by_cases d : k < i
   ·rw [if_pos d,if_pos (by omega)]
   ·rw [if_neg d,if_neg (by omega)]
theorem impl_shortened_ev (l : List Int) (hl : l.length ≤ 1000000) (hs : smallV l.length (vf l)) : Ev (fun k=>Xv.f k l) (shL l):=by
 unfold Xv.f
 refine Ev.bind (impl_divisor_ev l hl hs) ?_
 unfold shL
 by_cases c : 1 < gcdn l.length (vf l)
 ·rw [if_pos c]
  refine ev_if_pos (by omega) ?_
  have:=impl_shortened_l l (gcdn l.length (vf l)) c hl hs l.length 0 l (by omega) rfl (fun k=>by rw [if_neg (by omega)])
  exact this
 ·rw [if_neg c]
  exact ev_if_neg (by omega) (ev_const _)
theorem l2Gcd_ev : ∀ (N : Nat) (a b : Int),0 ≤ a → 0 ≤ b → b.natAbs ≤ N → Ev (fun k=>Zj1.l0 k a b) (Nat.gcd a.natAbs b.natAbs : Int)
|0,a,b,ha,hb,hN=>by
  obtain rfl : b = 0:=by omega
  refine Ev.step (f:=fun _=>some (Nat.gcd a.natAbs (Int.natAbs 0) : Int)) (fun k=>?_) (ev_const _)
  rw [Zj1.l0,if_neg (by omega)]
  congr 1
  simp
  omega
|N + 1,a,b,ha,hb,hN=>by
  by_cases c : b = 0
  ·subst c
   refine Ev.step (f:=fun _=>some (Nat.gcd a.natAbs (Int.natAbs 0) : Int)) (fun k=>?_) (ev_const _)
   rw [Zj1.l0,if_neg (by omega)]
   congr 1
   simp
   omega
  ·have h1:=Int.natAbs_tmod a b
   have h2:=Nat.mod_lt a.natAbs (y:=b.natAbs) (by omega)
   have h3 : 0 ≤ Int.tmod a b:=Int.tmod_nonneg b ha
   have ih:=l2Gcd_ev N b (Int.tmod a b) hb h3 (by omega)
   rw [h1,show Nat.gcd b.natAbs (a.natAbs % b.natAbs) = Nat.gcd a.natAbs b.natAbs by rw [Nat.gcd_comm a.natAbs,Nat.gcd_rec b.natAbs a.natAbs,Nat.gcd_comm]] at ih
   exact Ev.step (fun k=>by rw [Zj1.l0,if_pos (by omega),if_neg c]) ih
theorem spec_l2Gcd_ev (a b : Int) (ha : 0 ≤ a) (hb : 0 ≤ b) : Ev (fun k=>Zj1.f k a b) (Nat.gcd a.natAbs b.natAbs : Int):=l2Gcd_ev b.natAbs a b ha hb (Nat.le_refl _)
theorem l1Most_abs (x : Int) (h : -4611686018427387904 ≤ x ∧ x ≤ 4611686018427387904) : Xj1.f x (wrap64 (-x)) = some (x.natAbs : Int):=by
 rw [w64 (by omega) (by omega)]
 unfold Xj1.f
 split
 ·congr 1
  omega
 ·congr 1
  omega
theorem spec_l4Divided_l1 (l : List Int) (g : Nat) (hg : 1 < g) (hl : l.length ≤ 1000000) (hs : smallV l.length (vf l)) : ∀ (j i : Nat) (x0 : List Int),i + j = l.length → x0.length = l.length → (∀ k,vf x0 k = if k < i then Int.tdiv (vf l k) (g : Int) else vf l k) → Ev (fun k=>Gz1.l1 k (g : Int) x0 (i : Int)) (l.map fun x=>Int.tdiv x (g : Int))
|0,i,x0,hj,hx,hv=>by
  obtain rfl : i = l.length:=by omega
  refine Ev.step (f:=fun _=>some (l.map fun x=>Int.tdiv x (g : Int))) (fun k=>?_) (ev_const _)
  rw [Gz1.l1,if_neg (by omega)]
  congr 1
  apply vf_ext (by simpa using hx)
  intro k hk
  rw [hv k,if_pos (by omega),vf_get (l.map fun x=>Int.tdiv x (g : Int)) k (by rw [List.length_map];omega),vf_get l k (by omega)]
  simp
|j + 1,i,x0,hj,hx,hv=>by
  have e:=hv i
  rw [if_neg (by omega)] at e
  have h1:=tdiv_small (g:=g) (hs i (by omega))
  refine Ev.step (fun k=>by rw [Gz1.l1,if_pos (by omega),if_pos (by omega),if_pos (by omega),if_neg (by omega),rd_vf,e,w64 (by omega) (by omega),w64_nat (by omega),Int.toNat_natCast]) (spec_l4Divided_l1 l g hg hl hs j (i + 1) (x0.set i (Int.tdiv (vf l i) (g : Int))) (by omega) (by simpa using hx) fun k=>?_)
  rw [vf_set _ _ _ (by omega),hv k]
  by_cases c : k = i
  ·subst c
   rw [if_pos rfl,if_pos (by omega)]
  ·rw [if_neg c]
   by_cases d : k < i
   ·rw [if_pos d,if_pos (by omega)]
   ·rw [if_neg d,if_neg (by omega)]
theorem spec_l4Divided_l0 (l : List Int) (hl : l.length ≤ 1000000) (hs : smallV l.length (vf l)) : ∀ (j i : Nat),i + j = l.length → Ev (fun k=>Gz1.l0 k l (gcdn i (vf l) : Int) (i : Int)) (shL l)
|0,i,hj=>by
  obtain rfl : i = l.length:=by omega
  refine Ev.step (f:=fun k=>Gz1.l1 k (gcdn l.length (vf l) : Int) l 0) (fun k=>?_) ?_
  ·rw [Gz1.l0,if_neg (by omega),spec_l1Own_is l (by omega)]
   rfl
  ·unfold shL
   by_cases c : 1 < gcdn l.length (vf l)
   ·rw [if_pos c]
    have:=spec_l4Divided_l1 l (gcdn l.length (vf l)) c hl hs l.length 0 l (by omega) rfl (fun k=>by rw [if_neg (by omega)])
    exact this
   ·rw [if_neg c]
    refine Ev.step (f:=fun _=>some l) (fun k=>?_) (ev_const _)
    rw [Gz1.l1]
    split
    ·rw [if_neg (by omega)]
    ·rfl
|j + 1,i,hj=>by
  have ih:=spec_l4Divided_l0 l hl hs j (i + 1) (by omega)
  have hi:=hs i (by omega)
  by_cases z : vf l i = 0
  ·have e : gcdn (i + 1) (vf l) = gcdn i (vf l):=by
    show Nat.gcd (gcdn i (vf l)) (vf l i).natAbs = _
    rw [z]
    simp
   rw [e] at ih
   exact Ev.step (fun k=>by rw [Gz1.l0,if_pos (by omega),if_pos (by omega),rd_vf,if_pos z,w64_nat (by omega)]) ih
  ·refine Ev.step (f:=fun k=>(Zj1.f k ((vf l i).natAbs : Int) (gcdn i (vf l) : Int)).bind fun t=>Gz1.l0 k l t (wrap64 (i + 1))) (fun k=>by rw [Gz1.l0,if_pos (by omega),if_pos (by omega),rd_vf,if_neg z,l1Most_abs _ hi];simp only [Option.bind_some]) (Ev.bind (spec_l2Gcd_ev _ _ (by omega) (by omega)) ?_)
   rw [w64_nat (by omega)]
   have e : Nat.gcd ((vf l i).natAbs : Int).natAbs (gcdn i (vf l) : Int).natAbs = gcdn (i + 1) (vf l):=by
    rw [Int.natAbs_natCast,Int.natAbs_natCast,Nat.gcd_comm]
    rfl
   rw [e]
   exact ih
theorem spec_l4Divided_ev (l : List Int) (hl : l.length ≤ 1000000) (hs : smallV l.length (vf l)) : Ev (fun k=>Gz1.f k l) (shL l):=by
 unfold Gz1.f
 exact spec_l4Divided_l0 l hl hs l.length 0 (by omega)
theorem keeps64 : Keeps wrap64:=fun x h1 h2=>w64 h1 h2
theorem rdL_nat (o : List (List Int)) (i : Nat) : rd_L1 o (i : Int) = o.getD i []:=by simp [rd_L1]
structure Rep (m n : Nat) (o : List (List Int)) (M : Nat → Nat → Int) : Prop where
 len : o.length = m
 row : ∀ i,i < m → (o.getD i []).length = n ∧ vf (o.getD i []) = M i
theorem getD_set {o : List (List Int)} {i : Nat} (x : List Int) (h : i < o.length) (k : Nat) : (o.set i x).getD k [] = if k = i then x else o.getD k []:=by
 simp only [List.getD_eq_getElem?_getD]
 by_cases e : k = i
 ·subst e
  rw [if_pos rfl,List.getElem?_set_self h]
  rfl
 ·rw [if_neg e,List.getElem?_set_ne (Ne.symm e)]
theorem wz : wrap64 0 = 0:=w64 (by omega) (by omega)
theorem newRow_out (P : Nat → Nat → Int) (r c i k : Nat) (h1 : P i k = 0) (h2 : P r k = 0) : Lin.newRow wrap64 P r c i k = 0:=by
 unfold Lin.newRow
 rw [h1,h2,Int.zero_mul,Int.zero_mul,wz]
 exact wz
def nrL (n : Nat) (v : Nat → Int) : List Int:=(List.range n).map v
theorem nrL_length (n : Nat) (v : Nat → Int) : (nrL n v).length = n:=by simp [nrL]
theorem nrL_vf (n : Nat) (v : Nat → Int) (hz : ∀ k,n ≤ k → v k = 0) : vf (nrL n v) = v:=by
 funext k
 by_cases h : k < n
 ·rw [vf_get _ _ (by rw [nrL_length];exact h)]
  simp [nrL]
 ·rw [vf_out _ _ (by rw [nrL_length];omega),hz k (by omega)]
theorem shL_fun (l : List Int) : vf (shL l) = divn l.length (vf l):=funext (shL_vf l)
section
variable {m n r c : Nat} {P : Nat → Nat → Int} {out : List Int × List (List Int)} {p : List Int}
theorem red_l3 (hn : n ≤ 1000000) (hp : p.length = r) {o0 : List (List Int)} {i : Nat} (ho : o0.length = m) (hi : i < m) (hr : r < m) (hir : i ≠ r) (hri : (o0.getD i []).length = n ∧ vf (o0.getD i []) = P i) (hrr : (o0.getD r []).length = n ∧ vf (o0.getD r []) = P r) (hz : ∀ k,n ≤ k → P i k = 0 ∧ P r k = 0) (hm : m ≤ 1000000) (nn : Int)
  (h : Ev (fun k=>(Xv.f k (nrL n (Lin.newRow wrap64 P r c i))).bind fun t=>Kv.l2 k m (o0.set i t) p nn (c : Int) (wrap64 ((i : Int) + 1))) out) :
  ∀ (d j : Nat) (x : List Int),j + d = n → x.length = n → (∀ k,vf x k = if k < j then Lin.newRow wrap64 P r c i k else P i k) → Ev (fun k=>Kv.l3 k m (o0.set i x) p nn (c : Int) (i : Int) (P r c) (P i c) n (j : Int)) out
|0,j,x,hj,hx,hv=>by
  obtain rfl : j = n:=by omega
  have e : x = nrL j (Lin.newRow wrap64 P r c i):=by
   apply vf_ext (by rw [nrL_length,hx])
   intro k hk
   rw [nrL_vf _ _ fun k hk=>newRow_out P r c i k (hz k hk).1 (hz k hk).2,hv k,if_pos (by omega)]
  refine Ev.step (fun k=>?_) h
  rw [Kv.l3,if_neg (by omega),rdL_nat,getD_set x (by omega),if_pos rfl,e]
  simp only [Int.toNat_natCast,List.set_set]
|d + 1,j,x,hj,hx,hv=>by
  have e1 : (o0.set i x).getD i [] = x:=by rw [getD_set x (by omega),if_pos rfl]
  have e2 : (o0.set i x).getD r [] = o0.getD r []:=by rw [getD_set x (by omega),if_neg (Ne.symm hir)]
  have e3:=hv j
  rw [if_neg (by omega)] at e3
  refine Ev.step (fun k=>?_) (red_l3 hn hp ho hi hr hir hri hrr hz hm nn h d (j + 1) (x.set j (Lin.newRow wrap64 P r c i j)) (by omega) (by simpa using hx) fun k=>?_)
  ·rw [Kv.l3,if_pos (by omega),if_pos (by omega),hp,rdL_nat,rdL_nat,e1,e2,if_pos (by omega),if_pos (by omega),rd_vf,rd_vf,e3,hrr.2,Int.toNat_natCast,Int.toNat_natCast,List.set_set,w64_nat (by omega)]
   unfold Lin.newRow
   rw [Int.mul_comm (P r c),Int.mul_comm (P i c)]
  ·rw [vf_set _ _ _ (by omega),hv k]
   by_cases c1 : k = j
   ·subst c1
    rw [if_pos rfl,if_pos (by omega)]
   ·rw [if_neg c1]
    by_cases c2 : k < j
    ·rw [if_pos c2,if_pos (by omega)]
    ·rw [if_neg c2,if_neg (by omega)]
theorem red_l2 (hn : n ≤ 1000000) (hp : p.length = r) (hr : r < m) (hc : c < n) (hm : m ≤ 1000000) (hz : ∀ i,i < m → ∀ k,n ≤ k → P i k = 0) (hs : ∀ i,i < m → ∀ k,-184528125 ≤ P i k ∧ P i k ≤ 184528125) (nn : Int)
  (h : ∀ o',Rep m n o' (colS wrap64 n m r c P) → Ev (fun k=>Kv.l0 k m o' (p ++ [(c : Int)]) nn (wrap64 ((c : Int) + 1))) out) :
  ∀ (d i : Nat) (o : List (List Int)),i + d = m → Rep m n o (fun j=>if j < i then colS wrap64 n m r c P j else P j) → Ev (fun k=>Kv.l2 k m o p nn (c : Int) (i : Int)) out
|0,i,o,hd,hv=>by
  obtain rfl : i = m:=by omega
  refine Ev.step (fun k=>?_) (h o ⟨hv.len,fun j hj=>by have:=hv.row j hj;rwa [if_pos hj] at this⟩)
  rw [Kv.l2,if_neg (by omega),if_pos (by omega)]
|d + 1,i,o,hd,hv=>by
  have hri:=hv.row i (by omega)
  rw [if_neg (by omega)] at hri
  have hrr : (o.getD r []).length = n ∧ vf (o.getD r []) = P r:=by
   have:=hv.row r hr
   by_cases q : r < i
   ·rw [if_pos q] at this
    unfold colS at this
    rwa [if_neg (by omega)] at this
   ·rwa [if_neg q] at this
  have next : ∀ o2 : List (List Int),o2.length = m → (∀ j,j < m → j ≠ i → o2.getD j [] = o.getD j []) → ((o2.getD i []).length = n ∧ vf (o2.getD i []) = colS wrap64 n m r c P i) → Rep m n o2 (fun j=>if j < i + 1 then colS wrap64 n m r c P j else P j):=fun o2 h1 h2 h3 =>
   ⟨h1,fun j hj=>by
    by_cases q : j = i
    ·subst q
     rw [if_pos (by omega)]
     exact h3
    ·rw [h2 j hj q]
     have:=hv.row j hj
     by_cases q2 : j < i
     ·rw [if_pos q2] at this
      rwa [if_pos (by omega)]
     ·rw [if_neg q2] at this
      rwa [if_neg (by omega)]⟩
  by_cases e : i = r
  ·refine Ev.step (fun k=>?_) (red_l2 hn hp hr hc hm hz hs nn h d (i + 1) o (by omega) (next o hv.len (fun _ _ _=>rfl) ?_))
   ·rw [Kv.l2,if_pos (by omega),if_pos (by omega),if_pos (by omega),w64_nat (by omega)]
   ·unfold colS
    rw [if_neg (by omega)]
    exact hri
  ·by_cases z : P i c = 0
   ·refine Ev.step (fun k=>?_) (red_l2 hn hp hr hc hm hz hs nn h d (i + 1) o (by omega) (next o hv.len (fun _ _ _=>rfl) ?_))
    ·rw [Kv.l2,if_pos (by omega),if_pos (by omega),if_neg (by omega),if_pos (by omega),rdL_nat,if_pos (by omega),rd_vf,hri.2,if_pos z,w64_nat (by omega)]
    ·unfold colS
     rw [if_neg (by omega)]
     exact hri
   ·have hN : ∀ k,Lin.newRow wrap64 P r c i k = P r c * P i k - P i c * P r k ∧ -68101257834375001 ≤ P r c * P i k - P i c * P r k ∧ P r c * P i k - P i c * P r k ≤ 68101257834375001:=fun k=>by
     have:=newRow_told keeps64 (M:=P) (r:=r) (c:=c) (i:=i) (fun j k hj=>by rcases hj with rfl|rfl;exact hs _ hr k;exact hs _ (by omega) k) k
     exact ⟨this.1,by omega,by omega⟩
    have hzz : ∀ k,n ≤ k → P i k = 0 ∧ P r k = 0:=fun k hk=>⟨hz i (by omega) k hk,hz r hr k hk⟩
    have e1 : vf (nrL n (Lin.newRow wrap64 P r c i)) = Lin.newRow wrap64 P r c i:=nrL_vf _ _ fun k hk=>newRow_out P r c i k (hzz k hk).1 (hzz k hk).2
    have sh:=impl_shortened_ev (nrL n (Lin.newRow wrap64 P r c i)) (by rw [nrL_length];exact hn) (fun k hk=>by rw [e1];have:=hN k;omega)
    have go:=red_l3 (out:=out) (c:=c) hn hp hv.len (show i < m by omega) hr e hri hrr hzz hm nn ?_ n 0 (o.getD i []) (by omega) hri.1 (fun k=>by rw [if_neg (by omega),hri.2])
    ·refine Ev.step (fun k=>?_) go
     have es : o.set i (o.getD i []) = o:=by
      have hlt : i < o.length:=by have:=hv.len;omega
      rw [List.getD_eq_getElem?_getD,List.getElem?_eq_getElem hlt]
      simp
     rw [es,Kv.l2,if_pos (by omega),if_pos (by omega),if_neg (by omega),if_pos (by omega),hp,rdL_nat,rdL_nat,if_pos (by omega),rd_vf,rd_vf,hri.2,hrr.2,if_neg z,if_pos (by omega),if_pos (by omega),hri.1]
     rfl
    ·refine Ev.bind sh ?_
     rw [w64_nat (by omega)]
     refine red_l2 hn hp hr hc hm hz hs nn h d (i + 1) _ (by omega) (next _ (by simpa using hv.len) (fun j _ hj=>?_) ?_)
     ·rw [getD_set _ (by have:=hv.len;omega),if_neg hj]
     ·rw [getD_set _ (by have:=hv.len;omega),if_pos rfl]
      refine ⟨by rw [shL_length,nrL_length],?_⟩
      rw [shL_fun,nrL_length,e1]
      unfold colS
      rw [if_pos ⟨by omega,e,z⟩]
end
theorem divn_abs (n : Nat) (v : Nat → Int) (B : Int) (k : Nat) (h : -B ≤ v k ∧ v k ≤ B) : -B ≤ divn n v k ∧ divn n v k ≤ B:=by
 unfold divn
 by_cases c : 1 < gcdn n v
 ·rw [if_pos c]
  by_cases hk : k < n
  ·have e : (gcdn n v : Int) * (v k / (gcdn n v : Int)) = v k:=Int.mul_ediv_cancel' (gcdn_dvd n v k hk)
   exact abs_le_mul (t:=(gcdn n v : Int)) (by omega) (by rw [e];exact h)
  ·have h1:=Int.natAbs_ediv_le_natAbs (v k) (gcdn n v : Int)
   have : (v k / (gcdn n v : Int)).natAbs ≤ (v k).natAbs:=h1
   omega
 ·rw [if_neg c]
  exact h
section
variable {m n c : Nat} {M : Nat → Nat → Int} {out : List Int × List (List Int)} {p : List Int} {o : List (List Int)}
theorem red_l1 (hv : Rep m n o M) (hc : c < n) (hm : m ≤ 1000000) (nn : Int)
  (hEnd : Ev (fun k=>Kv.l0 k m o p nn (wrap64 ((c : Int) + 1))) out → True)
  (T : Nat) (h1 : T = m → Ev (fun k=>Kv.l0 k m o p nn (wrap64 ((c : Int) + 1))) out)
  (h2 : T < m → p.length < m → Ev (fun k=>(Xv.f k (o.getD T [])).bind fun t=>Kv.l2 k m (((o.set p.length (o.getD T [])).set T (o.getD p.length [])).set p.length t) p nn (c : Int) 0) out) :
  ∀ (f a : Nat),a + f = m → p.length ≤ a → findAt M c m f a = T → Ev (fun k=>Kv.l1 k m o p nn (c : Int) (a : Int)) out
|0,a,ha,hpa,hT=>by
  obtain rfl : a = m:=by omega
  have e : a = T:=hT
  refine Ev.step (fun k=>?_) (h1 e.symm)
  rw [Kv.l1,if_neg (by omega),if_pos rfl]
|f + 1,a,ha,hpa,hT=>by
  have hr:=hv.row a (by omega)
  by_cases z : M a c = 0
  ·have e : findAt M c m (f + 1) a = findAt M c m f (a + 1):=by
    show (if a < m ∧ M a c = 0 then findAt M c m f (a + 1) else a) = _
    rw [if_pos ⟨by omega,z⟩]
   rw [e] at hT
   refine Ev.step (fun k=>?_) (red_l1 hv hc hm nn hEnd T h1 h2 f (a + 1) (by omega) (by omega) hT)
   rw [Kv.l1,if_pos (by omega),if_pos (by omega),if_pos (by omega),rdL_nat,if_pos (by omega),rd_vf,hr.2,if_pos z,w64_nat (by omega)]
  ·have e : findAt M c m (f + 1) a = a:=by
    show (if a < m ∧ M a c = 0 then findAt M c m f (a + 1) else a) = _
    rw [if_neg (fun h=>z h.2)]
   rw [e] at hT
   subst hT
   refine Ev.step (fun k=>?_) (h2 (by omega) (by omega))
   rw [Kv.l1,if_pos (by omega),if_pos (by omega),if_pos (by omega),rdL_nat,if_pos (by omega),rd_vf,hr.2,if_neg z,if_pos (by omega),rdL_nat,Int.toNat_natCast]
end
def ints (l : List Nat) : List Int:=l.map Int.ofNat
theorem ints_length (l : List Nat) : (ints l).length = l.length:=by simp [ints]
theorem ints_snoc (l : List Nat) (c : Nat) : ints l ++ [(c : Int)] = ints (l ++ [c]):=by simp [ints]
theorem ints_get (l : List Nat) (i : Nat) (h : i < l.length) : vf (ints l) i = (l[i] : Int):=by rw [vf_get _ _ (by rw [ints_length];exact h)];simp [ints]
theorem impl_reduced_ev {m n : Nat} (hm : m ≤ 5) (hn : n ≤ 1000) {A : Nat → Nat → Int} : ∀ (k c : Nat) (M : Nat → Nat → Int) (piv : List Nat) (o : List (List Int)),c + k = n → Rep m n o M → Inv m n c A M piv →
  ∃ o',Rep m n o' (elim wrap64 true n m k c M piv).1 ∧ Ev (fun K=>Kv.l0 K m o (ints piv) (n : Int) (c : Int)) (ints (elim wrap64 true n m k c M piv).2,o')
|0,c,M,piv,o,hc,hv,hi=>by
  obtain rfl : c = n:=by omega
  refine ⟨o,hv,Ev.step (f:=fun _=>some (ints piv,o)) (fun K=>?_) (ev_const _)⟩
  rw [Kv.l0,if_neg (by omega)]
|k + 1,c,M,piv,o,hc,hv,hi=>by
  have hr : piv.length ≤ m:=hi.st.choose_spec.choose_spec.1.hr
  obtain ⟨f1,f2,f3,f4⟩:=findAt_told M c m (m - piv.length) piv.length (by omega)
  obtain ⟨T,hT⟩ : ∃ T,findAt M c m (m - piv.length) piv.length = T:=⟨_,rfl⟩
  rw [hT] at f1 f2 f3 f4
  rw [elim,hT]
  by_cases e : T = m
  ·rw [if_pos e]
   obtain ⟨o',h1,h2⟩:=impl_reduced_ev hm hn k (c + 1) M piv o (by omega) hv (hi.skip fun i h1 h2=>f3 i h1 (by omega))
   refine ⟨o',h1,Ev.step (fun K=>?_) (red_l1 hv (by omega) (by omega) (n : Int) (fun _=>trivial) T (fun _=>?_) (fun h=>by omega) (m - piv.length) piv.length (by omega) (by rw [ints_length];exact Nat.le_refl _) hT)⟩
   ·rw [Kv.l0,if_pos (by omega),ints_length]
   ·rw [w64_nat (by omega)]
    exact h2
  ·rw [if_neg e]
   have hne:=f4 (by omega)
   have hin:=hi.next hm (by omega) keeps64 true f1 (by omega) hne
   obtain ⟨r,hrr⟩ : ∃ r,piv.length = r:=⟨_,rfl⟩
   rw [hrr] at f1 f3 hin hr hT ⊢
   have hlt : r < m:=by omega
   obtain ⟨P,hP⟩ : ∃ P,P = shortP true n r (sw r T M):=⟨_,rfl⟩
   rw [← hP] at hin ⊢
   have swT : sw r T M r = M T:=by unfold sw;rw [if_pos rfl]
   have Pr : P r = divn n (M T):=by rw [hP];unfold shortP;rw [if_pos rfl,if_pos rfl,swT]
   have Po : ∀ i,i ≠ r → P i = if i = T then M r else M i:=fun i hir=>by
    rw [hP]
    unfold shortP
    rw [if_pos rfl,if_neg hir]
    unfold sw
    rw [if_neg hir]
   have hs : ∀ i,i < m → ∀ x,-184528125 ≤ P i x ∧ P i x ≤ 184528125:=fun i him x=>by
    by_cases q : i = r
    ·rw [q,Pr]
     exact divn_abs n (M T) 184528125 x (hi.small hm T (by omega) x)
    ·rw [Po i q]
     split
     ·exact hi.small hm r hlt x
     ·exact hi.small hm i him x
   have hz : ∀ i,i < m → ∀ x,n ≤ x → P i x = 0:=fun i him x hx=>by
    by_cases q : i = r
    ·rw [q,Pr]
     exact divn_zero n _ x (hi.zero T (by omega) x hx)
    ·rw [Po i q]
     split
     ·exact hi.zero r hlt x hx
     ·exact hi.zero i him x hx
   have hrowT:=hv.row T (by omega)
   have hrowr:=hv.row r hlt
   have sh:=impl_shortened_ev (o.getD T []) (by omega) (fun x hx=>by rw [hrowT.2];have:=hi.small hm T (by omega) x;omega)
   have hlen:=hv.len
   have hrep : Rep m n (((o.set r (o.getD T [])).set T (o.getD r [])).set r (shL (o.getD T []))) P:=by
    refine ⟨by simpa using hlen,fun i him=>?_⟩
    rw [getD_set _ (by simp;omega)]
    by_cases q : i = r
    ·rw [if_pos q,q,Pr]
     exact ⟨by rw [shL_length];exact hrowT.1,by rw [shL_fun,hrowT.1,hrowT.2]⟩
    ·rw [if_neg q,getD_set _ (by simp;omega),Po i q]
     by_cases q2 : i = T
     ·rw [if_pos q2,if_pos q2]
      exact hrowr
     ·rw [if_neg q2,if_neg q2,getD_set _ (by omega),if_neg q]
      exact hv.row i him
   have each : ∀ o',Rep m n o' (colS wrap64 n m r c P) → ∃ o'',Rep m n o'' (elim wrap64 true n m k (c + 1) (colS wrap64 n m r c P) (piv ++ [c])).1 ∧ Ev (fun K=>Kv.l0 K m o' (ints piv ++ [(c : Int)]) (n : Int) (wrap64 ((c : Int) + 1))) (ints (elim wrap64 true n m k (c + 1) (colS wrap64 n m r c P) (piv ++ [c])).2,o''):=fun o' ho'=>by
    obtain ⟨o'',h1,h2⟩:=impl_reduced_ev hm hn k (c + 1) _ (piv ++ [c]) o' (by omega) ho' hin
    refine ⟨o'',h1,?_⟩
    rw [w64_nat (by omega),ints_snoc]
    exact h2
   have one : ∀ o1 o2 : List (List Int),Rep m n o1 (colS wrap64 n m r c P) → Rep m n o2 (colS wrap64 n m r c P) → o1 = o2:=fun o1 o2 h1 h2=>by
    apply List.ext_getElem (by rw [h1.len,h2.len])
    intro i q1 q2
    have a1:=h1.row i (by have:=h1.len;omega)
    have a2:=h2.row i (by have:=h1.len;omega)
    rw [List.getD_eq_getElem?_getD,List.getElem?_eq_getElem q1,Option.getD_some] at a1
    rw [List.getD_eq_getElem?_getD,List.getElem?_eq_getElem q2,Option.getD_some] at a2
    exact vf_ext (by omega) fun x _=>by rw [a1.2,a2.2]
   obtain ⟨oC,hoC⟩ : ∃ oC : List (List Int),Rep m n oC (colS wrap64 n m r c P):=by
    refine ⟨(List.range m).map fun i=>nrL n (colS wrap64 n m r c P i),by simp,fun i him=>?_⟩
    have : ((List.range m).map fun i=>nrL n (colS wrap64 n m r c P i)).getD i [] = nrL n (colS wrap64 n m r c P i):=by
     rw [List.getD_eq_getElem?_getD,List.getElem?_eq_getElem (by simpa using him)]
     simp
    rw [this]
    exact ⟨nrL_length _ _,nrL_vf _ _ fun x hx=>hin.zero i him x hx⟩
   obtain ⟨o'',h1,h2⟩:=each oC hoC
   refine ⟨o'',h1,Ev.step (fun K=>?_) (red_l1 hv (by omega) (by omega) (n : Int) (fun _=>trivial) T (fun h=>by omega) (fun _ _=>?_) (m - r) r (by omega) (by rw [ints_length,hrr];exact Nat.le_refl _) hT)⟩
   ·rw [Kv.l0,if_pos (by omega),ints_length,hrr]
   ·refine Ev.bind sh ?_
    rw [ints_length,hrr]
    exact red_l2 (by omega) (by rw [ints_length,hrr]) hlt (by omega) (by omega) hz hs (n : Int) (fun o' ho'=>by rw [one o' oC ho' hoC];exact h2) m 0 _ (by omega) ⟨hrep.len,fun i him=>by rw [if_neg (by omega)];exact hrep.row i him⟩
section
variable {m n r c : Nat} {P : Nat → Nat → Int} {out : List (List Int) × List Int} {p : List Int}
theorem sred_l3 (hn : n ≤ 1000000) (hp : p.length = r) {o0 : List (List Int)} {i : Nat} (ho : o0.length = m) (hi : i < m) (hr : r < m) (hir : i ≠ r) (hri : (o0.getD i []).length = n ∧ vf (o0.getD i []) = P i) (hrr : (o0.getD r []).length = n ∧ vf (o0.getD r []) = P r) (hz : ∀ k,n ≤ k → P i k = 0 ∧ P r k = 0) (hm : m ≤ 1000000)
  (h : Ev (fun k=>(Gz1.f k (nrL n (Lin.newRow wrap64 P r c i))).bind fun t=>Yx1.l2 k m (o0.set i t) p (n : Int) (c : Int) (wrap64 ((i : Int) + 1))) out) :
  ∀ (d j : Nat) (x : List Int),j + d = n → x.length = n → (∀ k,vf x k = if k < j then Lin.newRow wrap64 P r c i k else P i k) → Ev (fun k=>Yx1.l3 k m (o0.set i x) p (n : Int) (c : Int) (i : Int) (P r c) (P i c) (j : Int)) out
|0,j,x,hj,hx,hv=>by
  obtain rfl : j = n:=by omega
  have e : x = nrL j (Lin.newRow wrap64 P r c i):=by
   apply vf_ext (by rw [nrL_length,hx])
   intro k hk
   rw [nrL_vf _ _ fun k hk=>newRow_out P r c i k (hz k hk).1 (hz k hk).2,hv k,if_pos (by omega)]
  refine Ev.step (fun k=>?_) h
  rw [Yx1.l3,if_neg (by omega),rdL_nat,getD_set x (by omega),if_pos rfl,e]
  simp only [Int.toNat_natCast,List.set_set]
|d + 1,j,x,hj,hx,hv=>by
  have e1 : (o0.set i x).getD i [] = x:=by rw [getD_set x (by omega),if_pos rfl]
  have e2 : (o0.set i x).getD r [] = o0.getD r []:=by rw [getD_set x (by omega),if_neg (Ne.symm hir)]
  have e3:=hv j
  rw [if_neg (by omega)] at e3
  refine Ev.step (fun k=>?_) (sred_l3 hn hp ho hi hr hir hri hrr hz hm h d (j + 1) (x.set j (Lin.newRow wrap64 P r c i j)) (by omega) (by simpa using hx) fun k=>?_)
  ·rw [Yx1.l3,if_pos (by omega),if_pos (by omega),hp,rdL_nat,rdL_nat,e1,e2,if_pos (by omega),if_pos (by omega),rd_vf,rd_vf,e3,hrr.2,Int.toNat_natCast,Int.toNat_natCast,List.set_set,w64_nat (by omega)]
   rfl
  ·rw [vf_set _ _ _ (by omega),hv k]
   by_cases c1 : k = j
   ·subst c1
    rw [if_pos rfl,if_pos (by omega)]
   ·rw [if_neg c1]
    by_cases c2 : k < j
    ·rw [if_pos c2,if_pos (by omega)]
    ·rw [if_neg c2,if_neg (by omega)]
theorem sred_l2 (hn : n ≤ 1000000) (hp : p.length = r) (hr : r < m) (hc : c < n) (hm : m ≤ 1000000) (hz : ∀ i,i < m → ∀ k,n ≤ k → P i k = 0) (hs : ∀ i,i < m → ∀ k,-184528125 ≤ P i k ∧ P i k ≤ 184528125)
  (h : ∀ o',Rep m n o' (colS wrap64 n m r c P) → Ev (fun k=>Yx1.l0 k m o' (p ++ [(c : Int)]) (n : Int) (wrap64 ((c : Int) + 1))) out) :
  ∀ (d i : Nat) (o : List (List Int)),i + d = m → Rep m n o (fun j=>if j < i then colS wrap64 n m r c P j else P j) → Ev (fun k=>Yx1.l2 k m o p (n : Int) (c : Int) (i : Int)) out
|0,i,o,hd,hv=>by
  obtain rfl : i = m:=by omega
  refine Ev.step (fun k=>?_) (h o ⟨hv.len,fun j hj=>by have:=hv.row j hj;rwa [if_pos hj] at this⟩)
  rw [Yx1.l2,if_neg (by omega),if_pos (by omega)]
|d + 1,i,o,hd,hv=>by
  have hri:=hv.row i (by omega)
  rw [if_neg (by omega)] at hri
  have hrr : (o.getD r []).length = n ∧ vf (o.getD r []) = P r:=by
   have:=hv.row r hr
   by_cases q : r < i
   ·rw [if_pos q] at this
    unfold colS at this
    rwa [if_neg (by omega)] at this
   ·rwa [if_neg q] at this
  have next : ∀ o2 : List (List Int),o2.length = m → (∀ j,j < m → j ≠ i → o2.getD j [] = o.getD j []) → ((o2.getD i []).length = n ∧ vf (o2.getD i []) = colS wrap64 n m r c P i) → Rep m n o2 (fun j=>if j < i + 1 then colS wrap64 n m r c P j else P j):=fun o2 h1 h2 h3 =>
   ⟨h1,fun j hj=>by
    by_cases q : j = i
    ·subst q
     rw [if_pos (by omega)]
     exact h3
    ·rw [h2 j hj q]
     have:=hv.row j hj
     by_cases q2 : j < i
     ·rw [if_pos q2] at this
      rwa [if_pos (by omega)]
     ·rw [if_neg q2] at this
      rwa [if_neg (by omega)]⟩
  by_cases e : i = r
  ·refine Ev.step (fun k=>?_) (sred_l2 hn hp hr hc hm hz hs h d (i + 1) o (by omega) (next o hv.len (fun _ _ _=>rfl) ?_))
   ·rw [Yx1.l2,if_pos (by omega),if_pos (by omega),if_pos (by omega),w64_nat (by omega)]
   ·unfold colS
    rw [if_neg (by omega)]
    exact hri
  ·by_cases z : P i c = 0
   ·refine Ev.step (fun k=>?_) (sred_l2 hn hp hr hc hm hz hs h d (i + 1) o (by omega) (next o hv.len (fun _ _ _=>rfl) ?_))
    ·rw [Yx1.l2,if_pos (by omega),if_pos (by omega),if_neg (by omega),if_pos (by omega),rdL_nat,if_pos (by omega),rd_vf,hri.2,if_pos z,w64_nat (by omega)]
    ·unfold colS
     rw [if_neg (by omega)]
     exact hri
   ·have hN : ∀ k,Lin.newRow wrap64 P r c i k = P r c * P i k - P i c * P r k ∧ -68101257834375001 ≤ P r c * P i k - P i c * P r k ∧ P r c * P i k - P i c * P r k ≤ 68101257834375001:=fun k=>by
     have:=newRow_told keeps64 (M:=P) (r:=r) (c:=c) (i:=i) (fun j k hj=>by rcases hj with rfl|rfl;exact hs _ hr k;exact hs _ (by omega) k) k
     exact ⟨this.1,by omega,by omega⟩
    have hzz : ∀ k,n ≤ k → P i k = 0 ∧ P r k = 0:=fun k hk=>⟨hz i (by omega) k hk,hz r hr k hk⟩
    have e1 : vf (nrL n (Lin.newRow wrap64 P r c i)) = Lin.newRow wrap64 P r c i:=nrL_vf _ _ fun k hk=>newRow_out P r c i k (hzz k hk).1 (hzz k hk).2
    have sh:=spec_l4Divided_ev (nrL n (Lin.newRow wrap64 P r c i)) (by rw [nrL_length];exact hn) (fun k hk=>by rw [e1];have:=hN k;omega)
    have go:=sred_l3 (out:=out) (c:=c) hn hp hv.len (show i < m by omega) hr e hri hrr hzz hm ?_ n 0 (o.getD i []) (by omega) hri.1 (fun k=>by rw [if_neg (by omega),hri.2])
    ·refine Ev.step (fun k=>?_) go
     have es : o.set i (o.getD i []) = o:=by
      have hlt : i < o.length:=by have:=hv.len;omega
      rw [List.getD_eq_getElem?_getD,List.getElem?_eq_getElem hlt]
      simp
     rw [es,Yx1.l2,if_pos (by omega),if_pos (by omega),if_neg (by omega),if_pos (by omega),hp,rdL_nat,rdL_nat,if_pos (by omega),rd_vf,rd_vf,hri.2,hrr.2,if_neg z,if_pos (by omega),if_pos (by omega)]
     rfl
    ·refine Ev.bind sh ?_
     rw [w64_nat (by omega)]
     refine sred_l2 hn hp hr hc hm hz hs h d (i + 1) _ (by omega) (next _ (by simpa using hv.len) (fun j _ hj=>?_) ?_)
     ·rw [getD_set _ (by have:=hv.len;omega),if_neg hj]
     ·rw [getD_set _ (by have:=hv.len;omega),if_pos rfl]
      refine ⟨by rw [shL_length,nrL_length],?_⟩
      rw [shL_fun,nrL_length,e1]
      unfold colS
      rw [if_pos ⟨by omega,e,z⟩]
end
section
variable {m n c : Nat} {M : Nat → Nat → Int} {out : List (List Int) × List Int} {p : List Int} {o : List (List Int)}
theorem sred_l1 (hv : Rep m n o M) (hc : c < n) (hm : m ≤ 1000000) (nn : Int)
  (hEnd : Ev (fun k=>Yx1.l0 k m o p nn (wrap64 ((c : Int) + 1))) out → True)
  (T : Nat) (h1 : T = m → Ev (fun k=>Yx1.l0 k m o p nn (wrap64 ((c : Int) + 1))) out)
  (h2 : T < m → p.length < m → Ev (fun k=>Yx1.l2 k m ((o.set T (o.getD p.length [])).set p.length (o.getD T [])) p nn (c : Int) 0) out) :
  ∀ (f a : Nat),a + f = m → p.length ≤ a → findAt M c m f a = T → Ev (fun k=>Yx1.l1 k m o p nn (c : Int) (a : Int)) out
|0,a,ha,hpa,hT=>by
  obtain rfl : a = m:=by omega
  have e : a = T:=hT
  refine Ev.step (fun k=>?_) (h1 e.symm)
  rw [Yx1.l1,if_neg (by omega),if_pos rfl]
|f + 1,a,ha,hpa,hT=>by
  have hr:=hv.row a (by omega)
  by_cases z : M a c = 0
  ·have e : findAt M c m (f + 1) a = findAt M c m f (a + 1):=by
    show (if a < m ∧ M a c = 0 then findAt M c m f (a + 1) else a) = _
    rw [if_pos ⟨by omega,z⟩]
   rw [e] at hT
   refine Ev.step (fun k=>?_) (sred_l1 hv hc hm nn hEnd T h1 h2 f (a + 1) (by omega) (by omega) hT)
   rw [Yx1.l1,if_pos (by omega),if_pos (by omega),if_pos (by omega),rdL_nat,if_pos (by omega),rd_vf,hr.2,if_pos z,w64_nat (by omega)]
  ·have e : findAt M c m (f + 1) a = a:=by
    show (if a < m ∧ M a c = 0 then findAt M c m f (a + 1) else a) = _
    rw [if_neg (fun h=>z h.2)]
   rw [e] at hT
   subst hT
   refine Ev.step (fun k=>?_) (h2 (by omega) (by omega))
   rw [Yx1.l1,if_pos (by omega),if_pos (by omega),if_pos (by omega),rdL_nat,if_pos (by omega),rd_vf,hr.2,if_neg z,if_pos (by omega),rdL_nat,Int.toNat_natCast]
end
theorem spec_l4Reduced_ev {m n : Nat} (hm : m ≤ 5) (hn : n ≤ 1000) {A : Nat → Nat → Int} : ∀ (k c : Nat) (M : Nat → Nat → Int) (piv : List Nat) (o : List (List Int)),c + k = n → Rep m n o M → Inv m n c A M piv →
  ∃ o',Rep m n o' (elim wrap64 false n m k c M piv).1 ∧ Ev (fun K=>Yx1.l0 K m o (ints piv) (n : Int) (c : Int)) (o',ints (elim wrap64 false n m k c M piv).2)
|0,c,M,piv,o,hc,hv,hi=>by
  obtain rfl : c = n:=by omega
  refine ⟨o,hv,Ev.step (f:=fun _=>some (o,ints piv)) (fun K=>?_) (ev_const _)⟩
  rw [Yx1.l0,if_neg (by omega)]
|k + 1,c,M,piv,o,hc,hv,hi=>by
  have hr : piv.length ≤ m:=hi.st.choose_spec.choose_spec.1.hr
  obtain ⟨f1,f2,f3,f4⟩:=findAt_told M c m (m - piv.length) piv.length (by omega)
  obtain ⟨T,hT⟩ : ∃ T,findAt M c m (m - piv.length) piv.length = T:=⟨_,rfl⟩
  rw [hT] at f1 f2 f3 f4
  rw [elim,hT]
  by_cases e : T = m
  ·rw [if_pos e]
   obtain ⟨o',h1,h2⟩:=spec_l4Reduced_ev hm hn k (c + 1) M piv o (by omega) hv (hi.skip fun i h1 h2=>f3 i h1 (by omega))
   refine ⟨o',h1,Ev.step (fun K=>?_) (sred_l1 hv (by omega) (by omega) (n : Int) (fun _=>trivial) T (fun _=>?_) (fun h=>by omega) (m - piv.length) piv.length (by omega) (by rw [ints_length];exact Nat.le_refl _) hT)⟩
   ·rw [Yx1.l0,if_pos (by omega),ints_length]
   ·rw [w64_nat (by omega)]
    exact h2
  ·rw [if_neg e]
   have hne:=f4 (by omega)
   have hin:=hi.next hm (by omega) keeps64 false f1 (by omega) hne
   obtain ⟨r,hrr⟩ : ∃ r,piv.length = r:=⟨_,rfl⟩
   rw [hrr] at f1 f3 hin hr hT ⊢
   have hlt : r < m:=by omega
   obtain ⟨P,hP⟩ : ∃ P,P = shortP false n r (sw r T M):=⟨_,rfl⟩
   rw [← hP] at hin ⊢
   have swT : sw r T M r = M T:=by unfold sw;rw [if_pos rfl]
   have Pr : P r = M T:=by rw [hP];unfold shortP;rw [if_neg (by simp),swT]
   have Po : ∀ i,i ≠ r → P i = if i = T then M r else M i:=fun i hir=>by
    rw [hP]
    unfold shortP
    rw [if_neg (by simp)]
    unfold sw
    rw [if_neg hir]
   have hs : ∀ i,i < m → ∀ x,-184528125 ≤ P i x ∧ P i x ≤ 184528125:=fun i him x=>by
    by_cases q : i = r
    ·rw [q,Pr]
     exact hi.small hm T (by omega) x
    ·rw [Po i q]
     split
     ·exact hi.small hm r hlt x
     ·exact hi.small hm i him x
   have hz : ∀ i,i < m → ∀ x,n ≤ x → P i x = 0:=fun i him x hx=>by
    by_cases q : i = r
    ·rw [q,Pr]
     exact hi.zero T (by omega) x hx
    ·rw [Po i q]
     split
     ·exact hi.zero r hlt x hx
     ·exact hi.zero i him x hx
   have hrowT:=hv.row T (by omega)
   have hrowr:=hv.row r hlt
   have hlen:=hv.len
   have hrep : Rep m n ((o.set T (o.getD r [])).set r (o.getD T [])) P:=by
    refine ⟨by simpa using hlen,fun i him=>?_⟩
    rw [getD_set _ (by simp;omega)]
    by_cases q : i = r
    ·rw [if_pos q,q,Pr]
     exact hrowT
    ·rw [if_neg q,getD_set _ (by omega),Po i q]
     by_cases q2 : i = T
     ·rw [if_pos q2,if_pos q2]
      exact hrowr
     ·rw [if_neg q2,if_neg q2]
      exact hv.row i him
   have each : ∀ o',Rep m n o' (colS wrap64 n m r c P) → ∃ o'',Rep m n o'' (elim wrap64 false n m k (c + 1) (colS wrap64 n m r c P) (piv ++ [c])).1 ∧ Ev (fun K=>Yx1.l0 K m o' (ints piv ++ [(c : Int)]) (n : Int) (wrap64 ((c : Int) + 1))) (o'',ints (elim wrap64 false n m k (c + 1) (colS wrap64 n m r c P) (piv ++ [c])).2):=fun o' ho'=>by
    obtain ⟨o'',h1,h2⟩:=spec_l4Reduced_ev hm hn k (c + 1) _ (piv ++ [c]) o' (by omega) ho' hin
    refine ⟨o'',h1,?_⟩
    rw [w64_nat (by omega),ints_snoc]
    exact h2
   have one : ∀ o1 o2 : List (List Int),Rep m n o1 (colS wrap64 n m r c P) → Rep m n o2 (colS wrap64 n m r c P) → o1 = o2:=fun o1 o2 h1 h2=>by
    apply List.ext_getElem (by rw [h1.len,h2.len])
    intro i q1 q2
    have a1:=h1.row i (by have:=h1.len;omega)
    have a2:=h2.row i (by have:=h1.len;omega)
    rw [List.getD_eq_getElem?_getD,List.getElem?_eq_getElem q1,Option.getD_some] at a1
    rw [List.getD_eq_getElem?_getD,List.getElem?_eq_getElem q2,Option.getD_some] at a2
    exact vf_ext (by omega) fun x _=>by rw [a1.2,a2.2]
   obtain ⟨oC,hoC⟩ : ∃ oC : List (List Int),Rep m n oC (colS wrap64 n m r c P):=by
    refine ⟨(List.range m).map fun i=>nrL n (colS wrap64 n m r c P i),by simp,fun i him=>?_⟩
    have : ((List.range m).map fun i=>nrL n (colS wrap64 n m r c P i)).getD i [] = nrL n (colS wrap64 n m r c P i):=by
     rw [List.getD_eq_getElem?_getD,List.getElem?_eq_getElem (by simpa using him)]
     simp
    rw [this]
    exact ⟨nrL_length _ _,nrL_vf _ _ fun x hx=>hin.zero i him x hx⟩
   obtain ⟨o'',h1,h2⟩:=each oC hoC
   refine ⟨o'',h1,Ev.step (fun K=>?_) (sred_l1 hv (by omega) (by omega) (n : Int) (fun _=>trivial) T (fun h=>by omega) (fun _ _=>?_) (m - r) r (by omega) (by rw [ints_length,hrr];exact Nat.le_refl _) hT)⟩
   ·rw [Yx1.l0,if_pos (by omega),ints_length,hrr]
   ·rw [ints_length,hrr]
    exact sred_l2 (by omega) (by rw [ints_length,hrr]) hlt (by omega) (by omega) hz hs (fun o' ho'=>by rw [one o' oC ho' hoC];exact h2) m 0 _ (by omega) ⟨hrep.len,fun i him=>by rw [if_neg (by omega)];exact hrep.row i him⟩
theorem spec_l2Rows_l (l : List (List Int)) (hl : l.length ≤ 1000000) (hr : ∀ x ∈ l,x.length ≤ 1000000) : ∀ (j i : Nat) (acc : List (List Int)),i + j = l.length → acc = l.take i → Ev (fun k=>Xz1.l0 k l acc (i : Int)) l
|0,i,acc,hj,ha=>by
  obtain rfl : i = l.length:=by omega
  refine Ev.step (f:=fun _=>some l) (fun k=>?_) (ev_const _)
  rw [Xz1.l0,if_neg (by omega),ha,List.take_length]
|j + 1,i,acc,hj,ha=>by
  have hlt : i < l.length:=by omega
  have e : rd_L1 l (i : Int) = l[i]:=by simp [rd_L1,hlt]
  refine Ev.step (fun k=>?_) (spec_l2Rows_l l hl hr j (i + 1) (acc ++ [l[i]]) (by omega) (by rw [ha,List.take_succ_eq_append_getElem hlt]))
  have h1 : acc.length ≤ 1000000:=by rw [ha,List.length_take];omega
  have h2:=hr l[i] (List.getElem_mem hlt)
  rw [Xz1.l0,if_pos (by omega),if_pos (by omega),e,spec_l1Own_is _ (by omega)]
  simp only [Option.bind_some]
  rw [if_pos (by omega),w64_nat (by omega)]
theorem spec_l2Rows_ev (l : List (List Int)) (hl : l.length ≤ 1000000) (hr : ∀ x ∈ l,x.length ≤ 1000000) : Ev (fun k=>Xz1.f k l) l:=spec_l2Rows_l l hl hr l.length 0 [] (by omega) rfl
theorem getD_get (vs : List (List Int)) (i : Nat) (h : i < vs.length) : vs.getD i [] = vs[i]:=by simp [h]
theorem getD_out (vs : List (List Int)) (i : Nat) (h : vs.length ≤ i) : vs.getD i [] = []:=by rw [List.getD_eq_getElem?_getD,List.getElem?_eq_none h];rfl
theorem vf_nil (k : Nat) : vf [] k = 0:=by simp [vf]
def colL (vs : List (List Int)) (k : Nat) : List Int:=vs.map fun v=>vf v k
theorem colL_vf (vs : List (List Int)) (k j : Nat) : vf (colL vs k) j = vf (vs.getD j []) k:=by
 by_cases h : j < vs.length
 ·rw [vf_get _ _ (by simpa [colL] using h),getD_get vs j h]
  simp [colL]
 ·rw [vf_out _ _ (by simp [colL];omega),getD_out vs j (by omega),vf_nil]
def matT (m : Nat) (vs : List (List Int)) : List (List Int):=(List.range m).map (colL vs)
theorem matT_rep (m : Nat) (vs : List (List Int)) : Rep m vs.length (matT m vs) (fun i j=>vf (vs.getD j []) i):=by
 refine ⟨by simp [matT],fun i hi=>?_⟩
 have e : (matT m vs).getD i [] = colL vs i:=by
  rw [getD_get _ _ (by simpa [matT] using hi)]
  simp [matT]
 rw [e]
 exact ⟨by simp [colL],funext fun j=>colL_vf vs i j⟩
section
variable {m n : Nat} {vs : List (List Int)} {out : List Int × Bool}
theorem bal_l1 (hn : vs.length = n) (hv : ∀ v ∈ vs,v.length = m) (hm : m ≤ 1000) (hn2 : n ≤ 1000) (kc : Nat) (hk : kc < m) (x4 : Int) (x5 : List (List Int)) (h5 : x5.length ≤ 1000) (x28 : Int)
  (h : Ev (fun k=>Yk.l0 k vs x4 (x5 ++ [colL vs kc]) x28 (wrap64 ((kc : Int) + 1))) out) :
  ∀ (j i : Nat) (acc : List Int),i + j = n → acc = (colL vs kc).take i → Ev (fun k=>Yk.l1 k vs x4 x5 (kc : Int) acc x28 (kc : Int) vs (n : Int) (i : Int)) out
|0,i,acc,hj,ha=>by
  obtain rfl : i = n:=by omega
  refine Ev.step (fun k=>?_) h
  rw [Yk.l1,if_neg (by omega),if_pos (by omega),ha,List.take_of_length_le (by simp [colL];omega)]
|j + 1,i,acc,hj,ha=>by
  have hlt : i < vs.length:=by omega
  have hl : (vs.getD i []).length = m:=by rw [getD_get _ _ hlt];exact hv _ (List.getElem_mem hlt)
  have hc : i < (colL vs kc).length:=by simpa [colL] using hlt
  have ha2 : acc.length ≤ 1000:=by rw [ha,List.length_take];omega
  refine Ev.step (fun k=>?_) (bal_l1 hn hv hm hn2 kc hk x4 x5 h5 x28 h j (i + 1) (acc ++ [vf (vs.getD i []) kc]) (by omega) ?_)
  ·rw [Yk.l1,if_pos (by omega),if_pos (by omega),if_pos (by omega),if_pos (by omega),rdL_nat,if_pos (by omega),if_pos (by omega),rd_vf,w64_nat (by omega)]
  ·rw [ha,List.take_succ_eq_append_getElem hc,← vf_get _ _ hc,colL_vf]
theorem bal_l0 (hn : vs.length = n) (hv : ∀ v ∈ vs,v.length = m) (hm : m ≤ 1000) (hn2 : n ≤ 1000)
  (h : Ev (fun k=>(Kv.f k (matT m vs) (n : Int)).bind fun bt=>(if (bt.1.length : Int) = (wrap64 ((n : Int) - 1)) then (Yk.l2 k (n : Int) bt.2 bt.1 (wrap64 ((n : Int) - 1)) bt.1 (bt.1.length : Int) 0) else (some (([] : List Int),false)))) out) :
  ∀ (j i : Nat) (x5 : List (List Int)),i + j = m → x5 = (matT m vs).take i → Ev (fun k=>Yk.l0 k vs (n : Int) x5 (m : Int) (i : Int)) out
|0,i,x5,hj,h5=>by
  obtain rfl : i = m:=by omega
  refine Ev.step (fun k=>?_) h
  rw [Yk.l0,if_neg (by omega),h5,List.take_of_length_le (by simp [matT])]
|j + 1,i,x5,hj,h5=>by
  have hl : i < (matT m vs).length:=by simp [matT];omega
  have h5l : x5.length ≤ 1000:=by rw [h5,List.length_take];omega
  refine Ev.step (f:=fun k=>Yk.l1 k vs (n : Int) x5 (i : Int) [] (m : Int) (i : Int) vs (vs.length : Int) 0) (fun k=>by rw [Yk.l0,if_pos (by omega)]) ?_
  rw [hn]
  refine bal_l1 hn hv hm hn2 i (by omega) (n : Int) x5 h5l (m : Int) ?_ n 0 [] (by omega) (by simp)
  rw [w64_nat (by omega)]
  refine bal_l0 hn hv hm hn2 h j (i + 1) _ (by omega) ?_
  rw [h5,List.take_succ_eq_append_getElem hl]
  congr 1
  simp [matT]
end
theorem bal_l2 {n : Nat} {piv : List Nat} {R : List (List Int)} {out : List Int × Bool} (hn : n ≤ 1000) (hl : piv.length + 1 = n) (hasc : piv.Pairwise (· < ·)) (hlow : ∀ q ∈ piv,q < n)
  (h : ∀ f,f < n → f ∉ piv → Ev (fun k=>Yk.j3 k (n : Int) R (ints piv) (f : Int)) out) :
  ∀ (j i : Nat),i + j = piv.length → (∀ t (ht : t < piv.length),t < i → piv[t] = t) → Ev (fun k=>Yk.l2 k (n : Int) R (ints piv) (wrap64 ((n : Int) - 1)) (ints piv) (piv.length : Int) (i : Int)) out
|0,i,hj,hp=>by
  have e : wrap64 ((n : Int) - 1) = ((n - 1 : Nat) : Int):=by rw [w64 (by omega) (by omega)];omega
  refine Ev.step (fun k=>?_) (h (n - 1) (by omega) fun hm=>?_)
  ·rw [Yk.l2,if_neg (by omega),e]
  ·obtain ⟨t,ht,et⟩:=List.getElem_of_mem hm
   have:=hp t ht (by omega)
   omega
|j + 1,i,hj,hp=>by
  have hi : i < piv.length:=by omega
  have e:=ints_get piv i hi
  by_cases c : piv[i] = i
  ·refine Ev.step (fun k=>?_) (bal_l2 hn hl hasc hlow h j (i + 1) (by omega) fun t ht hti=>?_)
   ·rw [Yk.l2,if_pos (by omega),if_pos (by omega),if_pos (by rw [ints_length];omega),rd_vf,e,if_pos (by omega),w64_nat (by omega)]
   ·by_cases q : t = i
    ·subst q
     exact c
    ·exact hp t ht (by omega)
  ·refine Ev.step (fun k=>?_) (h i (by omega) fun hm=>?_)
   ·rw [Yk.l2,if_pos (by omega),if_pos (by omega),if_pos (by rw [ints_length];omega),rd_vf,e,if_neg (by omega)]
   ·obtain ⟨t,ht,et⟩:=List.getElem_of_mem hm
    rw [List.pairwise_iff_getElem] at hasc
    rcases Nat.lt_trichotomy t i with q|q|q
    ·have:=hp t ht q
     omega
    ·subst q
     exact c et
    ·have h1:=hasc i t hi ht q
     have h2 : i ≤ piv[i]:=by
      rcases Nat.eq_zero_or_pos i with z|z
      ·omega
      ·have a:=hasc (i - 1) i (by omega) hi (by omega)
       have b:=hp (i - 1) (by omega) (by omega)
       omega
     omega
def uL (n f : Nat) (L : Int) (M : Nat → Nat → Int) (piv : List Nat) : Nat → List Int
|0=>(List.replicate n 0).set f L
|j + 1=>(uL n f L M piv j).set (piv.getD j 0) (-(M j f) * (L / M j (piv.getD j 0)))
theorem uL_length (n f : Nat) (L : Int) (M : Nat → Nat → Int) (piv : List Nat) : ∀ j,(uL n f L M piv j).length = n
|0=>by simp [uL]
|j + 1=>by simp [uL,uL_length n f L M piv j]
theorem pgetD (piv : List Nat) (j : Nat) (h : j < piv.length) : piv.getD j 0 = piv[j]:=by simp [h]
theorem uL_f {n f : Nat} {L : Int} {M : Nat → Nat → Int} {piv : List Nat} (hf : f < n) (hfp : f ∉ piv) (hlow : ∀ q ∈ piv,q < n) : ∀ j,j ≤ piv.length → vf (uL n f L M piv j) f = L
|0,_=>by rw [uL,vf_set _ _ _ (by simpa using hf),if_pos rfl]
|j + 1,hj=>by
  have e:=pgetD piv j (by omega)
  have hm : piv[j] ∈ piv:=List.getElem_mem (by omega)
  have hne : f ≠ piv[j]:=fun q=>hfp (q ▸ hm)
  rw [uL,e,vf_set _ _ _ (by rw [uL_length];exact hlow _ hm),if_neg hne]
  exact uL_f hf hfp hlow j (by omega)
theorem uL_at {n f : Nat} {L : Int} {M : Nat → Nat → Int} {piv : List Nat} (hasc : piv.Pairwise (· < ·)) (hlow : ∀ q ∈ piv,q < n) : ∀ j,j ≤ piv.length → ∀ t (ht : t < piv.length),t < j → vf (uL n f L M piv j) piv[t] = -(M t f) * (L / M t piv[t])
|0,_,t,_,h=>by omega
|j + 1,hj,t,ht,h=>by
  have e:=pgetD piv j (by omega)
  have hm : piv[j] ∈ piv:=List.getElem_mem (by omega)
  rw [uL,e,vf_set _ _ _ (by rw [uL_length];exact hlow _ hm)]
  by_cases c : t = j
  ·subst c
   rw [if_pos rfl]
  ·rw [List.pairwise_iff_getElem] at hasc
   have:=hasc t j ht (by omega) (by omega)
   rw [if_neg (by omega)]
   exact uL_at (by rw [List.pairwise_iff_getElem];exact hasc) hlow j (by omega) t ht (by omega)
section
variable {m n f : Nat} {M : Nat → Nat → Int} {piv : List Nat} {R : List (List Int)} {out : List Int × Bool}
def avf (M : Nat → Nat → Int) (piv : List Nat) (j : Nat) : Int:=M j (piv.getD j 0)
theorem bal_l3 (hR : Rep m n R M) (hn : n ≤ 1000) (hpm : piv.length ≤ m) (hlow : ∀ q ∈ piv,q < n) (hf : f < n) (hm : m ≤ 1000)
  (hL : ∀ j,j ≤ piv.length → 0 < lcs (avf M piv) j ∧ lcs (avf M piv) j ≤ 1157095860480) (hs : ∀ i,i < m → ∀ k,-184528125 ≤ M i k ∧ M i k ≤ 184528125)
  (h : Ev (fun k=>Yk.l4 k R (f : Int) (uL n f (lcs (avf M piv) piv.length) M piv 0) (lcs (avf M piv) piv.length) (ints piv) (piv.length : Int) 0) out) :
  ∀ (j i : Nat),i + j = piv.length → Ev (fun k=>Yk.l3 k R (ints piv) (f : Int) (List.replicate n 0) (lcs (avf M piv) i) (ints piv) (piv.length : Int) (i : Int)) out
|0,i,hj=>by
  obtain rfl : i = piv.length:=by omega
  refine Ev.step (fun k=>?_) h
  rw [Yk.l3,if_neg (by omega),if_pos (by omega),if_pos (by simp;omega),ints_length,Int.toNat_natCast]
  rfl
|j + 1,i,hj=>by
  have hi : i < piv.length:=by omega
  have hp:=ints_get piv i hi
  have hq : piv[i] < n:=hlow _ (List.getElem_mem hi)
  have hrow:=hR.row i (by omega)
  have hlen:=hR.len
  obtain ⟨l1,l2⟩:=hL i (by omega)
  obtain ⟨l3,l4⟩:=hL (i + 1) (by omega)
  have ha : avf M piv i = M i piv[i]:=by unfold avf;rw [pgetD piv i hi]
  have hsm:=hs i (by omega) piv[i]
  rw [← ha] at hsm
  have dv:=impl_divisor_ev [lcs (avf M piv) i,avf M piv i] (by simp) (fun k hk=>by
   have hk2 : k < 2:=hk
   rcases (show k = 0 ∨ k = 1 by omega) with rfl|rfl
   ·show _ ≤ lcs (avf M piv) i ∧ lcs (avf M piv) i ≤ _
    omega
   ·show _ ≤ avf M piv i ∧ avf M piv i ≤ _
    omega)
  have eg : (gcdn ([lcs (avf M piv) i,avf M piv i] : List Int).length (vf [lcs (avf M piv) i,avf M piv i]) : Int) = (Int.gcd (lcs (avf M piv) i) (avf M piv i) : Int):=by
   show ((Nat.gcd (Nat.gcd 0 (lcs (avf M piv) i).natAbs) (avf M piv i).natAbs : Nat) : Int) = _
   rw [Nat.gcd_zero_left]
   rfl
  rw [eg] at dv
  have hg : 0 < Int.gcd (lcs (avf M piv) i) (avf M piv i):=Int.gcd_pos_of_ne_zero_left _ (by omega)
  have eq_ : lcs (avf M piv) (i + 1) = lcs (avf M piv) i / (Int.gcd (lcs (avf M piv) i) (avf M piv i) : Int) * ((avf M piv i).natAbs : Int):=rfl
  have et : Int.tdiv (lcs (avf M piv) i) (Int.gcd (lcs (avf M piv) i) (avf M piv i) : Int) = lcs (avf M piv) i / (Int.gcd (lcs (avf M piv) i) (avf M piv i) : Int):=Int.tdiv_eq_ediv_of_nonneg (by omega)
  have eb : 0 ≤ lcs (avf M piv) i / (Int.gcd (lcs (avf M piv) i) (avf M piv i) : Int) ∧ lcs (avf M piv) i / (Int.gcd (lcs (avf M piv) i) (avf M piv i) : Int) ≤ lcs (avf M piv) i :=
   ⟨Int.ediv_nonneg (by omega) (by omega),Int.ediv_le_self _ (by omega)⟩
  have em : mx (avf M piv i) (wrap64 (-(avf M piv i))) = ((avf M piv i).natAbs : Int):=by
   rw [w64 (by omega) (by omega)]
   unfold mx
   split <;> omega
  refine Ev.step (f:=fun k=>(Gk.f k [lcs (avf M piv) i,avf M piv i]).bind fun t=>if t = 0 then none else Yk.l3 k R (ints piv) (f : Int) (List.replicate n 0) (wrap64 ((wrap64 (Int.tdiv (lcs (avf M piv) i) t)) * (mx (avf M piv i) (wrap64 (-(avf M piv i)))))) (ints piv) (piv.length : Int) (wrap64 ((i : Int) + 1))) (fun k=>?_) (Ev.bind dv (ev_if_neg (by omega) ?_))
  ·rw [Yk.l3,if_pos (by omega),if_pos (by omega),if_pos (by rw [ints_length];omega),if_pos (by omega),rd_vf,hp,rdL_nat,if_pos (by omega),if_pos (by omega),rd_vf,hrow.2,← ha]
  ·rw [et,em,w64 (x:=lcs (avf M piv) i / _) (by omega) (by omega),← eq_,w64 (by omega) (by omega),w64_nat (by omega)]
   exact bal_l3 hR hn hpm hlow hf hm hL hs h j (i + 1) (by omega)
theorem bal_l4 (hR : Rep m n R M) (hn : n ≤ 1000) (hpm : piv.length ≤ m) (hasc : piv.Pairwise (· < ·)) (hlow : ∀ q ∈ piv,q < n) (hf : f < n) (hm : m ≤ 1000) {L : Int} (hL : 0 < L ∧ L ≤ 1157095860480)
  (hd : ∀ j (hj : j < piv.length),M j piv[j] ≠ 0) (hs : ∀ i,i < m → ∀ k,-184528125 ≤ M i k ∧ M i k ≤ 184528125)
  (hU : ∀ k,-1157095860480 ≤ vf (uL n f L M piv piv.length) k ∧ vf (uL n f L M piv piv.length) k ≤ 1157095860480) (hdv : ∀ j (hj : j < piv.length),M j piv[j] ∣ L)
  (h : Ev (fun k=>(Xv.f k (uL n f L M piv piv.length)).bind fun t=>Yk.l5 k t t (n : Int) 0) out) :
  ∀ (j i : Nat),i + j = piv.length → Ev (fun k=>Yk.l4 k R (f : Int) (uL n f L M piv i) L (ints piv) (piv.length : Int) (i : Int)) out
|0,i,hj=>by
  obtain rfl : i = piv.length:=by omega
  refine Ev.step (fun k=>?_) h
  rw [Yk.l4,if_neg (by omega),uL_length]
|j + 1,i,hj=>by
  have hi : i < piv.length:=by omega
  have hp:=ints_get piv i hi
  have hq : piv[i] < n:=hlow _ (List.getElem_mem hi)
  have hrow:=hR.row i (by omega)
  have hlen:=hR.len
  have hb:=hU piv[i]
  rw [uL_at hasc hlow piv.length (Nat.le_refl _) i hi hi] at hb
  have h1:=hs i (by omega) f
  have h2:=hd i hi
  have et : Int.tdiv L (M i piv[i]) = L / M i piv[i]:=Int.tdiv_eq_ediv_of_dvd (hdv i hi)
  have eb : -1157095860480 ≤ L / M i piv[i] ∧ L / M i piv[i] ≤ 1157095860480:=by
   have:=Int.natAbs_ediv_le_natAbs L (M i piv[i])
   omega
  have ed:=pgetD piv i hi
  refine Ev.step (fun k=>?_) (bal_l4 hR hn hpm hasc hlow hf hm hL hd hs hU hdv h j (i + 1) (by omega))
  rw [Yk.l4,if_pos (by omega),if_pos (by omega),if_pos (by rw [ints_length];omega),if_pos (by omega),if_pos (by omega),rdL_nat,rd_vf,rd_vf,hp,rd_vf,hrow.2,if_pos (by omega),if_pos (by omega),if_pos (by omega),if_neg h2,if_pos (by rw [uL_length];omega),et,w64 (x:=L / _) (by omega) (by omega),w64 (x:=-(M i f)) (by omega) (by omega),w64 (by omega) (by omega),w64_nat (by omega),uL,ed,Int.toNat_natCast]
theorem bal_l5 (z : List Int) (hz : z.length ≤ 1000) : ∀ (j i : Nat),i + j = z.length → Ev (fun k=>Yk.l5 k z z (z.length : Int) (i : Int)) (if (z.drop i).all (fun x=>decide (0 < x)) then (z,true) else ([],false))
|0,i,hj=>by
  obtain rfl : i = z.length:=by omega
  refine Ev.step (f:=fun _=>some (z,true)) (fun k=>?_) ?_
  ·rw [Yk.l5,if_neg (by omega)]
  ·rw [List.drop_of_length_le (Nat.le_refl _)]
   exact ev_const _
|j + 1,i,hj=>by
  have hi : i < z.length:=by omega
  rw [List.drop_eq_getElem_cons hi,List.all_cons]
  by_cases c : 0 < z[i]
  ·rw [decide_eq_true c,Bool.true_and]
   refine Ev.step (fun k=>?_) (bal_l5 z hz j (i + 1) (by omega))
   rw [Yk.l5,if_pos (by omega),if_pos (by omega),if_pos (by omega),rd_vf,vf_get z i hi,if_neg (by omega),w64_nat (by omega)]
  ·rw [decide_eq_false c,Bool.false_and]
   refine Ev.step (f:=fun _=>some ([],false)) (fun k=>?_) (ev_const _)
   rw [Yk.l5,if_pos (by omega),if_pos (by omega),if_pos (by omega),rd_vf,vf_get z i hi,if_pos (by omega)]
end
theorem mem_of_get {piv : List Nat} {j q : Nat} (h : piv[j]? = some q) : ∃ hj : j < piv.length,piv[j] = q:=List.getElem?_eq_some_iff.1 h
theorem impl_balance_ev (vs : List (List Int)) (m n : Nat) (hn : vs.length = n) (hv : ∀ v ∈ vs,v.length = m) (h9 : ∀ v ∈ vs,∀ k,-9 ≤ vf v k ∧ vf v k ≤ 9) (hm : m ≤ 5) (hn1 : 1 ≤ n) (hn6 : n ≤ 6) :
  (¬ One n (Ker m n (fun i j=>vf (vs.getD j []) i)) ∧ Ev (fun k=>Yk.f k vs) ([],false)) ∨
  (One n (Ker m n (fun i j=>vf (vs.getD j []) i)) ∧ ∃ z : List Int,z.length = n ∧ Ker m n (fun i j=>vf (vs.getD j []) i) (vf z) ∧ gcdn n (vf z) = 1 ∧ (∃ f,f < n ∧ 0 < vf z f) ∧ Ev (fun k=>Yk.f k vs) (if z.all (fun x=>decide (0 < x)) then (z,true) else ([],false))):=by
 obtain ⟨A,hA⟩ : ∃ A : Nat → Nat → Int,A = fun i j=>vf (vs.getD j []) i:=⟨_,rfl⟩
 rw [← hA]
 have rep0 : Rep m n (matT m vs) A:=by
  rw [hA,← hn]
  exact matT_rep m vs
 have a9 : ∀ i,i < m → ∀ x,-9 ≤ A i x ∧ A i x ≤ 9:=fun i _ x=>by
  rw [hA]
  show -9 ≤ vf (vs.getD x []) i ∧ vf (vs.getD x []) i ≤ 9
  by_cases hx : x < vs.length
  ·rw [getD_get _ _ hx]
   exact h9 _ (List.getElem_mem hx) i
  ·rw [getD_out _ _ (by omega),vf_nil]
   omega
 have az : ∀ i,i < m → ∀ k,n ≤ k → A i k = 0:=fun i _ k hk=>by
  rw [hA]
  show vf (vs.getD k []) i = 0
  rw [getD_out _ _ (by omega),vf_nil]
 have inv0:=Inv.start m n A a9 az
 obtain ⟨R,hR,hE⟩:=impl_reduced_ev hm (by omega) n 0 A [] (matT m vs) (by omega) rep0 inv0
 have inv:=Inv.all hm keeps64 true n 0 A [] (by omega) inv0
 obtain ⟨M,hM⟩ : ∃ M,(elim wrap64 true n m n 0 A []).1 = M:=⟨_,rfl⟩
 obtain ⟨piv,hpv⟩ : ∃ piv,(elim wrap64 true n m n 0 A []).2 = piv:=⟨_,rfl⟩
 rw [hM] at hR
 rw [hM,hpv] at inv
 rw [hpv] at hE
 have rlen:=rep0.len
 have hE' : Ev (fun k=>Kv.f k (matT m vs) (n : Int)) (ints piv,R):=by
  unfold Kv.f
  rw [rlen]
  exact hE
 have head : ∀ out,Ev (fun k=>(Kv.f k (matT m vs) (n : Int)).bind fun bt=>(if (bt.1.length : Int) = (wrap64 ((n : Int) - 1)) then (Yk.l2 k (n : Int) bt.2 bt.1 (wrap64 ((n : Int) - 1)) bt.1 (bt.1.length : Int) 0) else (some (([] : List Int),false)))) out → Ev (fun k=>Yk.f k vs) out:=fun out h=>by
  have hv0 : (vs.getD 0 []).length = m:=by rw [getD_get _ _ (by omega)];exact hv _ (List.getElem_mem (by omega))
  have:=bal_l0 hn hv (by omega) (by omega) h m 0 [] (by omega) rfl
  refine Ev.congr (fun k=>?_) this
  unfold Yk.f
  rw [if_pos (by omega),show (0 : Int) = ((0 : Nat) : Int) from rfl,rdL_nat,hv0,hn]
 have w1 : wrap64 ((n : Int) - 1) = ((n - 1 : Nat) : Int):=by rw [w64 (by omega) (by omega)];omega
 by_cases c : piv.length + 1 = n
 ·obtain ⟨o,p,s1,s2,s3,s4,s5⟩:=inv.fin
  have hpm : piv.length ≤ m:=s1.hr
  have hd : ∀ j (hj : j < piv.length),M j piv[j] ≠ 0:=fun j hj=>by
   have e:=s3 j hj
   rw [List.getElem?_eq_getElem hj] at e
   have e2 : piv[j] = p j:=Option.some.inj e
   rw [e2]
   exact s2.piv j hj
  refine .inr ⟨inv.one.2 c,?_⟩
  obtain ⟨f,hf,hfp⟩:=exists_not_mem piv n (by omega)
  have rel : ∀ f,f < n → f ∉ piv → _:=fun f hf hfp=>inv.rel (f:=f) (a:=avf M piv) (u:=vf (uL n f (lcs (avf M piv) piv.length) M piv piv.length)) hm hn6 c hf hfp (fun j q hq=>by obtain ⟨hj,e⟩:=mem_of_get hq;subst e;unfold avf;rw [pgetD piv j hj]) (uL_f hf hfp inv.low _ (Nat.le_refl _)) (fun j q hq=>by obtain ⟨hj,e⟩:=mem_of_get hq;subst e;exact uL_at inv.asc inv.low _ (Nat.le_refl _) j hj hj) (fun k hk=>vf_out _ _ (by rw [uL_length];exact hk))
  obtain ⟨z,hz⟩ : ∃ z,z = shL (uL n f (lcs (avf M piv) piv.length) M piv piv.length):=⟨_,rfl⟩
  have hzl : z.length = n:=by rw [hz,shL_length,uL_length]
  have hzv : ∀ f,vf (shL (uL n f (lcs (avf M piv) piv.length) M piv piv.length)) = divn n (vf (uL n f (lcs (avf M piv) piv.length) M piv piv.length)):=fun f=>by rw [shL_fun,uL_length]
  obtain ⟨⟨r1,r2,r3⟩,r4,r5,r6⟩:=rel f hf hfp
  refine ⟨z,hzl,by rw [hz,hzv];exact r1,by rw [hz,hzv];exact r2,⟨f,hf,by rw [hz,hzv];exact r3⟩,head _ (Ev.bind hE' (ev_if_pos (by rw [w1,ints_length];omega) ?_))⟩
  show Ev (fun k=>Yk.l2 k (n : Int) R (ints piv) (wrap64 ((n : Int) - 1)) (ints piv) ((ints piv).length : Int) 0) _
  rw [ints_length]
  refine bal_l2 (by omega) c inv.asc inv.low (fun f' hf' hfp'=>?_) piv.length 0 (by omega) (fun t _ ht=>by omega)
  have ef : f' = f:=by
   rcases s2.cover (f:=f) hf (fun j hj e=>hfp (by rw [← e];exact List.mem_of_getElem? (s3 j hj))) c f' hf' with e|⟨j,hj,e⟩
   ·exact e
   ·exact absurd (by rw [← e];exact List.mem_of_getElem? (s3 j hj)) hfp'
  subst ef
  have hsm : ∀ i,i < m → ∀ k,-184528125 ≤ M i k ∧ M i k ≤ 184528125:=fun i hi k=>inv.small hm i hi k
  refine Ev.step (f:=fun k=>Yk.l3 k R (ints piv) (f' : Int) (List.replicate n 0) (lcs (avf M piv) 0) (ints piv) (piv.length : Int) 0) (fun k=>?_) ?_
  ·rw [Yk.j3,if_pos (by omega),Int.toNat_natCast,if_pos (by omega),ints_length]
   rfl
  ·refine bal_l3 hR (by omega) hpm inv.low hf' (by omega) r5 hsm ?_ piv.length 0 (by omega)
   have a0 : ∀ j,j < piv.length → avf M piv j ≠ 0:=fun j hj=>by unfold avf;rw [pgetD piv j hj];exact hd j hj
   obtain ⟨Ln,e1,e2,e3,e4⟩:=lcs_nat (avf M piv) piv.length a0
   refine bal_l4 hR (by omega) hpm inv.asc inv.low hf' (by omega) (r5 _ (Nat.le_refl _)) hd hsm r4 (fun j hj=>?_) ?_ piv.length 0 (by omega)
   ·have:=e3 j hj
    unfold avf at this
    rw [pgetD piv j hj] at this
    rw [e1]
    exact Int.natAbs_dvd_natAbs.1 (by simpa using this)
   ·refine Ev.bind (impl_shortened_ev _ (by rw [uL_length];omega) (fun k _=>by have:=r4 k;omega)) ?_
    rw [← hz]
    have:=bal_l5 z (by omega) z.length 0 (by omega)
    rw [List.drop_zero,hzl] at this
    exact this
 ·refine .inl ⟨fun h=>c (inv.one.1 h),head _ (Ev.bind hE' (ev_if_neg (by rw [w1,ints_length];omega) (ev_const _)))⟩
def eqL (d : Nat) (pts : List (List Int)) : List (List Int):=matT d pts ++ [List.replicate pts.length 1]
def eqA (d : Nat) (pts : List (List Int)) (i j : Nat) : Int:=if i < d then vf (pts.getD j []) i else if j < pts.length then 1 else 0
theorem vf_ones (n k : Nat) : vf (List.replicate n 1) k = if k < n then 1 else 0:=by
 by_cases h : k < n
 ·rw [vf_get _ _ (by simpa using h),if_pos h];simp
 ·rw [vf_out _ _ (by simp;omega),if_neg h]
theorem eqL_length (d : Nat) (pts : List (List Int)) : (eqL d pts).length = d + 1:=by simp [eqL,matT]
theorem eqL_rep (d : Nat) (pts : List (List Int)) : Rep (d + 1) pts.length (eqL d pts) (eqA d pts):=by
 refine ⟨eqL_length d pts,fun i hi=>?_⟩
 have r:=(matT_rep d pts).row
 have ml : (matT d pts).length = d:=by simp [matT]
 by_cases c : i < d
 ·have e : (eqL d pts).getD i [] = (matT d pts).getD i []:=by
   unfold eqL
   rw [List.getD_eq_getElem?_getD,List.getD_eq_getElem?_getD,List.getElem?_append_left (by omega)]
  rw [e]
  refine ⟨(r i c).1,?_⟩
  rw [(r i c).2]
  funext j
  unfold eqA
  rw [if_pos c]
 ·obtain rfl : i = d:=by omega
  have e : (eqL i pts).getD i [] = List.replicate pts.length 1:=by
   unfold eqL
   rw [List.getD_eq_getElem?_getD,List.getElem?_append_right (by omega),ml]
   simp
  rw [e]
  refine ⟨by simp,?_⟩
  funext j
  rw [vf_ones]
  unfold eqA
  simp
section
variable {d n : Nat} {pts : List (List Int)}
theorem eq_l2 (hn : pts.length = n) (hn2 : n ≤ 1000) (x3 : List (List Int)) (h3 : x3.length ≤ 1000) : ∀ (j i : Nat) (acc : List Int),i + j = n → acc = List.replicate i 1 → Ev (fun k=>Jx1.l2 k pts x3 acc (i : Int)) (x3 ++ [List.replicate n 1])
|0,i,acc,hj,ha=>by
  obtain rfl : i = n:=by omega
  refine Ev.step (f:=fun _=>some (x3 ++ [List.replicate i 1])) (fun k=>?_) (ev_const _)
  rw [Jx1.l2,if_neg (by omega),if_pos (by omega),ha]
|j + 1,i,acc,hj,ha=>by
  refine Ev.step (fun k=>?_) (eq_l2 hn hn2 x3 h3 j (i + 1) (acc ++ [1]) (by omega) (by rw [ha,List.replicate_succ']))
  have : acc.length = i:=by rw [ha];simp
  rw [Jx1.l2,if_pos (by omega),if_pos (by omega),w64_nat (by omega)]
theorem eq_l1 (hn : pts.length = n) (hv : ∀ v ∈ pts,v.length = d) (hd : d ≤ 1000) (hn2 : n ≤ 1000) (kc : Nat) (hk : kc < d) (x3 : List (List Int)) (h3 : x3.length ≤ 1000) (x4 : List Int) {out : List (List Int)}
  (h : Ev (fun k=>Jx1.l0 k pts (x3 ++ [colL pts kc]) x4 (wrap64 ((kc : Int) + 1))) out) :
  ∀ (j i : Nat) (acc : List Int),i + j = n → acc = (colL pts kc).take i → Ev (fun k=>Jx1.l1 k pts x3 x4 (kc : Int) acc (i : Int)) out
|0,i,acc,hj,ha=>by
  obtain rfl : i = n:=by omega
  refine Ev.step (fun k=>?_) h
  rw [Jx1.l1,if_neg (by omega),if_pos (by omega),ha,List.take_of_length_le (by simp [colL];omega)]
|j + 1,i,acc,hj,ha=>by
  have hlt : i < pts.length:=by omega
  have hl : (pts.getD i []).length = d:=by rw [getD_get _ _ hlt];exact hv _ (List.getElem_mem hlt)
  have hc : i < (colL pts kc).length:=by simpa [colL] using hlt
  have ha2 : acc.length ≤ 1000:=by rw [ha,List.length_take];omega
  refine Ev.step (fun k=>?_) (eq_l1 hn hv hd hn2 kc hk x3 h3 x4 h j (i + 1) (acc ++ [vf (pts.getD i []) kc]) (by omega) ?_)
  ·rw [Jx1.l1,if_pos (by omega),if_pos (by omega),if_pos (by omega),rdL_nat,if_pos (by omega),if_pos (by omega),rd_vf,w64_nat (by omega)]
  ·rw [ha,List.take_succ_eq_append_getElem hc,← vf_get _ _ hc,colL_vf]
theorem eq_l0 (hn : pts.length = n) (hn1 : 1 ≤ n) (hv : ∀ v ∈ pts,v.length = d) (hd : d ≤ 1000) (hn2 : n ≤ 1000) : ∀ (j i : Nat) (x3 : List (List Int)),i + j = d → x3 = (matT d pts).take i → Ev (fun k=>Jx1.l0 k pts x3 [] (i : Int)) (eqL d pts)
|0,i,x3,hj,h3=>by
  obtain rfl : i = d:=by omega
  have ml : (matT i pts).length = i:=by simp [matT]
  have h3' : x3 = matT i pts:=by rw [h3,List.take_of_length_le (by omega)]
  have hv0 : (pts.getD 0 []).length = i:=by rw [getD_get _ _ (by omega)];exact hv _ (List.getElem_mem (by omega))
  refine Ev.step (f:=fun k=>Jx1.j1 k pts x3 [] (i : Int) false) (fun k=>?_) (Ev.step (f:=fun k=>Jx1.l2 k pts x3 [] 0) (fun k=>?_) ?_)
  ·rw [Jx1.l0,if_pos (by omega),if_pos (by omega),show (0 : Int) = ((0 : Nat) : Int) from rfl,rdL_nat,hv0,decide_eq_false (by omega)]
  ·rw [Jx1.j1,if_neg (by simp)]
  ·have:=eq_l2 hn hn2 x3 (by rw [h3',ml];exact hd) n 0 [] (by omega) rfl
   rw [h3'] at this ⊢
   unfold eqL
   rw [hn]
   exact this
|j + 1,i,x3,hj,h3=>by
  have hl : i < (matT d pts).length:=by simp [matT];omega
  have h3l : x3.length ≤ 1000:=by rw [h3,List.length_take];omega
  have hv0 : (pts.getD 0 []).length = d:=by rw [getD_get _ _ (by omega)];exact hv _ (List.getElem_mem (by omega))
  refine Ev.step (f:=fun k=>Jx1.j1 k pts x3 [] (i : Int) true) (fun k=>?_) (Ev.step (f:=fun k=>Jx1.l1 k pts x3 [] (i : Int) [] 0) (fun k=>?_) ?_)
  ·rw [Jx1.l0,if_pos (by omega),if_pos (by omega),show (0 : Int) = ((0 : Nat) : Int) from rfl,rdL_nat,hv0,decide_eq_true (by omega)]
  ·rw [Jx1.j1,if_pos rfl]
  ·refine eq_l1 hn hv hd hn2 i (by omega) x3 h3l [] ?_ n 0 [] (by omega) (by simp)
   rw [w64_nat (by omega)]
   refine eq_l0 hn hn1 hv hd hn2 j (i + 1) _ (by omega) ?_
   rw [h3,List.take_succ_eq_append_getElem hl]
   congr 1
   simp [matT]
theorem spec_l4Equations_ev (hn : pts.length = n) (hn1 : 1 ≤ n) (hv : ∀ v ∈ pts,v.length = d) (hd : d ≤ 1000) (hn2 : n ≤ 1000) : Ev (fun k=>Jx1.f k pts) (eqL d pts):=eq_l0 hn hn1 hv hd hn2 d 0 [] (by omega) rfl
end
section
variable {m n f : Nat} {M : Nat → Nat → Int} {piv : List Nat} {R : List (List Int)} {out : List Int × Bool}
theorem rel_l0 (hn : n ≤ 1000) (hl : piv.length ≤ 1000) (x9 : Int) (hf : f < n) (hfp : f ∉ piv) (hone : ∀ f',f' < n → f' ∉ piv → f' = f)
  (h : Ev (fun k=>Zx1.l1 k (n : Int) R (ints piv) (f : Int) x9 0) out) : ∀ (j i : Nat),i + j = f → Ev (fun k=>Zx1.l0 k (n : Int) R (ints piv) (i : Int) x9) out
|0,i,hj=>by
  obtain rfl : i = f:=by omega
  have hh : Ev (fun k=>Kj1.f k (ints piv) (i : Int)) ((ints piv).any fun x=>decide (x = (i : Int))):=ev_of (ints piv).length fun k hk=>spec_l1Has_is k _ _ (by rw [ints_length];omega) hk
  have e : ((ints piv).any fun x=>decide (x = (i : Int))) = false:=by
   rw [List.any_eq_false]
   intro x hx
   obtain ⟨q,hq,rfl⟩:=List.mem_map.1 hx
   simp only [decide_eq_true_eq]
   intro e
   have : q = i:=by have e2 : (q : Int) = (i : Int):=e;omega
   exact hfp (this ▸ hq)
  rw [e] at hh
  exact Ev.step (fun k=>by rw [Zx1.l0]) (Ev.bind hh (ev_if_neg Bool.false_ne_true h))
|j + 1,i,hj=>by
  have hin : i ∈ piv:=Classical.byContradiction fun hc=>by have:=hone i (by omega) hc;omega
  have hh : Ev (fun k=>Kj1.f k (ints piv) (i : Int)) ((ints piv).any fun x=>decide (x = (i : Int))):=ev_of (ints piv).length fun k hk=>spec_l1Has_is k _ _ (by rw [ints_length];omega) hk
  have e : ((ints piv).any fun x=>decide (x = (i : Int))) = true:=by
   rw [List.any_eq_true]
   exact ⟨(i : Int),List.mem_map.2 ⟨i,hin,rfl⟩,by simp⟩
  rw [e] at hh
  refine Ev.step (fun k=>by rw [Zx1.l0]) (Ev.bind hh (ev_if_pos rfl ?_))
  rw [w64_nat (by omega)]
  exact rel_l0 hn hl x9 hf hfp hone h j (i + 1) (by omega)
theorem rel_l1 (hR : Rep m n R M) (hn : n ≤ 1000) (hpm : piv.length ≤ m) (hlow : ∀ q ∈ piv,q < n) (hf : f < n) (hm : m ≤ 1000)
  (hL : ∀ j,j ≤ piv.length → 0 < lcs (avf M piv) j ∧ lcs (avf M piv) j ≤ 1157095860480) (hs : ∀ i,i < m → ∀ k,-184528125 ≤ M i k ∧ M i k ≤ 184528125)
  (h : Ev (fun k=>Zx1.l2 k R (ints piv) (f : Int) (lcs (avf M piv) piv.length) (uL n f (lcs (avf M piv) piv.length) M piv 0) 0) out) :
  ∀ (j i : Nat),i + j = piv.length → Ev (fun k=>Zx1.l1 k (n : Int) R (ints piv) (f : Int) (lcs (avf M piv) i) (i : Int)) out
|0,i,hj=>by
  obtain rfl : i = piv.length:=by omega
  refine Ev.step (fun k=>?_) h
  rw [Zx1.l1,ints_length,if_neg (by omega),if_pos (by omega),Int.toNat_natCast,if_pos (by omega)]
  simp only [Option.bind_some]
  rw [if_pos (by omega),if_pos (by simp;omega),Int.toNat_natCast]
  rfl
|j + 1,i,hj=>by
  have hi : i < piv.length:=by omega
  have hp:=ints_get piv i hi
  have hq : piv[i] < n:=hlow _ (List.getElem_mem hi)
  have hrow:=hR.row i (by omega)
  have hlen:=hR.len
  obtain ⟨l1,l2⟩:=hL i (by omega)
  obtain ⟨l3,l4⟩:=hL (i + 1) (by omega)
  have ha : avf M piv i = M i piv[i]:=by unfold avf;rw [pgetD piv i hi]
  have hsm:=hs i (by omega) piv[i]
  rw [← ha] at hsm
  have dv:=spec_l2Gcd_ev (lcs (avf M piv) i) ((avf M piv i).natAbs : Int) (by omega) (by omega)
  have eg : ((Nat.gcd (lcs (avf M piv) i).natAbs ((avf M piv i).natAbs : Int).natAbs : Nat) : Int) = (Int.gcd (lcs (avf M piv) i) (avf M piv i) : Int):=by
   rw [Int.natAbs_natCast]
   rfl
  rw [eg] at dv
  have hg : 0 < Int.gcd (lcs (avf M piv) i) (avf M piv i):=Int.gcd_pos_of_ne_zero_left _ (by omega)
  have eq_ : lcs (avf M piv) (i + 1) = lcs (avf M piv) i / (Int.gcd (lcs (avf M piv) i) (avf M piv i) : Int) * ((avf M piv i).natAbs : Int):=rfl
  have et : Int.tdiv (lcs (avf M piv) i) (Int.gcd (lcs (avf M piv) i) (avf M piv i) : Int) = lcs (avf M piv) i / (Int.gcd (lcs (avf M piv) i) (avf M piv i) : Int):=Int.tdiv_eq_ediv_of_nonneg (by omega)
  have eb : 0 ≤ lcs (avf M piv) i / (Int.gcd (lcs (avf M piv) i) (avf M piv i) : Int) ∧ lcs (avf M piv) i / (Int.gcd (lcs (avf M piv) i) (avf M piv i) : Int) ≤ lcs (avf M piv) i :=
   ⟨Int.ediv_nonneg (by omega) (by omega),Int.ediv_le_self _ (by omega)⟩
  refine Ev.step (f:=fun k=>(Zj1.f k (lcs (avf M piv) i) ((avf M piv i).natAbs : Int)).bind fun t=>if t = 0 then none else Zx1.l1 k (n : Int) R (ints piv) (f : Int) (wrap64 ((wrap64 (Int.tdiv (lcs (avf M piv) i) t)) * ((avf M piv i).natAbs : Int))) (wrap64 ((i : Int) + 1))) (fun k=>?_) (Ev.bind dv (ev_if_neg (by omega) ?_))
  ·rw [Zx1.l1,ints_length,if_pos (by omega),if_pos (by omega),if_pos (by omega),rd_vf,hp,rdL_nat,if_pos (by omega),if_pos (by omega),rd_vf,hrow.2,← ha,l1Most_abs _ (by omega)]
   simp only [Option.bind_some]
  ·rw [et,w64 (x:=lcs (avf M piv) i / _) (by omega) (by omega),← eq_,w64 (by omega) (by omega),w64_nat (by omega)]
   exact rel_l1 hR hn hpm hlow hf hm hL hs h j (i + 1) (by omega)
theorem rel_l2 (hR : Rep m n R M) (hn : n ≤ 1000) (hpm : piv.length ≤ m) (hasc : piv.Pairwise (· < ·)) (hlow : ∀ q ∈ piv,q < n) (hf : f < n) (hm : m ≤ 1000) {L : Int} (hL : 0 < L ∧ L ≤ 1157095860480)
  (hd : ∀ j (hj : j < piv.length),M j piv[j] ≠ 0) (hs : ∀ i,i < m → ∀ k,-184528125 ≤ M i k ∧ M i k ≤ 184528125)
  (hU : ∀ k,-1157095860480 ≤ vf (uL n f L M piv piv.length) k ∧ vf (uL n f L M piv piv.length) k ≤ 1157095860480) (hdv : ∀ j (hj : j < piv.length),M j piv[j] ∣ L)
  (h : Ev (fun k=>(Gz1.f k (uL n f L M piv piv.length)).bind fun t=>some (t,true)) out) :
  ∀ (j i : Nat),i + j = piv.length → Ev (fun k=>Zx1.l2 k R (ints piv) (f : Int) L (uL n f L M piv i) (i : Int)) out
|0,i,hj=>by
  obtain rfl : i = piv.length:=by omega
  refine Ev.step (fun k=>?_) h
  rw [Zx1.l2,ints_length,if_neg (by omega)]
|j + 1,i,hj=>by
  have hi : i < piv.length:=by omega
  have hp:=ints_get piv i hi
  have hq : piv[i] < n:=hlow _ (List.getElem_mem hi)
  have hrow:=hR.row i (by omega)
  have hlen:=hR.len
  have hb:=hU piv[i]
  rw [uL_at hasc hlow piv.length (Nat.le_refl _) i hi hi] at hb
  have h1:=hs i (by omega) f
  have h2:=hd i hi
  have et : Int.tdiv L (M i piv[i]) = L / M i piv[i]:=Int.tdiv_eq_ediv_of_dvd (hdv i hi)
  have eb : -1157095860480 ≤ L / M i piv[i] ∧ L / M i piv[i] ≤ 1157095860480:=by
   have:=Int.natAbs_ediv_le_natAbs L (M i piv[i])
   omega
  have ed:=pgetD piv i hi
  refine Ev.step (fun k=>?_) (rel_l2 hR hn hpm hasc hlow hf hm hL hd hs hU hdv h j (i + 1) (by omega))
  rw [Zx1.l2,ints_length,if_pos (by omega),if_pos (by omega),if_pos (by omega),if_pos (by omega),rdL_nat,if_pos (by omega),rd_vf,rd_vf,hp,rd_vf,hrow.2,if_pos (by omega),if_pos (by omega),if_neg h2,if_pos (by rw [uL_length];omega),et,w64 (x:=L / _) (by omega) (by omega),w64 (x:=-(M i f)) (by omega) (by omega),w64 (by omega) (by omega),w64_nat (by omega),uL,ed,Int.toNat_natCast]
end
theorem spec_l4Relation_ev {m n : Nat} {A : Nat → Nat → Int} {rows : List (List Int)} (rep0 : Rep m n rows A) (hm : m ≤ 5) (hn1 : 1 ≤ n) (hn6 : n ≤ 6) (a9 : ∀ i,i < m → ∀ x,-9 ≤ A i x ∧ A i x ≤ 9) (az : ∀ i,i < m → ∀ k,n ≤ k → A i k = 0) :
  (¬ One n (Ker m n A) ∧ Ev (fun k=>Zx1.f k rows (n : Int)) ([],false)) ∨
  (One n (Ker m n A) ∧ ∃ z : List Int,z.length = n ∧ Ker m n A (vf z) ∧ gcdn n (vf z) = 1 ∧ (∀ k,-1157095860480 ≤ vf z k ∧ vf z k ≤ 1157095860480) ∧ Ev (fun k=>Zx1.f k rows (n : Int)) (z,true)):=by
 have inv0:=Inv.start m n A a9 az
 obtain ⟨R,hR,hE⟩:=spec_l4Reduced_ev hm (by omega) n 0 A [] rows (by omega) rep0 inv0
 have inv:=Inv.all hm keeps64 false n 0 A [] (by omega) inv0
 obtain ⟨M,hM⟩ : ∃ M,(elim wrap64 false n m n 0 A []).1 = M:=⟨_,rfl⟩
 obtain ⟨piv,hpv⟩ : ∃ piv,(elim wrap64 false n m n 0 A []).2 = piv:=⟨_,rfl⟩
 rw [hM] at hR
 rw [hM,hpv] at inv
 rw [hpv] at hE
 have rlen:=rep0.len
 have hE' : Ev (fun k=>Yx1.f k rows (n : Int)) (R,ints piv):=by
  unfold Yx1.f
  refine Ev.bind (spec_l2Rows_ev rows (by omega) fun x hx=>?_) ?_
  ·obtain ⟨i,hi,rfl⟩:=List.getElem_of_mem hx
   have:=(rep0.row i (by omega)).1
   rw [getD_get _ _ hi] at this
   omega
  ·rw [rlen]
   exact hE
 have w1 : wrap64 ((n : Int) - 1) = ((n - 1 : Nat) : Int):=by rw [w64 (by omega) (by omega)];omega
 by_cases c : piv.length + 1 = n
 ·obtain ⟨o,p,s1,s2,s3,s4,s5⟩:=inv.fin
  have hpm : piv.length ≤ m:=s1.hr
  have hd : ∀ j (hj : j < piv.length),M j piv[j] ≠ 0:=fun j hj=>by
   have e:=s3 j hj
   rw [List.getElem?_eq_getElem hj] at e
   have e2 : piv[j] = p j:=Option.some.inj e
   rw [e2]
   exact s2.piv j hj
  refine .inr ⟨inv.one.2 c,?_⟩
  obtain ⟨f,hf,hfp⟩:=exists_not_mem piv n (by omega)
  have rel:=inv.rel (f:=f) (a:=avf M piv) (u:=vf (uL n f (lcs (avf M piv) piv.length) M piv piv.length)) hm hn6 c hf hfp (fun j q hq=>by obtain ⟨hj,e⟩:=mem_of_get hq;subst e;unfold avf;rw [pgetD piv j hj]) (uL_f hf hfp inv.low _ (Nat.le_refl _)) (fun j q hq=>by obtain ⟨hj,e⟩:=mem_of_get hq;subst e;exact uL_at inv.asc inv.low _ (Nat.le_refl _) j hj hj) (fun k hk=>vf_out _ _ (by rw [uL_length];exact hk))
  obtain ⟨z,hz⟩ : ∃ z,z = shL (uL n f (lcs (avf M piv) piv.length) M piv piv.length):=⟨_,rfl⟩
  have hzl : z.length = n:=by rw [hz,shL_length,uL_length]
  have hzv : vf (shL (uL n f (lcs (avf M piv) piv.length) M piv piv.length)) = divn n (vf (uL n f (lcs (avf M piv) piv.length) M piv piv.length)):=by rw [shL_fun,uL_length]
  obtain ⟨⟨r1,r2,r3⟩,r4,r5,r6⟩:=rel
  have hsm : ∀ i,i < m → ∀ k,-184528125 ≤ M i k ∧ M i k ≤ 184528125:=fun i hi k=>inv.small hm i hi k
  have a0 : ∀ j,j < piv.length → avf M piv j ≠ 0:=fun j hj=>by unfold avf;rw [pgetD piv j hj];exact hd j hj
  obtain ⟨Ln,e1,e2,e3,e4⟩:=lcs_nat (avf M piv) piv.length a0
  refine ⟨z,hzl,by rw [hz,hzv];exact r1,by rw [hz,hzv];exact r2,fun k=>by rw [hz,hzv];exact divn_abs n _ _ k (r4 k),?_⟩
  unfold Zx1.f
  refine Ev.bind hE' (ev_if_pos (by rw [w1,ints_length];omega) ?_)
  show Ev (fun k=>Zx1.l0 k (n : Int) R (ints piv) 0 1) _
  refine rel_l0 (by omega) (by omega) 1 hf hfp (fun f' hf' hfp'=>?_) ?_ f 0 (by omega)
  ·rcases s2.cover (f:=f) hf (fun j hj e=>hfp (by rw [← e];exact List.mem_of_getElem? (s3 j hj))) c f' hf' with e|⟨j,hj,e⟩
   ·exact e
   ·exact absurd (by rw [← e];exact List.mem_of_getElem? (s3 j hj)) hfp'
  ·refine rel_l1 hR (by omega) hpm inv.low hf (by omega) r5 hsm ?_ piv.length 0 (by omega)
   refine rel_l2 hR (by omega) hpm inv.asc inv.low hf (by omega) (r5 _ (Nat.le_refl _)) hd hsm r4 (fun j hj=>?_) ?_ piv.length 0 (by omega)
   ·have:=e3 j hj
    unfold avf at this
    rw [pgetD piv j hj] at this
    rw [e1]
    exact Int.natAbs_dvd_natAbs.1 (by simpa using this)
   ·rw [hz]
    exact Ev.bind (spec_l4Divided_ev _ (by rw [uL_length];omega) (fun k _=>by have:=r4 k;omega)) (ev_const _)
 ·refine .inl ⟨fun h=>c (inv.one.1 h),?_⟩
  unfold Zx1.f
  exact Ev.bind hE' (ev_if_neg (by rw [w1,ints_length];omega) (ev_const _))
def chL (kk n : Nat) : Nat → List Int → List (List Int)
|0,_=>[]
|f + 1,set=>(if set.length + 1 = kk then [set ++ [((n - (f + 1) : Nat) : Int)]] else chL kk n f (set ++ [((n - (f + 1) : Nat) : Int)])) ++ chL kk n f set
def chG (kk n f : Nat) (set : List Int) : List (List Int):=if set.length = kk then [set] else chL kk n f set
theorem chL_succ (kk n f : Nat) (set : List Int) : chL kk n (f + 1) set = chG kk n f (set ++ [((n - (f + 1) : Nat) : Int)]) ++ chL kk n f set:=by
 rw [chL,chG]
 simp only [List.length_append,List.length_singleton]
theorem chL_len (kk n : Nat) : ∀ (f : Nat) (set : List Int),(chL kk n f set).length + 1 ≤ 2 ^ f
|0,set=>by simp [chL]
|f + 1,set=>by
  have h1:=chL_len kk n f (set ++ [((n - (f + 1) : Nat) : Int)])
  have h2:=chL_len kk n f set
  have h3 : 2 ^ (f + 1) = 2 ^ f + 2 ^ f:=by rw [Nat.pow_succ];omega
  rw [chL,List.length_append]
  split
  ·simp only [List.length_singleton]
   have:=Nat.one_le_two_pow (n:=f)
   omega
  ·omega
theorem chG_len (kk n f : Nat) (set : List Int) : (chG kk n f set).length ≤ 2 ^ f:=by
 unfold chG
 split
 ·simpa using Nat.one_le_two_pow (n:=f)
 ·have:=chL_len kk n f set
  omega
theorem chL_nil (kk n : Nat) : ∀ (f : Nat) (set : List Int),set.length + f < kk → chL kk n f set = []
|0,set,_=>rfl
|f + 1,set,h=>by
  rw [chL,if_neg (by omega),chL_nil kk n f _ (by simp;omega),chL_nil kk n f set (by omega)]
  rfl
def Asc (n : Nat) (S : List Int) : Prop:=S.Pairwise (· < ·) ∧ ∀ x ∈ S,0 ≤ x ∧ x < (n : Int)
theorem chL_asc (kk n : Nat) : ∀ (f : Nat) (set : List Int),f ≤ n → Asc n set → (∀ x ∈ set,x < ((n - f : Nat) : Int)) → ∀ S ∈ chL kk n f set,Asc n S ∧ S.length = kk
|0,set,_,_,_,S,h=>by simp [chL] at h
|f + 1,set,hf,ha,hb,S,h=>by
  have up : Asc n (set ++ [((n - (f + 1) : Nat) : Int)]):=by
   refine ⟨List.pairwise_append.2 ⟨ha.1,List.pairwise_singleton _ _,fun a h1 b h2=>?_⟩,fun x hx=>?_⟩
   ·rw [List.mem_singleton.1 h2]
    exact hb a h1
   ·rcases List.mem_append.1 hx with hx|hx
    ·exact ha.2 x hx
    ·rw [List.mem_singleton.1 hx]
     omega
  have upb : ∀ x ∈ set ++ [((n - (f + 1) : Nat) : Int)],x < ((n - f : Nat) : Int):=fun x hx=>by
   rcases List.mem_append.1 hx with hx|hx
   ·have:=hb x hx
    omega
   ·rw [List.mem_singleton.1 hx]
    omega
  rw [chL] at h
  rcases List.mem_append.1 h with h|h
  ·by_cases c : set.length + 1 = kk
   ·rw [if_pos c] at h
    rw [List.mem_singleton.1 h]
    exact ⟨up,by simp;omega⟩
   ·rw [if_neg c] at h
    exact chL_asc kk n f _ (by omega) up upb S h
  ·exact chL_asc kk n f set (by omega) ha (fun x hx=>by have:=hb x hx;omega) S h
theorem chG_asc (kk n : Nat) (S : List Int) (h : S ∈ chG kk n n []) : Asc n S ∧ S.length = kk:=by
 unfold chG at h
 split at h
 ·rename_i e
  rw [List.mem_singleton.1 h]
  exact ⟨⟨List.Pairwise.nil,fun x hx=>by simp at hx⟩,e⟩
 ·exact chL_asc kk n n [] (Nat.le_refl _) ⟨List.Pairwise.nil,fun x hx=>by simp at hx⟩ (fun x hx=>by simp at hx) S h
def runV {σ : Type} (t : List Int → Bool) (st : List Int → σ → σ) : List (List Int) → σ → Bool × σ
|[],s=>(false,s)
|S :: L,s=>if t S = true then (true,st S s) else runV t st L (st S s)
theorem runV_append {σ : Type} (t : List Int → Bool) (st : List Int → σ → σ) : ∀ (L1 L2 : List (List Int)) (s : σ),runV t st (L1 ++ L2) s = if (runV t st L1 s).1 = true then (true,(runV t st L1 s).2) else runV t st L2 (runV t st L1 s).2
|[],L2,s=>by simp [runV]
|S :: L1,L2,s=>by
  rw [List.cons_append,runV,runV]
  by_cases c : t S = true
  ·rw [if_pos c,if_pos c,if_pos rfl]
  ·rw [if_neg c,if_neg c]
   exact runV_append t st L1 L2 (st S s)
section
variable {σ : Type} {V : Nat → σ → List Int → Option (Bool × σ)} {t : List Int → Bool} {st : List Int → σ → σ} {n kk : Nat}
theorem choices_ev (hn : n ≤ 1000) : ∀ (f : Nat) (set : List Int) (s : σ),f ≤ n → set.length + f ≤ 1000000 →
  ((∀ S ∈ chG kk n f set,∀ s,Ev (fun k=>V k s S) (t S,st S s)) → Ev (fun k=>Zk.g V (n : Int) (kk : Int) k s set ((n - f : Nat) : Int)) (runV t st (chG kk n f set) s)) ∧
  ((∀ S ∈ chL kk n f set,∀ s,Ev (fun k=>V k s S) (t S,st S s)) → Ev (fun k=>Zk.l V (n : Int) (kk : Int) k s set ((n - f : Nat) : Int)) (runV t st (chL kk n f set) s))
|f,set,s,hf,hl=>by
  have part2 : (∀ S ∈ chL kk n f set,∀ s,Ev (fun k=>V k s S) (t S,st S s)) → Ev (fun k=>Zk.l V (n : Int) (kk : Int) k s set ((n - f : Nat) : Int)) (runV t st (chL kk n f set) s):=by
   match f,hf with
  |0,hf =>
    intro _
    refine Ev.step (f:=fun _=>some (false,s)) (fun k=>?_) (ev_const _)
    rw [Zk.l,if_neg (by omega)]
  |f + 1,hf =>
    intro hV
    rw [chL_succ] at hV ⊢
    have a:=(choices_ev hn f (set ++ [((n - (f + 1) : Nat) : Int)]) s (by omega) (by rw [List.length_append,List.length_singleton];omega)).1 (fun S hS=>hV S (List.mem_append_left _ hS))
    refine Ev.step (fun k=>by rw [Zk.l,if_pos (by omega),if_pos (by omega),show wrap64 (((n - (f + 1) : Nat) : Int) + 1) = ((n - f : Nat) : Int) by rw [w64 (by omega) (by omega)];omega]) (Ev.bind a ?_)
    rw [runV_append]
    by_cases c : (runV t st (chG kk n f (set ++ [((n - (f + 1) : Nat) : Int)])) s).1 = true
    ·rw [if_pos c]
     exact ev_if_pos c (ev_const _)
    ·rw [if_neg c]
     refine ev_if_neg c ?_
     exact (choices_ev hn f set _ (by omega) (by omega)).2 (fun S hS=>hV S (List.mem_append_right _ hS))
  refine ⟨fun hV=>?_,part2⟩
  unfold chG at hV ⊢
  by_cases c : set.length = kk
  ·rw [if_pos c] at hV ⊢
   have:=hV set (by simp) s
   refine Ev.step (f:=fun k=>V k s set) (fun k=>?_) ?_
   ·rw [Zk.g,if_pos (by omega)]
   ·rw [runV]
    cases h : t set with
   |true=>rw [if_pos rfl];rw [h] at this;exact this
   |false=>rw [if_neg (by simp),runV];rw [h] at this;exact this
  ·rw [if_neg c] at hV ⊢
   refine Ev.step (f:=fun k=>Zk.l V (n : Int) (kk : Int) k s set ((n - f : Nat) : Int)) (fun k=>?_) (part2 hV)
   rw [Zk.g,if_neg (by omega)]
end
theorem impl_choices_ev {σ : Type} {V : Nat → σ → List Int → Option (Bool × σ)} {t : List Int → Bool} {st : List Int → σ → σ} (n kk : Nat) (hn : n ≤ 1000) (s : σ) (hV : ∀ S ∈ chG kk n n [],∀ s,Ev (fun k=>V k s S) (t S,st S s)) : Ev (fun k=>Zk.f V k s (n : Int) (kk : Int)) (runV t st (chG kk n n []) s):=by
 have:=(choices_ev (t:=t) (st:=st) hn n [] s (Nat.le_refl _) (by simp;omega)).1 hV
 rw [Nat.sub_self] at this
 exact this
theorem choose_l0 (n kk : Nat) (hn : n ≤ 20) (begun : List Int) (hb : begun.length + 1 ≤ 1000000) (F : Nat)
  (child : ∀ f,f < F → begun.length + (f + 1) ≤ 1000 → Ev (fun k=>Vz1.f k (n : Int) (kk : Int) (begun ++ [((n - (f + 1) : Nat) : Int)])) (chG kk n f (begun ++ [((n - (f + 1) : Nat) : Int)]))) :
  ∀ (f : Nat) (acc : List (List Int)),f ≤ F → f ≤ n → begun.length + f ≤ 1000 → acc.length + 2 ^ f ≤ 1000000000 → Ev (fun k=>Vz1.l0 k (n : Int) (kk : Int) begun acc ((n - f : Nat) : Int)) (acc ++ chL kk n f begun)
|0,acc,hF,hf,hl,ha=>by
  refine Ev.step (f:=fun _=>some acc) (fun k=>?_) ?_
  ·rw [Vz1.l0,if_neg (by omega)]
  ·rw [chL,List.append_nil]
   exact ev_const _
|f + 1,acc,hF,hf,hl,ha=>by
  have h1:=chG_len kk n f (begun ++ [((n - (f + 1) : Nat) : Int)])
  have h3 : 2 ^ (f + 1) = 2 ^ f + 2 ^ f:=by rw [Nat.pow_succ];omega
  have c:=child f (by omega) (by omega)
  rw [chL_succ]
  refine Ev.step (f:=fun k=>(Vz1.f k (n : Int) (kk : Int) (begun ++ [((n - (f + 1) : Nat) : Int)])).bind fun t=>(if acc.length + t.length < 5864062014805 then (Vz1.l0 k (n : Int) (kk : Int) begun (acc ++ t) (wrap64 (((n - (f + 1) : Nat) : Int) + 1))) else (none))) (fun k=>?_) (Ev.bind c (ev_if_pos (by omega) ?_))
  ·rw [Vz1.l0,if_pos (by omega),spec_l1Own_is begun (by omega)]
   simp only [Option.bind_some]
   rw [if_pos (by omega)]
  ·have e : wrap64 (((n - (f + 1) : Nat) : Int) + 1) = ((n - f : Nat) : Int):=by rw [w64 (by omega) (by omega)];omega
   rw [e,← List.append_assoc]
   exact choose_l0 n kk hn begun hb F child f _ (by omega) (by omega) (by omega) (by rw [List.length_append];omega)
theorem choose_f (n kk : Nat) (hn : n ≤ 20) : ∀ (f : Nat) (begun : List Int),f ≤ n → begun.length + f ≤ 1000 → (begun = [] ∧ f = n ∨ ∃ b0,begun = b0 ++ [((n - f : Nat) : Int) - 1] ∧ f < n) → Ev (fun k=>Vz1.f k (n : Int) (kk : Int) begun) (chG kk n f begun)
|f,begun,hf,hl,hb=>by
  have p20 : 2 ^ n ≤ 1048576:=Nat.le_trans (Nat.pow_le_pow_right (by omega) hn) (by decide)
  have pf : 2 ^ f ≤ 2 ^ n:=Nat.pow_le_pow_right (by omega) hf
  by_cases c : begun.length = kk
  ·unfold chG
   rw [if_pos c]
   refine Ev.step (f:=fun _=>some [begun]) (fun k=>?_) (ev_const _)
   rw [Vz1.f,if_pos (by omega)]
  ·unfold chG
   rw [if_neg c]
   have loop:=choose_l0 n kk hn begun (by omega) f (fun f' hf' hl'=>choose_f n kk hn f' (begun ++ [((n - (f' + 1) : Nat) : Int)]) (by omega) (by rw [List.length_append,List.length_singleton];omega) (.inr ⟨begun,by congr 2;omega,by omega⟩)) f [] (Nat.le_refl _) hf hl (by simp;omega)
   ·rw [List.nil_append] at loop
    have j0 : Ev (fun k=>Vz1.j0 k (n : Int) (kk : Int) begun [] ((n - f : Nat) : Int)) (chL kk n f begun):=Ev.step (fun k=>by rw [Vz1.j0]) loop
    refine Ev.step (f:=fun k=>Vz1.j0 k (n : Int) (kk : Int) begun [] ((n - f : Nat) : Int)) (fun k=>?_) j0
    rw [Vz1.f,if_neg (by omega)]
    simp only [Option.bind_some]
    rcases hb with ⟨hb,rfl⟩|⟨b0,hb,hfn⟩
    ·rw [if_neg (by simp [hb]),Nat.sub_self]
     rfl
    ·have hlen : begun.length = b0.length + 1:=by rw [hb];simp
     have ew : wrap64 ((begun.length : Int) - 1) = (b0.length : Int):=by rw [w64 (by omega) (by omega)];omega
     have ev : vf begun b0.length = ((n - f : Nat) : Int) - 1:=by rw [hb];simp [vf]
     rw [if_pos (by omega),ew,if_pos (by omega),if_pos (by omega),rd_vf,ev,w64 (by omega) (by omega)]
     congr 1
     omega
termination_by f=>f
theorem spec_l4Choose_ev (n kk : Nat) (hn : n ≤ 20) : Ev (fun k=>Vz1.f k (n : Int) (kk : Int) []) (chG kk n n []):=choose_f n kk hn n [] (Nat.le_refl _) (by simp;omega) (.inl ⟨rfl,rfl⟩)
theorem signs_l (z labs : List Int) (s : Int) (hs : s = 1 ∨ s = -1) (n : Nat) (hn : z.length = n) (hl : labs.length = n) (hn2 : n ≤ 1000) (hz : ∀ k,-1157095860480 ≤ vf z k ∧ vf z k ≤ 1157095860480) (hlab : ∀ k,k < n → vf labs k = 1 ∨ vf labs k = -1)
  (w : List Int) (hw : w.length = n) (hwv : ∀ k,k < n → vf w k = s * vf z k * vf labs k) : ∀ (j i : Nat) (acc : List Int),i + j = n → acc = w.take i → Ev (fun k=>Vx1.l0 k z labs s acc (i : Int)) (if (w.drop i).all (fun x=>decide (0 < x)) then (w,true) else ([],false))
|0,i,acc,hj,ha=>by
  obtain rfl : i = n:=by omega
  refine Ev.step (f:=fun _=>some (w,true)) (fun k=>?_) ?_
  ·rw [Vx1.l0,if_neg (by omega),ha,List.take_of_length_le (by omega)]
  ·rw [List.drop_of_length_le (by omega)]
   exact ev_const _
|j + 1,i,acc,hj,ha=>by
  have hi : i < w.length:=by omega
  have hb:=hz i
  have hv:=hwv i (by omega)
  rw [vf_get w i hi] at hv
  have e : wrap64 (wrap64 (s * vf z i) * vf labs i) = w[i]:=by
   rw [hv]
   have b1 : -1157095860480 ≤ s * vf z i ∧ s * vf z i ≤ 1157095860480:=by rcases hs with rfl|rfl <;> omega
   have b2 : -1157095860480 ≤ s * vf z i * vf labs i ∧ s * vf z i * vf labs i ≤ 1157095860480:=by
    rcases hlab i (by omega) with q|q <;> rw [q] <;> omega
   rw [w64 (x:=s * vf z i) (by omega) (by omega),w64 (by omega) (by omega)]
  have hal : acc.length ≤ 1000:=by rw [ha,List.length_take];omega
  rw [List.drop_eq_getElem_cons hi,List.all_cons]
  by_cases c : 0 < w[i]
  ·rw [decide_eq_true c,Bool.true_and]
   refine Ev.step (fun k=>?_) (signs_l z labs s hs n hn hl hn2 hz hlab w hw hwv j (i + 1) (acc ++ [w[i]]) (by omega) (by rw [ha,List.take_succ_eq_append_getElem hi]))
   rw [Vx1.l0,if_pos (by omega),if_pos (by omega),if_pos (by omega),rd_vf,rd_vf,e,if_neg (by omega),if_pos (by omega),w64_nat (by omega)]
  ·rw [decide_eq_false c,Bool.false_and]
   refine Ev.step (f:=fun _=>some ([],false)) (fun k=>?_) (ev_const _)
   rw [Vx1.l0,if_pos (by omega),if_pos (by omega),if_pos (by omega),rd_vf,rd_vf,e,if_pos (by omega)]
def sgnOf (z labs : List Int) : Int:=if vf z 0 * vf labs 0 < 0 then -1 else 1
theorem spec_l4Signs_ev (z labs : List Int) (n : Nat) (hn : z.length = n) (hn1 : 1 ≤ n) (hl : labs.length = n) (hn2 : n ≤ 1000) (hz : ∀ k,-1157095860480 ≤ vf z k ∧ vf z k ≤ 1157095860480) (hlab : ∀ k,k < n → vf labs k = 1 ∨ vf labs k = -1)
  (w : List Int) (hw : w.length = n) (hwv : ∀ k,k < n → vf w k = sgnOf z labs * vf z k * vf labs k) : Ev (fun k=>Vx1.f k z labs) (if w.all (fun x=>decide (0 < x)) then (w,true) else ([],false)):=by
 have hb:=hz 0
 have e : wrap64 (vf z 0 * vf labs 0) = vf z 0 * vf labs 0:=by
  rcases hlab 0 (by omega) with q|q <;> rw [q] <;> exact w64 (by omega) (by omega)
 unfold Vx1.f
 refine ev_if_pos (by omega) (ev_if_pos (by omega) ?_)
 rw [show (0 : Int) = ((0 : Nat) : Int) from rfl,rd_vf,rd_vf,e]
 unfold sgnOf at hwv
 by_cases c : vf z 0 * vf labs 0 < 0
 ·rw [if_pos c] at hwv
  refine ev_if_pos c (Ev.step (fun k=>by rw [Vx1.j0]) ?_)
  exact signs_l z labs (-1) (.inr rfl) n hn hl hn2 hz hlab w hw hwv n 0 [] (by omega) rfl
 ·rw [if_neg c] at hwv
  refine ev_if_neg c (Ev.step (fun k=>by rw [Vx1.j0]) ?_)
  exact signs_l z labs 1 (.inl rfl) n hn hl hn2 hz hlab w hw hwv n 0 [] (by omega) rfl
theorem vf_signed (l : Int) (hl : l = 1 ∨ l = -1) (p : List Int) (hp : p.all (inB (-9) 9) = true) (k : Nat) : vf (signedL l p) k = match k with|0=>l|k + 1=>vf p k * l:=by
 unfold signedL
 cases k with
|zero=>rfl
|succ k =>
  show vf (p.map fun x=>wrap64 (x * l)) k = vf p k * l
  by_cases h : k < p.length
  ·rw [vf_get _ _ (by simpa using h),vf_get p k h]
   simp only [List.getElem_map]
   have:=all_range hp k h
   rcases hl with rfl|rfl <;> exact w64 (by omega) (by omega)
  ·rw [vf_out _ _ (by simp;omega),vf_out p k (by omega),Int.zero_mul]
def ptsOf (ps : List (List Int)) (S : List Int) : List (List Int):=S.map fun x=>rd_L1 ps x
def labsOf (ls S : List Int) : List Int:=S.map fun x=>rd ls x
def vecsOf (ps : List (List Int)) (ls S : List Int) : List (List Int):=S.map fun x=>signedL (rd ls x) (rd_L1 ps x)
structure Places (ps : List (List Int)) (ls S : List Int) (d n : Nat) : Prop where
 len : S.length = n
 pt : ∀ k,k < n → ((ptsOf ps S).getD k []).length = d ∧ ((ptsOf ps S).getD k []).all (inB (-9) 9) = true
 lab : ∀ k,k < n → vf (labsOf ls S) k = 1 ∨ vf (labsOf ls S) k = -1
 ok : ∀ x ∈ S,0 ≤ x ∧ x < ps.length ∧ x < ls.length
 d4 : 1 ≤ d ∧ d ≤ 4
theorem ptsOf_get (ps : List (List Int)) (S : List Int) (k : Nat) (h : k < S.length) : (ptsOf ps S).getD k [] = rd_L1 ps S[k]:=by
 rw [getD_get _ _ (by simpa [ptsOf] using h)]
 simp [ptsOf]
theorem labsOf_vf (ls S : List Int) (k : Nat) (h : k < S.length) : vf (labsOf ls S) k = rd ls S[k]:=by
 rw [vf_get _ _ (by simpa [labsOf] using h)]
 simp [labsOf]
theorem places_of {ps : List (List Int)} {ls S : List Int} (hs : smB ps ls = true) (ha : Asc ps.length S) (h0 : 0 < ps.length) : Places ps ls S (ps.headD []).length S.length:=by
 obtain ⟨h16,hlen,hlb,hrow⟩:=smB_parts hs
 have ok : ∀ x ∈ S,0 ≤ x ∧ x < ps.length ∧ x < ls.length:=fun x hx=>by have:=ha.2 x hx;omega
 have hd : 1 ≤ (ps.headD []).length ∧ (ps.headD []).length ≤ 4:=by
  cases ps with
 |nil=>simp at h0
 |cons a t =>
   have:=ptB_parts (hrow a (by simp)).1
   exact this.2
 refine ⟨rfl,fun k hk=>?_,fun k hk=>?_,ok,hd⟩
 ·rw [ptsOf_get ps S k hk]
  obtain ⟨q1,q2,q3⟩:=ok S[k] (List.getElem_mem hk)
  have e : rd_L1 ps S[k] = ps[S[k].toNat]'(by omega):=by
   unfold rd_L1
   rw [getD_get _ _ (by omega)]
  rw [e]
  have:=hrow _ (List.getElem_mem (show S[k].toNat < ps.length by omega))
  exact ⟨this.2,(ptB_parts this.1).1⟩
 ·rw [labsOf_vf ls S k hk]
  obtain ⟨q1,q2,q3⟩:=ok S[k] (List.getElem_mem hk)
  have e : rd ls S[k] = ls[S[k].toNat]'(by omega):=by
   unfold rd
   rw [List.getD_eq_getElem?_getD,List.getElem?_eq_getElem (by omega)]
   rfl
  rw [e]
  have:=List.all_eq_true.1 hlb _ (List.getElem_mem (show S[k].toNat < ls.length by omega))
  exact of_decide_eq_true this
section
variable {ps : List (List Int)} {ls S : List Int} {d n : Nat}
theorem vecsOf_get (h : Places ps ls S d n) (k : Nat) (hk : k < n) (i : Nat) : vf ((vecsOf ps ls S).getD k []) i = match i with|0=>vf (labsOf ls S) k|i + 1=>vf ((ptsOf ps S).getD k []) i * vf (labsOf ls S) k:=by
 have hl:=h.len
 have e : (vecsOf ps ls S).getD k [] = signedL (vf (labsOf ls S) k) ((ptsOf ps S).getD k []):=by
  rw [getD_get _ _ (by simp [vecsOf];omega),ptsOf_get ps S k (by omega),labsOf_vf ls S k (by omega)]
  simp [vecsOf]
 rw [e,vf_signed _ (h.lab k hk) _ (h.pt k hk).2]
theorem ker_signed (h : Places ps ls S d n) (x : Nat → Int) : Ker (d + 1) n (fun i j=>vf ((vecsOf ps ls S).getD j []) i) x ↔ Ker (d + 1) n (eqA d (ptsOf ps S)) (fun k=>vf (labsOf ls S) k * x k):=by
 have pl : (ptsOf ps S).length = n:=by simp [ptsOf,h.len]
 have e0 : sm n (fun k=>vf ((vecsOf ps ls S).getD k []) 0 * x k) = sm n (fun k=>eqA d (ptsOf ps S) d k * (vf (labsOf ls S) k * x k)):=sm_congr fun k hk=>by
  rw [vecsOf_get h k hk 0]
  unfold eqA
  rw [if_neg (by omega),if_pos (by omega),Int.one_mul]
 have e1 : ∀ i,i < d → sm n (fun k=>vf ((vecsOf ps ls S).getD k []) (i + 1) * x k) = sm n (fun k=>eqA d (ptsOf ps S) i k * (vf (labsOf ls S) k * x k)):=fun i hi=>sm_congr fun k hk=>by
  rw [vecsOf_get h k hk (i + 1)]
  unfold eqA
  rw [if_pos hi,Int.mul_assoc]
 constructor
 ·intro hx i hi
  by_cases c : i < d
  ·show sm n (fun k=>eqA d (ptsOf ps S) i k * (vf (labsOf ls S) k * x k)) = 0
   rw [← e1 i c]
   exact hx (i + 1) (by omega)
  ·obtain rfl : i = d:=by omega
   show sm n (fun k=>eqA i (ptsOf ps S) i k * (vf (labsOf ls S) k * x k)) = 0
   rw [← e0]
   exact hx 0 (by omega)
 ·intro hx i hi
  cases i with
 |zero =>
   show sm n (fun k=>vf ((vecsOf ps ls S).getD k []) 0 * x k) = 0
   rw [e0]
   exact hx d (by omega)
 |succ i =>
   show sm n (fun k=>vf ((vecsOf ps ls S).getD k []) (i + 1) * x k) = 0
   rw [e1 i (by omega)]
   exact hx i (by omega)
theorem lab_sq (h : Places ps ls S d n) (k : Nat) (hk : k < n) : vf (labsOf ls S) k * vf (labsOf ls S) k = 1:=by
 rcases h.lab k hk with e|e <;> rw [e] <;> rfl
theorem ker_congr {m n : Nat} {A : Nat → Nat → Int} {x y : Nat → Int} (h : ∀ k,k < n → x k = y k) : Ker m n A x ↔ Ker m n A y:=by
 have e : ∀ i,sm n (fun k=>A i k * x k) = sm n (fun k=>A i k * y k):=fun i=>sm_congr fun k hk=>by rw [h k hk]
 exact ⟨fun q i hi=>by rw [← e];exact q i hi,fun q i hi=>by rw [e];exact q i hi⟩
theorem ker_signed' (h : Places ps ls S d n) (y : Nat → Int) : Ker (d + 1) n (eqA d (ptsOf ps S)) y ↔ Ker (d + 1) n (fun i j=>vf ((vecsOf ps ls S).getD j []) i) (fun k=>vf (labsOf ls S) k * y k):=by
 rw [ker_signed h]
 refine ker_congr fun k hk=>?_
 rw [← Int.mul_assoc,lab_sq h k hk,Int.one_mul]
theorem one_signed (h : Places ps ls S d n) : One n (Ker (d + 1) n (fun i j=>vf ((vecsOf ps ls S).getD j []) i)) ↔ One n (Ker (d + 1) n (eqA d (ptsOf ps S))):=by
 have nz : ∀ (k : Nat) (a : Int),k < n → a ≠ 0 → vf (labsOf ls S) k * a ≠ 0:=fun k a hk ha=>by rcases h.lab k hk with e|e <;> rw [e] <;> omega
 have back : ∀ (k : Nat) (a b x y : Int),k < n → a * (vf (labsOf ls S) k * x) = b * (vf (labsOf ls S) k * y) → a * x = b * y:=fun k a b x y hk e=>by
  rcases h.lab k hk with q|q
  ·rw [q,Int.one_mul,Int.one_mul] at e
   exact e
  ·rw [q] at e
   have e1 : a * (-1 * x) = -(a * x):=by grind
   have e2 : b * (-1 * y) = -(b * y):=by grind
   rw [e1,e2] at e
   omega
 constructor
 ·rintro ⟨⟨x,x1,k,hk,x2⟩,t⟩
  refine ⟨⟨_,(ker_signed h x).1 x1,k,hk,nz k _ hk x2⟩,fun u v hu hv=>?_⟩
  obtain ⟨a,b,hab,e⟩:=t _ _ ((ker_signed' h u).1 hu) ((ker_signed' h v).1 hv)
  exact ⟨a,b,hab,fun k hk=>back k a b _ _ hk (e k hk)⟩
 ·rintro ⟨⟨x,x1,k,hk,x2⟩,t⟩
  refine ⟨⟨_,(ker_signed' h x).1 x1,k,hk,nz k _ hk x2⟩,fun u v hu hv=>?_⟩
  obtain ⟨a,b,hab,e⟩:=t _ _ ((ker_signed h u).1 hu) ((ker_signed h v).1 hv)
  exact ⟨a,b,hab,fun k hk=>back k a b _ _ hk (e k hk)⟩
theorem gcdn_signed (h : Places ps ls S d n) (x : Nat → Int) : gcdn n (fun k=>vf (labsOf ls S) k * x k) = gcdn n x:=by
 have : ∀ j,j ≤ n → gcdn j (fun k=>vf (labsOf ls S) k * x k) = gcdn j x:=fun j=>by
  induction j with
 |zero=>intro _;rfl
 |succ j ih =>
   intro hj
   simp only [gcdn]
   rw [ih (by omega)]
   congr 1
   rcases h.lab j (by omega) with e|e <;> rw [e] <;> omega
 exact this n (Nat.le_refl _)
end
def toRes (r : Option (List Int)) : List Int × Bool:=match r with|some ns=>(ns,true)|none=>([],false)
section
variable {ps : List (List Int)} {ls S : List Int} {d n : Nat}
theorem vecs_len (h : Places ps ls S d n) : ∀ v ∈ vecsOf ps ls S,v.length = d + 1:=fun v hv=>by
 obtain ⟨k,hk,rfl⟩:=List.getElem_of_mem hv
 have hl:=h.len
 have hk2 : k < S.length:=by simpa [vecsOf] using hk
 have:=(h.pt k (by omega)).1
 rw [ptsOf_get ps S k hk2] at this
 simp [vecsOf,signedL,this]
theorem vecs_9 (h : Places ps ls S d n) : ∀ v ∈ vecsOf ps ls S,∀ k,-9 ≤ vf v k ∧ vf v k ≤ 9:=fun v hv i=>by
 obtain ⟨k,hk,rfl⟩:=List.getElem_of_mem hv
 have hl:=h.len
 have hk2 : k < S.length:=by simpa [vecsOf] using hk
 have e:=vecsOf_get h k (by omega) i
 rw [getD_get _ _ hk] at e
 rw [e]
 have lb:=h.lab k (by omega)
 cases i with
|zero =>
  show -9 ≤ vf (labsOf ls S) k ∧ vf (labsOf ls S) k ≤ 9
  omega
|succ i =>
  show -9 ≤ vf ((ptsOf ps S).getD k []) i * vf (labsOf ls S) k ∧ vf ((ptsOf ps S).getD k []) i * vf (labsOf ls S) k ≤ 9
  have b : -9 ≤ vf ((ptsOf ps S).getD k []) i ∧ vf ((ptsOf ps S).getD k []) i ≤ 9:=by
   by_cases c : i < ((ptsOf ps S).getD k []).length
   ·rw [vf_get _ _ c]
    exact all_range (h.pt k (by omega)).2 i c
   ·rw [vf_out _ _ (by omega)]
    omega
  rcases lb with q|q <;> rw [q] <;> omega
theorem eqA_9 (h : Places ps ls S d n) (i x : Nat) : -9 ≤ eqA d (ptsOf ps S) i x ∧ eqA d (ptsOf ps S) i x ≤ 9:=by
 have hl:=h.len
 have pl : (ptsOf ps S).length = n:=by simp [ptsOf,h.len]
 unfold eqA
 by_cases c : i < d
 ·rw [if_pos c]
  by_cases c2 : x < n
  ·by_cases c3 : i < ((ptsOf ps S).getD x []).length
   ·rw [vf_get _ _ c3]
    exact all_range (h.pt x c2).2 i c3
   ·rw [vf_out _ _ (by omega)]
    omega
  ·rw [getD_out _ _ (by omega),vf_nil]
   omega
 ·rw [if_neg c]
  split <;> omega
structure OneSet (ps : List (List Int)) (ls S : List Int) (d n : Nat) (r : Option (List Int)) : Prop where
 yes : ∀ ns,r = some ns → ns.length = n ∧ One n (Ker (d + 1) n (fun i j=>vf ((vecsOf ps ls S).getD j []) i)) ∧ Ker (d + 1) n (fun i j=>vf ((vecsOf ps ls S).getD j []) i) (vf ns) ∧ gcdn n (vf ns) = 1 ∧ ∀ k,k < n → 0 < vf ns k
 no : r = none → ¬ (One n (Ker (d + 1) n (fun i j=>vf ((vecsOf ps ls S).getD j []) i)) ∧ ∃ x,Ker (d + 1) n (fun i j=>vf ((vecsOf ps ls S).getD j []) i) x ∧ ∀ k,k < n → 0 < x k)
 impl : Ev (fun k=>Yk.f k (vecsOf ps ls S)) (toRes r)
 spec : (r = none ∧ Ev (fun k=>Zx1.f k (eqL d (ptsOf ps S)) (n : Int)) ([],false)) ∨ ∃ z,Ev (fun k=>Zx1.f k (eqL d (ptsOf ps S)) (n : Int)) (z,true) ∧ Ev (fun k=>Vx1.f k z (labsOf ls S)) (toRes r)
theorem all_pos_iff (w : List Int) : w.all (fun x=>decide (0 < x)) = true ↔ ∀ k,k < w.length → 0 < vf w k:=by
 rw [List.all_eq_true]
 constructor
 ·intro h k hk
  rw [vf_get w k hk]
  exact of_decide_eq_true (h _ (List.getElem_mem hk))
 ·intro h x hx
  obtain ⟨k,hk,rfl⟩:=List.getElem_of_mem hx
  have:=h k hk
  rw [vf_get w k hk] at this
  exact decide_eq_true this
theorem one_set (h : Places ps ls S d n) (hn2 : 2 ≤ n) (hnd : n ≤ d + 2) : ∃ r,OneSet ps ls S d n r:=by
 have hl:=h.len
 have d4:=h.d4
 have pl : (ptsOf ps S).length = n:=by simp [ptsOf,h.len]
 have ll : (labsOf ls S).length = n:=by simp [labsOf,h.len]
 have vl : (vecsOf ps ls S).length = n:=by simp [vecsOf,h.len]
 have I:=impl_balance_ev (vecsOf ps ls S) (d + 1) n vl (vecs_len h) (vecs_9 h) (by omega) (by omega) (by omega)
 have rep:=eqL_rep d (ptsOf ps S)
 rw [pl] at rep
 have R:=spec_l4Relation_ev rep (by omega) (by omega) (by omega) (fun i _ x=>eqA_9 h i x) (fun i hi k hk=>by
  unfold eqA
  by_cases c : i < d
  ·rw [if_pos c,getD_out _ _ (by omega),vf_nil]
  ·rw [if_neg c,if_neg (by omega)])
 rcases I with ⟨i1,i2⟩|⟨i1,z1,i2,i3,i4,⟨f,i5,i6⟩,i7⟩
 ·refine ⟨none,fun ns e=>by simp at e,fun _ q=>i1 q.1,i2,.inl ⟨rfl,?_⟩⟩
  rcases R with ⟨r1,r2⟩|⟨r1,_⟩
  ·exact r2
  ·exact absurd ((one_signed h).2 r1) i1
 ·rcases R with ⟨r1,_⟩|⟨r1,z2,r2,r3,r4,r5,r6⟩
  ·exact absurd ((one_signed h).1 i1) r1
  ·obtain ⟨t,ht,e⟩:=line_sign r1 r3 ((ker_signed h _).1 i3) r4 (by rw [gcdn_signed h];exact i4)
   have e2 : ∀ k,k < n → vf z1 k = t * (vf (labsOf ls S) k * vf z2 k):=fun k hk=>by
    have a:=e k hk
    have b:=lab_sq h k hk
    have c : vf (labsOf ls S) k * (vf (labsOf ls S) k * vf z1 k) = vf (labsOf ls S) k * (t * vf z2 k):=by rw [← a]
    rw [← Int.mul_assoc,b,Int.one_mul] at c
    rw [c]
    grind
   obtain ⟨g1,g2⟩:=signs_same ht e2 i5 i6 (by omega)
   obtain ⟨w,hw⟩ : ∃ w,w = nrL n (fun k=>if k < n then sgnOf z2 (labsOf ls S) * vf z2 k * vf (labsOf ls S) k else 0):=⟨_,rfl⟩
   have wl : w.length = n:=by rw [hw,nrL_length]
   have wv : ∀ k,k < n → vf w k = sgnOf z2 (labsOf ls S) * vf z2 k * vf (labsOf ls S) k:=fun k hk=>by
    rw [hw,nrL_vf _ _ fun k hk=>if_neg (by omega)]
    exact if_pos hk
   have G:=spec_l4Signs_ev z2 (labsOf ls S) n r2 (by omega) ll (by omega) r5 h.lab w wl wv
   have q : w.all (fun x=>decide (0 < x)) = true ↔ z1.all (fun x=>decide (0 < x)) = true:=by
    rw [all_pos_iff,all_pos_iff,wl,i2]
    rw [← g1]
    unfold sgnOf at wv
    constructor
    ·intro a k hk
     have:=a k hk
     rw [wv k hk] at this
     exact this
    ·intro a k hk
     rw [wv k hk]
     exact a k hk
   by_cases c : z1.all (fun x=>decide (0 < x)) = true
   ·have ap:=(all_pos_iff z1).1 c
    rw [i2] at ap
    have ew : w = z1:=vf_ext (by omega) fun k hk=>by
     rw [wv k (by omega)]
     exact g2 ap k (by omega)
    rw [if_pos c] at i7
    rw [if_pos (q.2 c),ew] at G
    refine ⟨some z1,fun ns e=>?_,fun e=>by simp at e,i7,.inr ⟨z2,r6,G⟩⟩
    obtain rfl:=Option.some.inj e
    exact ⟨i2,i1,i3,i4,ap⟩
   ·rw [if_neg c] at i7
    rw [if_neg fun q2=>c (q.1 q2)] at G
    refine ⟨none,fun ns e=>by simp at e,fun _ q3=>?_,i7,.inr ⟨z2,r6,G⟩⟩
    obtain ⟨_,x,x1,x2⟩:=q3
    obtain ⟨a,b,hab,e3⟩:=i1.2 _ _ i3 x1
    have hf:=e3 f i5
    have xf:=x2 f i5
    have b0 : b ≠ 0:=fun z=>by
     rw [z,Int.zero_mul] at hf
     rcases hab with q|q
     ·rcases Int.mul_eq_zero.1 hf with q2|q2
      ·exact q q2
      ·omega
     ·exact q z
    refine c ((all_pos_iff z1).2 fun k hk=>?_)
    have hk2 : k < n:=by omega
    have ek:=e3 k hk2
    have xk:=x2 k hk2
    rcases Int.lt_or_gt_of_ne b0 with bn|bp
    ·have l1 : b * x f < 0:=Int.mul_neg_of_neg_of_pos bn xf
     have l2 : b * x k < 0:=Int.mul_neg_of_neg_of_pos bn xk
     have an : a < 0:=by
      apply Classical.byContradiction
      intro q
      have : 0 ≤ a * vf z1 f:=Int.mul_nonneg (by omega) (by omega)
      omega
     apply Classical.byContradiction
     intro q
     have : 0 ≤ a * vf z1 k:=Int.mul_nonneg_of_nonpos_of_nonpos (by omega) (by omega)
     omega
    ·have l1 : 0 < b * x f:=Int.mul_pos bp xf
     have l2 : 0 < b * x k:=Int.mul_pos bp xk
     have ap : 0 < a:=by
      apply Classical.byContradiction
      intro q
      have : a * vf z1 f ≤ 0:=Int.mul_nonpos_of_nonpos_of_nonneg (by omega) (by omega)
      omega
     apply Classical.byContradiction
     intro q
     have : a * vf z1 k ≤ 0:=Int.mul_nonpos_of_nonneg_of_nonpos (by omega) (by omega)
     omega
end
def firstF (F : List Int → Option (List Int)) (L : List (List Int)) : Option (List Int × List Int):=L.findSome? fun S=>(F S).map fun ns=>(S,ns)
theorem firstF_cons_some {F : List Int → Option (List Int)} {S ns : List Int} {L : List (List Int)} (h : F S = some ns) : firstF F (S :: L) = some (S,ns):=by simp [firstF,h]
theorem firstF_cons_none {F : List Int → Option (List Int)} {S : List Int} {L : List (List Int)} (h : F S = none) : firstF F (S :: L) = firstF F L:=by simp [firstF,h]
theorem firstF_mem {F : List Int → Option (List Int)} : ∀ {L : List (List Int)} {r : List Int × List Int},firstF F L = some r → r.1 ∈ L ∧ F r.1 = some r.2
|[],r,h=>by simp [firstF] at h
|S :: L,r,h=>by
  cases e : F S with
 |none =>
   rw [firstF_cons_none e] at h
   obtain ⟨a,b⟩:=firstF_mem h
   exact ⟨List.mem_cons_of_mem _ a,b⟩
 |some ns =>
   rw [firstF_cons_some e] at h
   obtain rfl:=Option.some.inj h
   exact ⟨List.mem_cons_self,e⟩
def hT (F : List Int → Option (List Int)) (S : List Int) : Bool:=(F S).isSome
def hSt (F : List Int → Option (List Int)) (S : List Int) (s : List Int × List Int) : List Int × List Int:=match F S with|some ns=>(S,ns)|none=>s
theorem runV_first (F : List Int → Option (List Int)) : ∀ (L : List (List Int)) (s : List Int × List Int),runV (hT F) (hSt F) L s = match firstF F L with|some r=>(true,r)|none=>(false,s)
|[],s=>rfl
|S :: L,s=>by
  rw [runV]
  cases e : F S with
 |none =>
   have h1 : hT F S = false:=by unfold hT;rw [e];rfl
   have h2 : hSt F S s = s:=by unfold hSt;rw [e]
   rw [h1,if_neg (by simp),h2,firstF_cons_none e]
   exact runV_first F L s
 |some ns =>
   have h1 : hT F S = true:=by unfold hT;rw [e];rfl
   have h2 : hSt F S s = (S,ns):=by unfold hSt;rw [e]
   rw [h1,if_pos rfl,h2,firstF_cons_some e]
def srch (F : List Int → Option (List Int)) (n : Nat) : Nat → Nat → Option (List Int × List Int)
|0,_=>none
|j + 1,kk=>match firstF F (chG kk n n []) with|some r=>some r|none=>srch F n j (kk + 1)
theorem chG_nil {kk n : Nat} (h : n < kk) : chG kk n n [] = []:=by
 unfold chG
 rw [if_neg (by simp;omega)]
 exact chL_nil kk n n [] (by simpa using h)
theorem srch_past (F : List Int → Option (List Int)) (n : Nat) : ∀ (j kk : Nat),n < kk → srch F n j kk = none
|0,_,_=>rfl
|j + 1,kk,h=>by
  rw [srch,chG_nil h]
  exact srch_past F n j (kk + 1) (by omega)
theorem srch_mem {F : List Int → Option (List Int)} {n : Nat} : ∀ {j kk : Nat} {r : List Int × List Int},srch F n j kk = some r → ∃ q,kk ≤ q ∧ q < kk + j ∧ r.1 ∈ chG q n n [] ∧ F r.1 = some r.2 ∧ ∀ q',kk ≤ q' → q' < q → firstF F (chG q' n n []) = none
|0,_,_,h=>by simp [srch] at h
|j + 1,kk,r,h=>by
  rw [srch] at h
  cases e : firstF F (chG kk n n []) with
 |some r2 =>
   rw [e] at h
   obtain rfl:=Option.some.inj h
   obtain ⟨a,b⟩:=firstF_mem e
   exact ⟨kk,Nat.le_refl _,by omega,a,b,fun q' _ _=>by omega⟩
 |none =>
   rw [e] at h
   obtain ⟨q,a,b,c,d,f⟩:=srch_mem h
   refine ⟨q,by omega,by omega,c,d,fun q' h1 h2=>?_⟩
   by_cases z : q' = kk
   ·rw [z]
    exact e
   ·exact f q' (by omega) h2
section
variable {ps : List (List Int)} {ls : List Int} {d : Nat} {F : List Int → Option (List Int)}
theorem vecs_ev (hs : smB ps ls = true) {S : List Int} {n : Nat} (h : Places ps ls S d n) (hn : n ≤ 100) : ∀ (j i : Nat) (acc : List (List Int)),i + j = n → acc = (vecsOf ps ls S).take i → Ev (fun k=>Gx.v0 ps ls S k acc (i : Int)) (vecsOf ps ls S)
|0,i,acc,hj,ha=>by
  have hl:=h.len
  refine Ev.step (f:=fun _=>some (vecsOf ps ls S)) (fun k=>?_) (ev_const _)
  rw [Gx.v0,if_neg (by omega),ha,List.take_of_length_le (by simp [vecsOf];omega)]
|j + 1,i,acc,hj,ha=>by
  have hl:=h.len
  have hi : i < S.length:=by omega
  have hiv : i < (vecsOf ps ls S).length:=by simp [vecsOf];omega
  obtain ⟨q1,q2,q3⟩:=h.ok S[i] (List.getElem_mem hi)
  have e : ((S[i].toNat : Nat) : Int) = S[i]:=by omega
  have sg : Ev (fun k=>Kk.f k ps ls S[i]) (signedL (rd ls S[i]) (rd_L1 ps S[i])):=ev_of 10 fun k hk=>by
   have:=impl_Sample_signed_is k ps ls S[i].toNat hs (by omega) hk
   rwa [e] at this
  have hal : acc.length ≤ 100:=by rw [ha,List.length_take];omega
  refine Ev.step (f:=fun k=>(Kk.f k ps ls S[i]).bind fun t=>(if acc.length < 5864062014805 then Gx.v0 ps ls S k (acc ++ [t]) (wrap64 ((i : Int) + 1)) else none)) (fun k=>?_) (Ev.bind sg (ev_if_pos (by omega) ?_))
  ·rw [Gx.v0,if_pos (by omega),if_pos (by omega),rd_vf,vf_get S i hi]
  ·rw [w64_nat (by omega)]
   refine vecs_ev hs h hn j (i + 1) _ (by omega) ?_
   rw [ha,List.take_succ_eq_append_getElem hiv]
   congr 1
   simp [vecsOf]
theorem visit_ev (hs : smB ps ls = true) {S : List Int} {n : Nat} (h : Places ps ls S d n) (hn : n ≤ 100) (hF : OneSet ps ls S d n (F S)) (s : List Int × List Int) : Ev (fun k=>Gx.v ps ls k s S) (hT F S,hSt F S s):=by
 have hl:=h.len
 unfold Gx.v
 refine Ev.bind (vecs_ev hs h hn n 0 [] (by omega) rfl) (Ev.bind hF.impl ?_)
 cases e : F S with
|none =>
  have h1 : hT F S = false:=by unfold hT;rw [e];rfl
  have h2 : hSt F S s = s:=by unfold hSt;rw [e]
  rw [h1,h2]
  exact ev_if_neg (by simp [toRes]) (ev_const _)
|some ns =>
  have h1 : hT F S = true:=by unfold hT;rw [e];rfl
  have h2 : hSt F S s = (S,ns):=by unfold hSt;rw [e]
  rw [h1,h2]
  refine ev_if_pos rfl ?_
  rw [impl_copied_is S (by omega)]
  exact ev_const _
def allF (ps : List (List Int)) (ls : List Int) (F : List Int → Option (List Int)) : Prop:=∀ kk,2 ≤ kk → kk ≤ (ps.headD []).length + 2 → ∀ S ∈ chG kk ps.length ps.length [],OneSet ps ls S (ps.headD []).length kk (F S)
theorem allF_some (hs : smB ps ls = true) (h0 : 0 < ps.length) : ∃ F,allF ps ls F:=by
 have each : ∀ S : List Int,∃ r,∀ kk,2 ≤ kk → kk ≤ (ps.headD []).length + 2 → S ∈ chG kk ps.length ps.length [] → OneSet ps ls S (ps.headD []).length kk r:=fun S=>by
  by_cases c : 2 ≤ S.length ∧ S.length ≤ (ps.headD []).length + 2 ∧ Asc ps.length S
  ·obtain ⟨r,hr⟩:=one_set (places_of hs c.2.2 h0) c.1 c.2.1
   refine ⟨r,fun kk _ _ hm=>?_⟩
   have:=(chG_asc kk ps.length S hm).2
   rw [← this]
   exact hr
  ·refine ⟨none,fun kk h1 h2 hm=>absurd ?_ c⟩
   obtain ⟨a,b⟩:=chG_asc kk ps.length S hm
   exact ⟨by omega,by omega,a⟩
 exact ⟨fun S=>Classical.choose (each S),fun kk h1 h2 S hm=>Classical.choose_spec (each S) kk h1 h2 hm⟩
def out3 (r : Option (List Int × List Int)) : List Int × List Int × Bool:=match r with|some q=>(q.1,q.2,true)|none=>([],[],false)
def out2 (r : Option (List Int × List Int)) : List Int × List Int:=match r with|some q=>q|none=>([],[])
theorem hard_l (hs : smB ps ls = true) (h0 : 0 < ps.length) (hF : allF ps ls F) : ∀ (j kk : Nat) (s : List Int × List Int),2 ≤ kk → kk + j = (ps.headD []).length + 3 → Ev (fun k=>Gx.l0 ps ls k s (kk : Int)) (out3 (srch F ps.length j kk))
|j,kk,s,hk,hj=>by
  obtain ⟨h16,hlen,hlb,hrow⟩:=smB_parts hs
  have e0 : rd_L1 ps 0 = ps.headD []:=by cases ps <;> simp [rd_L1]
  have d4 : 1 ≤ (ps.headD []).length ∧ (ps.headD []).length ≤ 4:=by
   cases ps with
  |nil=>simp at h0
  |cons a t=>exact (ptB_parts (hrow a (by simp)).1).2
  have em : mn (ps.length : Int) (wrap64 (((rd_L1 ps 0).length : Int) + 2)) = if (ps.headD []).length + 2 < ps.length then ((ps.headD []).length + 2 : Int) else (ps.length : Int):=by
   rw [e0,w64 (by omega) (by omega)]
   unfold mn
   by_cases c : (ps.headD []).length + 2 < ps.length
   ·rw [if_pos (by omega),if_pos c]
   ·rw [if_neg (by omega),if_neg c]
  by_cases c : kk ≤ ps.length ∧ kk ≤ (ps.headD []).length + 2
  ·match j,hj with
  |0,hj=>omega
  |j + 1,hj =>
    have V:=impl_choices_ev (V:=Gx.v ps ls) (t:=hT F) (st:=hSt F) ps.length kk (by omega) s (fun S hS s'=>by
     obtain ⟨a,b⟩:=chG_asc kk ps.length S hS
     have pl:=places_of hs a h0
     rw [b] at pl
     exact visit_ev hs pl (by omega) (hF kk hk c.2 S hS) s')
    refine Ev.step (f:=fun k=>(Zk.f (Gx.v ps ls) k s (ps.length : Int) (kk : Int)).bind fun t=>(if t.1 = true then some (t.2.1,t.2.2,true) else Gx.l0 ps ls k t.2 (wrap64 ((kk : Int) + 1)))) (fun k=>?_) (Ev.bind V ?_)
    ·rw [Gx.l0,if_pos (by omega),em,if_pos (by split <;> omega)]
    ·rw [runV_first,srch]
     cases e : firstF F (chG kk ps.length ps.length []) with
    |some r=>exact ev_if_pos rfl (ev_const _)
    |none =>
      refine ev_if_neg (by simp) ?_
      rw [w64_nat (by omega)]
      exact hard_l hs h0 hF j (kk + 1) _ (by omega) (by omega)
  ·have e : srch F ps.length j kk = none:=by
    rcases Nat.lt_or_ge ps.length kk with q|q
    ·exact srch_past F _ j kk q
    ·obtain rfl : j = 0:=by omega
     rfl
   rw [e]
   refine Ev.step (f:=fun _=>some ([],[],false)) (fun k=>?_) (ev_const _)
   rw [Gx.l0,if_pos (by omega),em,if_neg (by split <;> omega)]
theorem part_ev {S : List Int} {n : Nat} (h : Places ps ls S d n) (hn : n ≤ 100) : ∀ (j i : Nat) (a : List (List Int)) (b : List Int),i + j = n → a = (ptsOf ps S).take i → b = (labsOf ls S).take i → Ev (fun k=>Jz1.l0 k S (i : Int) ps ls a b) (ptsOf ps S,labsOf ls S)
|0,i,a,b,hj,ha,hb=>by
  have hl:=h.len
  refine Ev.step (f:=fun _=>some (ptsOf ps S,labsOf ls S)) (fun k=>?_) (ev_const _)
  rw [Jz1.l0,if_neg (by omega),ha,hb,List.take_of_length_le (by simp [ptsOf];omega),List.take_of_length_le (by simp [labsOf];omega)]
|j + 1,i,a,b,hj,ha,hb=>by
  have hl:=h.len
  have hi : i < S.length:=by omega
  have hip : i < (ptsOf ps S).length:=by simp [ptsOf];omega
  have hil : i < (labsOf ls S).length:=by simp [labsOf];omega
  obtain ⟨q1,q2,q3⟩:=h.ok S[i] (List.getElem_mem hi)
  have hal : a.length ≤ 100:=by rw [ha,List.length_take];omega
  have hbl : b.length ≤ 100:=by rw [hb,List.length_take];omega
  have hp:=(h.pt i (by omega)).1
  rw [ptsOf_get ps S i hi] at hp
  have d4:=h.d4
  refine Ev.step (fun k=>?_) (part_ev h hn j (i + 1) (a ++ [rd_L1 ps S[i]]) (b ++ [rd ls S[i]]) (by omega) ?_ ?_)
  ·rw [Jz1.l0,if_pos (by omega),if_pos (by omega),rd_vf,vf_get S i hi,if_pos (by omega),if_pos (by omega),spec_l1Own_is _ (by omega)]
   simp only [Option.bind_some]
   rw [if_pos (by omega),if_pos (by omega),if_pos (by omega),w64_nat (by omega)]
  ·rw [ha,List.take_succ_eq_append_getElem hip]
   congr 1
   simp [ptsOf]
  ·rw [hb,List.take_succ_eq_append_getElem hil]
   congr 1
   simp [labsOf]
theorem spec_l2Part_ev {S : List Int} {n : Nat} (h : Places ps ls S d n) (hn : n ≤ 100) : Ev (fun k=>Jz1.f k ps ls S) (ptsOf ps S,labsOf ls S):=by
 have hl:=h.len
 unfold Jz1.f
 exact part_ev h hn n 0 [] [] (by omega) rfl rfl
theorem find_l1 (hs : smB ps ls = true) (h0 : 0 < ps.length) (hF : allF ps ls F) (kk : Nat) (hk : 2 ≤ kk) (hkd : kk ≤ (ps.headD []).length + 2) (L : List (List Int)) (hL : L = chG kk ps.length ps.length []) {out : List Int × List Int}
  (h : firstF F L = none → Ev (fun k=>Kx1.l0 k (wrap64 ((kk : Int) + 1)) ps ls) out) (h2 : ∀ r,firstF F L = some r → out = r) : ∀ (j i : Nat),i + j = L.length → firstF F L = firstF F (L.drop i) → Ev (fun k=>Kx1.l1 k (kk : Int) L (i : Int) ps ls) out
|0,i,hj,hi=>by
  rw [List.drop_of_length_le (by omega)] at hi
  refine Ev.step (fun k=>?_) (h hi)
  rw [Kx1.l1,if_neg (by omega)]
|j + 1,i,hj,hi=>by
  have hlt : i < L.length:=by omega
  have hmem : L[i] ∈ chG kk ps.length ps.length []:=by rw [← hL];exact List.getElem_mem hlt
  have hll : L.length ≤ 1000000:=by
   obtain ⟨h16,_⟩:=smB_parts hs
   rw [hL]
   have:=chG_len kk ps.length ps.length []
   have p : 2 ^ ps.length ≤ 2 ^ 16:=Nat.pow_le_pow_right (by omega) h16
   have : (2 : Nat) ^ 16 = 65536:=by decide
   omega
  obtain ⟨asc,len⟩:=chG_asc kk ps.length _ hmem
  have pl:=places_of hs asc h0
  rw [len] at pl
  have d4:=pl.d4
  have O:=hF kk hk hkd _ hmem
  have er : rd_L1 L (i : Int) = L[i]:=by rw [rdL_nat,getD_get _ _ hlt]
  have pn : (ptsOf ps L[i]).length = kk:=by simp [ptsOf,len]
  have EQ:=spec_l4Equations_ev (d:=(ps.headD []).length) pn (by omega) (fun v hv=>by
   obtain ⟨q,hq,rfl⟩:=List.getElem_of_mem hv
   have:=(pl.pt q (by omega)).1
   rwa [getD_get _ _ hq] at this) (by omega) (by omega)
  have next : F L[i] = none → Ev (fun k=>Kx1.l1 k (kk : Int) L (wrap64 ((i : Int) + 1)) ps ls) out:=fun e=>by
   rw [w64_nat (by omega)]
   refine find_l1 hs h0 hF kk hk hkd L hL h h2 j (i + 1) (by omega) ?_
   rw [hi,List.drop_eq_getElem_cons hlt,firstF_cons_none e]
  refine Ev.step (fun k=>by rw [Kx1.l1,if_pos (by omega),if_pos (by omega),er]) (Ev.bind (spec_l2Part_ev pl (by omega)) (Ev.bind EQ ?_))
  rcases O.spec with ⟨e,R⟩|⟨z,R,G⟩
  ·exact Ev.bind R (ev_if_neg (by simp) (next e))
  ·refine Ev.bind R (ev_if_pos rfl (Ev.bind G ?_))
   cases e : F L[i] with
  |none =>
    refine ev_if_neg (by simp [toRes]) (next e)
  |some ns =>
    refine ev_if_pos rfl ?_
    rw [List.drop_eq_getElem_cons hlt,firstF_cons_some e] at hi
    have:=h2 _ hi
    rw [this]
    exact ev_const _
theorem find_l0 (hs : smB ps ls = true) (h0 : 0 < ps.length) (hF : allF ps ls F) : ∀ (j kk : Nat),2 ≤ kk → kk + j = (ps.headD []).length + 3 → Ev (fun k=>Kx1.l0 k (kk : Int) ps ls) (out2 (srch F ps.length j kk))
|j,kk,hk,hj=>by
  obtain ⟨h16,hlen,hlb,hrow⟩:=smB_parts hs
  have e0 : rd_L1 ps 0 = ps.headD []:=by cases ps <;> simp [rd_L1]
  have d4 : 1 ≤ (ps.headD []).length ∧ (ps.headD []).length ≤ 4:=by
   cases ps with
  |nil=>simp at h0
  |cons a t=>exact (ptB_parts (hrow a (by simp)).1).2
  have ew : wrap64 (((ps.headD []).length : Int) + 2) = ((ps.headD []).length : Int) + 2:=w64 (by omega) (by omega)
  match j,hj with
 |0,hj =>
   refine Ev.step (f:=fun _=>some ([],[])) (fun k=>?_) (ev_const _)
   rw [Kx1.l0,if_pos (by omega),e0,ew,if_neg (by omega)]
 |j + 1,hj =>
   refine Ev.step (f:=fun k=>(Vz1.f k (ps.length : Int) (kk : Int) (([] : List Int))).bind fun t=>(Kx1.l1 k (kk : Int) t 0 ps ls)) (fun k=>?_) (Ev.bind (spec_l4Choose_ev ps.length kk (by omega)) ?_)
   ·rw [Kx1.l0,if_pos (by omega),e0,ew,if_pos (by omega)]
   ·refine find_l1 hs h0 hF kk hk (by omega) _ rfl (fun e=>?_) (fun r e=>?_) (chG kk ps.length ps.length []).length 0 (by omega) (by rw [List.drop_zero])
    ·rw [w64_nat (by omega),srch,e]
     exact find_l0 hs h0 hF j (kk + 1) (by omega) (by omega)
    ·rw [srch,e]
     rfl
end
theorem hard_find {ps : List (List Int)} {ls : List Int} (hs : smB ps ls = true) : ∃ r : Option (List Int × List Int),Ev (fun k=>Gx.f k ps ls) (out3 r) ∧ Ev (fun k=>Kx1.f k ps ls) (out2 r) ∧ ∀ q,r = some q → 2 ≤ q.1.length ∧ q.2.length = q.1.length ∧ Asc ps.length q.1 ∧ q.1.length ≤ 16:=by
 by_cases h0 : ps.length = 0
 ·refine ⟨none,?_,?_,fun q e=>by simp at e⟩
  ·unfold Gx.f
   exact ev_if_pos (by omega) (ev_const _)
  ·unfold Kx1.f
   exact ev_if_pos (by omega) (ev_const _)
 ·obtain ⟨F,hF⟩:=allF_some hs (by omega)
  refine ⟨srch F ps.length ((ps.headD []).length + 1) 2,?_,?_,fun q e=>?_⟩
  ·unfold Gx.f
   exact ev_if_neg (by omega) (hard_l hs (by omega) hF _ 2 _ (by omega) (by omega))
  ·unfold Kx1.f
   exact ev_if_neg (by omega) (find_l0 hs (by omega) hF _ 2 (by omega) (by omega))
  ·obtain ⟨kk,a,b,c,e2,_⟩:=srch_mem e
   obtain ⟨asc,len⟩:=chG_asc kk ps.length _ c
   have O:=hF kk a (by omega) _ c
   obtain ⟨h16,_⟩:=smB_parts hs
   have y:=(O.yes _ e2).1
   refine ⟨by omega,by omega,asc,?_⟩
   apply Classical.byContradiction
   intro z
   rw [chG_nil (by omega)] at c
   simp at c
theorem chG_all (kk n : Nat) : ∀ (f : Nat) (set R : List Int),f ≤ n → R.Pairwise (· < ·) → (∀ x ∈ R,((n - f : Nat) : Int) ≤ x ∧ x < (n : Int)) → set.length + R.length = kk → set ++ R ∈ chG kk n f set
|f,set,[],hf,hp,hr,hl=>by
  have : set.length = kk:=by simpa using hl
  unfold chG
  rw [if_pos this,List.append_nil]
  exact List.mem_singleton.2 rfl
|0,set,r :: R,hf,hp,hr,hl=>by
  have:=hr r (List.mem_cons_self ..)
  omega
|f + 1,set,r :: R,hf,hp,hr,hl=>by
  have hl2 : set.length + (R.length + 1) = kk:=hl
  have hp2:=List.pairwise_cons.1 hp
  have hrr:=hr r (List.mem_cons_self ..)
  unfold chG
  rw [if_neg (by omega),chL_succ]
  by_cases c : r = ((n - (f + 1) : Nat) : Int)
  ·refine List.mem_append_left _ ?_
   have:=chG_all kk n f (set ++ [r]) R (by omega) hp2.2 (fun x hx=>by
    have a1:=hp2.1 x hx
    have a2:=hr x (List.mem_cons_of_mem _ hx)
    omega) (by rw [List.length_append,List.length_singleton];omega)
   rw [List.append_assoc,List.singleton_append] at this
   rw [← c]
   exact this
  ·refine List.mem_append_right _ ?_
   have:=chG_all kk n f set (r :: R) (by omega) hp (fun x hx=>by
    have a2:=hr x hx
    rcases List.mem_cons.1 hx with rfl|hx
    ·omega
    ·have a1:=hp2.1 x hx
     omega) hl
   unfold chG at this
   rw [if_neg (by omega)] at this
   exact this
theorem chG_mem {kk n : Nat} {S : List Int} (h : Asc n S) (hl : S.length = kk) : S ∈ chG kk n n []:=by
 have:=chG_all kk n n [] S (Nat.le_refl _) h.1 (fun x hx=>by have:=h.2 x hx;omega) (by simpa using hl)
 simpa using this
theorem asc_len {n : Nat} {S : List Int} (h : Asc n S) : S.length ≤ n:=by
 by_cases c : n < S.length
 ·have:=chG_mem h rfl
  rw [chG_nil c] at this
  simp at this
 ·omega
def lf (S : List Int) : Nat → List Int
|0=>[]
|i + 1=>if S.any (fun x=>decide (x = (i : Int))) = true then lf S i else lf S i ++ [(i : Int)]
theorem lf_len (S : List Int) : ∀ i,(lf S i).length ≤ i
|0=>Nat.le_refl _
|i + 1=>by
  have:=lf_len S i
  rw [lf]
  split
  ·omega
  ·rw [List.length_append,List.length_singleton]
   omega
theorem lf_asc (S : List Int) : ∀ i,Asc i (lf S i)
|0=>⟨List.Pairwise.nil,by simp [lf]⟩
|i + 1=>by
  obtain ⟨h1,h2⟩:=lf_asc S i
  rw [lf]
  split
  ·exact ⟨h1,fun x hx=>by have:=h2 x hx;omega⟩
  ·refine ⟨List.pairwise_append.2 ⟨h1,List.pairwise_singleton _ _,fun x hx y hy=>?_⟩,fun x hx=>?_⟩
   ·rw [List.mem_singleton.1 hy]
    exact (h2 x hx).2
   ·rcases List.mem_append.1 hx with hx|hx
    ·have:=h2 x hx
     omega
    ·rw [List.mem_singleton.1 hx]
     omega
theorem any_one (S : List Int) (i : Nat) (h : i < S.length) (a : Int) : (S.drop i).any (fun x=>decide (x = a)) = (decide (S[i] = a) || (S.drop (i + 1)).any fun x=>decide (x = a)):=by
 rw [List.drop_eq_getElem_cons h,List.any_cons]
theorem index_l (S : List Int) (a : Int) (hS : S.length ≤ 1000) : ∀ (j i : Nat),i + j = S.length → ∃ r : Int,Ev (fun k=>Gq1.l0 k S a (S.length : Int) (i : Int)) r ∧ decide (r ≥ 0) = (S.drop i).any fun x=>decide (x = a)
|0,i,hj=>by
  refine ⟨-1,Ev.step (f:=fun _=>some (-1)) (fun k=>?_) (ev_const _),?_⟩
  ·rw [Gq1.l0,if_neg (by omega)]
  ·rw [List.drop_of_length_le (by omega)]
   rfl
|j + 1,i,hj=>by
  have hi : i < S.length:=by omega
  rw [any_one S i hi a]
  by_cases c : S[i] = a
  ·refine ⟨(i : Int),Ev.step (f:=fun _=>some (i : Int)) (fun k=>?_) (ev_const _),?_⟩
   ·rw [Gq1.l0,if_pos (by omega),if_pos (by omega),if_pos (by omega),rd_vf,vf_get S i hi,if_pos c.symm]
   ·rw [decide_eq_true c,Bool.true_or,decide_eq_true_eq]
    omega
  ·obtain ⟨r,h1,h2⟩:=index_l S a hS j (i + 1) (by omega)
   refine ⟨r,Ev.step (fun k=>?_) h1,?_⟩
   ·rw [Gq1.l0,if_pos (by omega),if_pos (by omega),if_pos (by omega),rd_vf,vf_get S i hi,if_neg (fun e=>c e.symm),w64_nat (by omega)]
   ·rw [decide_eq_false c,Bool.false_or]
    exact h2
theorem has_ev (S : List Int) (a : Int) (hS : S.length ≤ 1000) : Ev (fun k=>Vq1.f k S a) (S.any fun x=>decide (x = a)):=by
 obtain ⟨r,h1,h2⟩:=index_l S a hS S.length 0 (by omega)
 rw [List.drop_zero] at h2
 unfold Vq1.f Gq1.f
 refine Ev.bind h1 ?_
 rw [h2]
 exact ev_const _
theorem without_l (S : List Int) (hS : S.length ≤ 1000) (n : Nat) (hn : n ≤ 1000) : ∀ (j i : Nat),i + j = n → Ev (fun k=>Zv.l0 k S (lf S i) (n : Int) (i : Int)) (lf S n)
|0,i,hj=>by
  obtain rfl : i = n:=by omega
  refine Ev.step (f:=fun _=>some (lf S i)) (fun k=>?_) (ev_const _)
  rw [Zv.l0,if_neg (by omega)]
|j + 1,i,hj=>by
  have hl:=lf_len S i
  have ih:=without_l S hS n hn j (i + 1) (by omega)
  refine Ev.step (f:=fun k=>(Vq1.f k S (i : Int)).bind fun t478=>(if t478 = true then (Zv.l0 k S (lf S i) (n : Int) (wrap64 ((i : Int) + 1))) else (if (lf S i).length < 17592186044416 then (Zv.l0 k S (lf S i ++ [(i : Int)]) (n : Int) (wrap64 ((i : Int) + 1))) else (none)))) (fun k=>by rw [Zv.l0,if_pos (by omega)]) (Ev.bind (has_ev S (i : Int) hS) ?_)
  rw [w64_nat (by omega)]
  rw [lf] at ih
  by_cases c : (S.any fun x=>decide (x = (i : Int))) = true
  ·rw [if_pos c] at ih
   exact ev_if_pos c ih
  ·rw [if_neg c] at ih
   exact ev_if_neg c (ev_if_pos (by omega) ih)
theorem without_ev (S : List Int) (hS : S.length ≤ 1000) (n : Nat) (hn : n ≤ 1000) : Ev (fun k=>Zv.f k (n : Int) S) (lf S n):=without_l S hS n hn n 0 (by omega)
theorem left_l (S : List Int) (hS : S.length ≤ 1000) (n : Nat) (hn : n ≤ 1000) : ∀ (j i : Nat),i + j = n → Ev (fun k=>Xx1.l0 k (n : Int) S (lf S i) (i : Int)) (lf S n)
|0,i,hj=>by
  obtain rfl : i = n:=by omega
  refine Ev.step (f:=fun _=>some (lf S i)) (fun k=>?_) (ev_const _)
  rw [Xx1.l0,if_neg (by omega)]
|j + 1,i,hj=>by
  have hl:=lf_len S i
  have ih:=left_l S hS n hn j (i + 1) (by omega)
  have hh : Ev (fun k=>Kj1.f k S (i : Int)) (S.any fun x=>decide (x = (i : Int))):=ev_of 1001 fun k hk=>spec_l1Has_is k S (i : Int) (by omega) (by omega)
  refine Ev.step (f:=fun k=>(Kj1.f k S (i : Int)).bind fun t340=>(if t340 = true then (Xx1.l0 k (n : Int) S (lf S i) (wrap64 ((i : Int) + 1))) else (if (lf S i).length < 17592186044416 then (Xx1.l0 k (n : Int) S (lf S i ++ [(i : Int)]) (wrap64 ((i : Int) + 1))) else (none)))) (fun k=>by rw [Xx1.l0,if_pos (by omega)]) (Ev.bind hh ?_)
  rw [w64_nat (by omega)]
  rw [lf] at ih
  by_cases c : (S.any fun x=>decide (x = (i : Int))) = true
  ·rw [if_pos c] at ih
   exact ev_if_pos c ih
  ·rw [if_neg c] at ih
   exact ev_if_neg c (ev_if_pos (by omega) ih)
theorem left_ev (S : List Int) (hS : S.length ≤ 1000) (n : Nat) (hn : n ≤ 1000) : Ev (fun k=>Xx1.f k (n : Int) S) (lf S n):=left_l S hS n hn n 0 (by omega)
section
variable {ps : List (List Int)} {ls : List Int} {d : Nat}
theorem row_of (hs : smB ps ls = true) {x : Int} (h0 : 0 ≤ x) (h1 : x < ps.length) : ∃ r,r ∈ ps ∧ rd_L1 ps x = r ∧ ∃ b,b ∈ ls ∧ rd ls x = b:=by
 obtain ⟨h16,hlen,hlb,hrow⟩:=smB_parts hs
 refine ⟨ps[x.toNat]'(by omega),List.getElem_mem _,?_,ls[x.toNat]'(by omega),List.getElem_mem _,?_⟩
 ·unfold rd_L1
  rw [getD_get _ _ (by omega)]
 ·unfold rd
  rw [List.getD_eq_getElem?_getD,List.getElem?_eq_getElem (by omega)]
  rfl
theorem part_sm (hs : smB ps ls = true) {T : List Int} (ha : Asc ps.length T) (hT : T.length ≤ 16) : smB (ptsOf ps T) (labsOf ls T) = true:=by
 obtain ⟨h16,hlen,hlb,hrow⟩:=smB_parts hs
 unfold smB
 simp only [Bool.and_eq_true,decide_eq_true_eq,List.all_eq_true]
 have hd : T ≠ [] → ((ptsOf ps T).headD []).length = (ps.headD []).length:=fun hne=>by
  cases T with
 |nil=>exact absurd rfl hne
 |cons t T =>
   have q:=ha.2 t (List.mem_cons_self ..)
   obtain ⟨r,hr,e,_⟩:=row_of hs q.1 q.2
   show (rd_L1 ps t).length = _
   rw [e]
   exact (hrow r hr).2
 refine ⟨⟨⟨by simpa [ptsOf] using hT,by simp [ptsOf,labsOf]⟩,fun x hx=>?_⟩,fun x hx=>?_⟩
 ·obtain ⟨t,ht,rfl⟩:=List.mem_map.1 hx
  have q:=ha.2 t ht
  obtain ⟨r,hr,e,b,hb,e2⟩:=row_of hs q.1 q.2
  rw [e2]
  exact List.all_eq_true.1 hlb b hb
 ·obtain ⟨t,ht,rfl⟩:=List.mem_map.1 hx
  have q:=ha.2 t ht
  obtain ⟨r,hr,e,_⟩:=row_of hs q.1 q.2
  rw [hd (fun z=>by rw [z] at ht;simp at ht),e]
  exact ⟨(hrow r hr).1,(hrow r hr).2⟩
theorem can_one (hs : smB ps ls = true) : ∃ b,Ev (fun k=>Vx.f k ps ls) b ∧ Ev (fun k=>Zz1.f k ps ls) b ∧ (ps.length ≤ 1 → b = true):=by
 obtain ⟨r,h1,h2,h3⟩:=hard_find hs
 refine ⟨r.isNone,?_,?_,fun h=>?_⟩
 ·unfold Vx.f
  refine Ev.bind h1 ?_
  cases r with
 |none=>exact ev_const _
 |some q=>exact ev_const _
 ·unfold Zz1.f
  refine Ev.bind h2 ?_
  cases r with
 |none=>exact ev_const _
 |some q =>
   have:=(h3 q rfl).1
   show Ev (fun _=>some ((q.1.length : Int) == 0)) false
   have e : ((q.1.length : Int) == 0) = false:=by
    rw [beq_eq_false_iff_ne]
    omega
   rw [e]
   exact ev_const _
 ·cases r with
 |none=>rfl
 |some q =>
   obtain ⟨a,_,b,_⟩:=h3 q rfl
   have:=asc_len b
   omega
theorem ipart_l {T : List Int} (hT : T.length ≤ 100) (ok : ∀ x ∈ T,0 ≤ x ∧ x < ps.length ∧ x < ls.length ∧ (rd_L1 ps x).length ≤ 100) : ∀ (j i : Nat) (a : List (List Int)) (b : List Int),i + j = T.length → a = (ptsOf ps T).take i → b = (labsOf ls T).take i → Ev (fun k=>Jk.l0 k T (T.length : Int) (i : Int) ps ls a b) (ptsOf ps T,labsOf ls T)
|0,i,a,b,hj,ha,hb=>by
  refine Ev.step (f:=fun _=>some (ptsOf ps T,labsOf ls T)) (fun k=>?_) (ev_const _)
  rw [Jk.l0,if_neg (by omega),ha,hb,List.take_of_length_le (by simp [ptsOf];omega),List.take_of_length_le (by simp [labsOf];omega)]
|j + 1,i,a,b,hj,ha,hb=>by
  have hi : i < T.length:=by omega
  have hp : i < (ptsOf ps T).length:=by simpa [ptsOf] using hi
  have hq : i < (labsOf ls T).length:=by simpa [labsOf] using hi
  obtain ⟨q1,q2,q3,q4⟩:=ok T[i] (List.getElem_mem hi)
  have la : a.length ≤ 100:=by rw [ha,List.length_take];omega
  have lb : b.length ≤ 100:=by rw [hb,List.length_take];omega
  refine Ev.step (fun k=>?_) (ipart_l hT ok j (i + 1) (a ++ [rd_L1 ps T[i]]) (b ++ [rd ls T[i]]) (by omega) ?_ ?_)
  ·rw [Jk.l0,if_pos (by omega),if_pos (by omega),if_pos (by omega),rd_vf,vf_get T i hi,if_pos (by omega),if_pos (by omega),impl_copied_is _ (by omega)]
   simp only [Option.bind_some]
   rw [if_pos (by simp only [List.length_singleton];omega),if_pos (by omega),if_pos (by simp only [List.length_singleton];omega),w64_nat (by omega)]
  ·rw [ha,List.take_succ_eq_append_getElem hp]
   congr 1
   simp [ptsOf]
  ·rw [hb,List.take_succ_eq_append_getElem hq]
   congr 1
   simp [labsOf]
def CanT (ps : List (List Int)) (ls : List Int) (c : List Int → Bool) : Prop:=∀ S,c S = true ∨ c S = false → ∃ b,c S = b ∧ (Ev (fun k=>Vx.f k (ptsOf ps (lf S ps.length)) (labsOf ls (lf S ps.length))) b ∧ Ev (fun k=>Zz1.f k (ptsOf ps (lf S ps.length)) (labsOf ls (lf S ps.length))) b ∧ ((lf S ps.length).length ≤ 1 → b = true))
theorem can_some (hs : smB ps ls = true) : ∃ c,CanT ps ls c:=by
 obtain ⟨h16,_⟩:=smB_parts hs
 have each : ∀ S : List Int,∃ b,Ev (fun k=>Vx.f k (ptsOf ps (lf S ps.length)) (labsOf ls (lf S ps.length))) b ∧ Ev (fun k=>Zz1.f k (ptsOf ps (lf S ps.length)) (labsOf ls (lf S ps.length))) b ∧ ((lf S ps.length).length ≤ 1 → b = true):=fun S=>by
  have hl:=lf_len S ps.length
  obtain ⟨b,h1,h2,h3⟩:=can_one (part_sm hs (lf_asc S ps.length) (by omega))
  refine ⟨b,h1,h2,fun h=>h3 (by simpa [ptsOf] using h)⟩
 exact ⟨fun S=>Classical.choose (each S),fun S _=>⟨_,rfl,Classical.choose_spec (each S)⟩⟩
theorem canT_at {c : List Int → Bool} (h : CanT ps ls c) (S : List Int) : Ev (fun k=>Vx.f k (ptsOf ps (lf S ps.length)) (labsOf ls (lf S ps.length))) (c S) ∧ Ev (fun k=>Zz1.f k (ptsOf ps (lf S ps.length)) (labsOf ls (lf S ps.length))) (c S) ∧ ((lf S ps.length).length ≤ 1 → c S = true):=by
 obtain ⟨b,e,q⟩:=h S (by cases c S <;> simp)
 rw [e]
 exact q
theorem lvisit_ev (hs : smB ps ls = true) {c : List Int → Bool} (hc : CanT ps ls c) (S s : List Int) (hS : S.length ≤ 1000) : Ev (fun k=>Zx.v ps ls k s S) (c S,S):=by
 obtain ⟨h16,hlen,hlb,hrow⟩:=smB_parts hs
 have hl:=lf_len S ps.length
 have asc:=lf_asc S ps.length
 have ip : Ev (fun k=>Jk.f k ps ls (lf S ps.length)) (ptsOf ps (lf S ps.length),labsOf ls (lf S ps.length)):=by
  unfold Jk.f
  refine ipart_l (by omega) (fun x hx=>?_) (lf S ps.length).length 0 [] [] (by omega) (by simp) (by simp)
  have q:=asc.2 x hx
  obtain ⟨r,hr,e,_⟩:=row_of hs q.1 q.2
  have:=(ptB_parts (hrow r hr).1).2
  rw [e]
  omega
 unfold Zx.v
 rw [impl_copied_is S (by omega)]
 exact Ev.bind (ev_const _) (Ev.bind (without_ev S hS ps.length (by omega)) (Ev.bind ip (Ev.bind (canT_at hc S).1 (ev_const _))))
def first (c : List Int → Bool) (n : Nat) : Nat → Nat → List Int
|0,_=>[]
|j + 1,kk=>match (chG kk n n []).find? c with|some S=>S|none=>first c n j (kk + 1)
theorem first_len (c : List Int → Bool) (n : Nat) : ∀ (j kk : Nat),(first c n j kk).length ≤ n
|0,kk=>by simp [first]
|j + 1,kk=>by
  rw [first]
  cases e : (chG kk n n []).find? c with
 |none=>exact first_len c n j (kk + 1)
 |some S =>
   have hm:=List.mem_of_find?_eq_some e
   have:=asc_len (chG_asc kk n S hm).1
   exact this
theorem runV_find (c : List Int → Bool) : ∀ (L : List (List Int)) (s : List Int),runV c (fun S _=>S) L s = match L.find? c with|some S=>(true,S)|none=>(false,L.foldl (fun _ S=>S) s)
|[],s=>rfl
|S :: L,s=>by
  rw [runV,List.find?_cons]
  by_cases h : c S = true
  ·rw [if_pos h,h]
  ·rw [if_neg h,Bool.eq_false_iff.2 h,runV_find c L S]
   rfl
theorem least_l (hs : smB ps ls = true) {c : List Int → Bool} (hc : CanT ps ls c) (hyes : ∀ m,m + 1 = ps.length → (chG m ps.length ps.length []).find? c ≠ none) : ∀ (j kk : Nat) (s : List Int),kk + (j + 1) = ps.length → Ev (fun k=>Zx.l0 ps ls k s (kk : Int)) (first c ps.length (j + 1) kk,true)
|j,kk,s,hj=>by
  obtain ⟨h16,_⟩:=smB_parts hs
  have ch:=impl_choices_ev (V:=Zx.v ps ls) (t:=c) (st:=fun S _=>S) ps.length kk (by omega) s (fun S hS s=>lvisit_ev hs hc S s (by have:=(chG_asc kk ps.length S hS).2;omega))
  rw [runV_find] at ch
  refine Ev.step (f:=fun k=>(Zk.f (Zx.v ps ls) k s (ps.length : Int) (kk : Int)).bind fun t=>(if t.1 = true then some (t.2,true) else Zx.l0 ps ls k t.2 (wrap64 ((kk : Int) + 1)))) (fun k=>by rw [Zx.l0]) (Ev.bind ch ?_)
  rw [first]
  cases e : (chG kk ps.length ps.length []).find? c with
 |some S=>exact ev_if_pos rfl (ev_const _)
 |none =>
   match j,hj with
  |0,hj=>exact absurd e (hyes kk (by omega))
  |j + 1,hj =>
    refine ev_if_neg (by simp) ?_
    rw [w64_nat (by omega)]
    exact least_l hs hc hyes j (kk + 1) _ (by omega)
theorem sleast_l1 (hs : smB ps ls = true) (h0 : 0 < ps.length) (h8 : ps.length ≤ 8) {c : List Int → Bool} (hc : CanT ps ls c) (kk : Nat) (L : List (List Int)) (hL : L = chG kk ps.length ps.length []) {out : List Int × Bool}
  (next : L.find? c = none → Ev (fun k=>Jj1.l0 k (wrap64 ((kk : Int) + 1)) ps ls) out) (hout : ∀ S,L.find? c = some S → out = (S,true)) :
  ∀ (j i : Nat),i + j = L.length → L.find? c = (L.drop i).find? c → Ev (fun k=>Jj1.l1 k (kk : Int) L (i : Int) ps ls) out
|0,i,hj,hi=>by
  rw [List.drop_of_length_le (by omega)] at hi
  refine Ev.step (fun k=>?_) (next (hi.trans rfl))
  rw [Jj1.l1,if_neg (by omega)]
|j + 1,i,hj,hi=>by
  have hlt : i < L.length:=by omega
  have hmem : L[i] ∈ chG kk ps.length ps.length []:=by rw [← hL];exact List.getElem_mem hlt
  have hll : L.length ≤ 1000000:=by
   rw [hL]
   have:=chG_len kk ps.length ps.length []
   have p : 2 ^ ps.length ≤ 2 ^ 8:=Nat.pow_le_pow_right (by omega) h8
   have : (2 : Nat) ^ 8 = 256:=by decide
   omega
  obtain ⟨asc,len⟩:=chG_asc kk ps.length _ hmem
  have al:=asc_len asc
  have hl:=lf_len L[i] ps.length
  have er : rd_L1 L (i : Int) = L[i]:=by rw [rdL_nat,getD_get _ _ hlt]
  have pl:=places_of hs (lf_asc L[i] ps.length) h0
  rw [List.drop_eq_getElem_cons hlt,List.find?_cons] at hi
  refine Ev.step (fun k=>by rw [Jj1.l1,if_pos (by omega),if_pos (by omega),er]) (Ev.bind (left_ev L[i] (by omega) ps.length (by omega)) (Ev.bind (spec_l2Part_ev pl (by omega)) (Ev.bind (canT_at hc L[i]).2.1 ?_)))
  by_cases q : c L[i] = true
  ·refine ev_if_pos q ?_
   rw [q] at hi
   rw [hout L[i] hi]
   exact ev_const _
  ·refine ev_if_neg q ?_
   rw [Bool.eq_false_iff.2 q] at hi
   rw [w64_nat (by omega)]
   exact sleast_l1 hs h0 h8 hc kk L hL next hout j (i + 1) (by omega) hi
theorem sleast_l0 (hs : smB ps ls = true) (h8 : ps.length ≤ 8) {c : List Int → Bool} (hc : CanT ps ls c) : ∀ (j kk : Nat),kk + j = ps.length → Ev (fun k=>Jj1.l0 k (kk : Int) ps ls) (first c ps.length j kk,true)
|0,kk,hj=>by
  refine Ev.step (f:=fun _=>some ([],true)) (fun k=>?_) (ev_const _)
  rw [Jj1.l0,if_neg (by omega)]
|j + 1,kk,hj=>by
  refine Ev.step (f:=fun k=>(Vz1.f k (ps.length : Int) (kk : Int) (([] : List Int))).bind fun t=>(Jj1.l1 k (kk : Int) t 0 ps ls)) (fun k=>by rw [Jj1.l0,if_pos (by omega)]) (Ev.bind (spec_l4Choose_ev ps.length kk (by omega)) ?_)
  refine sleast_l1 hs (by omega) h8 hc kk _ rfl (fun e=>?_) (fun S e=>?_) (chG kk ps.length ps.length []).length 0 (by omega) (by rw [List.drop_zero])
  ·rw [w64_nat (by omega),first,e]
   exact sleast_l0 hs h8 hc j (kk + 1) (by omega)
  ·rw [first,e]
theorem most (m : Nat) : Asc (m + 1) ((List.range m).map Int.ofNat) ∧ ((List.range m).map Int.ofNat).length = m ∧ (lf ((List.range m).map Int.ofNat) (m + 1)).length ≤ 1:=by
 refine ⟨⟨?_,fun x hx=>?_⟩,by simp,?_⟩
 ·rw [List.pairwise_map]
  exact List.pairwise_lt_range.imp fun h=>Int.ofNat_lt.2 h
 ·obtain ⟨t,ht,rfl⟩:=List.mem_map.1 hx
  have:=List.mem_range.1 ht
  show 0 ≤ (t : Int) ∧ (t : Int) < ((m + 1 : Nat) : Int)
  exact ⟨by omega,by omega⟩
 ·have nil : ∀ i,i ≤ m → lf ((List.range m).map Int.ofNat) i = []:=fun i=>by
   induction i with
  |zero=>exact fun _=>rfl
  |succ i ih =>
    intro h
    rw [lf,if_pos,ih (by omega)]
    rw [List.any_eq_true]
    exact ⟨(i : Int),List.mem_map.2 ⟨i,List.mem_range.2 (by omega),rfl⟩,decide_eq_true rfl⟩
  rw [lf,nil m (Nat.le_refl _)]
  split <;> simp
end
theorem least_same (ps : List (List Int)) (ls : List Int) (hr : ∀ r ∈ ps,r.length ≤ 1048576) (hm : ls.length ≤ 1048576) : ∃ q b,Ev (fun k=>Zx.f k ps ls) (q,b) ∧ Ev (fun k=>Jj1.f k ps ls) (q,b) ∧ q.length ≤ 1000:=by
 have e1 : Ev (fun k=>Yx.f k ps ls) (smB ps ls):=ev_of 1048600 fun k hk=>impl_IsSample_is k ps ls hr hm hk
 have e2 : Ev (fun k=>Yz1.f k ps ls) (smB ps ls):=ev_of 1048600 fun k hk=>spec_l2Sample_is k ps ls hr hm hk
 by_cases c : smB ps ls = true
 ·obtain ⟨h16,_⟩:=smB_parts c
  by_cases c8 : (ps.length : Int) > 8
  ·refine ⟨[],false,?_,?_,by simp⟩
   ·unfold Zx.f
    exact Ev.bind e1 (ev_if_pos c (ev_if_pos c8 (ev_const _)))
   ·unfold Jj1.f
    refine Ev.bind e2 (ev_if_pos c ?_)
    rw [decide_eq_true c8]
    exact Ev.step (f:=fun _=>some ([],false)) (fun k=>by rw [Jj1.j0,if_pos rfl]) (ev_const _)
  ·obtain ⟨C,hC⟩:=can_some c
   have sp : Ev (fun k=>Jj1.f k ps ls) (first C ps.length ps.length 0,true):=by
    unfold Jj1.f
    refine Ev.bind e2 (ev_if_pos c ?_)
    rw [decide_eq_false c8]
    exact Ev.step (fun k=>by rw [Jj1.j0,if_neg (by simp)];rfl) (sleast_l0 c (by omega) hC ps.length 0 (by omega))
   have fl:=first_len C ps.length ps.length 0
   refine ⟨first C ps.length ps.length 0,true,?_,sp,by omega⟩
   unfold Zx.f
   refine Ev.bind e1 (ev_if_pos c (ev_if_neg c8 ?_))
   obtain ⟨n,hn⟩ : ∃ n,ps.length = n:=⟨_,rfl⟩
   cases n with
  |zero =>
    have ch:=impl_choices_ev (V:=Zx.v ps ls) (t:=C) (st:=fun S _=>S) ps.length 0 (by omega) [] (fun S hS s=>lvisit_ev c hC S s (by have:=(chG_asc 0 ps.length S hS).2;omega))
    have y:=(canT_at hC []).2.2 (by have:=lf_len [] ps.length;omega)
    have e : chG 0 ps.length ps.length [] = [[]]:=by unfold chG;exact if_pos rfl
    rw [e,runV,if_pos y] at ch
    rw [hn,first]
    exact Ev.step (f:=fun k=>(Zk.f (Zx.v ps ls) k [] (ps.length : Int) 0).bind fun t=>(if t.1 = true then some (t.2,true) else Zx.l0 ps ls k t.2 (wrap64 (0 + 1)))) (fun k=>by rw [Zx.l0]) (Ev.bind ch (ev_if_pos rfl (ev_const _)))
  |succ m =>
    have yes : ∀ q,q + 1 = ps.length → (chG q ps.length ps.length []).find? C ≠ none:=fun q hq e=>by
     obtain ⟨a,b,z⟩:=most q
     rw [hq] at a z
     have:=List.find?_eq_none.1 e _ (chG_mem a b)
     exact this ((canT_at hC _).2.2 z)
    have:=least_l c hC yes m 0 [] (by omega)
    rw [hn] at this ⊢
    exact this
 ·refine ⟨[],false,?_,?_,by simp⟩
  ·unfold Zx.f
   exact Ev.bind e1 (ev_if_neg c (ev_const _))
  ·unfold Jj1.f
   refine Ev.bind e2 (ev_if_neg c ?_)
   exact Ev.step (f:=fun _=>some ([],false)) (fun k=>by rw [Jj1.j0,if_pos rfl]) (ev_const _)
theorem sz_ev (l : List (List Int)) (m : List Int) (hl : l.length ≤ 9223372036854775807) (hr : ∀ r ∈ l,r.length ≤ 9223372036854775807) (hm : m.length ≤ 9223372036854775807) : ∃ v,Ev (fun k=>Kq1.f k l m 1048576) v ∧ (v < 0 ∨ (0 ≤ v ∧ v ≤ 1048576 ∧ l.length ≤ 1048576 ∧ (∀ r ∈ l,r.length ≤ 1048576) ∧ m.length ≤ 1048576)):=by
 obtain ⟨v,hv,hc⟩:=laws_szSample_tells 1048577 l m 1048576 (by omega) (by omega) hl hr hm (by omega)
 exact ⟨v,Ev.of (fun k=>Kq1.mono _ _ _ k) hv,hc⟩
theorem mk_ev (l : List (List Int)) (m : List Int) (hl : l.length ≤ 1048576) (hr : ∀ r ∈ l,r.length ≤ 1048576) (hm : m.length ≤ 1048576) : ∃ v l' m',Ev (fun k=>Vw.f k l m 1) (v,l',m') ∧ 1 ≤ v:=by
 obtain ⟨v,l',m',h,h1,_⟩:=laws_markSample_tells 2097153 l m hl hr hm (by omega)
 exact ⟨v,l',m',Ev.of (fun k=>Vw.mono _ _ _ k) h,h1⟩
theorem FnExactLeastMistakes : ∀ (l0 : List (List Int)) (m0 : List Int),l0.length ≤ maxLen → (∀ r ∈ l0,r.length ≤ maxLen ∧ ∀ x ∈ r,(Lit.int .i64 x).wf = true) → m0.length ≤ maxLen → (∀ x ∈ m0,(Lit.int .i64 x).wf = true) → ∃ k,Vv.f k l0 m0 = some true:=by
 intro l m hl hr hm _
 unfold maxLen at hl hr hm
 refine Ev.rounds (g:=fun k=>Vv.f k l m) ?_
 unfold Vv.f
 obtain ⟨v,hv,hc⟩:=sz_ev l m (by omega) (fun r h=>by have:=(hr r h).1;omega) (by omega)
 refine Ev.bind hv ?_
 rcases hc with hc|⟨a1,a2,a3,a4,a5⟩
 ·exact ev_if_pos hc (ev_const _)
 ·have ts : Ev (fun k=>Zq1.f k l m) (l,m):=ev_of 3000000 fun k hk=>laws_toSample_is k l m a3 a4 a5 (by omega)
  have es : Ev (fun k=>Kw.f k l m l m) true:=ev_of 3000000 fun k hk=>laws_eqSample_same k l m a3 a4 a5 (by omega)
  obtain ⟨q,b,h1,h2,hq⟩:=least_same l m a4 a5
  have eq_ : Ev (fun k=>Gv.f k q q) true:=ev_of 3000000 fun k hk=>laws_eqIntS_same k q (by omega) (by omega)
  obtain ⟨w,l',m',mk,w1⟩:=mk_ev l m a3 a4 a5
  have ms : Ev (fun k=>Yw.f k q 1) (1 + q.length,marks 1 q.length):=ev_of 3000000 fun k hk=>laws_markIntS_is k q 1 (by omega) (by omega) (by omega) (by omega)
  have hs : Ev (fun k=>Xw.f k (marks 1 q.length) 1) (1 + q.length):=ev_of 3000000 fun k hk=>laws_heldIntS_is k q.length 1 (by omega) (by omega) (by omega) (by omega)
  refine ev_if_neg (by omega) (Ev.bind ts (Ev.bind h2 (Ev.bind ts (Ev.bind h1 (Ev.bind eq_ (ev_if_pos rfl ?_))))))
  refine Ev.step (fun k=>by rw [Vv.j0,if_neg (by simp)]) (Ev.bind ts (Ev.bind es (ev_if_pos rfl (Ev.bind mk (ev_if_neg (by show ¬ (w < 0);omega) (Ev.bind eq_ (ev_if_pos rfl ?_)))))))
  refine Ev.step (fun k=>by rw [Vv.j1,if_neg (by simp)]) (Ev.bind ms (Ev.bind hs (ev_if_neg (by show ¬ ((1 + (q.length : Int)) < 0);omega) (ev_if_pos rfl (Ev.bind ts (Ev.bind h1 (Ev.bind eq_ (ev_if_pos rfl ?_))))))))
  exact Ev.step (fun k=>by rw [Vv.j2,if_neg (by simp)]) (Ev.bind hs (ev_if_neg (by show ¬ ((1 + (q.length : Int)) < 0);omega) (ev_if_pos rfl (ev_const _))))
end Go.Proofs.Ytdjclffkidoohaa.Pure
end
