/- Plain facts on numbers, lists and whole-number linear algebra; no condition. -/
import Derived.Test.YtdjclffkidoohaaVFnPartings
section
set_option linter.unusedVariables false
set_option linter.unusedSimpArgs false
namespace Go.Proofs.Ytdjclffkidoohaa.Lin
def sm:Nat→(Nat→Int)→Int
|0,_=>0
|n+1,f=>sm n f+f n
theorem sm_congr:∀ {n:Nat} {f g:Nat→Int},(∀ k,k<n→f k=g k)→sm n f=sm n g
|0,_,_,_=>rfl
|n+1,f,g,h=>by
  simp only[sm]
  rw[sm_congr (n:=n) fun k hk=>h k (by omega),h n (by omega)]
theorem sm_zero:∀ {n:Nat} {f:Nat→Int},(∀ k,k<n→f k=0)→sm n f=0
|0,_,_=>rfl
|n+1,f,h=>by
  simp only[sm]
  rw[sm_zero (n:=n) fun k hk=>h k (by omega),h n (by omega)]
  rfl
theorem sm_add:∀ (n:Nat) (f g:Nat→Int),sm n (fun k=>f k+g k)=sm n f+sm n g
|0,_,_=>rfl
|n+1,f,g=>by
  simp only[sm,sm_add n f g]
  omega
theorem sm_mul:∀ (n:Nat) (a:Int) (f:Nat→Int),sm n (fun k=>a * f k)=a * sm n f
|0,a,_=>by simp[sm]
|n+1,a,f=>by
  simp only[sm,sm_mul n a f]
  rw[Int.mul_add]
theorem sm_single {n:Nat} {f:Nat→Int} {j:Nat} (hj:j<n) (h:∀ k,k<n→k≠j→f k=0):sm n f=f j:=by
 induction n with
|zero=>omega
|succ n ih =>
  simp only[sm]
  by_cases e:j=n
  ·subst e
   rw[sm_zero fun k hk=>h k (by omega) (by omega)]
   omega
  ·rw[ih (by omega) fun k hk=>h k (by omega),h n (by omega) (by omega)]
   omega
theorem sm_two {n:Nat} {f:Nat→Int} {i j:Nat} (hi:i<n) (hj:j<n) (hij:i≠j) (h:∀ k,k<n→k≠i→k≠j→f k=0):sm n f=f i+f j:=by
 have e:sm n f=sm n (fun k=>(if k=i then f k else 0)+(if k=i then 0 else f k)):=sm_congr fun k _=>by split <;> omega
 rw[e,sm_add,sm_single (f:=fun k=>if k=i then f k else 0) hi (fun k _ hk=>if_neg hk),sm_single (f:=fun k=>if k=i then 0 else f k) hj (fun k hk1 hk2=>by
  by_cases c:k=i
  ·simp[c]
  ·simp only[if_neg c]
   exact h k hk1 c hk2)]
 show (if i=i then f i else 0)+(if j=i then 0 else f j)=_
 rw[if_pos rfl,if_neg (Ne.symm hij)]
theorem sm_mono:∀ {n m:Nat} {f:Nat→Int},n≤m→(∀ k,n≤k→k<m→f k=0)→sm m f=sm n f
|n,0,f,h,_=>by
  obtain rfl:n=0:=by omega
  rfl
|n,m+1,f,h,hz=>by
  by_cases e:n=m+1
  ·rw[e]
  ·simp only[sm]
   rw[hz m (by omega) (by omega),sm_mono (n:=n) (m:=m) (by omega) fun k h1 h2=>hz k h1 (by omega)]
   omega
theorem sm_abs {B:Int} (hB:0≤B):∀ (n:Nat) (f:Nat→Int),(∀ k,k<n → -B≤f k∧f k≤B) → -(n * B)≤sm n f∧sm n f≤n * B
|0,f,_=>by simp[sm]
|n+1,f,h=>by
  have ih:=sm_abs hB n f fun k hk=>h k (by omega)
  have:=h n (by omega)
  have e:((n+1:Nat):Int) * B=n * B+B:=by
   rw[show ((n+1:Nat):Int)=(n:Int)+1 by omega,Int.add_mul,Int.one_mul]
  simp only[sm]
  omega
theorem sm_range {B:Int}:∀ (n:Nat) (f:Nat→Int),(∀ k,k<n→0≤f k∧f k≤B)→0≤sm n f∧sm n f≤n * B
|0,f,_=>by simp[sm]
|n+1,f,h=>by
  have ih:=sm_range n f fun k hk=>h k (by omega)
  have:=h n (by omega)
  have e:((n+1:Nat):Int) * B=n * B+B:=by
   rw[show ((n+1:Nat):Int)=(n:Int)+1 by omega,Int.add_mul,Int.one_mul]
  simp only[sm]
  omega
theorem sm_swap (n m:Nat) (f:Nat→Nat→Int):sm n (fun i=>sm m (fun j=>f i j))=sm m (fun j=>sm n (fun i=>f i j)):=by
 induction n with
|zero=>simp only[sm];rw[sm_zero fun _ _=>rfl]
|succ n ih =>
  simp only[sm]
  rw[ih,sm_add]
def QC (o:Nat→Nat→Int) (r:Nat) (v:Nat→Int):Prop:=∃ (s:Int) (c:Nat→Int),s≠0∧∀ x,s * v x=sm r (fun k=>c k * o k x)
theorem QC.congr {o:Nat→Nat→Int} {r:Nat} {u v:Nat→Int} (h:QC o r u) (e:∀ x,v x=u x):QC o r v:=by
 obtain⟨s,c,hs,h⟩:=h
 exact⟨s,c,hs,fun x=>by rw[e];exact h x⟩
theorem QC.base {o o':Nat→Nat→Int} {r:Nat} {u:Nat→Int} (h:QC o r u) (e:∀ k,k<r→o' k=o k):QC o' r u:=by
 obtain⟨s,c,hs,h⟩:=h
 exact⟨s,c,hs,fun x=>by rw[h x];exact sm_congr fun k hk=>by rw[e k hk]⟩
theorem QC.zero {o:Nat→Nat→Int} {r:Nat} {v:Nat→Int} (h:∀ x,v x=0):QC o r v :=
 ⟨1,fun _=>0,by omega,fun x=>by rw[h,sm_zero fun k _=>Int.zero_mul _];rfl⟩
theorem QC.lin {o:Nat→Nat→Int} {r:Nat} {u v:Nat→Int} (h1:QC o r u) (h2:QC o r v) (a b:Int):QC o r (fun x=>a * u x+b * v x):=by
 obtain⟨s1,c1,n1,h1⟩:=h1
 obtain⟨s2,c2,n2,h2⟩:=h2
 refine⟨s1 * s2,fun k=>a * s2 * c1 k+b * s1 * c2 k,Int.mul_ne_zero n1 n2,fun x=>?_⟩
 have e:sm r (fun k=>(a * s2 * c1 k+b * s1 * c2 k) * o k x)=sm r (fun k=>(a * s2) * (c1 k * o k x)+(b * s1) * (c2 k * o k x)):=sm_congr fun k _=>by grind
 rw[e,sm_add,sm_mul,sm_mul,←h1 x,←h2 x]
 grind
theorem QC.self {o:Nat→Nat→Int} {r k:Nat} (hk:k<r):QC o r (o k) :=
 ⟨1,fun j=>if j=k then 1 else 0,by omega,fun x=>by
  rw[sm_single (f:=fun j=>(if j=k then 1 else 0) * o j x) hk (fun j _ hj=>by simp[hj])]
  simp⟩
theorem QC.mono {o:Nat→Nat→Int} {r r':Nat} {v:Nat→Int} (h:QC o r v) (hr:r≤r'):QC o r' v:=by
 obtain⟨s,c,hs,h⟩:=h
 refine⟨s,fun k=>if k<r then c k else 0,hs,fun x=>?_⟩
 rw[h x,sm_mono (n:=r) (m:=r') hr fun k h1 _=>by show (if k<r then c k else 0) * o k x=0;rw[if_neg (by omega)];exact Int.zero_mul _]
 exact sm_congr fun k hk=>by show _=(if k<r then c k else 0) * o k x;rw[if_pos hk]
theorem QC.div {o:Nat→Nat→Int} {r:Nat} {v:Nat→Int} {t:Int} (h:QC o r (fun x=>t * v x)) (ht:t≠0):QC o r v:=by
 obtain⟨s,c,hs,h⟩:=h
 exact⟨s * t,c,Int.mul_ne_zero hs ht,fun x=>by rw[←h x];grind⟩
theorem QC.sum {o' o:Nat→Nat→Int} {r':Nat} (c:Nat→Int):∀ (r:Nat),(∀ k,k<r→QC o' r' (o k))→QC o' r' (fun x=>sm r (fun k=>c k * o k x))
|0,_=>QC.zero fun _=>rfl
|r+1,h=>by
  have:=(QC.sum c r fun k hk=>h k (by omega)).lin (h r (by omega)) 1 (c r)
  exact this.congr fun x=>by simp only[sm];omega
theorem QC.trans {o' o:Nat→Nat→Int} {r' r:Nat} {v:Nat→Int} (h:∀ k,k<r→QC o' r' (o k)) (hv:QC o r v):QC o' r' v:=by
 obtain⟨s,c,hs,hv⟩:=hv
 exact((QC.sum c r h).congr hv).div hs
theorem pigeon:∀ (M:Nat) (f:Nat→Nat),(∀ x,x<M+1→f x<M)→∃ x y,x<y∧y<M+1∧f x=f y
|0,f,h=>absurd (h 0 (by omega)) (by omega)
|M+1,f,h=>by
  by_cases c:∃ x,x<M+1∧f x=f (M+1)
  ·obtain⟨x,h1,h2⟩:=c
   exact⟨x,M+1,h1,by omega,h2⟩
  ·have hne:∀ x,x<M+1→f x≠f (M+1):=fun x hx e=>c ⟨x,hx,e⟩
   have hl:=h (M+1) (by omega)
   obtain⟨x,y,h1,h2,h3⟩:=pigeon M (fun x=>if f x<f (M+1) then f x else f x - 1) (fun x hx=>by
    have:=h x (by omega)
    have:=hne x hx
    show (if f x<f (M+1) then f x else f x - 1)<M
    split <;> omega)
   refine⟨x,y,h1,by omega,?_⟩
   have:=hne x (by omega)
   have:=hne y (by omega)
   try simp only at h3
   split at h3 <;> split at h3 <;> omega
theorem pigeon' {N M:Nat} (h:M<N) (f:Nat→Nat) (hf:∀ x,x<N→f x<M):∃ x y,x<y∧y<N∧f x=f y:=by
 obtain⟨x,y,h1,h2,h3⟩:=pigeon M f fun x hx=>hf x (by omega)
 exact⟨x,y,h1,by omega,h3⟩
def dig (b:Nat):Nat→Nat→Nat
|x,0=>x % b
|x,k+1=>dig b (x / b) k
theorem dig_lt {b:Nat} (hb:0<b):∀ (k x:Nat),dig b x k<b
|0,x=>Nat.mod_lt _ hb
|k+1,x=>dig_lt hb k (x / b)
theorem dig_same {b:Nat} (hb:0<b):∀ (N x y:Nat),x<b ^ N→y<b ^ N→(∀ k,k<N→dig b x k=dig b y k)→x=y
|0,x,y,hx,hy,_=>by simp at hx hy;omega
|N+1,x,y,hx,hy,h=>by
  have e:x / b=y / b:=dig_same hb N (x / b) (y / b) (Nat.div_lt_of_lt_mul (by rw[Nat.pow_succ,Nat.mul_comm] at hx;exact hx)) (Nat.div_lt_of_lt_mul (by rw[Nat.pow_succ,Nat.mul_comm] at hy;exact hy)) fun k hk=>h (k+1) (by omega)
  have m:x % b=y % b:=h 0 (by omega)
  rw[←Nat.div_add_mod x b,←Nat.div_add_mod y b,e,m]
def code (W:Nat):Nat→(Nat→Nat)→Nat
|0,_=>0
|n+1,y=>code W n y * W+y n
theorem code_lt {W:Nat}:∀ (n:Nat) (y:Nat→Nat),(∀ j,j<n→y j<W)→code W n y<W ^ n
|0,_,_=>by simp[code]
|n+1,y,h=>by
  have:=code_lt n y fun j hj=>h j (by omega)
  have h2:=h n (by omega)
  simp only[code,Nat.pow_succ]
  have:(code W n y+1) * W≤W ^ n * W:=Nat.mul_le_mul_right _ this
  rw[Nat.add_mul] at this
  omega
theorem code_same {W:Nat}:∀ (n:Nat) (y z:Nat→Nat),(∀ j,j<n→y j<W)→(∀ j,j<n→z j<W)→code W n y=code W n z→∀ j,j<n→y j=z j
|0,_,_,_,_,_=>fun j hj=>by omega
|n+1,y,z,hy,hz,h=>by
  have y1:=hy n (by omega)
  have z1:=hz n (by omega)
  simp only[code] at h
  have hW:0<W:=by omega
  have e:code W n y=code W n z:=by
   have a:=congrArg (· / W) h
   try simp only at a
   rw[Nat.mul_comm _ W,Nat.mul_add_div hW,Nat.div_eq_of_lt y1,Nat.mul_comm _ W,Nat.mul_add_div hW,Nat.div_eq_of_lt z1] at a
   omega
  have ih:=code_same n y z (fun j hj=>hy j (by omega)) (fun j hj=>hz j (by omega)) e
  intro j hj
  by_cases c:j=n
  ·subst c
   rw[e] at h
   omega
  ·exact ih j (by omega)
theorem siegel (N:Nat) (hN:1≤N) (B L:Nat) (hL:(N * B) ^ (N - 1)≤L) (hB:1≤B) (u:Nat→Nat→Int) (hu:∀ k,k<N→∀ j,j<N - 1 → -(B:Int)≤u k j∧u k j≤B) :
  ∃ c:Nat→Int,(∃ k,k<N∧c k≠0)∧(∀ k,-(L:Int)≤c k∧c k≤L)∧∀ j,j<N - 1→sm N (fun k=>c k * u k j)=0:=by
 have hNB:1≤N * B:=Nat.mul_pos hN hB
 have key:∀ (d:Int) (w:Int),0≤d→d≤L → -(B:Int)≤w→w≤B→0≤d * w+L * (if w<0 then -w else 0)∧d * w+L * (if w<0 then -w else 0)≤B * L:=by
  intro d w d0 d1 w0 w1
  by_cases c:w<0
  ·rw[if_pos c]
   have a:0≤(L - d) * (-w):=Int.mul_nonneg (by omega) (by omega)
   have b:(L - d) * (-w)≤L * B:=by
    have p:0≤(L:Int) * (B+w):=Int.mul_nonneg (by omega) (by omega)
    have q:0≤d * (-w):=Int.mul_nonneg (by omega) (by omega)
    rw[Int.mul_add] at p
    rw[Int.sub_mul]
    have e:(L:Int) * -w = -(L * w):=Int.mul_neg _ _
    omega
   have e:(L - d) * (-w)=d * w+L * (-w):=by grind
   rw[←e]
   exact⟨a,by rw[Int.mul_comm (B:Int)];exact b⟩
  ·rw[if_neg c,Int.mul_zero,Int.add_zero]
   refine⟨Int.mul_nonneg d0 (by omega),?_⟩
   have p:0≤((L:Int) - d) * w:=Int.mul_nonneg (by omega) (by omega)
   have q:0≤(L:Int) * (B - w):=Int.mul_nonneg (by omega) (by omega)
   rw[Int.sub_mul] at p
   rw[Int.mul_sub] at q
   rw[Int.mul_comm (B:Int)]
   omega
 let t (x k j:Nat):Int:=(dig (L+1) x k:Int) * u k j+L * (if u k j<0 then -(u k j) else 0)
 have ht:∀ x k j,k<N→j<N - 1→0≤t x k j∧t x k j≤(B * L:Nat):=fun x k j hk hj=>by
  have h1:=dig_lt (b:=L+1) (by omega) k x
  have:=key (dig (L+1) x k) (u k j) (by omega) (by omega) (hu k hk j hj).1 (hu k hk j hj).2
  simpa using this
 have hT:∀ x j,j<N - 1→0≤sm N (fun k=>t x k j)∧sm N (fun k=>t x k j)≤N * (B * L:Nat):=fun x j hj=>sm_range N _ fun k hk=>ht x k j hk hj
 let W:=N * B * L+1
 have hW:∀ x j,j<N - 1→(sm N (fun k=>t x k j)).toNat<W:=fun x j hj=>by
  have:=hT x j hj
  have e:(N:Int) * ((B * L:Nat):Int)=((N * B * L:Nat):Int):=by
   rw[Nat.mul_assoc]
   exact(Int.natCast_mul _ _).symm
  rw[e] at this
  show _<N * B * L+1
  omega
 have hlt:W ^ (N - 1)<(L+1) ^ N:=by
  have h1:W≤N * B * (L+1):=by
   show N * B * L+1≤_
   rw[Nat.mul_add]
   omega
  have h2:W ^ (N - 1)≤(N * B * (L+1)) ^ (N - 1):=Nat.pow_le_pow_left h1 _
  rw[Nat.mul_pow] at h2
  obtain⟨n,rfl⟩:∃ n,N=n+1:=⟨N - 1,by omega⟩
  simp only[Nat.add_sub_cancel] at h2 hL ⊢
  have h3:((n+1) * B) ^ n * (L+1) ^ n≤L * (L+1) ^ n:=Nat.mul_le_mul_right _ hL
  have h4:L * (L+1) ^ n<(L+1) ^ (n+1):=by
   rw[Nat.pow_succ,Nat.mul_comm _ (L+1)]
   exact Nat.mul_lt_mul_of_pos_right (by omega) (Nat.pow_pos (by omega))
  omega
 obtain⟨x,y,hxy,hy,he⟩:=pigeon' hlt (fun x=>code W (N - 1) (fun j=>(sm N (fun k=>t x k j)).toNat)) fun x _=>code_lt _ _ (hW x)
 have hs:=code_same (N - 1) _ _ (hW x) (hW y) he
 refine⟨fun k=>(dig (L+1) x k:Int) - dig (L+1) y k,?_,fun k=>?_,fun j hj=>?_⟩
 ·by_cases c:∃ k,k<N∧dig (L+1) x k≠dig (L+1) y k
  ·obtain⟨k,h1,h2⟩:=c
   exact⟨k,h1,by show (dig (L+1) x k:Int) - dig (L+1) y k≠0;omega⟩
  ·exfalso
   have:=dig_same (b:=L+1) (by omega) N x y (by omega) hy fun k hk=>Classical.byContradiction fun h=>c ⟨k,hk,h⟩
   omega
 ·have h1:=dig_lt (b:=L+1) (by omega) k x
  have h2:=dig_lt (b:=L+1) (by omega) k y
  show -(L:Int)≤(dig (L+1) x k:Int) - dig (L+1) y k∧(dig (L+1) x k:Int) - dig (L+1) y k≤L
  omega
 ·have h1:=hs j hj
  try simp only at h1
  have a:=hT x j hj
  have b:=hT y j hj
  have e:sm N (fun k=>t x k j)=sm N (fun k=>t y k j):=by omega
  have f:sm N (fun k=>t x k j)=sm N (fun k=>((dig (L+1) x k:Int) - dig (L+1) y k) * u k j+t y k j):=sm_congr fun k _=>by
   show (dig (L+1) x k:Int) * u k j+L * (if u k j<0 then -(u k j) else 0)=_+((dig (L+1) y k:Int) * u k j+L * (if u k j<0 then -(u k j) else 0))
   rw[Int.sub_mul]
   omega
  have g:=sm_add N (fun k=>((dig (L+1) x k:Int) - dig (L+1) y k) * u k j) (fun k=>t y k j)
  show sm N (fun k=>((dig (L+1) x k:Int) - dig (L+1) y k) * u k j)=0
  rw[g,e] at f
  omega
structure St (m r:Nat) (o row:Nat→Nat→Int) (p:Nat→Nat):Prop where
 hr:r≤m
 span:∀ j,j<r→QC o r (row j)
 back:∀ k,k<r→QC row r (o k)
 near:∀ i,r≤i→i<m→∃ a b:Int,a≠0∧b≠0∧QC o r (fun x=>a * row i x+b * o i x)
 piv:∀ j,j<r→row j (p j)≠0
 off:∀ j,j<r→∀ i,i<m→i≠j→row i (p j)=0
 ind:∀ c:Nat→Int,(∀ x,sm r (fun k=>c k * o k x)=0)→∀ k,k<r→c k=0
theorem St.start (m:Nat) (o:Nat→Nat→Int) (p:Nat→Nat):St m 0 o o p :=
 ⟨by omega,fun j hj=>by omega,fun k hk=>by omega,fun i _ _=>⟨1,-1,by omega,by omega,QC.zero fun x=>by omega⟩,fun j hj=>by omega,fun j hj=>by omega,fun c _ k hk=>by omega⟩
theorem St.vanish {m r:Nat} {o row:Nat→Nat→Int} {p:Nat→Nat} (h:St m r o row p) {y:Nat→Int} (hy:QC o r y) (hz:∀ j,j<r→y (p j)=0):∀ x,y x=0:=by
 obtain⟨s,c,hs,e⟩:=QC.trans h.back hy
 have hr:=h.hr
 have hc:∀ j,j<r→c j=0:=fun j hj=>by
  have q:=e (p j)
  rw[hz j hj,Int.mul_zero,sm_single hj (fun k hk hkj=>by rw[h.off j hj k (by omega) hkj,Int.mul_zero])] at q
  exact(Int.mul_eq_zero.1 q.symm).resolve_right (h.piv j hj)
 intro x
 have q:=e x
 rw[sm_zero fun k hk=>by rw[hc k hk,Int.zero_mul]] at q
 exact(Int.mul_eq_zero.1 q).resolve_left hs
def sw {α:Type} (i j:Nat) (f:Nat→α):Nat→α:=fun k=>if k=i then f j else if k=j then f i else f k
theorem sw_low {α:Type} {i j r:Nat} (f:Nat→α) (hi:r≤i) (hj:r≤j) (k:Nat) (hk:k<r):sw i j f k=f k:=by
 unfold sw
 rw[if_neg (by omega),if_neg (by omega)]
theorem sw_pick {α:Type} (i j m:Nat) (hi:i<m) (hj:j<m) (k:Nat) (hk:k<m):∃ l,l<m∧(∀ f:Nat→α,sw i j f k=f l)∧∀ r,r≤i→r≤j→(r≤k↔r≤l)∧(k<r→l=k):=by
 by_cases c1:k=i
 ·exact⟨j,hj,fun f=>by unfold sw;rw[if_pos c1],fun r h1 h2=>⟨by omega,by omega⟩⟩
 ·by_cases c2:k=j
  ·exact⟨i,hi,fun f=>by unfold sw;rw[if_neg c1,if_pos c2],fun r h1 h2=>⟨by omega,by omega⟩⟩
  ·exact⟨k,hk,fun f=>by unfold sw;rw[if_neg c1,if_neg c2],fun r h1 h2=>⟨by omega,by omega⟩⟩
theorem St.swap {m r:Nat} {o row:Nat→Nat→Int} {p:Nat→Nat} (h:St m r o row p) {i j:Nat} (hi:r≤i) (hj:r≤j) (him:i<m) (hjm:j<m):St m r (sw i j o) (sw i j row) p:=by
 have eo:∀ k,k<r→sw i j o k=o k:=sw_low o hi hj
 have er:∀ k,k<r→sw i j row k=row k:=sw_low row hi hj
 refine⟨h.hr,fun k hk=>?_,fun k hk=>?_,fun k hk hkm=>?_,fun k hk=>?_,fun k hk l hl hlk=>?_,fun c hc k hk=>?_⟩
 ·rw[er k hk]
  exact(h.span k hk).base eo
 ·rw[eo k hk]
  exact(h.back k hk).base er
 ·obtain⟨l,hl,e1,e2⟩:=sw_pick (α:=Nat→Int) i j m him hjm k hkm
  obtain⟨a,b,ha,hb,q⟩:=h.near l ((e2 r hi hj).1.1 hk) hl
  refine⟨a,b,ha,hb,?_⟩
  rw[e1,e1]
  exact q.base eo
 ·rw[er k hk]
  exact h.piv k hk
 ·obtain⟨l',hl',e1,e2⟩:=sw_pick (α:=Nat→Int) i j m him hjm l hl
  rw[e1]
  refine h.off k hk l' hl' fun e=>?_
  subst e
  have:=(e2 r hi hj).1.2
  by_cases c:l<r
  ·exact hlk ((e2 r hi hj).2 c).symm
  ·have:=(e2 r hi hj).1.1 (by omega)
   omega
 ·refine h.ind c (fun x=>?_) k hk
  rw[←hc x]
  exact sm_congr fun k hk=>by rw[eo k hk]
theorem St.step {m r:Nat} {o row row':Nat→Nat→Int} {p:Nat→Nat} (h:St m r o row p) (hrm:r<m) (c:Nat) (hc:row r c≠0)
  (hp:∃ e f:Int,e≠0∧f≠0∧∀ x,e * row' r x=f * row r x)
  (hi:∀ i,i<m→i≠r→∃ g:Int,g≠0∧∀ x,g * row' i x=row r c * row i x - row i c * row r x) :
  St m (r+1) o row' (fun j=>if j=r then c else p j):=by
 obtain⟨e,f,he,hf,hp⟩:=hp
 obtain⟨a,b,ha,hb,hn⟩:=h.near r (Nat.le_refl _) hrm
 have hr0:∀ j,j<r→row r (p j)=0:=fun j hj=>h.off j hj r hrm (by omega)
 have R:QC o (r+1) (row r):=by
  have:=(hn.mono (r':=r+1) (by omega)).lin (QC.self (o:=o) (k:=r) (r:=r+1) (by omega)) 1 (-b)
  exact(this.congr (v:=fun x=>a * row r x) fun x=>by grind).div ha
 have R':QC o (r+1) (row' r):=by
  have:=R.lin R f 0
  exact(this.congr (v:=fun x=>e * row' r x) fun x=>by rw[hp];grind).div he
 have B0:QC row' (r+1) (row r):=by
  have:=(QC.self (o:=row') (k:=r) (r:=r+1) (by omega)).lin (QC.self (o:=row') (k:=r) (r:=r+1) (by omega)) e 0
  exact(this.congr (v:=fun x=>f * row r x) fun x=>by rw[←hp];grind).div hf
 have B1:∀ j,j<r→QC row' (r+1) (row j):=fun j hj=>by
  obtain⟨g,hg,q⟩:=hi j (by omega) (by omega)
  have:=(QC.self (o:=row') (k:=j) (r:=r+1) (by omega)).lin B0 g (row j c)
  exact(this.congr (v:=fun x=>row r c * row j x) fun x=>by rw[q];grind).div hc
 have B2:∀ k,k<r→QC row' (r+1) (o k):=fun k hk=>QC.trans B1 (h.back k hk)
 refine⟨hrm,fun j hj=>?_,fun k hk=>?_,fun i hri him=>?_,fun j hj=>?_,fun j hj i him hij=>?_,fun d hd=>?_⟩
 ·by_cases ej:j=r
  ·subst ej
   exact R'
  ·obtain⟨g,hg,q⟩:=hi j (by omega) ej
   have:=((h.span j (by omega)).mono (r':=r+1) (by omega)).lin R (row r c) (-(row j c))
   exact(this.congr (v:=fun x=>g * row' j x) fun x=>by rw[q];grind).div hg
 ·by_cases ek:k=r
  ·subst ek
   have:=(QC.trans B2 hn).lin B0 1 (-a)
   exact(this.congr (v:=fun x=>b * o k x) fun x=>by grind).div hb
  ·exact B2 k (by omega)
 ·obtain⟨g,hg,q⟩:=hi i him (by omega)
  obtain⟨a',b',ha',hb',hn'⟩:=h.near i (by omega) him
  refine⟨a' * g,row r c * b',Int.mul_ne_zero ha' hg,Int.mul_ne_zero hc hb',?_⟩
  have:=(hn'.mono (r':=r+1) (by omega)).lin R (row r c) (-(a' * row i c))
  exact this.congr fun x=>by
   have:=q x
   grind
 ·by_cases ej:j=r
  ·subst ej
   rw[if_pos rfl]
   intro z
   have q:=hp c
   rw[z,Int.mul_zero] at q
   exact(Int.mul_ne_zero hf hc) q.symm
  ·rw[if_neg ej]
   obtain⟨g,hg,q⟩:=hi j (by omega) ej
   intro z
   have q:=q (p j)
   rw[z,hr0 j (by omega),Int.mul_zero,Int.mul_zero,Int.sub_zero] at q
   exact(Int.mul_ne_zero hc (h.piv j (by omega))) q.symm
 ·by_cases ej:j=r
  ·subst ej
   rw[if_pos rfl]
   obtain⟨g,hg,q⟩:=hi i him hij
   have q:=q c
   rw[Int.mul_comm (row i c),Int.sub_self] at q
   exact(Int.mul_eq_zero.1 q).resolve_left hg
  ·rw[if_neg ej]
   by_cases ei:i=r
   ·subst ei
    have q:=hp (p j)
    rw[hr0 j (by omega),Int.mul_zero] at q
    exact(Int.mul_eq_zero.1 q).resolve_left he
   ·obtain⟨g,hg,q⟩:=hi i him ei
    have q:=q (p j)
    rw[hr0 j (by omega),h.off j (by omega) i him hij,Int.mul_zero,Int.mul_zero,Int.sub_self] at q
    exact(Int.mul_eq_zero.1 q).resolve_left hg
 ·simp only[sm] at hd
  have S:QC o r (fun x=>sm r (fun k=>d k * o k x)):=QC.sum d r fun k hk=>QC.self hk
  have Y:=hn.lin S (d r) b
  have V:=h.vanish (Y.congr (v:=fun x=>(d r * a) * row r x) fun x=>by have:=hd x;grind) fun j hj=>by rw[hr0 j hj,Int.mul_zero]
  have d0:d r=0:=by
   have q:=(Int.mul_eq_zero.1 (V c)).resolve_right hc
   exact(Int.mul_eq_zero.1 q).resolve_right ha
  intro k hk
  by_cases ek:k=r
  ·rw[ek]
   exact d0
  ·exact h.ind d (fun x=>by have:=hd x;rw[d0,Int.zero_mul] at this;omega) k (by omega)
theorem St.small {m r:Nat} {o row:Nat→Nat→Int} {p:Nat→Nat} (h:St m r o row p) (hm:m≤5) (ho:∀ i,i<m→∀ x,-9≤o i x∧o i x≤9) (i:Nat) (him:i<m) :
  ∃ v:Nat→Int,(∀ x,-184528125≤v x∧v x≤184528125)∧∃ a b:Int,a≠0∧b≠0∧∀ x,a * row i x=b * v x:=by
 have hr:=h.hr
 have pw:∀ N,1≤N→N≤5→(N * 9) ^ (N - 1)≤4100625:=by
  intro N h1 h2
  rcases (show N=1∨N=2∨N=3∨N=4∨N=5 by omega) with rfl|rfl|rfl|rfl|rfl <;> decide
 have term:∀ c w:Int,-4100625≤c→c≤4100625 → -9≤w→w≤9 → -36905625≤c * w∧c * w≤36905625:=by
  intro c w h1 h2 h3 h4
  have p1:0≤(4100625 - c) * (9+w):=Int.mul_nonneg (by omega) (by omega)
  have p2:0≤(4100625+c) * (9 - w):=Int.mul_nonneg (by omega) (by omega)
  have p3:0≤(4100625 - c) * (9 - w):=Int.mul_nonneg (by omega) (by omega)
  have p4:0≤(4100625+c) * (9+w):=Int.mul_nonneg (by omega) (by omega)
  rw[Int.sub_mul,Int.mul_add,Int.mul_add] at p1
  rw[Int.add_mul,Int.mul_sub,Int.mul_sub] at p2
  rw[Int.sub_mul,Int.mul_sub,Int.mul_sub] at p3
  rw[Int.add_mul,Int.mul_add,Int.mul_add] at p4
  omega
 by_cases hir:i<r
 ·let q:Nat→Nat:=fun j=>if j<i then p j else p (j+1)
  obtain⟨c,⟨k0,hk0,hc0⟩,hcb,hz⟩:=siegel r (by omega) 9 4100625 (pw r (by omega) (by omega)) (by omega) (fun k j=>o k (q j)) (fun k hk j _=>ho k (by omega) _)
  let v:Nat→Int:=fun x=>sm r (fun k=>c k * o k x)
  have V:QC o r v:=QC.sum c r fun k hk=>QC.self hk
  have hv:∀ j,j<r→j≠i→v (p j)=0:=fun j hj hji=>by
   by_cases c1:j<i
   ·have:=hz j (by omega)
    simp only[q,if_pos c1] at this
    exact this
   ·have:=hz (j - 1) (by omega)
    simp only[q] at this
    rw[if_neg (by omega),show j - 1+1=j by omega] at this
    exact this
  have E:=h.vanish (V.lin (h.span i hir) (row i (p i)) (-(v (p i)))) fun j hj=>by
   show row i (p i) * v (p j) + -(v (p i)) * row i (p j)=0
   by_cases ej:j=i
   ·subst ej
    grind
   ·rw[hv j hj ej,h.off j hj i him (Ne.symm ej),Int.mul_zero,Int.mul_zero]
    rfl
  refine⟨v,fun x=>?_,v (p i),row i (p i),fun z=>?_,h.piv i hir,fun x=>by have:=E x;(try simp only at this);rw[Int.neg_mul] at this;omega⟩
  ·have:=sm_abs (B:=36905625) (by omega) r (fun k=>c k * o k x) fun k hk=>by
    have a:=hcb k
    have b:=ho k (by omega) x
    exact term _ _ (by omega) (by omega) b.1 b.2
   show -184528125≤sm r (fun k=>c k * o k x)∧sm r (fun k=>c k * o k x)≤184528125
   omega
  ·have v0:∀ x,v x=0:=fun x=>by
    have:=E x
    simp only[z] at this
    rw[Int.neg_zero,Int.zero_mul,Int.add_zero] at this
    exact(Int.mul_eq_zero.1 this).resolve_left (h.piv i hir)
   exact hc0 (h.ind c v0 k0 hk0)
 ·obtain⟨a,b,ha,hb,hn⟩:=h.near i (by omega) him
  obtain⟨c,⟨k0,hk0,hc0⟩,hcb,hz⟩:=siegel (r+1) (by omega) 9 4100625 (pw (r+1) (by omega) (by omega)) (by omega) (fun k j=>(if k<r then o k else o i) (p j)) (fun k hk j _=>by
   show -9≤(if k<r then o k else o i) (p j)∧(if k<r then o k else o i) (p j)≤9
   split
   ·exact ho k (by omega) _
   ·exact ho i him _)
  let v:Nat→Int:=fun x=>sm r (fun k=>c k * o k x)+c r * o i x
  have ve:∀ x,sm (r+1) (fun k=>c k * (if k<r then o k else o i) x)=v x:=fun x=>by
   show sm r (fun k=>c k * (if k<r then o k else o i) x)+c r * (if r<r then o r else o i) x=sm r (fun k=>c k * o k x)+c r * o i x
   rw[if_neg (by omega),sm_congr (g:=fun k=>c k * o k x) fun k hk=>by rw[if_pos hk]]
  have hv:∀ j,j<r→v (p j)=0:=fun j hj=>by
   rw[←ve]
   exact hz j (by omega)
  have S:QC o r (fun x=>sm r (fun k=>c k * o k x)):=QC.sum c r fun k hk=>QC.self hk
  have E:=h.vanish ((hn.lin S (c r) b).congr (v:=fun x=>(c r * a) * row i x+b * v x) fun x=>by
   show _=c r * (a * row i x+b * o i x)+b * sm r (fun k=>c k * o k x)
   show (c r * a) * row i x+b * (sm r (fun k=>c k * o k x)+c r * o i x)=_
   grind) fun j hj=>by
    show (c r * a) * row i (p j)+b * v (p j)=0
    rw[hv j hj,h.off j hj i him (by omega),Int.mul_zero,Int.mul_zero]
    rfl
  refine⟨v,fun x=>?_,c r * a,-b,fun z=>?_,by omega,fun x=>by have:=E x;(try simp only at this);rw[Int.neg_mul];omega⟩
  ·have:=sm_abs (B:=36905625) (by omega) (r+1) (fun k=>c k * (if k<r then o k else o i) x) fun k hk=>by
    have a:=hcb k
    have b : -9≤(if k<r then o k else o i) x∧(if k<r then o k else o i) x≤9:=by
     split
     ·exact ho k (by omega) _
     ·exact ho i him _
    exact term _ _ (by omega) (by omega) b.1 b.2
   rw[ve] at this
   omega
  ·have cr:c r=0:=(Int.mul_eq_zero.1 z).resolve_right ha
   have v0:∀ x,v x=0:=fun x=>by
    have:=E x
    simp only[z] at this
    rw[Int.zero_mul,Int.zero_add] at this
    exact(Int.mul_eq_zero.1 this).resolve_left hb
   by_cases e0:k0=r
   ·exact hc0 (by rw[e0];exact cr)
   ·refine hc0 (h.ind c (fun x=>?_) k0 (by omega))
    have:=v0 x
    simp only[v] at this
    rw[cr,Int.zero_mul,Int.add_zero] at this
    exact this
def gcdn:Nat→(Nat→Int)→Nat
|0,_=>0
|n+1,v=>Nat.gcd (gcdn n v) (v n).natAbs
theorem gcdn_dvd:∀ (n:Nat) (v:Nat→Int) (k:Nat),k<n→(gcdn n v:Int) ∣ v k
|0,v,k,hk=>by omega
|n+1,v,k,hk=>by
  by_cases e:k=n
  ·subst e
   exact Int.ofNat_dvd_left.2 (Nat.gcd_dvd_right _ _)
  ·have:=gcdn_dvd n v k (by omega)
   exact Int.dvd_trans (Int.ofNat_dvd.2 (Nat.gcd_dvd_left _ _)) this
theorem dvd_gcdn (a b:Int):∀ (n:Nat) (v:Nat→Int),(∀ k,k<n→b ∣ a * v k)→b ∣ a * (gcdn n v:Int)
|0,v,_=>by simp[gcdn]
|n+1,v,h=>by
  have ih:=dvd_gcdn a b n v fun k hk=>h k (by omega)
  have h2:=h n (by omega)
  rw[←Int.natAbs_dvd_natAbs] at ih h2 ⊢
  rw[Int.natAbs_mul] at ih h2 ⊢
  simp only[gcdn,Int.natAbs_natCast] at ih ⊢
  rw[←Nat.gcd_mul_left]
  exact Nat.dvd_gcd ih h2
theorem prim_mul {n:Nat} {u v:Nat→Int} (hg:gcdn n u=1) {a b:Int} (ha:a≠0) (hb:b≠0) (h:∀ x,x<n→a * u x=b * v x):∃ t:Int,t≠0∧∀ x,x<n→v x=t * u x:=by
 have hd:=dvd_gcdn a b n u fun k hk=>⟨v k,h k hk⟩
 rw[hg] at hd
 obtain⟨t,ht⟩:=hd
 rw[Int.natCast_one,Int.mul_one] at ht
 refine⟨t,fun z=>ha (by rw[ht,z,Int.mul_zero]),fun x hx=>?_⟩
 have:=h x hx
 rw[ht,Int.mul_assoc] at this
 exact(Int.eq_of_mul_eq_mul_left hb this).symm
theorem abs_le_mul {t u B:Int} (ht:t≠0) (h : -B≤t * u∧t * u≤B) : -B≤u∧u≤B:=by
 have e:(t * u).natAbs=t.natAbs * u.natAbs:=Int.natAbs_mul _ _
 have h1:1≤t.natAbs:=by omega
 have h2:u.natAbs≤t.natAbs * u.natAbs:=Nat.le_mul_of_pos_left _ h1
 omega
def Ker (m n:Nat) (row:Nat→Nat→Int) (x:Nat→Int):Prop:=∀ i,i<m→sm n (fun k=>row i k * x k)=0
theorem ker_swap {m n i j:Nat} {row:Nat→Nat→Int} {x:Nat→Int} (him:i<m) (hjm:j<m):Ker m n (sw i j row) x↔Ker m n row x:=by
 constructor
 ·intro h k hk
  by_cases c1:k=i
  ·have:=h j hjm
   simp only[sw] at this
   by_cases c2:j=i
   ·rw[if_pos c2] at this
    rw[c1,←c2]
    exact this
   ·simp only[if_neg c2,if_true] at this
    rw[c1]
    exact this
  ·by_cases c2:k=j
   ·have:=h i him
    simp only[sw,if_pos rfl] at this
    rw[c2]
    exact this
   ·have:=h k hk
    simp only[sw,if_neg c1,if_neg c2] at this
    exact this
 ·intro h k hk
  obtain⟨l,hl,e,_⟩:=sw_pick (α:=Nat→Int) i j m him hjm k hk
  rw[e]
  exact h l hl
theorem sm_lin (n:Nat) (a b:Int) (f g:Nat→Int):sm n (fun k=>a * f k - b * g k)=a * sm n f - b * sm n g:=by
 have:sm n (fun k=>a * f k - b * g k)=sm n (fun k=>a * f k+(-b) * g k):=sm_congr fun k _=>by grind
 rw[this,sm_add,sm_mul,sm_mul]
 grind
theorem ker_step {m n r:Nat} {row row':Nat→Nat→Int} {x:Nat→Int} (hrm:r<m) (c:Nat) (hc:row r c≠0)
  (hp:∃ e f:Int,e≠0∧f≠0∧∀ x,e * row' r x=f * row r x)
  (hi:∀ i,i<m→i≠r→∃ g:Int,g≠0∧∀ x,g * row' i x=row r c * row i x - row i c * row r x):Ker m n row' x↔Ker m n row x:=by
 obtain⟨e,f,he,hf,hp⟩:=hp
 have P:e * sm n (fun k=>row' r k * x k)=f * sm n (fun k=>row r k * x k):=by
  rw[←sm_mul,←sm_mul]
  exact sm_congr fun k _=>by have:=hp k;grind
 have I:∀ i,i<m→i≠r→∃ g:Int,g≠0∧g * sm n (fun k=>row' i k * x k)=row r c * sm n (fun k=>row i k * x k) - row i c * sm n (fun k=>row r k * x k):=fun i him hir=>by
  obtain⟨g,hg,q⟩:=hi i him hir
  refine⟨g,hg,?_⟩
  rw[←sm_mul,←sm_lin]
  exact sm_congr fun k _=>by have:=q k;grind
 constructor
 ·intro h
  have h0:sm n (fun k=>row r k * x k)=0:=by
   rw[h r hrm,Int.mul_zero] at P
   exact(Int.mul_eq_zero.1 P.symm).resolve_left hf
  intro i him
  by_cases ei:i=r
  ·rw[ei]
   exact h0
  ·obtain⟨g,hg,q⟩:=I i him ei
   rw[h i him,h0,Int.mul_zero,Int.mul_zero,Int.sub_zero] at q
   exact(Int.mul_eq_zero.1 q.symm).resolve_left hc
 ·intro h i him
  by_cases ei:i=r
  ·rw[ei]
   rw[h r hrm,Int.mul_zero] at P
   exact(Int.mul_eq_zero.1 P).resolve_left he
  ·obtain⟨g,hg,q⟩:=I i him ei
   rw[h i him,h r hrm,Int.mul_zero,Int.mul_zero,Int.sub_zero] at q
   exact(Int.mul_eq_zero.1 q).resolve_left hg
theorem exists_not_mem (l:List Nat) (n:Nat) (h:l.length<n):∃ f,f<n∧f ∉ l:=by
 apply Classical.byContradiction
 intro hn
 have all:∀ f,f<n→f∈l:=fun f hf=>Classical.byContradiction fun c=>hn ⟨f,hf,c⟩
 obtain⟨x,y,h1,h2,h3⟩:=pigeon' h (fun f=>l.idxOf f) fun f hf=>List.idxOf_lt_length_of_mem (all f hf)
 have e1:=List.getElem_idxOf (List.idxOf_lt_length_of_mem (all x (by omega)))
 have e2:=List.getElem_idxOf (List.idxOf_lt_length_of_mem (all y h2))
 try simp only at h3
 simp only[h3] at e1
 omega
structure Fin_ (m n r:Nat) (row:Nat→Nat→Int) (p:Nat→Nat):Prop where
 hr:r≤m
 piv:∀ j,j<r→row j (p j)≠0
 off:∀ j,j<r→∀ i,i<m→i≠j→row i (p j)=0
 tail:∀ i,r≤i→i<m→∀ k,k<n→row i k=0
 pn:∀ j,j<r→p j<n
theorem Fin_.inj {m n r:Nat} {row:Nat→Nat→Int} {p:Nat→Nat} (h:Fin_ m n r row p) {i j:Nat} (hi:i<r) (hj:j<r) (e:p i=p j):i=j:=by
 apply Classical.byContradiction
 intro c
 have hr:=h.hr
 exact h.piv i hi (by rw[e];exact h.off j hj i (by omega) c)
theorem common_mul (r:Nat) (a:Nat→Int) (ha:∀ j,j<r→a j≠0):∃ D:Int,D≠0∧∃ q:Nat→Int,∀ j,j<r→D=a j * q j:=by
 induction r with
|zero=>exact⟨1,by omega,fun _=>0,fun j hj=>by omega⟩
|succ r ih =>
  obtain⟨D,hD,q,hq⟩:=ih fun j hj=>ha j (by omega)
  refine⟨D * a r,Int.mul_ne_zero hD (ha r (by omega)),fun j=>if j=r then D else q j * a r,fun j hj=>?_⟩
  by_cases e:j=r
  ·subst e
   show D * a j=a j * (if j=j then D else q j * a j)
   rw[if_pos rfl,Int.mul_comm]
  ·show D * a r=a j * (if j=r then D else q j * a r)
   rw[if_neg e,hq j (by omega),Int.mul_assoc]
theorem Fin_.free {m n r:Nat} {row:Nat→Nat→Int} {p:Nat→Nat} (h:Fin_ m n r row p) {f:Nat} (hf:f<n) (hfp:∀ j,j<r→p j≠f):∃ x:Nat→Int,Ker m n row x∧x f≠0∧∀ k,k≠f→(∀ j,j<r→p j≠k)→x k=0:=by
 obtain⟨D,hD,q,hq⟩:=common_mul r (fun j=>row j (p j)) h.piv
 let x:Nat→Int:=fun k=>if k=f then D else sm r (fun j=>if p j=k then -(row j f) * q j else 0)
 have xp:∀ j,j<r→x (p j) = -(row j f) * q j:=fun j hj=>by
  show (if p j=f then D else sm r (fun i=>if p i=p j then -(row i f) * q i else 0))=_
  rw[if_neg (hfp j hj),sm_single hj fun k hk hkj=>if_neg fun e=>hkj (h.inj hk hj e),if_pos rfl]
 have xf:x f=D:=if_pos rfl
 have x0:∀ k,k≠f→(∀ j,j<r→p j≠k)→x k=0:=fun k hk hp=>by
  show (if k=f then D else sm r (fun j=>if p j=k then -(row j f) * q j else 0))=0
  rw[if_neg hk,sm_zero fun j hj=>if_neg (hp j hj)]
 refine⟨x,fun i him=>?_,by rw[xf];exact hD,x0⟩
 by_cases c:i<r
 ·rw[sm_two (i:=p i) (j:=f) (h.pn i c) hf (hfp i c) fun k hk h1 h2=>?_]
  ·rw[xp i c,xf,hq i c]
   grind
  ·by_cases d:∃ j,j<r∧p j=k
   ·obtain⟨j,hj,rfl⟩:=d
    rw[h.off j hj i him fun e=>h1 (by rw[e]),Int.zero_mul]
   ·rw[x0 k h2 fun j hj e=>d ⟨j,hj,e⟩,Int.mul_zero]
 ·exact sm_zero fun k hk=>by rw[h.tail i (by omega) him k hk,Int.zero_mul]
theorem Fin_.cover {m n r:Nat} {row:Nat→Nat→Int} {p:Nat→Nat} (h:Fin_ m n r row p) {f:Nat} (hf:f<n) (hfp:∀ j,j<r→p j≠f) (hrn:r+1=n) (k:Nat) (hk:k<n):k=f∨∃ j,j<r∧p j=k:=by
 apply Classical.byContradiction
 intro c
 have c1:k≠f:=fun e=>c (.inl e)
 have c2:∀ j,j<r→p j≠k:=fun j hj e=>c (.inr ⟨j,hj,e⟩)
 obtain⟨x,y,h1,h2,h3⟩:=pigeon' (N:=n+1) (M:=n) (by omega) (fun j=>if j<r then p j else if j=r then f else k) fun j hj=>by
  show (if j<r then p j else if j=r then f else k)<n
  split
  ·exact h.pn j (by assumption)
  ·split <;> omega
 try simp only at h3
 by_cases a:x<r
 ·rw[if_pos a] at h3
  by_cases b:y<r
  ·rw[if_pos b] at h3
   have:=h.inj a b h3
   omega
  ·rw[if_neg b] at h3
   by_cases d:y=r
   ·rw[if_pos d] at h3
    exact hfp x a h3
   ·rw[if_neg d] at h3
    exact c2 x a h3
 ·rw[if_neg a,if_neg (show ¬ y<r by omega),if_pos (show x=r by omega),if_neg (show y≠r by omega)] at h3
  exact c1 h3.symm
theorem Fin_.told {m n r:Nat} {row:Nat→Nat→Int} {p:Nat→Nat} (h:Fin_ m n r row p) {f:Nat} (hf:f<n) (hfp:∀ j,j<r→p j≠f) (hrn:r+1=n) {x:Nat→Int} (hx:Ker m n row x) (j:Nat) (hj:j<r):row j (p j) * x (p j) = -(row j f * x f):=by
 have hr:=h.hr
 have e:=hx j (by omega)
 rw[sm_two (i:=p j) (j:=f) (h.pn j hj) hf (hfp j hj) fun k hk h1 h2=>?_] at e
 ·omega
 ·rcases h.cover hf hfp hrn k hk with rfl|⟨i,hi,rfl⟩
  ·exact absurd rfl h2
  ·rw[h.off i hi j (by omega) fun e=>h1 (by rw[e]),Int.zero_mul]
theorem Fin_.line {m n r:Nat} {row:Nat→Nat→Int} {p:Nat→Nat} (h:Fin_ m n r row p) {f:Nat} (hf:f<n) (hfp:∀ j,j<r→p j≠f) (hrn:r+1=n) {x y:Nat→Int} (hx:Ker m n row x) (hy:Ker m n row y) (k:Nat) (hk:k<n):x f * y k=y f * x k:=by
 rcases h.cover hf hfp hrn k hk with rfl|⟨j,hj,rfl⟩
 ·exact Int.mul_comm _ _
 ·have a:=h.told hf hfp hrn hx j hj
  have b:=h.told hf hfp hrn hy j hj
  apply Int.eq_of_mul_eq_mul_left (h.piv j hj)
  grind
def One (n:Nat) (K:(Nat→Int)→Prop):Prop:=(∃ x,K x∧∃ k,k<n∧x k≠0)∧∀ x y,K x→K y→∃ a b:Int,(a≠0∨b≠0)∧∀ k,k<n→a * x k=b * y k
theorem Fin_.le {m n r:Nat} {row:Nat→Nat→Int} {p:Nat→Nat} (h:Fin_ m n r row p):r≤n:=by
 apply Classical.byContradiction
 intro c
 obtain⟨x,y,h1,h2,h3⟩:=pigeon' (N:=r) (M:=n) (by omega) p h.pn
 have:=h.inj (by omega) h2 h3
 omega
theorem Fin_.none {m n r:Nat} {row:Nat→Nat→Int} {p:Nat→Nat} (h:Fin_ m n r row p) (hrn:r=n) {x:Nat→Int} (hx:Ker m n row x) (k:Nat) (hk:k<n):x k=0:=by
 have hr:=h.hr
 have cov:∀ k,k<n→∃ j,j<r∧p j=k:=fun k hk=>by
  apply Classical.byContradiction
  intro c
  have c2:∀ j,j<r→p j≠k:=fun j hj e=>c ⟨j,hj,e⟩
  obtain⟨x,y,h1,h2,h3⟩:=pigeon' (N:=n+1) (M:=n) (by omega) (fun j=>if j<r then p j else k) fun j hj=>by
   show (if j<r then p j else k)<n
   split
   ·exact h.pn j (by assumption)
   ·omega
  try simp only at h3
  rw[if_pos (show x<r by omega)] at h3
  by_cases b:y<r
  ·rw[if_pos b] at h3
   have:=h.inj (by omega) b h3
   omega
  ·rw[if_neg b] at h3
   exact c2 x (by omega) h3
 obtain⟨j,hj,rfl⟩:=cov k hk
 have e:=hx j (by omega)
 rw[sm_single (h.pn j hj) fun k hk h1=>?_] at e
 ·exact(Int.mul_eq_zero.1 e).resolve_left (h.piv j hj)
 ·obtain⟨i,hi,rfl⟩:=cov k hk
  rw[h.off i hi j (by omega) fun e=>h1 (by rw[e]),Int.zero_mul]
theorem Fin_.one {m n r:Nat} {row:Nat→Nat→Int} {p:Nat→Nat} (h:Fin_ m n r row p):One n (Ker m n row)↔r+1=n:=by
 have hle:=h.le
 constructor
 ·rintro⟨⟨x,hx,k,hk,hne⟩,two⟩
  by_cases e:r=n
  ·exact absurd (h.none e hx k hk) hne
  ·apply Classical.byContradiction
   intro c
   obtain⟨f,hf,hfp⟩:=exists_not_mem ((List.range r).map p) n (by simp;omega)
   obtain⟨g,hg,hgp⟩:=exists_not_mem (f :: (List.range r).map p) n (by simp;omega)
   have f1:∀ j,j<r→p j≠f:=fun j hj e=>hfp (List.mem_map.2 ⟨j,List.mem_range.2 hj,e⟩)
   have g1:∀ j,j<r→p j≠g:=fun j hj e=>hgp (List.mem_cons_of_mem _ (List.mem_map.2 ⟨j,List.mem_range.2 hj,e⟩))
   have fg:g≠f:=fun e=>hgp (by rw[e];exact List.mem_cons_self)
   obtain⟨u,u1,u2,u3⟩:=h.free hf f1
   obtain⟨v,v1,v2,v3⟩:=h.free hg g1
   obtain⟨a,b,hab,e⟩:=two u v u1 v1
   have ef:=e f hf
   have eg:=e g hg
   rw[v3 f (Ne.symm fg) f1,Int.mul_zero] at ef
   rw[u3 g fg g1,Int.mul_zero] at eg
   have a0:=(Int.mul_eq_zero.1 ef).resolve_right u2
   have b0:=(Int.mul_eq_zero.1 eg.symm).resolve_right v2
   omega
 ·intro e
  obtain⟨f,hf,hfp⟩:=exists_not_mem ((List.range r).map p) n (by simp;omega)
  have f1:∀ j,j<r→p j≠f:=fun j hj e=>hfp (List.mem_map.2 ⟨j,List.mem_range.2 hj,e⟩)
  obtain⟨u,u1,u2,u3⟩:=h.free hf f1
  refine⟨⟨u,u1,f,hf,u2⟩,fun x y hx hy=>?_⟩
  by_cases c:x f=0
  ·refine⟨1,0,.inl (by omega),fun k hk=>?_⟩
   have:=h.line hf f1 e u1 hx k hk
   rw[c,Int.zero_mul] at this
   rw[(Int.mul_eq_zero.1 this).resolve_left u2]
   omega
  ·exact⟨y f,x f,.inr c,fun k hk=>(h.line hf f1 e hx hy k hk).symm⟩
theorem St.fin {m r n:Nat} {o row:Nat→Nat→Int} {p:Nat→Nat} (h:St m r o row p) (tail:∀ i,r≤i→i<m→∀ k,k<n→row i k=0) (pn:∀ j,j<r→p j<n):Fin_ m n r row p:=⟨h.hr,h.piv,h.off,tail,pn⟩
def Nice (n:Nat) (v:Nat→Int):Prop:=gcdn n v=1∨∀ k,k<n → -9≤v k∧v k≤9
theorem St.bound {m r n:Nat} {o row:Nat→Nat→Int} {p:Nat→Nat} (h:St m r o row p) (hm:m≤5) (ho:∀ i,i<m→∀ x,-9≤o i x∧o i x≤9) (i:Nat) (him:i<m) (hn:Nice n (row i)) (k:Nat) (hk:k<n) : -184528125≤row i k∧row i k≤184528125:=by
 rcases hn with hn|hn
 ·obtain⟨v,hv,a,b,ha,hb,e⟩:=h.small hm ho i him
  obtain⟨t,ht,q⟩:=prim_mul hn ha hb fun x _=>e x
  have:=hv k
  rw[q k hk] at this
  exact abs_le_mul ht this
 ·have:=hn k hk
  omega
theorem gcdn_zero {n:Nat} {w:Nat→Int} (h:∀ k,k<n→w k=0):gcdn n w=0:=by
 induction n with
|zero=>rfl
|succ n ih =>
  simp only[gcdn]
  rw[ih fun k hk=>h k (by omega),h n (by omega)]
  rfl
theorem St.kernel {m r n:Nat} {o row:Nat→Nat→Int} {p:Nat→Nat} (h:St m r o row p) (hf:Fin_ m n r row p) (hrn:r+1=n) (hn6:n≤6) (ho:∀ i,i<m→∀ x,-9≤o i x∧o i x≤9) {w:Nat→Int} (hw:Ker m n row w) (hg:gcdn n w=1) (k:Nat) (hk:k<n) : -459165024≤w k∧w k≤459165024:=by
 have hr:=h.hr
 have pw:(n * 9) ^ (n - 1)≤459165024:=by
  rcases (show n=1∨n=2∨n=3∨n=4∨n=5∨n=6 by omega) with rfl|rfl|rfl|rfl|rfl|rfl <;> decide
 obtain⟨c,⟨k0,hk0,hc0⟩,hcb,hz⟩:=siegel n (by omega) 9 459165024 pw (by omega) (fun k j=>o j k) (fun k hk j hj=>ho j (by omega) k)
 have hc:Ker m n row c:=fun i him=>by
  by_cases hir:i<r
  ·obtain⟨s,d,hs,e⟩:=h.span i hir
   have q:s * sm n (fun k=>row i k * c k)=0:=by
    rw[←sm_mul,sm_congr (g:=fun k=>sm r (fun j=>d j * (c k * o j k))) fun k hk=>?_,sm_swap,sm_zero fun j hj=>?_]
    ·rw[sm_mul,hz j (by omega),Int.mul_zero]
    ·have e:=e k
     rw[←Int.mul_assoc,e,Int.mul_comm,←sm_mul]
     exact sm_congr fun j _=>by grind
   exact(Int.mul_eq_zero.1 q).resolve_left hs
  ·exact sm_zero fun k hk=>by rw[hf.tail i (by omega) him k hk,Int.zero_mul]
 obtain⟨f,hfn,hfp⟩:=exists_not_mem ((List.range r).map p) n (by simp;omega)
 have f1:∀ j,j<r→p j≠f:=fun j hj e=>hfp (List.mem_map.2 ⟨j,List.mem_range.2 hj,e⟩)
 have nz:∀ x,Ker m n row x→x f=0→∀ k,k<n→x k=0:=fun x hx x0 k hk=>by
  rcases hf.cover hfn f1 hrn k hk with rfl|⟨j,hj,rfl⟩
  ·exact x0
  ·have:=hf.told hfn f1 hrn hx j hj
   rw[x0,Int.mul_zero,Int.neg_zero] at this
   exact(Int.mul_eq_zero.1 this).resolve_left (h.piv j hj)
 have cf:c f≠0:=fun e=>hc0 (nz c hc e k0 hk0)
 have wf:w f≠0:=fun e=>by
  have:=gcdn_zero (nz w hw e)
  omega
 obtain⟨t,ht,q⟩:=prim_mul (u:=w) (v:=c) hg cf wf fun x hx=>(hf.line hfn f1 hrn hw hc x hx).symm
 have:=hcb k
 rw[q k hk] at this
 exact abs_le_mul ht (by omega)
theorem Fin_.divides {m n r:Nat} {row:Nat→Nat→Int} {p:Nat→Nat} (h:Fin_ m n r row p) {f:Nat} (hf:f<n) (hfp:∀ j,j<r→p j≠f) (hrn:r+1=n) {w:Nat→Int} (hw:Ker m n row w) (j:Nat) (hj:j<r) (hn:Nice n (row j)):row j (p j) ∣ 2520 * w f:=by
 have hr:=h.hr
 rcases hn with hn|hn
 ·have d:=dvd_gcdn (w f) (row j (p j)) n (row j) fun k hk=>by
   rcases h.cover hf hfp hrn k hk with rfl|⟨i,hi,rfl⟩
   ·have:=h.told hf hfp hrn hw j hj
    exact⟨-(w (p j)),by rw[Int.mul_neg,this];grind⟩
   ·by_cases e:i=j
    ·subst e
     exact Int.dvd_mul_left _ _
    ·rw[h.off i hi j (by omega) (Ne.symm e),Int.mul_zero]
     exact Int.dvd_zero _
  rw[hn,Int.natCast_one,Int.mul_one] at d
  exact Int.dvd_trans d (Int.dvd_mul_left _ _)
 ·have b:=hn (p j) (h.pn j hj)
  have z:=h.piv j hj
  refine Int.dvd_trans ?_ (Int.dvd_mul_right _ _)
  generalize row j (p j)=x at b z
  rcases (show x = -9∨x = -8∨x = -7∨x = -6∨x = -5∨x = -4∨x = -3∨x = -2∨x = -1∨x=1∨x=2∨x=3∨x=4∨x=5∨x=6∨x=7∨x=8∨x=9 by omega) with rfl|rfl|rfl|rfl|rfl|rfl|rfl|rfl|rfl|rfl|rfl|rfl|rfl|rfl|rfl|rfl|rfl|rfl <;> decide
def newRow (w:Int→Int) (M:Nat→Nat→Int) (r c i:Nat):Nat→Int:=fun k=>w (w (M i k * M r c) - w (M r k * M i c))
def divn (n:Nat) (v:Nat→Int):Nat→Int:=if 1<gcdn n v then fun k=>v k / (gcdn n v:Int) else v
def shortP (pv:Bool) (n r:Nat) (M:Nat→Nat→Int):Nat→Nat→Int:=if pv then fun i=>if i=r then divn n (M r) else M i else M
def colS (w:Int→Int) (n m r c:Nat) (P:Nat→Nat→Int):Nat→Nat→Int:=fun i=>if i<m∧i≠r∧P i c≠0 then divn n (newRow w P r c i) else P i
def findAt (M:Nat→Nat→Int) (c m:Nat):Nat→Nat→Nat
|0,i=>i
|f+1,i=>if i<m∧M i c=0 then findAt M c m f (i+1) else i
def elim (w:Int→Int) (pv:Bool) (n m:Nat):Nat→Nat→(Nat→Nat→Int)→List Nat→(Nat→Nat→Int)×List Nat
|0,_,M,piv=>(M,piv)
|k+1,c,M,piv =>
  if findAt M c m (m - piv.length) piv.length=m then elim w pv n m k (c+1) M piv
  else elim w pv n m k (c+1) (colS w n m piv.length c (shortP pv n piv.length (sw piv.length (findAt M c m (m - piv.length) piv.length) M))) (piv++[c])
theorem findAt_told (M:Nat→Nat→Int) (c m:Nat):∀ (f i:Nat),i+f=m→i≤findAt M c m f i∧findAt M c m f i≤m∧(∀ j,i≤j→j<findAt M c m f i→M j c=0)∧(findAt M c m f i<m→M (findAt M c m f i) c≠0)
|0,i,h=>⟨by simp[findAt],by simp[findAt];omega,fun j h1 h2=>by simp[findAt] at h2;omega,fun h1=>by simp[findAt] at h1;omega⟩
|f+1,i,h=>by
  by_cases c1:i<m∧M i c=0
  ·obtain⟨a,b,d,e⟩:=findAt_told M c m f (i+1) (by omega)
   have q:findAt M c m (f+1) i=findAt M c m f (i+1):=by
    show (if i<m∧M i c=0 then findAt M c m f (i+1) else i)=_
    rw[if_pos c1]
   rw[q]
   refine⟨by omega,b,fun j h1 h2=>?_,e⟩
   by_cases ej:j=i
   ·rw[ej]
    exact c1.2
   ·exact d j (by omega) h2
  ·have q:findAt M c m (f+1) i=i:=by
    show (if i<m∧M i c=0 then findAt M c m f (i+1) else i)=_
    rw[if_neg c1]
   rw[q]
   exact⟨by omega,by omega,fun j h1 h2=>by omega,fun h1 h2=>c1 ⟨h1,h2⟩⟩
theorem gcdn_congr:∀ {n:Nat} {u v:Nat→Int},(∀ k,k<n→u k=v k)→gcdn n u=gcdn n v
|0,_,_,_=>rfl
|n+1,u,v,h=>by
  simp only[gcdn]
  rw[gcdn_congr (n:=n) fun k hk=>h k (by omega),h n (by omega)]
theorem gcdn_mul (g:Nat):∀ (n:Nat) (v:Nat→Int),gcdn n (fun k=>(g:Int) * v k)=g * gcdn n v
|0,_=>by simp[gcdn]
|n+1,v=>by
  simp only[gcdn]
  rw[gcdn_mul g n v,Int.natAbs_mul,Int.natAbs_natCast,Nat.gcd_mul_left]
theorem divn_told (n:Nat) (v:Nat→Int) (hz:∀ k,n≤k→v k=0):∃ g:Int,0<g∧(∀ k,g * divn n v k=v k)∧(gcdn n (divn n v)=1∨∀ k,k<n→divn n v k=0):=by
 unfold divn
 by_cases c:1<gcdn n v
 ·rw[if_pos c]
  have e:∀ k,(gcdn n v:Int) * (v k / (gcdn n v:Int))=v k:=fun k=>by
   by_cases hk:k<n
   ·exact Int.mul_ediv_cancel' (gcdn_dvd n v k hk)
   ·rw[hz k (by omega),Int.zero_ediv,Int.mul_zero]
  refine⟨gcdn n v,by omega,e,.inl ?_⟩
  have a:=gcdn_mul (gcdn n v) n (fun k=>v k / (gcdn n v:Int))
  rw[gcdn_congr (v:=v) fun k _=>e k] at a
  have:gcdn n v * 1=gcdn n v * gcdn n (fun k=>v k / (gcdn n v:Int)):=by omega
  exact(Nat.eq_of_mul_eq_mul_left (by omega) this).symm
 ·rw[if_neg c]
  refine⟨1,by omega,fun k=>Int.one_mul _,?_⟩
  rcases (show gcdn n v=1∨gcdn n v=0 by omega) with h|h
  ·exact .inl h
  ·refine .inr fun k hk=>?_
   have:=gcdn_dvd n v k hk
   rw[h] at this
   exact Int.zero_dvd.1 this
theorem divn_zero (n:Nat) (v:Nat→Int) (k:Nat) (h:v k=0):divn n v k=0:=by
 unfold divn
 split
 ·simp[h]
 ·exact h
def Dep (m:Nat) (f:Nat→Nat→Int):Prop:=∃ d:Nat→Int,(∃ k,k<m∧d k≠0)∧∀ x,sm m (fun k=>d k * f k x)=0
theorem sm_sw {α:Type} (i j m:Nat) (hi:i<m) (hj:j<m) (d:Nat→Int) (f:Nat→Nat→Int) (x:Nat):sm m (fun k=>sw i j d k * sw i j f k x)=sm m (fun k=>d k * f k x):=by
 by_cases e:i=j
 ·subst e
  exact sm_congr fun k _=>by
   have:∀ {β:Type} (g:Nat→β),sw i i g k=g k:=fun g=>by
    unfold sw
    by_cases c:k=i
    ·rw[if_pos c,c]
    ·rw[if_neg c,if_neg c]
   rw[this,this]
 ·have part:∀ g:Nat→Int,sm m g=sm m (fun k=>if k=i∨k=j then 0 else g k)+(g i+g j):=fun g=>by
   have e1:sm m g=sm m (fun k=>(if k=i∨k=j then 0 else g k)+(if k=i∨k=j then g k else 0)):=sm_congr fun k _=>by split <;> omega
   rw[e1,sm_add,sm_two (f:=fun k=>if k=i∨k=j then g k else 0) hi hj e fun k _ h1 h2=>if_neg (by omega)]
   show _+((if i=i∨i=j then g i else 0)+(if j=i∨j=j then g j else 0))=_
   rw[if_pos (.inl rfl),if_pos (.inr rfl)]
  rw[part (fun k=>sw i j d k * sw i j f k x),part (fun k=>d k * f k x)]
  have z:sm m (fun k=>if k=i∨k=j then 0 else sw i j d k * sw i j f k x)=sm m (fun k=>if k=i∨k=j then 0 else d k * f k x):=sm_congr fun k _=>by
   by_cases c:k=i∨k=j
   ·rw[if_pos c,if_pos c]
   ·rw[if_neg c,if_neg c]
    unfold sw
    rw[if_neg (by omega),if_neg (by omega),if_neg (by omega),if_neg (by omega)]
  have a:sw i j d i * sw i j f i x=d j * f j x:=by
   unfold sw
   rw[if_pos rfl,if_pos rfl]
  have b:sw i j d j * sw i j f j x=d i * f i x:=by
   unfold sw
   rw[if_neg (Ne.symm e),if_pos rfl,if_neg (Ne.symm e),if_pos rfl]
  show _+(sw i j d i * sw i j f i x+sw i j d j * sw i j f j x)=_+(d i * f i x+d j * f j x)
  rw[z,a,b]
  omega
theorem sw_sw {α:Type} (i j:Nat) (f:Nat→α) (k:Nat):sw i j (sw i j f) k=f k:=by
 unfold sw
 by_cases c1:k=i
 ·subst c1
  rw[if_pos rfl]
  by_cases c2:j=k
  ·rw[if_pos c2,c2]
  ·rw[if_neg c2,if_pos rfl]
 ·rw[if_neg c1]
  by_cases c2:k=j
  ·subst c2
   rw[if_pos rfl,if_pos rfl]
  ·rw[if_neg c2,if_neg c1,if_neg c2]
theorem dep_sw (i j m:Nat) (hi:i<m) (hj:j<m) (f:Nat→Nat→Int):Dep m (sw i j f)↔Dep m f:=by
 have one:∀ g:Nat→Nat→Int,Dep m g→Dep m (sw i j g):=fun g ⟨d,⟨k,hk,hd⟩,e⟩=>by
  obtain⟨l,hl,q,_⟩:=sw_pick (α:=Int) i j m hi hj k hk
  refine⟨sw i j d,⟨l,hl,?_⟩,fun x=>by rw[sm_sw (α:=Int) i j m hi hj];exact e x⟩
  have:=q (sw i j d)
  rw[sw_sw] at this
  rw[←this]
  exact hd
 refine⟨fun h=>?_,one f⟩
 obtain⟨d,hd,e⟩:=one _ h
 exact⟨d,hd,fun x=>by rw[←e x];exact sm_congr fun k _=>by rw[sw_sw]⟩
structure Inv (m n c:Nat) (A M:Nat→Nat→Int) (piv:List Nat):Prop where
 st:∃ o p,St m piv.length o M p∧(∀ j,j<piv.length→piv[j]?=some (p j))∧(∀ i,i<m→∀ x,-9≤o i x∧o i x≤9)∧(Dep m o↔Dep m A)
 tail:∀ i,piv.length≤i→i<m→∀ k,k<c→M i k=0
 asc:piv.Pairwise (·<·)
 low:∀ q,q∈piv→q<c
 nice:∀ i,i<m→Nice n (M i)
 zero:∀ i,i<m→∀ k,n≤k→M i k=0
 ker:∀ x,Ker m n M x↔Ker m n A x
theorem Inv.start (m n:Nat) (A:Nat→Nat→Int) (h9:∀ i,i<m→∀ x,-9≤A i x∧A i x≤9) (hz:∀ i,i<m→∀ k,n≤k→A i k=0):Inv m n 0 A A [] :=
 ⟨⟨A,fun _=>0,St.start m A _,fun j hj=>by simp at hj,h9,Iff.rfl⟩,fun i _ _ k hk=>by omega,List.Pairwise.nil,fun q hq=>by simp at hq,fun i hi=>.inr fun k _=>h9 i hi k,hz,fun x=>Iff.rfl⟩
theorem Inv.small {m n c:Nat} {A M:Nat→Nat→Int} {piv:List Nat} (h:Inv m n c A M piv) (hm:m≤5) (i:Nat) (hi:i<m) (k:Nat) : -184528125≤M i k∧M i k≤184528125:=by
 by_cases hk:k<n
 ·obtain⟨o,p,h1,h2,h3,_⟩:=h.st
  exact h1.bound hm h3 i hi (h.nice i hi) k hk
 ·rw[h.zero i hi k (by omega)]
  omega
def Keeps (w:Int→Int):Prop:=∀ x:Int,-9223372036854775808≤x→x≤9223372036854775807→w x=x
theorem newRow_told {w:Int→Int} (hw:Keeps w) {M:Nat→Nat→Int} {r c i:Nat} (h:∀ j k,j=r∨j=i → -184528125≤M j k∧M j k≤184528125) (k:Nat):newRow w M r c i k=M r c * M i k - M i c * M r k ∧ -68101257834375001≤M r c * M i k - M i c * M r k∧M r c * M i k - M i c * M r k≤68101257834375001:=by
 have mr:∀ a b:Int,-184528125≤a→a≤184528125 → -184528125≤b→b≤184528125 → -34050628916015625≤a * b∧a * b≤34050628916015625:=by
  intro c w h1 h2 h3 h4
  have p1:0≤(184528125 - c) * (184528125+w):=Int.mul_nonneg (by omega) (by omega)
  have p2:0≤(184528125+c) * (184528125 - w):=Int.mul_nonneg (by omega) (by omega)
  have p3:0≤(184528125 - c) * (184528125 - w):=Int.mul_nonneg (by omega) (by omega)
  have p4:0≤(184528125+c) * (184528125+w):=Int.mul_nonneg (by omega) (by omega)
  rw[Int.sub_mul,Int.mul_add,Int.mul_add] at p1
  rw[Int.add_mul,Int.mul_sub,Int.mul_sub] at p2
  rw[Int.sub_mul,Int.mul_sub,Int.mul_sub] at p3
  rw[Int.add_mul,Int.mul_add,Int.mul_add] at p4
  omega
 have a:=h r c (.inl rfl)
 have b:=h i k (.inr rfl)
 have d:=h r k (.inl rfl)
 have e:=h i c (.inr rfl)
 have p:=mr _ _ b.1 b.2 a.1 a.2
 have q:=mr _ _ d.1 d.2 e.1 e.2
 have c1:M r c * M i k=M i k * M r c:=Int.mul_comm _ _
 have c2:M i c * M r k=M r k * M i c:=Int.mul_comm _ _
 unfold newRow
 rw[hw (M i k * M r c) (by omega) (by omega),hw (M r k * M i c) (by omega) (by omega),hw (_ - _) (by omega) (by omega),c1,c2]
 exact⟨rfl,by omega,by omega⟩
theorem Inv.next {m n c:Nat} {A M:Nat→Nat→Int} {piv:List Nat} (h:Inv m n c A M piv) (hm:m≤5) (hcn:c<n) {w:Int→Int} (hw:Keeps w) (pv:Bool) {at_:Nat} (hat:piv.length≤at_) (ham:at_<m) (hne:M at_ c≠0) :
  Inv m n (c+1) A (colS w n m piv.length c (shortP pv n piv.length (sw piv.length at_ M))) (piv++[c]):=by
 obtain⟨o,p,s1,s2,s3,s4⟩:=h.st
 obtain⟨r,hr⟩:∃ r,r=piv.length:=⟨_,rfl⟩
 rw[←hr] at s1 s2 hat ⊢
 have hrm:r<m:=by omega
 have S:=s1.swap (Nat.le_refl r) hat hrm ham
 let N:=sw r at_ M
 have Nr:N r=M at_:=if_pos rfl
 have pick:∀ i,i<m→∃ l,l<m∧N i=M l∧(r≤i↔r≤l):=fun i hi=>by
  obtain⟨l,hl,e,q⟩:=sw_pick (α:=Nat→Int) r at_ m hrm ham i hi
  exact⟨l,hl,e M,(q r (Nat.le_refl _) hat).1⟩
 have Nz:∀ i,i<m→∀ k,n≤k→N i k=0:=fun i hi k hk=>by
  obtain⟨l,hl,e,_⟩:=pick i hi
  rw[e]
  exact h.zero l hl k hk
 have Ns:∀ i,i<m→∀ k,-184528125≤N i k∧N i k≤184528125:=fun i hi k=>by
  obtain⟨l,hl,e,_⟩:=pick i hi
  rw[e]
  exact h.small hm l hl k
 have Nn:∀ i,i<m→Nice n (N i):=fun i hi=>by
  obtain⟨l,hl,e,_⟩:=pick i hi
  rw[e]
  exact h.nice l hl
 have Nt:∀ i,r≤i→i<m→∀ k,k<c→N i k=0:=fun i h1 hi k hk=>by
  obtain⟨l,hl,e,q⟩:=pick i hi
  rw[e]
  exact h.tail l (by rw[←hr];exact q.1 h1) hl k hk
 let P:=shortP pv n r N
 obtain⟨g,hg,Pr,Pn⟩:∃ g:Int,g≠0∧(∀ k,g * P r k=N r k)∧Nice n (P r):=by
  cases pv
  ·exact⟨1,by omega,fun k=>Int.one_mul _,Nn r hrm⟩
  ·obtain⟨g,h1,h2,h3⟩:=divn_told n (N r) (Nz r hrm)
   have h1:g≠0:=by omega
   have e:P r=divn n (N r):=if_pos rfl
   rw[e]
   refine⟨g,h1,h2,h3.elim .inl fun q=>.inr fun k hk=>by rw[q k hk];omega⟩
 have Po:∀ i,i≠r→P i=N i:=fun i hi=>by
  cases pv
  ·rfl
  ·exact if_neg hi
 have Pz:∀ i,i<m→∀ k,n≤k→P i k=0:=fun i hi k hk=>by
  by_cases e:i=r
  ·subst e
   have:=Pr k
   rw[Nz i hi k hk] at this
   exact(Int.mul_eq_zero.1 this).resolve_left hg
  ·rw[Po i e]
   exact Nz i hi k hk
 have Ps:∀ i,i<m→∀ k,-184528125≤P i k∧P i k≤184528125:=fun i hi k=>by
  by_cases e:i=r
  ·subst e
   have:=Ns i hi k
   rw[←Pr k] at this
   exact abs_le_mul hg this
  ·rw[Po i e]
   exact Ns i hi k
 have Pc:P r c≠0:=fun e=>by
  have:=Pr c
  rw[e,Int.mul_zero,Nr] at this
  exact hne this.symm
 let R:=colS w n m r c P
 have Rr:R r=P r:=if_neg fun q=>q.2.1 rfl
 have told:∀ i,i<m→∀ k,newRow w P r c i k=P r c * P i k - P i c * P r k:=fun i hi k=>(newRow_told hw (fun j k hj=>by
  rcases hj with rfl|rfl
  ·exact Ps _ hrm k
  ·exact Ps _ hi k) k).1
 have Ri:∀ i,i<m→i≠r→∃ g:Int,g≠0∧(∀ k,g * R i k=P r c * P i k - P i c * P r k)∧Nice n (R i):=fun i hi hir=>by
  by_cases z:P i c=0
  ·have e:R i=P i:=if_neg fun q=>q.2.2 z
   refine⟨P r c,Pc,fun k=>by rw[e,z];omega,?_⟩
   rw[e,Po i hir]
   exact Nn i hi
  ·have e:R i=divn n (newRow w P r c i):=if_pos ⟨hi,hir,z⟩
   obtain⟨g',h1,h2,h3⟩:=divn_told n (newRow w P r c i) fun k hk=>by
    rw[told i hi k,Pz i hi k hk,Pz r hrm k hk]
    omega
   have h1:g'≠0:=by omega
   refine⟨g',h1,fun k=>by rw[e,h2 k];exact told i hi k,?_⟩
   rw[e]
   exact h3.elim .inl fun q=>.inr fun k hk=>by rw[q k hk];omega
 have hp:∃ e f:Int,e≠0∧f≠0∧∀ x,e * R r x=f * N r x:=⟨g,1,hg,by omega,fun x=>by rw[Rr,Pr,Int.one_mul]⟩
 have hi:∀ i,i<m→i≠r→∃ g:Int,g≠0∧∀ x,g * R i x=N r c * N i x - N i c * N r x:=fun i him hir=>by
  obtain⟨g',h1,h2,_⟩:=Ri i him hir
  refine⟨g * g',Int.mul_ne_zero hg h1,fun x=>?_⟩
  have a:=h2 x
  have b:=Pr c
  have d:=Pr x
  rw[Po i hir] at a
  rw[Int.mul_assoc,a,←b,←d]
  grind
 have Nc:N r c≠0:=by rw[Nr];exact hne
 have T:=S.step hrm c Nc hp hi
 have len:(piv++[c]).length=r+1:=by simp[hr]
 refine⟨⟨sw r at_ o,_,by rw[len];exact T,fun j hj=>?_,fun i hi x=>?_,?_⟩,fun i h1 him k hk=>?_,?_,fun q hq=>?_,fun i him=>?_,fun i him k hk=>?_,fun x=>?_⟩
 ·by_cases e:j=r
  ·subst e
   rw[if_pos rfl,hr,List.getElem?_append_right (Nat.le_refl _)]
   simp
  ·rw[if_neg e,List.getElem?_append_left (by rw[len] at hj;omega)]
   exact s2 j (by rw[len] at hj;omega)
 ·obtain⟨l,hl,e,_⟩:=sw_pick (α:=Nat→Int) r at_ m hrm ham i hi
  rw[e]
  exact s3 l hl x
 ·exact(dep_sw r at_ m hrm ham o).trans s4
 ·rw[len] at h1
  show R i k=0
  obtain⟨g',q1,q2,_⟩:=Ri i him (by omega)
  have q:=q2 k
  have zero:P r c * P i k - P i c * P r k=0:=by
   by_cases ek:k=c
   ·rw[ek]
    rw[Int.mul_comm]
    omega
   ·have a:P r k=0:=by
     have:=Pr k
     rw[Nt r (Nat.le_refl _) hrm k (by omega)] at this
     exact(Int.mul_eq_zero.1 this).resolve_left hg
    have b:P i k=0:=by
     rw[Po i (by omega)]
     exact Nt i (by omega) him k (by omega)
    rw[a,b]
    omega
  rw[zero] at q
  exact(Int.mul_eq_zero.1 q).resolve_left q1
 ·rw[List.pairwise_append]
  exact⟨h.asc,List.pairwise_singleton _ _,fun a ha b hb=>by rw[List.mem_singleton.1 hb];exact h.low a ha⟩
 ·rcases List.mem_append.1 hq with hq|hq
  ·have:=h.low q hq
   omega
  ·rw[List.mem_singleton.1 hq]
   omega
 ·show Nice n (R i)
  by_cases e:i=r
  ·rw[e,Rr]
   exact Pn
  ·exact(Ri i him e).choose_spec.2.2
 ·show R i k=0
  by_cases e:i=r
  ·rw[e,Rr]
   exact Pz r hrm k hk
  ·obtain⟨g',q1,q2,_⟩:=Ri i him e
   have q:=q2 k
   rw[Pz i him k hk,Pz r hrm k hk,Int.mul_zero,Int.mul_zero,Int.sub_zero] at q
   exact(Int.mul_eq_zero.1 q).resolve_left q1
 ·exact(ker_step hrm c Nc hp hi).trans ((ker_swap hrm ham).trans (h.ker x))
theorem Inv.skip {m n c:Nat} {A M:Nat→Nat→Int} {piv:List Nat} (h:Inv m n c A M piv) (hz:∀ i,piv.length≤i→i<m→M i c=0):Inv m n (c+1) A M piv :=
 ⟨h.st,fun i h1 h2 k hk=>by
  by_cases e:k=c
  ·rw[e]
   exact hz i h1 h2
  ·exact h.tail i h1 h2 k (by omega),h.asc,fun q hq=>by have:=h.low q hq;omega,h.nice,h.zero,h.ker⟩
theorem Inv.all {m n:Nat} (hm:m≤5) {w:Int→Int} (hw:Keeps w) (pv:Bool) {A:Nat→Nat→Int}:∀ (k c:Nat) (M:Nat→Nat→Int) (piv:List Nat),c+k=n→Inv m n c A M piv→Inv m n n A (elim w pv n m k c M piv).1 (elim w pv n m k c M piv).2
|0,c,M,piv,hc,h=>by
  obtain rfl:c=n:=by omega
  exact h
|k+1,c,M,piv,hc,h=>by
  have hr:piv.length≤m:=h.st.choose_spec.choose_spec.1.hr
  obtain⟨f1,f2,f3,f4⟩:=findAt_told M c m (m - piv.length) piv.length (by omega)
  by_cases e:findAt M c m (m - piv.length) piv.length=m
  ·rw[elim,if_pos e]
   exact Inv.all hm hw pv k (c+1) M piv (by omega) (h.skip fun i h1 h2=>f3 i h1 (by omega))
  ·rw[elim,if_neg e]
   exact Inv.all hm hw pv k (c+1) _ _ (by omega) (h.next hm (by omega) hw pv f1 (by omega) (f4 (by omega)))
theorem Inv.fin {m n:Nat} {A M:Nat→Nat→Int} {piv:List Nat} (h:Inv m n n A M piv):∃ o p,St m piv.length o M p∧Fin_ m n piv.length M p∧(∀ j,j<piv.length→piv[j]?=some (p j))∧(∀ i,i<m→∀ x,-9≤o i x∧o i x≤9)∧(Dep m o↔Dep m A):=by
 obtain⟨o,p,s1,s2,s3,s4⟩:=h.st
 refine⟨o,p,s1,s1.fin h.tail fun j hj=>h.low _ ?_,s2,s3,s4⟩
 exact List.mem_of_getElem? (s2 j hj)
theorem Inv.dep {m n:Nat} {A M:Nat→Nat→Int} {piv:List Nat} (h:Inv m n n A M piv) (hA:∀ i,i<m→∀ k,n≤k→A i k=0):Dep m A↔piv.length<m:=by
 obtain⟨o,p,s1,s2,s3,s4,s5⟩:=h.fin
 rw[←s5]
 constructor
 ·rintro⟨d,⟨k,hk,hd⟩,e⟩
  by_cases c:piv.length=m
  ·have:=s1.ind d (by rw[c];exact e) k (by omega)
   exact absurd this hd
  ·have:=s1.hr
   omega
 ·intro hlt
  obtain⟨a,b,ha,hb,q⟩:=s1.near piv.length (Nat.le_refl _) hlt
  have z:∀ x,M piv.length x=0:=fun x=>by
   by_cases hx:x<n
   ·exact s2.tail _ (Nat.le_refl _) hlt x hx
   ·exact h.zero _ hlt x (by omega)
  obtain⟨s,c,hs,e⟩:=q
  refine⟨fun k=>if k<piv.length then c k else if k=piv.length then -(s * b) else 0,⟨piv.length,hlt,?_⟩,fun x=>?_⟩
  ·show (if piv.length<piv.length then c piv.length else if piv.length=piv.length then -(s * b) else 0)≠0
   rw[if_neg (by omega),if_pos rfl]
   have:=Int.mul_ne_zero hs hb
   omega
  ·have e:s * (a * M piv.length x+b * o piv.length x)=sm piv.length (fun k=>c k * o k x):=e x
   rw[z x,Int.mul_zero,Int.zero_add] at e
   rw[sm_mono (n:=piv.length+1) hlt fun k h1 _=>by
    show (if k<piv.length then c k else if k=piv.length then -(s * b) else 0) * o k x=0
    rw[if_neg (by omega),if_neg (by omega),Int.zero_mul]]
   show sm piv.length _+(if piv.length<piv.length then c piv.length else if piv.length=piv.length then -(s * b) else 0) * o piv.length x=0
   rw[if_neg (by omega),if_pos rfl,sm_congr (g:=fun k=>c k * o k x) fun k hk=>by
    show (if k<piv.length then c k else if k=piv.length then -(s * b) else 0) * o k x=_
    rw[if_pos hk],←e]
   grind
def lcs (a:Nat→Int):Nat→Int
|0=>1
|j+1=>lcs a j / (Int.gcd (lcs a j) (a j):Int) * ((a j).natAbs:Int)
theorem lcm_step (x y:Nat) (hx:0<x):x / Nat.gcd x y * y=Nat.lcm x y:=by
 have hg:0<Nat.gcd x y:=Nat.gcd_pos_of_pos_left _ hx
 apply Nat.eq_of_mul_eq_mul_left hg
 rw[Nat.gcd_mul_lcm,←Nat.mul_assoc,Nat.mul_div_cancel' (Nat.gcd_dvd_left x y)]
theorem lcs_nat (a:Nat→Int):∀ (r:Nat),(∀ j,j<r→a j≠0)→∃ L:Nat,lcs a r=(L:Int)∧0<L∧(∀ j,j<r→(a j).natAbs ∣ L)∧∀ D:Nat,(∀ j,j<r→(a j).natAbs ∣ D)→L ∣ D
|0,_=>⟨1,rfl,by omega,fun j hj=>by omega,fun D _=>Nat.one_dvd _⟩
|r+1,h=>by
  obtain⟨L,e,hL,d,l⟩:=lcs_nat a r fun j hj=>h j (by omega)
  have ha:0<(a r).natAbs:=by
   have:=h r (by omega)
   omega
  refine⟨Nat.lcm L (a r).natAbs,?_,Nat.lcm_pos hL ha,fun j hj=>?_,fun D hD=>?_⟩
  ·rw[←lcm_step L _ hL]
   show lcs a r / (Int.gcd (lcs a r) (a r):Int) * ((a r).natAbs:Int)=_
   rw[e,Int.gcd,Int.natAbs_natCast]
   simp
  ·by_cases c:j=r
   ·subst c
    exact Nat.dvd_lcm_right _ _
   ·exact Nat.dvd_trans (d j (by omega)) (Nat.dvd_lcm_left _ _)
  ·exact Nat.lcm_dvd (l D fun j hj=>hD j (by omega)) (hD r (by omega))
theorem Inv.rel {m n:Nat} {A M:Nat→Nat→Int} {piv:List Nat} (h:Inv m n n A M piv) (hm:m≤5) (hn6:n≤6) (hrn:piv.length+1=n) {f:Nat} (hf:f<n) (hfp:f ∉ piv) {a:Nat→Int} (ha:∀ j q,piv[j]?=some q→a j=M j q) {u:Nat→Int} (hu1:u f=lcs a piv.length) (hu2:∀ j q,piv[j]?=some q→u q = -(M j f) * (lcs a piv.length / M j q)) (hu3:∀ k,n≤k→u k=0) :
  (Ker m n A (divn n u)∧gcdn n (divn n u)=1∧0<divn n u f)∧(∀ k,-1157095860480≤u k∧u k≤1157095860480)∧(∀ j,j≤piv.length→0<lcs a j∧lcs a j≤1157095860480)∧One n (Ker m n A):=by
 obtain⟨o,p,s1,s2,s3,s4,s5⟩:=h.fin
 obtain⟨r,hr⟩:∃ r,r=piv.length:=⟨_,rfl⟩
 rw[←hr] at s1 s2 s3 hrn hu1 ⊢
 have f1:∀ j,j<r→p j≠f:=fun j hj e=>hfp (by rw[←e];exact List.mem_of_getElem? (s3 j hj))
 have aj:∀ j,j<r→a j=M j (p j):=fun j hj=>ha j _ (s3 j hj)
 have a0:∀ j,j<r→a j≠0:=fun j hj=>by rw[aj j hj];exact s2.piv j hj
 have up:∀ j,j<r→u (p j) = -(M j f) * (lcs a r / M j (p j)):=fun j hj=>by rw[hr];exact hu2 j _ (s3 j hj)
 obtain⟨L,eL,hL,dL,lL⟩:=lcs_nat a r a0
 obtain⟨x,x1,x2,x3⟩:=s2.free hf f1
 have zx:∀ k,n≤k→(fun k=>if k<n then x k else 0) k=0:=fun k hk=>if_neg (by omega)
 obtain⟨g,g1,g2,g3⟩:=divn_told n (fun k=>if k<n then x k else 0) zx
 obtain⟨w,hw⟩:∃ w,w=divn n (fun k=>if k<n then x k else 0):=⟨_,rfl⟩
 rw[←hw] at g2 g3
 have wf:w f≠0:=fun e=>by
  have:=g2 f
  rw[e,Int.mul_zero] at this
  simp only[if_pos hf] at this
  exact x2 this.symm
 have wg:gcdn n w=1:=g3.resolve_right fun q=>wf (q f hf)
 have wk:Ker m n M w:=fun i hi=>by
  have e:g * sm n (fun k=>M i k * w k)=0:=by
   rw[←sm_mul,←x1 i hi]
   exact sm_congr fun k hk=>by
    have:=g2 k
    simp only[if_pos hk] at this
    rw[←this]
    grind
  exact(Int.mul_eq_zero.1 e).resolve_left (by omega)
 have ws:∀ k,k<n → -459165024≤w k∧w k≤459165024:=fun k hk=>s1.kernel s2 hrn hn6 s4 wk wg k hk
 have dv:∀ j,j<r→a j ∣ 2520 * w f:=fun j hj=>by
  rw[aj j hj]
  exact s2.divides hf f1 hrn wk j hj (h.nice j (by have:=s2.hr;omega))
 have small:∀ j,j≤r→0<lcs a j∧lcs a j≤1157095860480∧lcs a j ∣ 2520 * w f:=fun j hj=>by
  obtain⟨K,eK,hK,_,lK⟩:=lcs_nat a j fun i hi=>a0 i (by omega)
  have d:=lK (2520 * w f).natAbs fun i hi=>Int.natAbs_dvd_natAbs.2 (dv i (by omega))
  have b:=ws f hf
  have:=Nat.le_of_dvd (by omega) d
  rw[eK]
  exact⟨by omega,by omega,Int.ofNat_dvd_left.2 d⟩
 have uk:Ker m n M u:=fun i hi=>by
  by_cases c:i<r
  ·rw[sm_two (i:=p i) (j:=f) (s2.pn i c) hf (f1 i c) fun k hk h1 h2=>?_]
   ·have d:M i (p i) ∣ lcs a r:=by
     rw[eL,←aj i c]
     exact Int.ofNat_dvd_right.2 (dL i c)
    rw[up i c,hu1,Int.neg_mul,Int.mul_neg,←Int.mul_assoc,Int.mul_comm (M i (p i)),Int.mul_assoc,Int.mul_ediv_cancel' d]
    omega
   ·rcases s2.cover hf f1 hrn k hk with rfl|⟨j,hj,rfl⟩
    ·exact absurd rfl h2
    ·rw[s2.off j hj i hi fun e=>h1 (by rw[e]),Int.zero_mul]
  ·exact sm_zero fun k hk=>by rw[s2.tail i (by omega) hi k hk,Int.zero_mul]
 have uf:u f≠0:=by
  rw[hu1,eL]
  omega
 obtain⟨g',q1,q2,q3⟩:=divn_told n u hu3
 have vf:0<divn n u f:=by
  have e:=q2 f
  rw[hu1,eL] at e
  apply Classical.byContradiction
  intro c
  have:0≤g' * -(divn n u f):=Int.mul_nonneg (by omega) (by omega)
  rw[Int.mul_neg] at this
  omega
 refine⟨⟨(h.ker _).1 fun i hi=>?_,q3.resolve_right fun q=>by have:=q f hf;omega,vf⟩,fun k=>?_,fun j hj=>⟨(small j hj).1,(small j hj).2.1⟩,?_⟩
 ·have e:g' * sm n (fun k=>M i k * divn n u k)=0:=by
   rw[←sm_mul,←uk i hi]
   exact sm_congr fun k hk=>by
    rw[←q2 k]
    grind
  exact(Int.mul_eq_zero.1 e).resolve_left (by omega)
 ·by_cases hk:k<n
  ·obtain⟨s,hs⟩:=(small r (Nat.le_refl _)).2.2
   have l:=s2.line hf f1 hrn uk wk k hk
   rw[hu1] at l
   have e:w f * (s * u k)=w f * (2520 * w k):=by
    have:w f * (s * u k)=s * (w f * u k):=by grind
    rw[this,←l]
    have:s * (lcs a r * w k)=(lcs a r * s) * w k:=by grind
    rw[this,←hs]
    grind
   have e:=Int.eq_of_mul_eq_mul_left wf e
   have s0:s≠0:=fun z=>by
    rw[z,Int.mul_zero] at hs
    exact wf ((Int.mul_eq_zero.1 hs).resolve_left (by omega))
   have b:=ws k hk
   exact abs_le_mul s0 (by omega)
  ·rw[hu3 k (by omega)]
   omega
 ·have:=s2.one.2 hrn
  obtain⟨⟨y,y1,y2⟩,t⟩:=this
  exact⟨⟨y,(h.ker y).1 y1,y2⟩,fun x y hx hy=>t x y ((h.ker x).2 hx) ((h.ker y).2 hy)⟩
theorem Inv.one {m n:Nat} {A M:Nat→Nat→Int} {piv:List Nat} (h:Inv m n n A M piv):One n (Ker m n A)↔piv.length+1=n:=by
 obtain⟨o,p,s1,s2,s3,s4,s5⟩:=h.fin
 rw[←s2.one]
 constructor
 ·rintro⟨⟨y,y1,y2⟩,t⟩
  exact⟨⟨y,(h.ker y).2 y1,y2⟩,fun x y hx hy=>t x y ((h.ker x).1 hx) ((h.ker y).1 hy)⟩
 ·rintro⟨⟨y,y1,y2⟩,t⟩
  exact⟨⟨y,(h.ker y).1 y1,y2⟩,fun x y hx hy=>t x y ((h.ker x).2 hx) ((h.ker y).2 hy)⟩
theorem line_sign {n:Nat} {K:(Nat→Int)→Prop} (hK:One n K) {u v:Nat→Int} (hu:K u) (hv:K v) (gu:gcdn n u=1) (gv:gcdn n v=1):∃ t:Int,(t=1∨t = -1)∧∀ k,k<n→v k=t * u k:=by
 obtain⟨a,b,hab,e⟩:=hK.2 u v hu hv
 have nz:∀ w:Nat→Int,gcdn n w=1→∃ k,k<n∧w k≠0:=fun w hw=>Classical.byContradiction fun c=>by
  have:=gcdn_zero (n:=n) (w:=w) fun k hk=>Classical.byContradiction fun d=>c ⟨k,hk,d⟩
  omega
 have a0:a≠0:=fun z=>by
  obtain⟨k,hk,q⟩:=nz v gv
  have:=e k hk
  rw[z,Int.zero_mul] at this
  have:=(Int.mul_eq_zero.1 this.symm).resolve_right q
  omega
 have b0:b≠0:=fun z=>by
  obtain⟨k,hk,q⟩:=nz u gu
  have:=e k hk
  rw[z,Int.zero_mul] at this
  exact a0 ((Int.mul_eq_zero.1 this).resolve_right q)
 obtain⟨t,ht,q⟩:=prim_mul gu a0 b0 e
 obtain⟨t',ht',q'⟩:=prim_mul gv b0 a0 fun k hk=>(e k hk).symm
 obtain⟨k,hk,z⟩:=nz u gu
 have c:=q' k hk
 rw[q k hk,←Int.mul_assoc] at c
 have d:t' * t=1:=by
  have:(t' * t) * u k=1 * u k:=by omega
  exact Int.eq_of_mul_eq_mul_right z this
 refine⟨t,?_,q⟩
 have d2:t'.natAbs * t.natAbs=1:=by
  rw[←Int.natAbs_mul,d]
  rfl
 have:=Nat.eq_one_of_mul_eq_one_left d2
 omega
theorem signs_same {n:Nat} {w1 w2 l:Nat→Int} {t:Int} (ht:t=1∨t = -1) (h:∀ k,k<n→w2 k=t * (l k * w1 k)) {f:Nat} (hf:f<n) (hpos:0<w2 f) (h0:0<n) :
  ((∀ k,k<n→0<(if w1 0 * l 0<0 then -1 else 1) * w1 k * l k)↔∀ k,k<n→0<w2 k)∧((∀ k,k<n→0<w2 k)→∀ k,k<n→(if w1 0 * l 0<0 then -1 else 1) * w1 k * l k=w2 k):=by
 have e:∀ (s:Int) k,s * w1 k * l k=s * (l k * w1 k):=fun s k=>by grind
 have c0:w1 0 * l 0=l 0 * w1 0:=Int.mul_comm _ _
 have z:=h 0 h0
 have hfq:=h f hf
 rcases ht with rfl|rfl
 ·simp only[Int.one_mul] at h z hfq
  by_cases c:w1 0 * l 0<0
  ·rw[if_pos c]
   refine⟨⟨fun q=>?_,fun q=>?_⟩,fun q=>?_⟩
   ·have:=q f hf
    rw[e] at this
    omega
   ·have:=q 0 h0
    omega
   ·have:=q 0 h0
    omega
  ·rw[if_neg c]
   refine⟨⟨fun q k hk=>?_,fun q k hk=>?_⟩,fun q k hk=>?_⟩
   ·have:=q k hk
    rw[e] at this
    rw[h k hk]
    omega
   ·rw[e]
    have:=q k hk
    rw[h k hk] at this
    omega
   ·rw[e,h k hk]
    omega
 ·by_cases c:w1 0 * l 0<0
  ·rw[if_pos c]
   refine⟨⟨fun q k hk=>?_,fun q k hk=>?_⟩,fun q k hk=>?_⟩
   ·have:=q k hk
    rw[e] at this
    rw[h k hk]
    exact this
   ·rw[e,←h k hk]
    exact q k hk
   ·rw[e,h k hk]
  ·rw[if_neg c]
   refine⟨⟨fun q=>?_,fun q=>?_⟩,fun q=>?_⟩
   ·have:=q f hf
    rw[e] at this
    omega
   ·have:=q 0 h0
    omega
   ·have:=q 0 h0
    omega
end Go.Proofs.Ytdjclffkidoohaa.Lin
end
section
set_option linter.unusedVariables false
set_option linter.unusedSimpArgs false
namespace Go.Proofs.Ytdjclffkidoohaa.Base
open Go.RowKit Go.Proofs.YtdjclffkidoohaaW.PrintWords Go.Proofs.YtdjclffkidoohaaW.PrintLast Go.Proofs.YtdjclffkidoohaaW.PrintMore
theorem w64 {x:Int} (h1 : -9223372036854775808≤x) (h2:x≤9223372036854775807):wrap64 x=x:=by
 unfold wrap64
 omega
theorem w64_nat {n:Nat} (h:n≤4611686018427387904):wrap64 ((n:Int)+1)=((n+1:Nat):Int):=by
 rw[w64 (by omega) (by omega)]
 omega
theorem rd_nat (l:List Int) (i:Nat) (h:i<l.length):rd l (i:Int)=l[i]:=by
 simp[rd,h]
def inB (lo hi x:Int):Bool:=decide (lo≤x∧x≤hi)
theorem inB_iff {lo hi x:Int}:inB lo hi x=true↔lo≤x∧x≤hi:=by simp[inB]
theorem within_is (a lo hi:Int):(if a ≥ lo then(some (decide (a≤hi))) else(some false))=some (inB lo hi a):=by
 unfold inB
 by_cases h:a ≥ lo
 ·rw[if_pos h]
  congr 1
  by_cases h2:a≤hi <;> simp[h2]
  omega
 ·rw[if_neg h]
  congr 1
  simp
  omega
def ptB (x:List Int):Bool:=inB 1 4 x.length && x.all (inB (-9) 9)
theorem all_range {l:List Int} {lo hi:Int} (h:l.all (inB lo hi)=true) (i:Nat) (hi':i<l.length):lo≤l[i]∧l[i]≤hi:=by
 have:=List.all_eq_true.1 h l[i] (List.getElem_mem hi')
 exact inB_iff.1 this
theorem shl_pow (n:Int) (h0:0≤n) (h1:n≤4):shl .i64 1 n=2 ^ n.toNat:=by
 rcases (show n=0∨n=1∨n=2∨n=3∨n=4 by omega) with rfl|rfl|rfl|rfl|rfl <;> decide
def bitsFrom (x:Int):Nat→Nat→List Int
|_,0=>[]
|i,j+1=>Go.bits .and .i64 (shr .i64 x i) 1 :: bitsFrom x (i+1) j
theorem bitsFrom_length (x:Int):∀ (j i:Nat),(bitsFrom x i j).length=j
|0,_=>rfl
|j+1,i=>by simp[bitsFrom,bitsFrom_length x j]
def sqd:List Int→List Int→Int
|x :: xs,y :: ys=>(x - y) * (x - y)+sqd xs ys
|_,_=>0
def wdot:Int→List Int→List Int→Int
|s,a :: as_,b :: bs=>wdot (wrap64 (s+wrap64 (a * b))) as_ bs
|s,_,_=>s
def lbB (x:Int):Bool:=decide (x=1∨x = -1)
def smB (ps:List (List Int)) (ls:List Int):Bool:=decide (ps.length≤16) && decide (ls.length=ps.length) && ls.all lbB && ps.all (fun x=>ptB x && decide (x.length=(ps.headD []).length))
theorem ptB_parts {x:List Int} (h:ptB x=true):x.all (inB (-9) 9)=true∧1≤x.length∧x.length≤4:=by
 unfold ptB at h
 have h2:=Bool.and_eq_true_iff.1 h
 have:=inB_iff.1 h2.1
 exact⟨h2.2,by omega,by omega⟩
theorem smB_parts {ps:List (List Int)} {ls:List Int} (h:smB ps ls=true):ps.length≤16∧ls.length=ps.length∧ls.all lbB=true∧∀ x∈ps,ptB x=true∧x.length=(ps.headD []).length:=by
 unfold smB at h
 have h2:=Bool.and_eq_true_iff.1 h
 have h3:=Bool.and_eq_true_iff.1 h2.1
 have h4:=Bool.and_eq_true_iff.1 h3.1
 refine⟨of_decide_eq_true h4.1,of_decide_eq_true h4.2,h3.2,fun x hx=>?_⟩
 have q:=Bool.and_eq_true_iff.1 (List.all_eq_true.1 h2.2 x hx)
 exact⟨q.1,of_decide_eq_true q.2⟩
def bitOf (a i:Nat):Int:=Go.bits .and .i64 (shr .i64 (a:Int) (i:Int)) 1
def signedL (l:Int) (p:List Int):List Int:=l :: p.map fun x=>wrap64 (x * l)
end Go.Proofs.Ytdjclffkidoohaa.Base
end
