/- Proved: the law FnPartings answers true for every code: what is drawn is answered as by the reference, the tables of small weights are 2 at least and no more than all, and as many lists of labels can be parted as the bound tells for points in general position, and for others no more; no condition. -/
import Derived.IntWalk
import Derived.Laws.Bits64b
import Derived.Test.YtdjclffkidoohaaVFnPartings
import Derived.Test.YtdjclffkidoohaaZFnPartingsL
import Derived.Test.YtdjclffkidoohaaZFnPartingsx21
set_option linter.unusedVariables false
set_option linter.unusedSimpArgs false
namespace Go.Proofs.Ytdjclffkidoohaa.Pure
open Go.RowKit Go.Proofs.Ytdjclffkidoohaa.QFnPartings Go.Proofs.YtdjclffkidoohaaW.PrintWords Go.Proofs.YtdjclffkidoohaaW.PrintLast Go.Proofs.YtdjclffkidoohaaW.PrintMore Go.Proofs.Ytdjclffkidoohaa.Base Go.Proofs.Ytdjclffkidoohaa.Lin
theorem spec_l1In_is (a lo hi:Int):spec_l1In.f a lo hi=some (inB lo hi a):=by
 unfold spec_l1In.f
 exact within_is a lo hi
theorem spec_l1Own_is (l:List Int) (h:l.length<17592186044416):Kz1.f l=some l:=by
 unfold Kz1.f
 simp only[Option.bind_some]
 rw[if_pos (by simpa using h)]
 simp
theorem spec_l2Dot_l:∀ (k i:Nat) (x y:List Int) (s:Int),x.length≤4611686018427387904→x.length≤y.length→i≤x.length→x.length<i+k→Yz1.l0 k x y s (i:Int)=some (wdot s (x.drop i) (y.drop i))
|0,_,_,_,_,_,_,_,hk=>by omega
|k+1,i,x,y,s,hn,hl,hi,hk=>by
  simp only[Yz1.l0]
  by_cases h:i<x.length
  ·have hy':i<y.length:=by omega
   rw[if_pos (by omega),if_pos (by omega),if_pos (by omega),rd_nat x i h,rd_nat y i hy',w64_nat (by omega)]
   rw[spec_l2Dot_l k (i+1) x y _ hn hl (by omega) (by omega),List.drop_eq_getElem_cons h,List.drop_eq_getElem_cons hy']
   simp only[wdot]
  ·rw[if_neg (by omega),List.drop_of_length_le (by omega)]
   simp[wdot]
theorem spec_l2Dot_is (k:Nat) (x y:List Int) (hn:x.length≤4611686018427387904) (hl:x.length≤y.length) (hk:x.length<k):Yz1.f k x y=some (wdot 0 x y):=by
 unfold Yz1.f
 have:=spec_l2Dot_l k 0 x y 0 hn hl (by omega) (by omega)
 simpa using this
def sideI (ws:List Int) (b:Int) (x:List Int):Int:=if wdot 0 ws x ≥ b then 1 else -1
theorem spec_l2Side_is (k:Nat) (ws:List Int) (b:Int) (x:List Int) (h1:ws.length≤4611686018427387904) (hl:ws.length≤x.length) (hk:ws.length<k):Zx1.f k ws b x=some (sideI ws b x):=by
 unfold Zx1.f sideI
 rw[spec_l2Dot_is k ws x h1 hl hk]
 simp only[Option.bind_some]
 split <;> rfl
theorem spec_l2BitPoint_l (x:Int):∀ (k j i:Nat) (acc:List Int),i+j≤64→j<k→acc.length≤i→Xz1.l0 k ((i+j:Nat):Int) x acc (i:Int)=some (acc++bitsFrom x i j)
|0,_,_,_,_,hk,_=>by omega
|k+1,0,i,acc,_,_,_=>by
  simp only[Xz1.l0]
  rw[if_neg (by omega)]
  simp[bitsFrom]
|k+1,j+1,i,acc,h,hk,ha=>by
  simp only[Xz1.l0]
  rw[if_pos (by omega),if_pos (by omega),if_pos (by omega),w64_nat (by omega)]
  have:=spec_l2BitPoint_l x k j (i+1) (acc++[Go.bits .and .i64 (shr .i64 x i) 1]) (by omega) (by omega) (by simp;omega)
  rw[show i+1+j=i+(j+1) by omega] at this
  rw[this]
  simp[bitsFrom]
theorem spec_l2BitPoint_is (k n:Nat) (x:Int) (hn:n≤64) (hk:n<k):Xz1.f k (n:Int) x=some (bitsFrom x 0 n):=by
 unfold Xz1.f
 have:=spec_l2BitPoint_l x k n 0 [] (by omega) hk (by simp)
 simpa using this
theorem impl_within_is (a lo hi:Int):Vw.f a lo hi=some (inB lo hi a):=by
 unfold Vw.f
 exact within_is a lo hi
theorem impl_product_l:∀ (k i:Nat) (x y:List Int) (s:Int),x.length≤4611686018427387904→x.length≤y.length→i≤x.length→x.length<i+k→Gv.l0 k y s x (x.length:Int) (i:Int)=some (wdot s (x.drop i) (y.drop i))
|0,_,_,_,_,_,_,_,hk=>by omega
|k+1,i,x,y,s,hn,hl,hi,hk=>by
  simp only[Gv.l0]
  by_cases h:i<x.length
  ·have hy':i<y.length:=by omega
   rw[if_pos (by omega),if_pos (by omega),if_pos (by omega),if_pos (by omega),rd_nat x i h,rd_nat y i hy',w64_nat (by omega)]
   rw[impl_product_l k (i+1) x y _ hn hl (by omega) (by omega),List.drop_eq_getElem_cons h,List.drop_eq_getElem_cons hy']
   simp only[wdot]
  ·rw[if_neg (by omega),List.drop_of_length_le (by omega)]
   simp[wdot]
theorem impl_product_is (k:Nat) (x y:List Int) (hn:x.length≤4611686018427387904) (hl:x.length≤y.length) (hk:x.length<k):Gv.f k x y=some (wdot 0 x y):=by
 unfold Gv.f
 have:=impl_product_l k 0 x y 0 hn hl (by omega) (by omega)
 simpa using this
theorem impl_bitPoint_l (x:Int):∀ (k j i:Nat) (acc:List Int),i+j≤64→j<k→acc.length≤i→Jv.l0 k x acc ((i+j:Nat):Int) (i:Int)=some (acc++bitsFrom x i j)
|0,_,_,_,_,hk,_=>by omega
|k+1,0,i,acc,_,_,_=>by
  simp only[Jv.l0]
  rw[if_neg (by omega)]
  simp[bitsFrom]
|k+1,j+1,i,acc,h,hk,ha=>by
  simp only[Jv.l0]
  rw[if_pos (by omega),if_pos (by omega),if_pos (by omega),w64_nat (by omega)]
  have:=impl_bitPoint_l x k j (i+1) (acc++[Go.bits .and .i64 (shr .i64 x i) 1]) (by omega) (by omega) (by simp;omega)
  rw[show i+1+j=i+(j+1) by omega] at this
  rw[this]
  simp[bitsFrom]
theorem impl_bitPoint_is (k n:Nat) (x:Int) (hn:n≤64) (hk:n<k):Jv.f k (n:Int) x=some (bitsFrom x 0 n):=by
 unfold Jv.f
 have:=impl_bitPoint_l x k n 0 [] (by omega) hk (by simp)
 simpa using this
theorem spec_l2Labels_l:∀ (k i:Nat) (l:List Int),l.length≤4611686018427387904→i≤l.length→l.length<i+k→Vz1.l0 k l (i:Int)=some ((l.drop i).all lbB)
|0,_,_,_,_,hk=>by omega
|k+1,i,l,hn,hi',hk=>by
  simp only[Vz1.l0]
  by_cases h:i<l.length
  ·rw[if_pos (by omega),if_pos (by omega),rd_nat l i h,w64_nat (by omega),List.drop_eq_getElem_cons h,List.all_cons,spec_l2Labels_l k (i+1) l hn (by omega) (by omega)]
   by_cases e1:l[i]=1
   ·rw[if_pos e1]
    simp[lbB,e1]
   ·by_cases e2:l[i] = -1
    ·rw[if_neg e1,if_pos e2]
     simp[lbB,e2]
    ·rw[if_neg e1,if_neg e2]
     simp[lbB,e1,e2]
  ·rw[if_neg (by omega),List.drop_of_length_le (by omega)]
   simp
theorem spec_l2Labels_is (k:Nat) (l:List Int) (hn:l.length≤4611686018427387904) (hk:l.length<k):Vz1.f k l=some (l.all lbB):=by
 unfold Vz1.f
 have:=spec_l2Labels_l k 0 l hn (by omega) (by omega)
 simpa using this
theorem spec_l2Numbers_l:∀ (k i:Nat) (l:List Int) (m:Int),-4611686018427387904≤m→m≤4611686018427387904→l.length≤4611686018427387904→i≤l.length→l.length<i+k→Gz1.l0 k l m (i:Int)=some ((l.drop i).all (inB (-m) m))
|0,_,_,_,_,_,_,_,hk=>by omega
|k+1,i,l,m,h1,h2,hn,hi,hk=>by
  simp only[Gz1.l0]
  by_cases h:i<l.length
  ·rw[if_pos (by omega),if_pos (by omega),spec_l1In_is,rd_nat l i h,w64_nat (by omega),w64 (by omega) (by omega),List.drop_eq_getElem_cons h,List.all_cons,spec_l2Numbers_l k (i+1) l m h1 h2 hn (by omega) (by omega)]
   simp only[Option.bind_some]
   by_cases e:inB (-m) m l[i]=true
   ·rw[if_pos e,e]
    simp
   ·rw[if_neg e]
    simp[e]
  ·rw[if_neg (by omega),List.drop_of_length_le (by omega)]
   simp
theorem spec_l2Numbers_is (k:Nat) (l:List Int) (m:Int) (h1 : -4611686018427387904≤m) (h2:m≤4611686018427387904) (hn:l.length≤4611686018427387904) (hk:l.length<k):Gz1.f k l m=some (l.all (inB (-m) m)):=by
 unfold Gz1.f
 have:=spec_l2Numbers_l k 0 l m h1 h2 hn (by omega) (by omega)
 simpa using this
theorem spec_l2Point_is (k:Nat) (l:List Int) (hn:l.length≤4611686018427387904) (hk:l.length<k):Kx1.f k l=some (ptB l):=by
 unfold Kx1.f ptB
 rw[spec_l1In_is,spec_l2Numbers_is k l 9 (by omega) (by omega) hn hk]
 simp only[Option.bind_some]
 cases inB 1 4 (l.length:Int) <;> simp
theorem spec_l2Sample_l (k0:Nat) (hk0:1048576<k0):∀ (k i:Nat) (l:List (List Int)) (m:List Int),l.length≤16→(∀ r∈l,r.length≤1048576)→i≤l.length→l.length<i+k→Yx1.l0 (k+k0) (i:Int) l m=some ((l.drop i).all fun x=>ptB x && decide (x.length=(l.headD []).length))
|0,i,l,m,_,_,_,hk=>by omega
|k+1,i,l,m,hn,hr,hi,hk=>by
  rw[show k+1+k0=(k+k0)+1 by omega]
  simp only[Yx1.l0]
  by_cases h:i<l.length
  ·have e:rd_L1 l (i:Int)=l[i]:=by simp[rd_L1,h]
   have e0:rd_L1 l 0=l.headD []:=by cases l <;> simp[rd_L1]
   have hx:=hr l[i] (List.getElem_mem h)
   rw[if_pos (by omega),if_pos (by omega),e,spec_l2Point_is (k+k0) l[i] (by omega) (by omega),e0]
   simp only[Option.bind_some]
   rw[List.drop_eq_getElem_cons h,List.all_cons]
   by_cases c1:ptB l[i]=true
   ·rw[if_pos c1,if_pos (by omega),c1,Bool.true_and]
    by_cases c2:l[i].length=(l.headD []).length
    ·rw[if_pos (by omega),w64_nat (by omega),spec_l2Sample_l k0 hk0 k (i+1) l m hn hr (by omega) (by omega)]
     simp[c2]
    ·rw[if_neg (by omega)]
     simp only[c2,decide_false,Bool.false_and,Bool.and_false]
   ·rw[if_neg c1]
    simp[c1]
  ·rw[if_neg (by omega),List.drop_of_length_le (by omega)]
   simp
theorem spec_l2Sample_is (k:Nat) (l:List (List Int)) (m:List Int) (hr:∀ r∈l,r.length≤1048576) (hm:m.length≤1048576) (hk:1048600<k):Yx1.f k l m=some (smB l m):=by
 obtain⟨k,rfl⟩:∃ q,k=q+1:=⟨k - 1,by omega⟩
 unfold Yx1.f smB
 by_cases c1:l.length≤16
 ·rw[if_neg (by omega)]
  by_cases c2:m.length=l.length
  ·rw[if_pos (by omega),spec_l2Labels_is _ m (by omega) (by omega)]
   simp only[Option.bind_some,Yx1.j0]
   have:=spec_l2Sample_l (k - 17) (by omega) 17 0 l m c1 hr (by omega) (by omega)
   rw[show 17+(k - 17)=k by omega] at this
   rw[show ((0:Nat):Int)=0 from rfl] at this
   rw[this]
   cases e:m.all lbB
   ·simp
   ·simp[c1,c2]
  ·rw[if_neg (by omega)]
   simp[Yx1.j0,c2]
 ·rw[if_pos (by omega)]
  simp[Yx1.j0,c1]
theorem impl_allWithin_l:∀ (k i:Nat) (l:List Int) (lo hi:Int),l.length≤4611686018427387904→i≤l.length→l.length<i+k→Zk.l0 k lo hi l (l.length:Int) (i:Int)=some ((l.drop i).all (inB lo hi))
|0,_,_,_,_,_,_,hk=>by omega
|k+1,i,l,lo,hi,hn,hi',hk=>by
  simp only[Zk.l0]
  by_cases h:i<l.length
  ·rw[if_pos (by omega),if_pos (by omega),if_pos (by omega),impl_within_is,rd_nat l i h,w64_nat (by omega),List.drop_eq_getElem_cons h,List.all_cons,impl_allWithin_l k (i+1) l lo hi hn (by omega) (by omega)]
   simp only[Option.bind_some]
   by_cases e:inB lo hi l[i]=true
   ·rw[if_pos e,e]
    simp
   ·rw[if_neg e]
    simp[e]
  ·rw[if_neg (by omega),List.drop_of_length_le (by omega)]
   simp
theorem impl_allWithin_is (k:Nat) (l:List Int) (lo hi:Int) (hn:l.length≤4611686018427387904) (hk:l.length<k):Zk.f k l lo hi=some (l.all (inB lo hi)):=by
 unfold Zk.f
 have:=impl_allWithin_l k 0 l lo hi hn (by omega) (by omega)
 simpa using this
theorem impl_IsPoint_is (k:Nat) (l:List Int) (hn:l.length≤4611686018427387904) (hk:l.length<k):Zx.f k l=some (ptB l):=by
 unfold Zx.f ptB
 rw[impl_within_is,impl_allWithin_is k l (-9) 9 hn hk]
 simp only[Option.bind_some]
 cases inB 1 4 (l.length:Int) <;> simp
theorem impl_isLabel_is (a:Int):Vv.f a=some (lbB a):=by
 unfold Vv.f lbB
 by_cases e1:a=1
 ·rw[if_pos e1]
  simp[e1]
 ·rw[if_neg e1]
  congr 1
  by_cases e2:a = -1
  ·simp[e2]
  ·simp[e1,e2]
theorem impl_IsSample_l (k0:Nat) (hk0:1048576<k0):∀ (k i:Nat) (l:List (List Int)) (m:List Int),l.length≤16→m.length=l.length→(∀ r∈l,r.length≤1048576)→i≤l.length→l.length<i+k→Vx.l0 (k+k0) l (l.length:Int) (i:Int) l m=some ((m.drop i).all lbB && (l.drop i).all fun x=>ptB x && decide (x.length=(l.headD []).length))
|0,i,l,m,_,_,_,_,hk=>by omega
|k+1,i,l,m,hn,hm,hr,hi,hk=>by
  rw[show k+1+k0=(k+k0)+1 by omega]
  simp only[Vx.l0]
  by_cases h:i<l.length
  ·have h':i<m.length:=by omega
   have e:rd_L1 l (i:Int)=l[i]:=by simp[rd_L1,h]
   have e0:rd_L1 l 0=l.headD []:=by cases l <;> simp[rd_L1]
   have hx:=hr l[i] (List.getElem_mem h)
   rw[if_pos (by omega),if_pos (by omega),if_pos (by omega),e,impl_IsPoint_is (k+k0) l[i] (by omega) (by omega),e0]
   simp only[Option.bind_some]
   rw[List.drop_eq_getElem_cons h,List.all_cons,List.drop_eq_getElem_cons h',List.all_cons]
   by_cases c1:ptB l[i]=true
   ·rw[if_pos c1,if_pos (by omega),c1,Bool.true_and]
    by_cases c2:l[i].length=(l.headD []).length
    ·rw[if_pos (by omega),if_pos (by omega),impl_isLabel_is,rd_nat m i h',w64_nat (by omega),impl_IsSample_l k0 hk0 k (i+1) l m hn hm hr (by omega) (by omega)]
     simp only[Option.bind_some]
     by_cases c3:lbB m[i]=true
     ·rw[if_pos c3,c3]
      simp[c2]
     ·rw[if_neg c3]
      simp[c3]
    ·rw[if_neg (by omega)]
     simp only[c2,decide_false,Bool.false_and,Bool.and_false]
   ·rw[if_neg c1]
    simp[c1]
  ·rw[if_neg (by omega),List.drop_of_length_le (by omega),List.drop_of_length_le (by omega)]
   simp
theorem impl_IsSample_is (k:Nat) (l:List (List Int)) (m:List Int) (hr:∀ r∈l,r.length≤1048576) (hm:m.length≤1048576) (hk:1048600<k):Vx.f k l m=some (smB l m):=by
 obtain⟨k,rfl⟩:∃ q,k=q+1:=⟨k - 1,by omega⟩
 unfold Vx.f smB
 by_cases c1:l.length≤16
 ·rw[if_neg (by omega)]
  simp only[Vx.j0]
  by_cases c2:m.length=l.length
  ·rw[if_neg (by simp[c2])]
   have:=impl_IsSample_l (k - 17) (by omega) 17 0 l m c1 c2 hr (by omega) (by omega)
   rw[show 17+(k - 17)=k by omega] at this
   rw[show ((0:Nat):Int)=0 from rfl] at this
   rw[this]
   simp[c1,c2]
  ·rw[if_pos (by simp;omega)]
   simp[c2]
 ·rw[if_pos (by omega)]
  simp[Vx.j0,c1]
theorem spec_l1Has_l:∀ (k i:Nat) (l:List Int) (a:Int),l.length≤4611686018427387904→i≤l.length→l.length<i+k→Gj1.l0 k l a (i:Int)=some ((l.drop i).any fun x=>decide (x=a))
|0,_,_,_,_,_,hk=>by omega
|k+1,i,l,a,hn,hi',hk=>by
  simp only[Gj1.l0]
  by_cases h:i<l.length
  ·rw[if_pos (by omega),if_pos (by omega),rd_nat l i h,w64_nat (by omega),List.drop_eq_getElem_cons h,List.any_cons,spec_l1Has_l k (i+1) l a hn (by omega) (by omega)]
   by_cases e:l[i]=a
   ·rw[if_pos e]
    simp[e]
   ·rw[if_neg e]
    simp[e]
  ·rw[if_neg (by omega),List.drop_of_length_le (by omega)]
   simp
theorem spec_l1Has_is (k:Nat) (l:List Int) (a:Int) (hn:l.length≤4611686018427387904) (hk:l.length<k):Gj1.f k l a=some (l.any fun x=>decide (x=a)):=by
 unfold Gj1.f
 have:=spec_l1Has_l k 0 l a hn (by omega) (by omega)
 simpa using this
theorem impl_copied_is (l:List Int) (h:l.length<17592186044416):Yv.f l=some l:=by
 unfold Yv.f
 simp only[Option.bind_some]
 rw[if_pos (by simpa using h)]
 simp
theorem impl_Sample_signed_l (ps:List (List Int)) (ls:List Int) (i:Nat) (hi:i<ls.length) (p:List Int) (hp:p.length≤4):∀ (k j:Nat) (acc:List Int),acc.length=j+1→j≤p.length→p.length<j+k→Xk.l0 k (i:Int) acc p (p.length:Int) (j:Int) ps ls=some (acc++(p.drop j).map fun x=>wrap64 (x * rd ls i))
|0,_,_,_,_,hk=>by omega
|k+1,j,acc,ha,hj,hk=>by
  simp only[Xk.l0]
  by_cases h:j<p.length
  ·rw[if_pos (by omega),if_pos (by omega),if_pos (by omega),if_pos (by omega),if_pos (by omega),if_pos (by omega),rd_nat p j h,w64_nat (by omega),impl_Sample_signed_l ps ls i hi p hp k (j+1) _ (by simp[ha]) (by omega) (by omega),List.drop_eq_getElem_cons h]
   simp only[List.map_cons,List.append_assoc,List.singleton_append]
  ·rw[if_neg (by omega),List.drop_of_length_le (by omega)]
   simp
theorem impl_Sample_signed_is (k:Nat) (ps:List (List Int)) (ls:List Int) (i:Nat) (hs:smB ps ls=true) (hi:i<ps.length) (hk:10<k):Xk.f k ps ls (i:Int)=some (signedL (rd ls i) (rd_L1 ps i)):=by
 obtain⟨h16,hlen,_,hrow⟩:=smB_parts hs
 have e:rd_L1 ps (i:Int)=ps[i]:=by simp[rd_L1,hi]
 have q:=ptB_parts (hrow ps[i] (List.getElem_mem hi)).1
 unfold Xk.f signedL
 rw[if_pos (by omega),if_pos (by omega),if_pos (by omega),e]
 have:=impl_Sample_signed_l ps ls i (by omega) ps[i] q.2.2 k 0 [rd ls i] rfl (by omega) (by omega)
 rw[show ((0:Nat):Int)=0 from rfl] at this
 rw[this]
 simp
theorem ev_of {α:Type} {g:Nat→Option α} {r:α} (B:Nat) (h:∀ k,B<k→g k=some r):Ev g r:=⟨B+1,fun k hk=>h k (by omega)⟩
theorem ev_const {α:Type} (r:α):Ev (fun _=>some r) r:=Ev.now r
theorem ev_if_pos {α:Type} {c:Prop} [Decidable c] {f g:Nat→Option α} {r:α} (h:c) (k:Ev f r):Ev (fun n=>if c then f n else g n) r:=Ev.congr (fun n=>if_pos h) k
theorem ev_if_neg {α:Type} {c:Prop} [Decidable c] {f g:Nat→Option α} {r:α} (h:¬ c) (k:Ev g r):Ev (fun n=>if c then f n else g n) r:=Ev.congr (fun n=>if_neg h) k
def vf (l:List Int) (k:Nat):Int:=l.getD k 0
theorem rd_vf (l:List Int) (k:Nat):rd l (k:Int)=vf l k:=by simp[rd,vf]
theorem vf_get (l:List Int) (k:Nat) (h:k<l.length):vf l k=l[k]:=by simp[vf,h]
theorem vf_out (l:List Int) (k:Nat) (h:l.length≤k):vf l k=0:=by simp[vf,List.getD_eq_getElem?_getD,List.getElem?_eq_none h]
theorem vf_ext {a b:List Int} (hl:a.length=b.length) (h:∀ k,k<a.length→vf a k=vf b k):a=b:=by
 apply List.ext_getElem hl
 intro i h1 h2
 have:=h i h1
 rwa [vf_get a i h1,vf_get b i h2] at this
theorem vf_set (l:List Int) (i:Nat) (x:Int) (h:i<l.length) (k:Nat):vf (l.set i x) k=if k=i then x else vf l k:=by
 by_cases e:k=i
 ·subst e
  rw[if_pos rfl,vf_get _ _ (by simpa using h)]
  simp
 ·rw[if_neg e]
  simp only[vf,List.getD_eq_getElem?_getD]
  rw[List.getElem?_set_ne (Ne.symm e)]
def smallV (n:Nat) (v:Nat→Int):Prop:=∀ k,k<n → -4611686018427387904≤v k∧v k≤4611686018427387904
theorem gcdn_le {B:Nat}:∀ {n:Nat} {v:Nat→Int},(∀ k,k<n→(v k).natAbs≤B)→gcdn n v≤B
|0,_,_=>Nat.zero_le _
|n+1,v,h=>by
  have ih:=gcdn_le (n:=n) (v:=v) fun k hk=>h k (by omega)
  have h1:=h n (by omega)
  show Nat.gcd (gcdn n v) (v n).natAbs≤B
  rcases Nat.eq_zero_or_pos (v n).natAbs with z|z
  ·rw[z,Nat.gcd_zero_right]
   exact ih
  ·exact Nat.le_trans (Nat.gcd_le_right _ z) h1
theorem gcdn_small {n:Nat} {v:Nat→Int} (h:smallV n v):gcdn n v≤4611686018427387904:=gcdn_le fun k hk=>by have:=h k hk;omega
theorem div_l1 (l:List Int) (x7 x8 out:Int):∀ (N:Nat) (d n:Int),n.natAbs≤N→(∀ r:Int,r.natAbs=Nat.gcd d.natAbs n.natAbs→Ev (fun k=>Zv.l0 k r l x7 (wrap64 (x8+1))) out)→Ev (fun k=>Zv.l1 k d n l x7 x8) out
|0,d,n,hN,h=>by
  obtain rfl:n=0:=by omega
  exact Ev.step (fun k=>by rw[Zv.l1,if_pos rfl]) (h d (by simp))
|N+1,d,n,hN,h=>by
  by_cases c:n=0
  ·subst c
   exact Ev.step (fun k=>by rw[Zv.l1,if_pos rfl]) (h d (by simp))
  ·refine Ev.step (fun k=>by rw[Zv.l1,if_neg c]) (div_l1 l x7 x8 out N n (Int.tmod d n) ?_ fun r hr=>h r ?_)
   ·rw[Int.natAbs_tmod]
    have:=Nat.mod_lt d.natAbs (y:=n.natAbs) (by omega)
    omega
   ·rw[hr,Int.natAbs_tmod,Nat.gcd_comm d.natAbs,Nat.gcd_rec n.natAbs d.natAbs,Nat.gcd_comm]
theorem impl_divisor_l (l:List Int) (hl:l.length≤1000000) (hs:smallV l.length (vf l)):∀ (j i:Nat) (d:Int),i+j=l.length→d.natAbs=gcdn i (vf l)→Ev (fun k=>Zv.l0 k d l (l.length:Int) (i:Int)) (gcdn l.length (vf l):Int)
|0,i,d,hj,hd=>by
  obtain rfl:i=l.length:=by omega
  have:=gcdn_small hs
  refine Ev.step (f:=fun _=>some (gcdn l.length (vf l):Int)) (fun k=>?_) (ev_const _)
  rw[Zv.l0,if_neg (by omega),w64 (by omega) (by omega)]
  congr 1
  unfold mx
  split <;> omega
|j+1,i,d,hj,hd=>by
  refine Ev.step (fun k=>by rw[Zv.l0,if_pos (by omega),if_pos (by omega),if_pos (by omega),rd_vf]) (div_l1 l _ _ _ (vf l i).natAbs d (vf l i) (Nat.le_refl _) fun r hr=>?_)
  rw[w64_nat (by omega)]
  exact impl_divisor_l l hl hs j (i+1) r (by omega) (by rw[hr,hd];rfl)
theorem impl_divisor_ev (l:List Int) (hl:l.length≤1000000) (hs:smallV l.length (vf l)):Ev (fun k=>Zv.f k l) (gcdn l.length (vf l):Int) :=
 impl_divisor_l l hl hs l.length 0 0 (by omega) rfl
def shL (l:List Int):List Int:=if 1<gcdn l.length (vf l) then l.map fun x=>Int.tdiv x (gcdn l.length (vf l):Int) else l
theorem shL_length (l:List Int):(shL l).length=l.length:=by unfold shL;split <;> simp
theorem shL_vf (l:List Int) (k:Nat):vf (shL l) k=divn l.length (vf l) k:=by
 unfold shL divn
 by_cases c:1<gcdn l.length (vf l)
 ·rw[if_pos c,if_pos c]
  by_cases hk:k<l.length
  ·rw[vf_get _ _ (by simpa using hk)]
   have hd:=gcdn_dvd l.length (vf l) k hk
   rw[vf_get l k hk] at hd ⊢
   simp only[List.getElem_map]
   exact Int.tdiv_eq_ediv_of_dvd hd
  ·rw[vf_out _ _ (by simp;omega),vf_out l k (by omega),Int.zero_ediv]
 ·rw[if_neg c,if_neg c]
theorem tdiv_small {x:Int} {g:Nat} (h : -4611686018427387904≤x∧x≤4611686018427387904) : -4611686018427387904≤Int.tdiv x (g:Int)∧Int.tdiv x (g:Int)≤4611686018427387904:=by
 have h1:(Int.tdiv x (g:Int)).natAbs=x.natAbs / g:=by rw[Int.natAbs_tdiv,Int.natAbs_natCast];rfl
 have h2:x.natAbs / g≤x.natAbs:=Nat.div_le_self _ _
 omega
theorem impl_shortened_l (l:List Int) (g:Nat) (hg:1<g) (hl:l.length≤1000000) (hs:smallV l.length (vf l)):∀ (j i:Nat) (x0:List Int),i+j=l.length→x0.length=l.length→(∀ k,vf x0 k=if k<i then Int.tdiv (vf l k) (g:Int) else vf l k)→Ev (fun k=>Xw.l0 k x0 (g:Int) (l.length:Int) (i:Int)) (l.map fun x=>Int.tdiv x (g:Int))
|0,i,x0,hj,hx,hv=>by
  obtain rfl:i=l.length:=by omega
  refine Ev.step (f:=fun _=>some (l.map fun x=>Int.tdiv x (g:Int))) (fun k=>?_) (ev_const _)
  rw[Xw.l0,if_neg (by omega)]
  congr 1
  apply vf_ext (by simpa using hx)
  intro k hk
  rw[hv k,if_pos (by omega),vf_get (l.map fun x=>Int.tdiv x (g:Int)) k (by rw[List.length_map];omega),vf_get l k (by omega)]
  simp
|j+1,i,x0,hj,hx,hv=>by
  have e:=hv i
  rw[if_neg (by omega)] at e
  have h1:=tdiv_small (g:=g) (hs i (by omega))
  refine Ev.step (fun k=>by rw[Xw.l0,if_pos (by omega),if_pos (by omega),if_pos (by omega),if_neg (by omega),rd_vf,e,w64 (by omega) (by omega),w64_nat (by omega),Int.toNat_natCast]) (impl_shortened_l l g hg hl hs j (i+1) (x0.set i (Int.tdiv (vf l i) (g:Int))) (by omega) (by simpa using hx) fun k=>?_)
  rw[vf_set _ _ _ (by omega),hv k]
  by_cases c:k=i
  ·subst c
   rw[if_pos rfl,if_pos (by omega)]
  ·rw[if_neg c]
   by_cases d:k<i
   ·rw[if_pos d,if_pos (by omega)]
   ·rw[if_neg d,if_neg (by omega)]
theorem impl_shortened_ev (l:List Int) (hl:l.length≤1000000) (hs:smallV l.length (vf l)):Ev (fun k=>Xw.f k l) (shL l):=by
 unfold Xw.f
 refine Ev.bind (impl_divisor_ev l hl hs) ?_
 unfold shL
 by_cases c:1<gcdn l.length (vf l)
 ·rw[if_pos c]
  refine ev_if_pos (by omega) ?_
  have:=impl_shortened_l l (gcdn l.length (vf l)) c hl hs l.length 0 l (by omega) rfl (fun k=>by rw[if_neg (by omega)])
  exact this
 ·rw[if_neg c]
  exact ev_if_neg (by omega) (ev_const _)
theorem l2Gcd_ev:∀ (N:Nat) (a b:Int),0≤a→0≤b→b.natAbs≤N→Ev (fun k=>Zz1.l0 k a b) (Nat.gcd a.natAbs b.natAbs:Int)
|0,a,b,ha,hb,hN=>by
  obtain rfl:b=0:=by omega
  refine Ev.step (f:=fun _=>some (Nat.gcd a.natAbs (Int.natAbs 0):Int)) (fun k=>?_) (ev_const _)
  rw[Zz1.l0,if_neg (by omega)]
  congr 1
  simp
  omega
|N+1,a,b,ha,hb,hN=>by
  by_cases c:b=0
  ·subst c
   refine Ev.step (f:=fun _=>some (Nat.gcd a.natAbs (Int.natAbs 0):Int)) (fun k=>?_) (ev_const _)
   rw[Zz1.l0,if_neg (by omega)]
   congr 1
   simp
   omega
  ·have h1:=Int.natAbs_tmod a b
   have h2:=Nat.mod_lt a.natAbs (y:=b.natAbs) (by omega)
   have h3:0≤Int.tmod a b:=Int.tmod_nonneg b ha
   have ih:=l2Gcd_ev N b (Int.tmod a b) hb h3 (by omega)
   rw[h1,show Nat.gcd b.natAbs (a.natAbs % b.natAbs)=Nat.gcd a.natAbs b.natAbs by rw[Nat.gcd_comm a.natAbs,Nat.gcd_rec b.natAbs a.natAbs,Nat.gcd_comm]] at ih
   exact Ev.step (fun k=>by rw[Zz1.l0,if_pos (by omega),if_neg c]) ih
theorem spec_l2Gcd_ev (a b:Int) (ha:0≤a) (hb:0≤b):Ev (fun k=>Zz1.f k a b) (Nat.gcd a.natAbs b.natAbs:Int):=l2Gcd_ev b.natAbs a b ha hb (Nat.le_refl _)
theorem l1Most_abs (x:Int) (h : -4611686018427387904≤x∧x≤4611686018427387904):Jz1.f x (wrap64 (-x))=some (x.natAbs:Int):=by
 rw[w64 (by omega) (by omega)]
 unfold Jz1.f
 split
 ·congr 1
  omega
 ·congr 1
  omega
theorem spec_l4Divided_l1 (l:List Int) (g:Nat) (hg:1<g) (hl:l.length≤1000000) (hs:smallV l.length (vf l)):∀ (j i:Nat) (x0:List Int),i+j=l.length→x0.length=l.length→(∀ k,vf x0 k=if k<i then Int.tdiv (vf l k) (g:Int) else vf l k)→Ev (fun k=>Kk1.l1 k (g:Int) x0 (i:Int)) (l.map fun x=>Int.tdiv x (g:Int))
|0,i,x0,hj,hx,hv=>by
  obtain rfl:i=l.length:=by omega
  refine Ev.step (f:=fun _=>some (l.map fun x=>Int.tdiv x (g:Int))) (fun k=>?_) (ev_const _)
  rw[Kk1.l1,if_neg (by omega)]
  congr 1
  apply vf_ext (by simpa using hx)
  intro k hk
  rw[hv k,if_pos (by omega),vf_get (l.map fun x=>Int.tdiv x (g:Int)) k (by rw[List.length_map];omega),vf_get l k (by omega)]
  simp
|j+1,i,x0,hj,hx,hv=>by
  have e:=hv i
  rw[if_neg (by omega)] at e
  have h1:=tdiv_small (g:=g) (hs i (by omega))
  refine Ev.step (fun k=>by rw[Kk1.l1,if_pos (by omega),if_pos (by omega),if_pos (by omega),if_neg (by omega),rd_vf,e,w64 (by omega) (by omega),w64_nat (by omega),Int.toNat_natCast]) (spec_l4Divided_l1 l g hg hl hs j (i+1) (x0.set i (Int.tdiv (vf l i) (g:Int))) (by omega) (by simpa using hx) fun k=>?_)
  rw[vf_set _ _ _ (by omega),hv k]
  by_cases c:k=i
  ·subst c
   rw[if_pos rfl,if_pos (by omega)]
  ·rw[if_neg c]
   by_cases d:k<i
   ·rw[if_pos d,if_pos (by omega)]
   ·rw[if_neg d,if_neg (by omega)]
theorem spec_l4Divided_l0 (l:List Int) (hl:l.length≤1000000) (hs:smallV l.length (vf l)):∀ (j i:Nat),i+j=l.length→Ev (fun k=>Kk1.l0 k l (gcdn i (vf l):Int) (i:Int)) (shL l)
|0,i,hj=>by
  obtain rfl:i=l.length:=by omega
  refine Ev.step (f:=fun k=>Kk1.l1 k (gcdn l.length (vf l):Int) l 0) (fun k=>?_) ?_
  ·rw[Kk1.l0,if_neg (by omega),spec_l1Own_is l (by omega)]
   rfl
  ·unfold shL
   by_cases c:1<gcdn l.length (vf l)
   ·rw[if_pos c]
    have:=spec_l4Divided_l1 l (gcdn l.length (vf l)) c hl hs l.length 0 l (by omega) rfl (fun k=>by rw[if_neg (by omega)])
    exact this
   ·rw[if_neg c]
    refine Ev.step (f:=fun _=>some l) (fun k=>?_) (ev_const _)
    rw[Kk1.l1]
    split
    ·rw[if_neg (by omega)]
    ·rfl
|j+1,i,hj=>by
  have ih:=spec_l4Divided_l0 l hl hs j (i+1) (by omega)
  have hi:=hs i (by omega)
  by_cases z:vf l i=0
  ·have e:gcdn (i+1) (vf l)=gcdn i (vf l):=by
    show Nat.gcd (gcdn i (vf l)) (vf l i).natAbs=_
    rw[z]
    simp
   rw[e] at ih
   exact Ev.step (fun k=>by rw[Kk1.l0,if_pos (by omega),if_pos (by omega),rd_vf,if_pos z,w64_nat (by omega)]) ih
  ·refine Ev.step (f:=fun k=>(Zz1.f k ((vf l i).natAbs:Int) (gcdn i (vf l):Int)).bind fun t=>Kk1.l0 k l t (wrap64 (i+1))) (fun k=>by rw[Kk1.l0,if_pos (by omega),if_pos (by omega),rd_vf,if_neg z,l1Most_abs _ hi];simp only[Option.bind_some]) (Ev.bind (spec_l2Gcd_ev _ _ (by omega) (by omega)) ?_)
   rw[w64_nat (by omega)]
   have e:Nat.gcd ((vf l i).natAbs:Int).natAbs (gcdn i (vf l):Int).natAbs=gcdn (i+1) (vf l):=by
    rw[Int.natAbs_natCast,Int.natAbs_natCast,Nat.gcd_comm]
    rfl
   rw[e]
   exact ih
theorem spec_l4Divided_ev (l:List Int) (hl:l.length≤1000000) (hs:smallV l.length (vf l)):Ev (fun k=>Kk1.f k l) (shL l):=by
 unfold Kk1.f
 exact spec_l4Divided_l0 l hl hs l.length 0 (by omega)
theorem keeps64:Keeps wrap64:=fun x h1 h2=>w64 h1 h2
theorem rdL_nat (o:List (List Int)) (i:Nat):rd_L1 o (i:Int)=o.getD i []:=by simp[rd_L1]
structure Rep (m n:Nat) (o:List (List Int)) (M:Nat→Nat→Int):Prop where
 len:o.length=m
 row:∀ i,i<m→(o.getD i []).length=n∧vf (o.getD i [])=M i
theorem getD_set {o:List (List Int)} {i:Nat} (x:List Int) (h:i<o.length) (k:Nat):(o.set i x).getD k []=if k=i then x else o.getD k []:=by
 simp only[List.getD_eq_getElem?_getD]
 by_cases e:k=i
 ·subst e
  rw[if_pos rfl,List.getElem?_set_self h]
  rfl
 ·rw[if_neg e,List.getElem?_set_ne (Ne.symm e)]
theorem wz:wrap64 0=0:=w64 (by omega) (by omega)
theorem newRow_out (P:Nat→Nat→Int) (r c i k:Nat) (h1:P i k=0) (h2:P r k=0):Lin.newRow wrap64 P r c i k=0:=by
 unfold Lin.newRow
 rw[h1,h2,Int.zero_mul,Int.zero_mul,wz]
 exact wz
def nrL (n:Nat) (v:Nat→Int):List Int:=(List.range n).map v
theorem nrL_length (n:Nat) (v:Nat→Int):(nrL n v).length=n:=by simp[nrL]
theorem nrL_vf (n:Nat) (v:Nat→Int) (hz:∀ k,n≤k→v k=0):vf (nrL n v)=v:=by
 funext k
 by_cases h:k<n
 ·rw[vf_get _ _ (by rw[nrL_length];exact h)]
  simp[nrL]
 ·rw[vf_out _ _ (by rw[nrL_length];omega),hz k (by omega)]
theorem shL_fun (l:List Int):vf (shL l)=divn l.length (vf l):=funext (shL_vf l)
section
variable {m n r c:Nat} {P:Nat→Nat→Int} {out:List Int×List (List Int)} {p:List Int}
theorem red_l3 (hn:n≤1000000) (hp:p.length=r) {o0:List (List Int)} {i:Nat} (ho:o0.length=m) (hi:i<m) (hr:r<m) (hir:i≠r) (hri:(o0.getD i []).length=n∧vf (o0.getD i [])=P i) (hrr:(o0.getD r []).length=n∧vf (o0.getD r [])=P r) (hz:∀ k,n≤k→P i k=0∧P r k=0) (hm:m≤1000000) (nn:Int)
  (h:Ev (fun k=>(Xw.f k (nrL n (Lin.newRow wrap64 P r c i))).bind fun t=>Kw.l2 k m (o0.set i t) p nn (c:Int) (wrap64 ((i:Int)+1))) out) :
  ∀ (d j:Nat) (x:List Int),j+d=n→x.length=n→(∀ k,vf x k=if k<j then Lin.newRow wrap64 P r c i k else P i k)→Ev (fun k=>Kw.l3 k m (o0.set i x) p nn (c:Int) (i:Int) (P r c) (P i c) n (j:Int)) out
|0,j,x,hj,hx,hv=>by
  obtain rfl:j=n:=by omega
  have e:x=nrL j (Lin.newRow wrap64 P r c i):=by
   apply vf_ext (by rw[nrL_length,hx])
   intro k hk
   rw[nrL_vf _ _ fun k hk=>newRow_out P r c i k (hz k hk).1 (hz k hk).2,hv k,if_pos (by omega)]
  refine Ev.step (fun k=>?_) h
  rw[Kw.l3,if_neg (by omega),rdL_nat,getD_set x (by omega),if_pos rfl,e]
  simp only[Int.toNat_natCast,List.set_set]
|d+1,j,x,hj,hx,hv=>by
  have e1:(o0.set i x).getD i []=x:=by rw[getD_set x (by omega),if_pos rfl]
  have e2:(o0.set i x).getD r []=o0.getD r []:=by rw[getD_set x (by omega),if_neg (Ne.symm hir)]
  have e3:=hv j
  rw[if_neg (by omega)] at e3
  refine Ev.step (fun k=>?_) (red_l3 hn hp ho hi hr hir hri hrr hz hm nn h d (j+1) (x.set j (Lin.newRow wrap64 P r c i j)) (by omega) (by simpa using hx) fun k=>?_)
  ·rw[Kw.l3,if_pos (by omega),if_pos (by omega),hp,rdL_nat,rdL_nat,e1,e2,if_pos (by omega),if_pos (by omega),rd_vf,rd_vf,e3,hrr.2,Int.toNat_natCast,Int.toNat_natCast,List.set_set,w64_nat (by omega)]
   unfold Lin.newRow
   rw[Int.mul_comm (P r c),Int.mul_comm (P i c)]
  ·rw[vf_set _ _ _ (by omega),hv k]
   by_cases c1:k=j
   ·subst c1
    rw[if_pos rfl,if_pos (by omega)]
   ·rw[if_neg c1]
    by_cases c2:k<j
    ·rw[if_pos c2,if_pos (by omega)]
    ·rw[if_neg c2,if_neg (by omega)]
theorem red_l2 (hn:n≤1000000) (hp:p.length=r) (hr:r<m) (hc:c<n) (hm:m≤1000000) (hz:∀ i,i<m→∀ k,n≤k→P i k=0) (hs:∀ i,i<m→∀ k,-184528125≤P i k∧P i k≤184528125) (nn:Int)
  (h:∀ o',Rep m n o' (colS wrap64 n m r c P)→Ev (fun k=>Kw.l0 k m o' (p++[(c:Int)]) nn (wrap64 ((c:Int)+1))) out) :
  ∀ (d i:Nat) (o:List (List Int)),i+d=m→Rep m n o (fun j=>if j<i then colS wrap64 n m r c P j else P j)→Ev (fun k=>Kw.l2 k m o p nn (c:Int) (i:Int)) out
|0,i,o,hd,hv=>by
  obtain rfl:i=m:=by omega
  refine Ev.step (fun k=>?_) (h o ⟨hv.len,fun j hj=>by have:=hv.row j hj;rwa [if_pos hj] at this⟩)
  rw[Kw.l2,if_neg (by omega),if_pos (by omega)]
|d+1,i,o,hd,hv=>by
  have hri:=hv.row i (by omega)
  rw[if_neg (by omega)] at hri
  have hrr:(o.getD r []).length=n∧vf (o.getD r [])=P r:=by
   have:=hv.row r hr
   by_cases q:r<i
   ·rw[if_pos q] at this
    unfold colS at this
    rwa [if_neg (by omega)] at this
   ·rwa [if_neg q] at this
  have next:∀ o2:List (List Int),o2.length=m→(∀ j,j<m→j≠i→o2.getD j []=o.getD j [])→((o2.getD i []).length=n∧vf (o2.getD i [])=colS wrap64 n m r c P i)→Rep m n o2 (fun j=>if j<i+1 then colS wrap64 n m r c P j else P j):=fun o2 h1 h2 h3 =>
   ⟨h1,fun j hj=>by
    by_cases q:j=i
    ·subst q
     rw[if_pos (by omega)]
     exact h3
    ·rw[h2 j hj q]
     have:=hv.row j hj
     by_cases q2:j<i
     ·rw[if_pos q2] at this
      rwa [if_pos (by omega)]
     ·rw[if_neg q2] at this
      rwa [if_neg (by omega)]⟩
  by_cases e:i=r
  ·refine Ev.step (fun k=>?_) (red_l2 hn hp hr hc hm hz hs nn h d (i+1) o (by omega) (next o hv.len (fun _ _ _=>rfl) ?_))
   ·rw[Kw.l2,if_pos (by omega),if_pos (by omega),if_pos (by omega),w64_nat (by omega)]
   ·unfold colS
    rw[if_neg (by omega)]
    exact hri
  ·by_cases z:P i c=0
   ·refine Ev.step (fun k=>?_) (red_l2 hn hp hr hc hm hz hs nn h d (i+1) o (by omega) (next o hv.len (fun _ _ _=>rfl) ?_))
    ·rw[Kw.l2,if_pos (by omega),if_pos (by omega),if_neg (by omega),if_pos (by omega),rdL_nat,if_pos (by omega),rd_vf,hri.2,if_pos z,w64_nat (by omega)]
    ·unfold colS
     rw[if_neg (by omega)]
     exact hri
   ·have hN:∀ k,Lin.newRow wrap64 P r c i k=P r c * P i k - P i c * P r k ∧ -68101257834375001≤P r c * P i k - P i c * P r k∧P r c * P i k - P i c * P r k≤68101257834375001:=fun k=>by
     have:=newRow_told keeps64 (M:=P) (r:=r) (c:=c) (i:=i) (fun j k hj=>by rcases hj with rfl|rfl;exact hs _ hr k;exact hs _ (by omega) k) k
     exact⟨this.1,by omega,by omega⟩
    have hzz:∀ k,n≤k→P i k=0∧P r k=0:=fun k hk=>⟨hz i (by omega) k hk,hz r hr k hk⟩
    have e1:vf (nrL n (Lin.newRow wrap64 P r c i))=Lin.newRow wrap64 P r c i:=nrL_vf _ _ fun k hk=>newRow_out P r c i k (hzz k hk).1 (hzz k hk).2
    have sh:=impl_shortened_ev (nrL n (Lin.newRow wrap64 P r c i)) (by rw[nrL_length];exact hn) (fun k hk=>by rw[e1];have:=hN k;omega)
    have go:=red_l3 (out:=out) (c:=c) hn hp hv.len (show i<m by omega) hr e hri hrr hzz hm nn ?_ n 0 (o.getD i []) (by omega) hri.1 (fun k=>by rw[if_neg (by omega),hri.2])
    ·refine Ev.step (fun k=>?_) go
     have es:o.set i (o.getD i [])=o:=by
      have hlt:i<o.length:=by have:=hv.len;omega
      rw[List.getD_eq_getElem?_getD,List.getElem?_eq_getElem hlt]
      simp
     rw[es,Kw.l2,if_pos (by omega),if_pos (by omega),if_neg (by omega),if_pos (by omega),hp,rdL_nat,rdL_nat,if_pos (by omega),rd_vf,rd_vf,hri.2,hrr.2,if_neg z,if_pos (by omega),if_pos (by omega),hri.1]
     rfl
    ·refine Ev.bind sh ?_
     rw[w64_nat (by omega)]
     refine red_l2 hn hp hr hc hm hz hs nn h d (i+1) _ (by omega) (next _ (by simpa using hv.len) (fun j _ hj=>?_) ?_)
     ·rw[getD_set _ (by have:=hv.len;omega),if_neg hj]
     ·rw[getD_set _ (by have:=hv.len;omega),if_pos rfl]
      refine⟨by rw[shL_length,nrL_length],?_⟩
      rw[shL_fun,nrL_length,e1]
      unfold colS
      rw[if_pos ⟨by omega,e,z⟩]
end
theorem divn_abs (n:Nat) (v:Nat→Int) (B:Int) (k:Nat) (h : -B≤v k∧v k≤B) : -B≤divn n v k∧divn n v k≤B:=by
 unfold divn
 by_cases c:1<gcdn n v
 ·rw[if_pos c]
  by_cases hk:k<n
  ·have e:(gcdn n v:Int) * (v k / (gcdn n v:Int))=v k:=Int.mul_ediv_cancel' (gcdn_dvd n v k hk)
   exact abs_le_mul (t:=(gcdn n v:Int)) (by omega) (by rw[e];exact h)
  ·have h1:=Int.natAbs_ediv_le_natAbs (v k) (gcdn n v:Int)
   have:(v k / (gcdn n v:Int)).natAbs≤(v k).natAbs:=h1
   omega
 ·rw[if_neg c]
  exact h
section
variable {m n c:Nat} {M:Nat→Nat→Int} {out:List Int×List (List Int)} {p:List Int} {o:List (List Int)}
theorem red_l1 (hv:Rep m n o M) (hc:c<n) (hm:m≤1000000) (nn:Int)
  (hEnd:Ev (fun k=>Kw.l0 k m o p nn (wrap64 ((c:Int)+1))) out→True)
  (T:Nat) (h1:T=m→Ev (fun k=>Kw.l0 k m o p nn (wrap64 ((c:Int)+1))) out)
  (h2:T<m→p.length<m→Ev (fun k=>(Xw.f k (o.getD T [])).bind fun t=>Kw.l2 k m (((o.set p.length (o.getD T [])).set T (o.getD p.length [])).set p.length t) p nn (c:Int) 0) out) :
  ∀ (f a:Nat),a+f=m→p.length≤a→findAt M c m f a=T→Ev (fun k=>Kw.l1 k m o p nn (c:Int) (a:Int)) out
|0,a,ha,hpa,hT=>by
  obtain rfl:a=m:=by omega
  have e:a=T:=hT
  refine Ev.step (fun k=>?_) (h1 e.symm)
  rw[Kw.l1,if_neg (by omega),if_pos rfl]
|f+1,a,ha,hpa,hT=>by
  have hr:=hv.row a (by omega)
  by_cases z:M a c=0
  ·have e:findAt M c m (f+1) a=findAt M c m f (a+1):=by
    show (if a<m∧M a c=0 then findAt M c m f (a+1) else a)=_
    rw[if_pos ⟨by omega,z⟩]
   rw[e] at hT
   refine Ev.step (fun k=>?_) (red_l1 hv hc hm nn hEnd T h1 h2 f (a+1) (by omega) (by omega) hT)
   rw[Kw.l1,if_pos (by omega),if_pos (by omega),if_pos (by omega),rdL_nat,if_pos (by omega),rd_vf,hr.2,if_pos z,w64_nat (by omega)]
  ·have e:findAt M c m (f+1) a=a:=by
    show (if a<m∧M a c=0 then findAt M c m f (a+1) else a)=_
    rw[if_neg (fun h=>z h.2)]
   rw[e] at hT
   subst hT
   refine Ev.step (fun k=>?_) (h2 (by omega) (by omega))
   rw[Kw.l1,if_pos (by omega),if_pos (by omega),if_pos (by omega),rdL_nat,if_pos (by omega),rd_vf,hr.2,if_neg z,if_pos (by omega),rdL_nat,Int.toNat_natCast]
end
def ints (l:List Nat):List Int:=l.map Int.ofNat
theorem ints_length (l:List Nat):(ints l).length=l.length:=by simp[ints]
theorem ints_snoc (l:List Nat) (c:Nat):ints l++[(c:Int)]=ints (l++[c]):=by simp[ints]
theorem ints_get (l:List Nat) (i:Nat) (h:i<l.length):vf (ints l) i=(l[i]:Int):=by rw[vf_get _ _ (by rw[ints_length];exact h)];simp[ints]
theorem impl_reduced_ev {m n:Nat} (hm:m≤5) (hn:n≤1000) {A:Nat→Nat→Int}:∀ (k c:Nat) (M:Nat→Nat→Int) (piv:List Nat) (o:List (List Int)),c+k=n→Rep m n o M→Inv m n c A M piv →
  ∃ o',Rep m n o' (elim wrap64 true n m k c M piv).1∧Ev (fun K=>Kw.l0 K m o (ints piv) (n:Int) (c:Int)) (ints (elim wrap64 true n m k c M piv).2,o')
|0,c,M,piv,o,hc,hv,hi=>by
  obtain rfl:c=n:=by omega
  refine⟨o,hv,Ev.step (f:=fun _=>some (ints piv,o)) (fun K=>?_) (ev_const _)⟩
  rw[Kw.l0,if_neg (by omega)]
|k+1,c,M,piv,o,hc,hv,hi=>by
  have hr:piv.length≤m:=hi.st.choose_spec.choose_spec.1.hr
  obtain⟨f1,f2,f3,f4⟩:=findAt_told M c m (m - piv.length) piv.length (by omega)
  obtain⟨T,hT⟩:∃ T,findAt M c m (m - piv.length) piv.length=T:=⟨_,rfl⟩
  rw[hT] at f1 f2 f3 f4
  rw[elim,hT]
  by_cases e:T=m
  ·rw[if_pos e]
   obtain⟨o',h1,h2⟩:=impl_reduced_ev hm hn k (c+1) M piv o (by omega) hv (hi.skip fun i h1 h2=>f3 i h1 (by omega))
   refine⟨o',h1,Ev.step (fun K=>?_) (red_l1 hv (by omega) (by omega) (n:Int) (fun _=>trivial) T (fun _=>?_) (fun h=>by omega) (m - piv.length) piv.length (by omega) (by rw[ints_length];exact Nat.le_refl _) hT)⟩
   ·rw[Kw.l0,if_pos (by omega),ints_length]
   ·rw[w64_nat (by omega)]
    exact h2
  ·rw[if_neg e]
   have hne:=f4 (by omega)
   have hin:=hi.next hm (by omega) keeps64 true f1 (by omega) hne
   obtain⟨r,hrr⟩:∃ r,piv.length=r:=⟨_,rfl⟩
   rw[hrr] at f1 f3 hin hr hT ⊢
   have hlt:r<m:=by omega
   obtain⟨P,hP⟩:∃ P,P=shortP true n r (sw r T M):=⟨_,rfl⟩
   rw[←hP] at hin ⊢
   have swT:sw r T M r=M T:=by unfold sw;rw[if_pos rfl]
   have Pr:P r=divn n (M T):=by rw[hP];unfold shortP;rw[if_pos rfl,if_pos rfl,swT]
   have Po:∀ i,i≠r→P i=if i=T then M r else M i:=fun i hir=>by
    rw[hP]
    unfold shortP
    rw[if_pos rfl,if_neg hir]
    unfold sw
    rw[if_neg hir]
   have hs:∀ i,i<m→∀ x,-184528125≤P i x∧P i x≤184528125:=fun i him x=>by
    by_cases q:i=r
    ·rw[q,Pr]
     exact divn_abs n (M T) 184528125 x (hi.small hm T (by omega) x)
    ·rw[Po i q]
     split
     ·exact hi.small hm r hlt x
     ·exact hi.small hm i him x
   have hz:∀ i,i<m→∀ x,n≤x→P i x=0:=fun i him x hx=>by
    by_cases q:i=r
    ·rw[q,Pr]
     exact divn_zero n _ x (hi.zero T (by omega) x hx)
    ·rw[Po i q]
     split
     ·exact hi.zero r hlt x hx
     ·exact hi.zero i him x hx
   have hrowT:=hv.row T (by omega)
   have hrowr:=hv.row r hlt
   have sh:=impl_shortened_ev (o.getD T []) (by omega) (fun x hx=>by rw[hrowT.2];have:=hi.small hm T (by omega) x;omega)
   have hlen:=hv.len
   have hrep:Rep m n (((o.set r (o.getD T [])).set T (o.getD r [])).set r (shL (o.getD T []))) P:=by
    refine⟨by simpa using hlen,fun i him=>?_⟩
    rw[getD_set _ (by simp;omega)]
    by_cases q:i=r
    ·rw[if_pos q,q,Pr]
     exact⟨by rw[shL_length];exact hrowT.1,by rw[shL_fun,hrowT.1,hrowT.2]⟩
    ·rw[if_neg q,getD_set _ (by simp;omega),Po i q]
     by_cases q2:i=T
     ·rw[if_pos q2,if_pos q2]
      exact hrowr
     ·rw[if_neg q2,if_neg q2,getD_set _ (by omega),if_neg q]
      exact hv.row i him
   have each:∀ o',Rep m n o' (colS wrap64 n m r c P)→∃ o'',Rep m n o'' (elim wrap64 true n m k (c+1) (colS wrap64 n m r c P) (piv++[c])).1∧Ev (fun K=>Kw.l0 K m o' (ints piv++[(c:Int)]) (n:Int) (wrap64 ((c:Int)+1))) (ints (elim wrap64 true n m k (c+1) (colS wrap64 n m r c P) (piv++[c])).2,o''):=fun o' ho'=>by
    obtain⟨o'',h1,h2⟩:=impl_reduced_ev hm hn k (c+1) _ (piv++[c]) o' (by omega) ho' hin
    refine⟨o'',h1,?_⟩
    rw[w64_nat (by omega),ints_snoc]
    exact h2
   have one:∀ o1 o2:List (List Int),Rep m n o1 (colS wrap64 n m r c P)→Rep m n o2 (colS wrap64 n m r c P)→o1=o2:=fun o1 o2 h1 h2=>by
    apply List.ext_getElem (by rw[h1.len,h2.len])
    intro i q1 q2
    have a1:=h1.row i (by have:=h1.len;omega)
    have a2:=h2.row i (by have:=h1.len;omega)
    rw[List.getD_eq_getElem?_getD,List.getElem?_eq_getElem q1,Option.getD_some] at a1
    rw[List.getD_eq_getElem?_getD,List.getElem?_eq_getElem q2,Option.getD_some] at a2
    exact vf_ext (by omega) fun x _=>by rw[a1.2,a2.2]
   obtain⟨oC,hoC⟩:∃ oC:List (List Int),Rep m n oC (colS wrap64 n m r c P):=by
    refine⟨(List.range m).map fun i=>nrL n (colS wrap64 n m r c P i),by simp,fun i him=>?_⟩
    have:((List.range m).map fun i=>nrL n (colS wrap64 n m r c P i)).getD i []=nrL n (colS wrap64 n m r c P i):=by
     rw[List.getD_eq_getElem?_getD,List.getElem?_eq_getElem (by simpa using him)]
     simp
    rw[this]
    exact⟨nrL_length _ _,nrL_vf _ _ fun x hx=>hin.zero i him x hx⟩
   obtain⟨o'',h1,h2⟩:=each oC hoC
   refine⟨o'',h1,Ev.step (fun K=>?_) (red_l1 hv (by omega) (by omega) (n:Int) (fun _=>trivial) T (fun h=>by omega) (fun _ _=>?_) (m - r) r (by omega) (by rw[ints_length,hrr];exact Nat.le_refl _) hT)⟩
   ·rw[Kw.l0,if_pos (by omega),ints_length,hrr]
   ·refine Ev.bind sh ?_
    rw[ints_length,hrr]
    exact red_l2 (by omega) (by rw[ints_length,hrr]) hlt (by omega) (by omega) hz hs (n:Int) (fun o' ho'=>by rw[one o' oC ho' hoC];exact h2) m 0 _ (by omega) ⟨hrep.len,fun i him=>by rw[if_neg (by omega)];exact hrep.row i him⟩
section
variable {m n r c:Nat} {P:Nat→Nat→Int} {out:List (List Int)×List Int} {p:List Int}
theorem sred_l3 (hn:n≤1000000) (hp:p.length=r) {o0:List (List Int)} {i:Nat} (ho:o0.length=m) (hi:i<m) (hr:r<m) (hir:i≠r) (hri:(o0.getD i []).length=n∧vf (o0.getD i [])=P i) (hrr:(o0.getD r []).length=n∧vf (o0.getD r [])=P r) (hz:∀ k,n≤k→P i k=0∧P r k=0) (hm:m≤1000000)
  (h:Ev (fun k=>(Kk1.f k (nrL n (Lin.newRow wrap64 P r c i))).bind fun t=>Vk1.l2 k m (o0.set i t) p (n:Int) (c:Int) (wrap64 ((i:Int)+1))) out) :
  ∀ (d j:Nat) (x:List Int),j+d=n→x.length=n→(∀ k,vf x k=if k<j then Lin.newRow wrap64 P r c i k else P i k)→Ev (fun k=>Vk1.l3 k m (o0.set i x) p (n:Int) (c:Int) (i:Int) (P r c) (P i c) (j:Int)) out
|0,j,x,hj,hx,hv=>by
  obtain rfl:j=n:=by omega
  have e:x=nrL j (Lin.newRow wrap64 P r c i):=by
   apply vf_ext (by rw[nrL_length,hx])
   intro k hk
   rw[nrL_vf _ _ fun k hk=>newRow_out P r c i k (hz k hk).1 (hz k hk).2,hv k,if_pos (by omega)]
  refine Ev.step (fun k=>?_) h
  rw[Vk1.l3,if_neg (by omega),rdL_nat,getD_set x (by omega),if_pos rfl,e]
  simp only[Int.toNat_natCast,List.set_set]
|d+1,j,x,hj,hx,hv=>by
  have e1:(o0.set i x).getD i []=x:=by rw[getD_set x (by omega),if_pos rfl]
  have e2:(o0.set i x).getD r []=o0.getD r []:=by rw[getD_set x (by omega),if_neg (Ne.symm hir)]
  have e3:=hv j
  rw[if_neg (by omega)] at e3
  refine Ev.step (fun k=>?_) (sred_l3 hn hp ho hi hr hir hri hrr hz hm h d (j+1) (x.set j (Lin.newRow wrap64 P r c i j)) (by omega) (by simpa using hx) fun k=>?_)
  ·rw[Vk1.l3,if_pos (by omega),if_pos (by omega),hp,rdL_nat,rdL_nat,e1,e2,if_pos (by omega),if_pos (by omega),rd_vf,rd_vf,e3,hrr.2,Int.toNat_natCast,Int.toNat_natCast,List.set_set,w64_nat (by omega)]
   rfl
  ·rw[vf_set _ _ _ (by omega),hv k]
   by_cases c1:k=j
   ·subst c1
    rw[if_pos rfl,if_pos (by omega)]
   ·rw[if_neg c1]
    by_cases c2:k<j
    ·rw[if_pos c2,if_pos (by omega)]
    ·rw[if_neg c2,if_neg (by omega)]
theorem sred_l2 (hn:n≤1000000) (hp:p.length=r) (hr:r<m) (hc:c<n) (hm:m≤1000000) (hz:∀ i,i<m→∀ k,n≤k→P i k=0) (hs:∀ i,i<m→∀ k,-184528125≤P i k∧P i k≤184528125)
  (h:∀ o',Rep m n o' (colS wrap64 n m r c P)→Ev (fun k=>Vk1.l0 k m o' (p++[(c:Int)]) (n:Int) (wrap64 ((c:Int)+1))) out) :
  ∀ (d i:Nat) (o:List (List Int)),i+d=m→Rep m n o (fun j=>if j<i then colS wrap64 n m r c P j else P j)→Ev (fun k=>Vk1.l2 k m o p (n:Int) (c:Int) (i:Int)) out
|0,i,o,hd,hv=>by
  obtain rfl:i=m:=by omega
  refine Ev.step (fun k=>?_) (h o ⟨hv.len,fun j hj=>by have:=hv.row j hj;rwa [if_pos hj] at this⟩)
  rw[Vk1.l2,if_neg (by omega),if_pos (by omega)]
|d+1,i,o,hd,hv=>by
  have hri:=hv.row i (by omega)
  rw[if_neg (by omega)] at hri
  have hrr:(o.getD r []).length=n∧vf (o.getD r [])=P r:=by
   have:=hv.row r hr
   by_cases q:r<i
   ·rw[if_pos q] at this
    unfold colS at this
    rwa [if_neg (by omega)] at this
   ·rwa [if_neg q] at this
  have next:∀ o2:List (List Int),o2.length=m→(∀ j,j<m→j≠i→o2.getD j []=o.getD j [])→((o2.getD i []).length=n∧vf (o2.getD i [])=colS wrap64 n m r c P i)→Rep m n o2 (fun j=>if j<i+1 then colS wrap64 n m r c P j else P j):=fun o2 h1 h2 h3 =>
   ⟨h1,fun j hj=>by
    by_cases q:j=i
    ·subst q
     rw[if_pos (by omega)]
     exact h3
    ·rw[h2 j hj q]
     have:=hv.row j hj
     by_cases q2:j<i
     ·rw[if_pos q2] at this
      rwa [if_pos (by omega)]
     ·rw[if_neg q2] at this
      rwa [if_neg (by omega)]⟩
  by_cases e:i=r
  ·refine Ev.step (fun k=>?_) (sred_l2 hn hp hr hc hm hz hs h d (i+1) o (by omega) (next o hv.len (fun _ _ _=>rfl) ?_))
   ·rw[Vk1.l2,if_pos (by omega),if_pos (by omega),if_pos (by omega),w64_nat (by omega)]
   ·unfold colS
    rw[if_neg (by omega)]
    exact hri
  ·by_cases z:P i c=0
   ·refine Ev.step (fun k=>?_) (sred_l2 hn hp hr hc hm hz hs h d (i+1) o (by omega) (next o hv.len (fun _ _ _=>rfl) ?_))
    ·rw[Vk1.l2,if_pos (by omega),if_pos (by omega),if_neg (by omega),if_pos (by omega),rdL_nat,if_pos (by omega),rd_vf,hri.2,if_pos z,w64_nat (by omega)]
    ·unfold colS
     rw[if_neg (by omega)]
     exact hri
   ·have hN:∀ k,Lin.newRow wrap64 P r c i k=P r c * P i k - P i c * P r k ∧ -68101257834375001≤P r c * P i k - P i c * P r k∧P r c * P i k - P i c * P r k≤68101257834375001:=fun k=>by
     have:=newRow_told keeps64 (M:=P) (r:=r) (c:=c) (i:=i) (fun j k hj=>by rcases hj with rfl|rfl;exact hs _ hr k;exact hs _ (by omega) k) k
     exact⟨this.1,by omega,by omega⟩
    have hzz:∀ k,n≤k→P i k=0∧P r k=0:=fun k hk=>⟨hz i (by omega) k hk,hz r hr k hk⟩
    have e1:vf (nrL n (Lin.newRow wrap64 P r c i))=Lin.newRow wrap64 P r c i:=nrL_vf _ _ fun k hk=>newRow_out P r c i k (hzz k hk).1 (hzz k hk).2
    have sh:=spec_l4Divided_ev (nrL n (Lin.newRow wrap64 P r c i)) (by rw[nrL_length];exact hn) (fun k hk=>by rw[e1];have:=hN k;omega)
    have go:=sred_l3 (out:=out) (c:=c) hn hp hv.len (show i<m by omega) hr e hri hrr hzz hm ?_ n 0 (o.getD i []) (by omega) hri.1 (fun k=>by rw[if_neg (by omega),hri.2])
    ·refine Ev.step (fun k=>?_) go
     have es:o.set i (o.getD i [])=o:=by
      have hlt:i<o.length:=by have:=hv.len;omega
      rw[List.getD_eq_getElem?_getD,List.getElem?_eq_getElem hlt]
      simp
     rw[es,Vk1.l2,if_pos (by omega),if_pos (by omega),if_neg (by omega),if_pos (by omega),hp,rdL_nat,rdL_nat,if_pos (by omega),rd_vf,rd_vf,hri.2,hrr.2,if_neg z,if_pos (by omega),if_pos (by omega)]
     rfl
    ·refine Ev.bind sh ?_
     rw[w64_nat (by omega)]
     refine sred_l2 hn hp hr hc hm hz hs h d (i+1) _ (by omega) (next _ (by simpa using hv.len) (fun j _ hj=>?_) ?_)
     ·rw[getD_set _ (by have:=hv.len;omega),if_neg hj]
     ·rw[getD_set _ (by have:=hv.len;omega),if_pos rfl]
      refine⟨by rw[shL_length,nrL_length],?_⟩
      rw[shL_fun,nrL_length,e1]
      unfold colS
      rw[if_pos ⟨by omega,e,z⟩]
end
section
variable {m n c:Nat} {M:Nat→Nat→Int} {out:List (List Int)×List Int} {p:List Int} {o:List (List Int)}
theorem sred_l1 (hv:Rep m n o M) (hc:c<n) (hm:m≤1000000) (nn:Int)
  (hEnd:Ev (fun k=>Vk1.l0 k m o p nn (wrap64 ((c:Int)+1))) out→True)
  (T:Nat) (h1:T=m→Ev (fun k=>Vk1.l0 k m o p nn (wrap64 ((c:Int)+1))) out)
  (h2:T<m→p.length<m→Ev (fun k=>Vk1.l2 k m ((o.set T (o.getD p.length [])).set p.length (o.getD T [])) p nn (c:Int) 0) out) :
  ∀ (f a:Nat),a+f=m→p.length≤a→findAt M c m f a=T→Ev (fun k=>Vk1.l1 k m o p nn (c:Int) (a:Int)) out
|0,a,ha,hpa,hT=>by
  obtain rfl:a=m:=by omega
  have e:a=T:=hT
  refine Ev.step (fun k=>?_) (h1 e.symm)
  rw[Vk1.l1,if_neg (by omega),if_pos rfl]
|f+1,a,ha,hpa,hT=>by
  have hr:=hv.row a (by omega)
  by_cases z:M a c=0
  ·have e:findAt M c m (f+1) a=findAt M c m f (a+1):=by
    show (if a<m∧M a c=0 then findAt M c m f (a+1) else a)=_
    rw[if_pos ⟨by omega,z⟩]
   rw[e] at hT
   refine Ev.step (fun k=>?_) (sred_l1 hv hc hm nn hEnd T h1 h2 f (a+1) (by omega) (by omega) hT)
   rw[Vk1.l1,if_pos (by omega),if_pos (by omega),if_pos (by omega),rdL_nat,if_pos (by omega),rd_vf,hr.2,if_pos z,w64_nat (by omega)]
  ·have e:findAt M c m (f+1) a=a:=by
    show (if a<m∧M a c=0 then findAt M c m f (a+1) else a)=_
    rw[if_neg (fun h=>z h.2)]
   rw[e] at hT
   subst hT
   refine Ev.step (fun k=>?_) (h2 (by omega) (by omega))
   rw[Vk1.l1,if_pos (by omega),if_pos (by omega),if_pos (by omega),rdL_nat,if_pos (by omega),rd_vf,hr.2,if_neg z,if_pos (by omega),rdL_nat,Int.toNat_natCast]
end
theorem spec_l4Reduced_ev {m n:Nat} (hm:m≤5) (hn:n≤1000) {A:Nat→Nat→Int}:∀ (k c:Nat) (M:Nat→Nat→Int) (piv:List Nat) (o:List (List Int)),c+k=n→Rep m n o M→Inv m n c A M piv →
  ∃ o',Rep m n o' (elim wrap64 false n m k c M piv).1∧Ev (fun K=>Vk1.l0 K m o (ints piv) (n:Int) (c:Int)) (o',ints (elim wrap64 false n m k c M piv).2)
|0,c,M,piv,o,hc,hv,hi=>by
  obtain rfl:c=n:=by omega
  refine⟨o,hv,Ev.step (f:=fun _=>some (o,ints piv)) (fun K=>?_) (ev_const _)⟩
  rw[Vk1.l0,if_neg (by omega)]
|k+1,c,M,piv,o,hc,hv,hi=>by
  have hr:piv.length≤m:=hi.st.choose_spec.choose_spec.1.hr
  obtain⟨f1,f2,f3,f4⟩:=findAt_told M c m (m - piv.length) piv.length (by omega)
  obtain⟨T,hT⟩:∃ T,findAt M c m (m - piv.length) piv.length=T:=⟨_,rfl⟩
  rw[hT] at f1 f2 f3 f4
  rw[elim,hT]
  by_cases e:T=m
  ·rw[if_pos e]
   obtain⟨o',h1,h2⟩:=spec_l4Reduced_ev hm hn k (c+1) M piv o (by omega) hv (hi.skip fun i h1 h2=>f3 i h1 (by omega))
   refine⟨o',h1,Ev.step (fun K=>?_) (sred_l1 hv (by omega) (by omega) (n:Int) (fun _=>trivial) T (fun _=>?_) (fun h=>by omega) (m - piv.length) piv.length (by omega) (by rw[ints_length];exact Nat.le_refl _) hT)⟩
   ·rw[Vk1.l0,if_pos (by omega),ints_length]
   ·rw[w64_nat (by omega)]
    exact h2
  ·rw[if_neg e]
   have hne:=f4 (by omega)
   have hin:=hi.next hm (by omega) keeps64 false f1 (by omega) hne
   obtain⟨r,hrr⟩:∃ r,piv.length=r:=⟨_,rfl⟩
   rw[hrr] at f1 f3 hin hr hT ⊢
   have hlt:r<m:=by omega
   obtain⟨P,hP⟩:∃ P,P=shortP false n r (sw r T M):=⟨_,rfl⟩
   rw[←hP] at hin ⊢
   have swT:sw r T M r=M T:=by unfold sw;rw[if_pos rfl]
   have Pr:P r=M T:=by rw[hP];unfold shortP;rw[if_neg (by simp),swT]
   have Po:∀ i,i≠r→P i=if i=T then M r else M i:=fun i hir=>by
    rw[hP]
    unfold shortP
    rw[if_neg (by simp)]
    unfold sw
    rw[if_neg hir]
   have hs:∀ i,i<m→∀ x,-184528125≤P i x∧P i x≤184528125:=fun i him x=>by
    by_cases q:i=r
    ·rw[q,Pr]
     exact hi.small hm T (by omega) x
    ·rw[Po i q]
     split
     ·exact hi.small hm r hlt x
     ·exact hi.small hm i him x
   have hz:∀ i,i<m→∀ x,n≤x→P i x=0:=fun i him x hx=>by
    by_cases q:i=r
    ·rw[q,Pr]
     exact hi.zero T (by omega) x hx
    ·rw[Po i q]
     split
     ·exact hi.zero r hlt x hx
     ·exact hi.zero i him x hx
   have hrowT:=hv.row T (by omega)
   have hrowr:=hv.row r hlt
   have hlen:=hv.len
   have hrep:Rep m n ((o.set T (o.getD r [])).set r (o.getD T [])) P:=by
    refine⟨by simpa using hlen,fun i him=>?_⟩
    rw[getD_set _ (by simp;omega)]
    by_cases q:i=r
    ·rw[if_pos q,q,Pr]
     exact hrowT
    ·rw[if_neg q,getD_set _ (by omega),Po i q]
     by_cases q2:i=T
     ·rw[if_pos q2,if_pos q2]
      exact hrowr
     ·rw[if_neg q2,if_neg q2]
      exact hv.row i him
   have each:∀ o',Rep m n o' (colS wrap64 n m r c P)→∃ o'',Rep m n o'' (elim wrap64 false n m k (c+1) (colS wrap64 n m r c P) (piv++[c])).1∧Ev (fun K=>Vk1.l0 K m o' (ints piv++[(c:Int)]) (n:Int) (wrap64 ((c:Int)+1))) (o'',ints (elim wrap64 false n m k (c+1) (colS wrap64 n m r c P) (piv++[c])).2):=fun o' ho'=>by
    obtain⟨o'',h1,h2⟩:=spec_l4Reduced_ev hm hn k (c+1) _ (piv++[c]) o' (by omega) ho' hin
    refine⟨o'',h1,?_⟩
    rw[w64_nat (by omega),ints_snoc]
    exact h2
   have one:∀ o1 o2:List (List Int),Rep m n o1 (colS wrap64 n m r c P)→Rep m n o2 (colS wrap64 n m r c P)→o1=o2:=fun o1 o2 h1 h2=>by
    apply List.ext_getElem (by rw[h1.len,h2.len])
    intro i q1 q2
    have a1:=h1.row i (by have:=h1.len;omega)
    have a2:=h2.row i (by have:=h1.len;omega)
    rw[List.getD_eq_getElem?_getD,List.getElem?_eq_getElem q1,Option.getD_some] at a1
    rw[List.getD_eq_getElem?_getD,List.getElem?_eq_getElem q2,Option.getD_some] at a2
    exact vf_ext (by omega) fun x _=>by rw[a1.2,a2.2]
   obtain⟨oC,hoC⟩:∃ oC:List (List Int),Rep m n oC (colS wrap64 n m r c P):=by
    refine⟨(List.range m).map fun i=>nrL n (colS wrap64 n m r c P i),by simp,fun i him=>?_⟩
    have:((List.range m).map fun i=>nrL n (colS wrap64 n m r c P i)).getD i []=nrL n (colS wrap64 n m r c P i):=by
     rw[List.getD_eq_getElem?_getD,List.getElem?_eq_getElem (by simpa using him)]
     simp
    rw[this]
    exact⟨nrL_length _ _,nrL_vf _ _ fun x hx=>hin.zero i him x hx⟩
   obtain⟨o'',h1,h2⟩:=each oC hoC
   refine⟨o'',h1,Ev.step (fun K=>?_) (sred_l1 hv (by omega) (by omega) (n:Int) (fun _=>trivial) T (fun h=>by omega) (fun _ _=>?_) (m - r) r (by omega) (by rw[ints_length,hrr];exact Nat.le_refl _) hT)⟩
   ·rw[Vk1.l0,if_pos (by omega),ints_length,hrr]
   ·rw[ints_length,hrr]
    exact sred_l2 (by omega) (by rw[ints_length,hrr]) hlt (by omega) (by omega) hz hs (fun o' ho'=>by rw[one o' oC ho' hoC];exact h2) m 0 _ (by omega) ⟨hrep.len,fun i him=>by rw[if_neg (by omega)];exact hrep.row i him⟩
theorem spec_l2Rows_l (l:List (List Int)) (hl:l.length≤1000000) (hr:∀ x∈l,x.length≤1000000):∀ (j i:Nat) (acc:List (List Int)),i+j=l.length→acc=l.take i→Ev (fun k=>Xx1.l0 k l acc (i:Int)) l
|0,i,acc,hj,ha=>by
  obtain rfl:i=l.length:=by omega
  refine Ev.step (f:=fun _=>some l) (fun k=>?_) (ev_const _)
  rw[Xx1.l0,if_neg (by omega),ha,List.take_length]
|j+1,i,acc,hj,ha=>by
  have hlt:i<l.length:=by omega
  have e:rd_L1 l (i:Int)=l[i]:=by simp[rd_L1,hlt]
  refine Ev.step (fun k=>?_) (spec_l2Rows_l l hl hr j (i+1) (acc++[l[i]]) (by omega) (by rw[ha,List.take_succ_eq_append_getElem hlt]))
  have h1:acc.length≤1000000:=by rw[ha,List.length_take];omega
  have h2:=hr l[i] (List.getElem_mem hlt)
  rw[Xx1.l0,if_pos (by omega),if_pos (by omega),e,spec_l1Own_is _ (by omega)]
  simp only[Option.bind_some]
  rw[if_pos (by omega),w64_nat (by omega)]
theorem spec_l2Rows_ev (l:List (List Int)) (hl:l.length≤1000000) (hr:∀ x∈l,x.length≤1000000):Ev (fun k=>Xx1.f k l) l:=spec_l2Rows_l l hl hr l.length 0 [] (by omega) rfl
theorem getD_get (vs:List (List Int)) (i:Nat) (h:i<vs.length):vs.getD i []=vs[i]:=by simp[h]
theorem getD_out (vs:List (List Int)) (i:Nat) (h:vs.length≤i):vs.getD i []=[]:=by rw[List.getD_eq_getElem?_getD,List.getElem?_eq_none h];rfl
theorem vf_nil (k:Nat):vf [] k=0:=by simp[vf]
def colL (vs:List (List Int)) (k:Nat):List Int:=vs.map fun v=>vf v k
theorem colL_vf (vs:List (List Int)) (k j:Nat):vf (colL vs k) j=vf (vs.getD j []) k:=by
 by_cases h:j<vs.length
 ·rw[vf_get _ _ (by simpa [colL] using h),getD_get vs j h]
  simp[colL]
 ·rw[vf_out _ _ (by simp[colL];omega),getD_out vs j (by omega),vf_nil]
def matT (m:Nat) (vs:List (List Int)):List (List Int):=(List.range m).map (colL vs)
theorem matT_rep (m:Nat) (vs:List (List Int)):Rep m vs.length (matT m vs) (fun i j=>vf (vs.getD j []) i):=by
 refine⟨by simp[matT],fun i hi=>?_⟩
 have e:(matT m vs).getD i []=colL vs i:=by
  rw[getD_get _ _ (by simpa [matT] using hi)]
  simp[matT]
 rw[e]
 exact⟨by simp[colL],funext fun j=>colL_vf vs i j⟩
section
variable {m n:Nat} {vs:List (List Int)} {out:List Int×Bool}
theorem bal_l1 (hn:vs.length=n) (hv:∀ v∈vs,v.length=m) (hm:m≤1000) (hn2:n≤1000) (kc:Nat) (hk:kc<m) (x4:Int) (x5:List (List Int)) (h5:x5.length≤1000) (x28:Int)
  (h:Ev (fun k=>Gk.l0 k vs x4 (x5++[colL vs kc]) x28 (wrap64 ((kc:Int)+1))) out) :
  ∀ (j i:Nat) (acc:List Int),i+j=n→acc=(colL vs kc).take i→Ev (fun k=>Gk.l1 k vs x4 x5 (kc:Int) acc x28 (kc:Int) vs (n:Int) (i:Int)) out
|0,i,acc,hj,ha=>by
  obtain rfl:i=n:=by omega
  refine Ev.step (fun k=>?_) h
  rw[Gk.l1,if_neg (by omega),if_pos (by omega),ha,List.take_of_length_le (by simp[colL];omega)]
|j+1,i,acc,hj,ha=>by
  have hlt:i<vs.length:=by omega
  have hl:(vs.getD i []).length=m:=by rw[getD_get _ _ hlt];exact hv _ (List.getElem_mem hlt)
  have hc:i<(colL vs kc).length:=by simpa [colL] using hlt
  have ha2:acc.length≤1000:=by rw[ha,List.length_take];omega
  refine Ev.step (fun k=>?_) (bal_l1 hn hv hm hn2 kc hk x4 x5 h5 x28 h j (i+1) (acc++[vf (vs.getD i []) kc]) (by omega) ?_)
  ·rw[Gk.l1,if_pos (by omega),if_pos (by omega),if_pos (by omega),if_pos (by omega),rdL_nat,if_pos (by omega),if_pos (by omega),rd_vf,w64_nat (by omega)]
  ·rw[ha,List.take_succ_eq_append_getElem hc,←vf_get _ _ hc,colL_vf]
theorem bal_l0 (hn:vs.length=n) (hv:∀ v∈vs,v.length=m) (hm:m≤1000) (hn2:n≤1000)
  (h:Ev (fun k=>(Kw.f k (matT m vs) (n:Int)).bind fun bt=>(if(bt.1.length:Int)=(wrap64 ((n:Int) - 1)) then(Gk.l2 k (n:Int) bt.2 bt.1 (wrap64 ((n:Int) - 1)) bt.1 (bt.1.length:Int) 0) else(some (([]:List Int),false)))) out) :
  ∀ (j i:Nat) (x5:List (List Int)),i+j=m→x5=(matT m vs).take i→Ev (fun k=>Gk.l0 k vs (n:Int) x5 (m:Int) (i:Int)) out
|0,i,x5,hj,h5=>by
  obtain rfl:i=m:=by omega
  refine Ev.step (fun k=>?_) h
  rw[Gk.l0,if_neg (by omega),h5,List.take_of_length_le (by simp[matT])]
|j+1,i,x5,hj,h5=>by
  have hl:i<(matT m vs).length:=by simp[matT];omega
  have h5l:x5.length≤1000:=by rw[h5,List.length_take];omega
  refine Ev.step (f:=fun k=>Gk.l1 k vs (n:Int) x5 (i:Int) [] (m:Int) (i:Int) vs (vs.length:Int) 0) (fun k=>by rw[Gk.l0,if_pos (by omega)]) ?_
  rw[hn]
  refine bal_l1 hn hv hm hn2 i (by omega) (n:Int) x5 h5l (m:Int) ?_ n 0 [] (by omega) (by simp)
  rw[w64_nat (by omega)]
  refine bal_l0 hn hv hm hn2 h j (i+1) _ (by omega) ?_
  rw[h5,List.take_succ_eq_append_getElem hl]
  congr 1
  simp[matT]
end
theorem bal_l2 {n:Nat} {piv:List Nat} {R:List (List Int)} {out:List Int×Bool} (hn:n≤1000) (hl:piv.length+1=n) (hasc:piv.Pairwise (·<·)) (hlow:∀ q∈piv,q<n)
  (h:∀ f,f<n→f ∉ piv→Ev (fun k=>Gk.j3 k (n:Int) R (ints piv) (f:Int)) out) :
  ∀ (j i:Nat),i+j=piv.length→(∀ t (ht:t<piv.length),t<i→piv[t]=t)→Ev (fun k=>Gk.l2 k (n:Int) R (ints piv) (wrap64 ((n:Int) - 1)) (ints piv) (piv.length:Int) (i:Int)) out
|0,i,hj,hp=>by
  have e:wrap64 ((n:Int) - 1)=((n - 1:Nat):Int):=by rw[w64 (by omega) (by omega)];omega
  refine Ev.step (fun k=>?_) (h (n - 1) (by omega) fun hm=>?_)
  ·rw[Gk.l2,if_neg (by omega),e]
  ·obtain⟨t,ht,et⟩:=List.getElem_of_mem hm
   have:=hp t ht (by omega)
   omega
|j+1,i,hj,hp=>by
  have hi:i<piv.length:=by omega
  have e:=ints_get piv i hi
  by_cases c:piv[i]=i
  ·refine Ev.step (fun k=>?_) (bal_l2 hn hl hasc hlow h j (i+1) (by omega) fun t ht hti=>?_)
   ·rw[Gk.l2,if_pos (by omega),if_pos (by omega),if_pos (by rw[ints_length];omega),rd_vf,e,if_pos (by omega),w64_nat (by omega)]
   ·by_cases q:t=i
    ·subst q
     exact c
    ·exact hp t ht (by omega)
  ·refine Ev.step (fun k=>?_) (h i (by omega) fun hm=>?_)
   ·rw[Gk.l2,if_pos (by omega),if_pos (by omega),if_pos (by rw[ints_length];omega),rd_vf,e,if_neg (by omega)]
   ·obtain⟨t,ht,et⟩:=List.getElem_of_mem hm
    rw[List.pairwise_iff_getElem] at hasc
    rcases Nat.lt_trichotomy t i with q|q|q
    ·have:=hp t ht q
     omega
    ·subst q
     exact c et
    ·have h1:=hasc i t hi ht q
     have h2:i≤piv[i]:=by
      rcases Nat.eq_zero_or_pos i with z|z
      ·omega
      ·have a:=hasc (i - 1) i (by omega) hi (by omega)
       have b:=hp (i - 1) (by omega) (by omega)
       omega
     omega
def uL (n f:Nat) (L:Int) (M:Nat→Nat→Int) (piv:List Nat):Nat→List Int
|0=>(List.replicate n 0).set f L
|j+1=>(uL n f L M piv j).set (piv.getD j 0) (-(M j f) * (L / M j (piv.getD j 0)))
theorem uL_length (n f:Nat) (L:Int) (M:Nat→Nat→Int) (piv:List Nat):∀ j,(uL n f L M piv j).length=n
|0=>by simp[uL]
|j+1=>by simp[uL,uL_length n f L M piv j]
theorem pgetD (piv:List Nat) (j:Nat) (h:j<piv.length):piv.getD j 0=piv[j]:=by simp[h]
theorem uL_f {n f:Nat} {L:Int} {M:Nat→Nat→Int} {piv:List Nat} (hf:f<n) (hfp:f ∉ piv) (hlow:∀ q∈piv,q<n):∀ j,j≤piv.length→vf (uL n f L M piv j) f=L
|0,_=>by rw[uL,vf_set _ _ _ (by simpa using hf),if_pos rfl]
|j+1,hj=>by
  have e:=pgetD piv j (by omega)
  have hm:piv[j]∈piv:=List.getElem_mem (by omega)
  have hne:f≠piv[j]:=fun q=>hfp (q ▸ hm)
  rw[uL,e,vf_set _ _ _ (by rw[uL_length];exact hlow _ hm),if_neg hne]
  exact uL_f hf hfp hlow j (by omega)
theorem uL_at {n f:Nat} {L:Int} {M:Nat→Nat→Int} {piv:List Nat} (hasc:piv.Pairwise (·<·)) (hlow:∀ q∈piv,q<n):∀ j,j≤piv.length→∀ t (ht:t<piv.length),t<j→vf (uL n f L M piv j) piv[t] = -(M t f) * (L / M t piv[t])
|0,_,t,_,h=>by omega
|j+1,hj,t,ht,h=>by
  have e:=pgetD piv j (by omega)
  have hm:piv[j]∈piv:=List.getElem_mem (by omega)
  rw[uL,e,vf_set _ _ _ (by rw[uL_length];exact hlow _ hm)]
  by_cases c:t=j
  ·subst c
   rw[if_pos rfl]
  ·rw[List.pairwise_iff_getElem] at hasc
   have:=hasc t j ht (by omega) (by omega)
   rw[if_neg (by omega)]
   exact uL_at (by rw[List.pairwise_iff_getElem];exact hasc) hlow j (by omega) t ht (by omega)
section
variable {m n f:Nat} {M:Nat→Nat→Int} {piv:List Nat} {R:List (List Int)} {out:List Int×Bool}
def avf (M:Nat→Nat→Int) (piv:List Nat) (j:Nat):Int:=M j (piv.getD j 0)
theorem bal_l3 (hR:Rep m n R M) (hn:n≤1000) (hpm:piv.length≤m) (hlow:∀ q∈piv,q<n) (hf:f<n) (hm:m≤1000)
  (hL:∀ j,j≤piv.length→0<lcs (avf M piv) j∧lcs (avf M piv) j≤1157095860480) (hs:∀ i,i<m→∀ k,-184528125≤M i k∧M i k≤184528125)
  (h:Ev (fun k=>Gk.l4 k R (f:Int) (uL n f (lcs (avf M piv) piv.length) M piv 0) (lcs (avf M piv) piv.length) (ints piv) (piv.length:Int) 0) out) :
  ∀ (j i:Nat),i+j=piv.length→Ev (fun k=>Gk.l3 k R (ints piv) (f:Int) (List.replicate n 0) (lcs (avf M piv) i) (ints piv) (piv.length:Int) (i:Int)) out
|0,i,hj=>by
  obtain rfl:i=piv.length:=by omega
  refine Ev.step (fun k=>?_) h
  rw[Gk.l3,if_neg (by omega),if_pos (by omega),if_pos (by simp;omega),ints_length,Int.toNat_natCast]
  rfl
|j+1,i,hj=>by
  have hi:i<piv.length:=by omega
  have hp:=ints_get piv i hi
  have hq:piv[i]<n:=hlow _ (List.getElem_mem hi)
  have hrow:=hR.row i (by omega)
  have hlen:=hR.len
  obtain⟨l1,l2⟩:=hL i (by omega)
  obtain⟨l3,l4⟩:=hL (i+1) (by omega)
  have ha:avf M piv i=M i piv[i]:=by unfold avf;rw[pgetD piv i hi]
  have hsm:=hs i (by omega) piv[i]
  rw[←ha] at hsm
  have dv:=impl_divisor_ev [lcs (avf M piv) i,avf M piv i] (by simp) (fun k hk=>by
   have hk2:k<2:=hk
   rcases (show k=0∨k=1 by omega) with rfl|rfl
   ·show _≤lcs (avf M piv) i∧lcs (avf M piv) i≤_
    omega
   ·show _≤avf M piv i∧avf M piv i≤_
    omega)
  have eg:(gcdn ([lcs (avf M piv) i,avf M piv i]:List Int).length (vf [lcs (avf M piv) i,avf M piv i]):Int)=(Int.gcd (lcs (avf M piv) i) (avf M piv i):Int):=by
   show ((Nat.gcd (Nat.gcd 0 (lcs (avf M piv) i).natAbs) (avf M piv i).natAbs:Nat):Int)=_
   rw[Nat.gcd_zero_left]
   rfl
  rw[eg] at dv
  have hg:0<Int.gcd (lcs (avf M piv) i) (avf M piv i):=Int.gcd_pos_of_ne_zero_left _ (by omega)
  have eq_:lcs (avf M piv) (i+1)=lcs (avf M piv) i / (Int.gcd (lcs (avf M piv) i) (avf M piv i):Int) * ((avf M piv i).natAbs:Int):=rfl
  have et:Int.tdiv (lcs (avf M piv) i) (Int.gcd (lcs (avf M piv) i) (avf M piv i):Int)=lcs (avf M piv) i / (Int.gcd (lcs (avf M piv) i) (avf M piv i):Int):=Int.tdiv_eq_ediv_of_nonneg (by omega)
  have eb:0≤lcs (avf M piv) i / (Int.gcd (lcs (avf M piv) i) (avf M piv i):Int)∧lcs (avf M piv) i / (Int.gcd (lcs (avf M piv) i) (avf M piv i):Int)≤lcs (avf M piv) i :=
   ⟨Int.ediv_nonneg (by omega) (by omega),Int.ediv_le_self _ (by omega)⟩
  have em:mx (avf M piv i) (wrap64 (-(avf M piv i)))=((avf M piv i).natAbs:Int):=by
   rw[w64 (by omega) (by omega)]
   unfold mx
   split <;> omega
  refine Ev.step (f:=fun k=>(Zv.f k [lcs (avf M piv) i,avf M piv i]).bind fun t=>if t=0 then none else Gk.l3 k R (ints piv) (f:Int) (List.replicate n 0) (wrap64 ((wrap64 (Int.tdiv (lcs (avf M piv) i) t)) * (mx (avf M piv i) (wrap64 (-(avf M piv i)))))) (ints piv) (piv.length:Int) (wrap64 ((i:Int)+1))) (fun k=>?_) (Ev.bind dv (ev_if_neg (by omega) ?_))
  ·rw[Gk.l3,if_pos (by omega),if_pos (by omega),if_pos (by rw[ints_length];omega),if_pos (by omega),rd_vf,hp,rdL_nat,if_pos (by omega),if_pos (by omega),rd_vf,hrow.2,←ha]
  ·rw[et,em,w64 (x:=lcs (avf M piv) i / _) (by omega) (by omega),←eq_,w64 (by omega) (by omega),w64_nat (by omega)]
   exact bal_l3 hR hn hpm hlow hf hm hL hs h j (i+1) (by omega)
theorem bal_l4 (hR:Rep m n R M) (hn:n≤1000) (hpm:piv.length≤m) (hasc:piv.Pairwise (·<·)) (hlow:∀ q∈piv,q<n) (hf:f<n) (hm:m≤1000) {L:Int} (hL:0<L∧L≤1157095860480)
  (hd:∀ j (hj:j<piv.length),M j piv[j]≠0) (hs:∀ i,i<m→∀ k,-184528125≤M i k∧M i k≤184528125)
  (hU:∀ k,-1157095860480≤vf (uL n f L M piv piv.length) k∧vf (uL n f L M piv piv.length) k≤1157095860480) (hdv:∀ j (hj:j<piv.length),M j piv[j] ∣ L)
  (h:Ev (fun k=>(Xw.f k (uL n f L M piv piv.length)).bind fun t=>Gk.l5 k t t (n:Int) 0) out) :
  ∀ (j i:Nat),i+j=piv.length→Ev (fun k=>Gk.l4 k R (f:Int) (uL n f L M piv i) L (ints piv) (piv.length:Int) (i:Int)) out
|0,i,hj=>by
  obtain rfl:i=piv.length:=by omega
  refine Ev.step (fun k=>?_) h
  rw[Gk.l4,if_neg (by omega),uL_length]
|j+1,i,hj=>by
  have hi:i<piv.length:=by omega
  have hp:=ints_get piv i hi
  have hq:piv[i]<n:=hlow _ (List.getElem_mem hi)
  have hrow:=hR.row i (by omega)
  have hlen:=hR.len
  have hb:=hU piv[i]
  rw[uL_at hasc hlow piv.length (Nat.le_refl _) i hi hi] at hb
  have h1:=hs i (by omega) f
  have h2:=hd i hi
  have et:Int.tdiv L (M i piv[i])=L / M i piv[i]:=Int.tdiv_eq_ediv_of_dvd (hdv i hi)
  have eb : -1157095860480≤L / M i piv[i]∧L / M i piv[i]≤1157095860480:=by
   have:=Int.natAbs_ediv_le_natAbs L (M i piv[i])
   omega
  have ed:=pgetD piv i hi
  refine Ev.step (fun k=>?_) (bal_l4 hR hn hpm hasc hlow hf hm hL hd hs hU hdv h j (i+1) (by omega))
  rw[Gk.l4,if_pos (by omega),if_pos (by omega),if_pos (by rw[ints_length];omega),if_pos (by omega),if_pos (by omega),rdL_nat,rd_vf,rd_vf,hp,rd_vf,hrow.2,if_pos (by omega),if_pos (by omega),if_pos (by omega),if_neg h2,if_pos (by rw[uL_length];omega),et,w64 (x:=L / _) (by omega) (by omega),w64 (x:=-(M i f)) (by omega) (by omega),w64 (by omega) (by omega),w64_nat (by omega),uL,ed,Int.toNat_natCast]
theorem bal_l5 (z:List Int) (hz:z.length≤1000):∀ (j i:Nat),i+j=z.length→Ev (fun k=>Gk.l5 k z z (z.length:Int) (i:Int)) (if(z.drop i).all (fun x=>decide (0<x)) then(z,true) else([],false))
|0,i,hj=>by
  obtain rfl:i=z.length:=by omega
  refine Ev.step (f:=fun _=>some (z,true)) (fun k=>?_) ?_
  ·rw[Gk.l5,if_neg (by omega)]
  ·rw[List.drop_of_length_le (Nat.le_refl _)]
   exact ev_const _
|j+1,i,hj=>by
  have hi:i<z.length:=by omega
  rw[List.drop_eq_getElem_cons hi,List.all_cons]
  by_cases c:0<z[i]
  ·rw[decide_eq_true c,Bool.true_and]
   refine Ev.step (fun k=>?_) (bal_l5 z hz j (i+1) (by omega))
   rw[Gk.l5,if_pos (by omega),if_pos (by omega),if_pos (by omega),rd_vf,vf_get z i hi,if_neg (by omega),w64_nat (by omega)]
  ·rw[decide_eq_false c,Bool.false_and]
   refine Ev.step (f:=fun _=>some ([],false)) (fun k=>?_) (ev_const _)
   rw[Gk.l5,if_pos (by omega),if_pos (by omega),if_pos (by omega),rd_vf,vf_get z i hi,if_pos (by omega)]
end
theorem mem_of_get {piv:List Nat} {j q:Nat} (h:piv[j]?=some q):∃ hj:j<piv.length,piv[j]=q:=List.getElem?_eq_some_iff.1 h
theorem impl_balance_ev (vs:List (List Int)) (m n:Nat) (hn:vs.length=n) (hv:∀ v∈vs,v.length=m) (h9:∀ v∈vs,∀ k,-9≤vf v k∧vf v k≤9) (hm:m≤5) (hn1:1≤n) (hn6:n≤6) :
  (¬ One n (Ker m n (fun i j=>vf (vs.getD j []) i))∧Ev (fun k=>Gk.f k vs) ([],false)) ∨
  (One n (Ker m n (fun i j=>vf (vs.getD j []) i))∧∃ z:List Int,z.length=n∧Ker m n (fun i j=>vf (vs.getD j []) i) (vf z)∧gcdn n (vf z)=1∧(∃ f,f<n∧0<vf z f)∧Ev (fun k=>Gk.f k vs) (if z.all (fun x=>decide (0<x)) then(z,true) else([],false))):=by
 obtain⟨A,hA⟩:∃ A:Nat→Nat→Int,A=fun i j=>vf (vs.getD j []) i:=⟨_,rfl⟩
 rw[←hA]
 have rep0:Rep m n (matT m vs) A:=by
  rw[hA,←hn]
  exact matT_rep m vs
 have a9:∀ i,i<m→∀ x,-9≤A i x∧A i x≤9:=fun i _ x=>by
  rw[hA]
  show -9≤vf (vs.getD x []) i∧vf (vs.getD x []) i≤9
  by_cases hx:x<vs.length
  ·rw[getD_get _ _ hx]
   exact h9 _ (List.getElem_mem hx) i
  ·rw[getD_out _ _ (by omega),vf_nil]
   omega
 have az:∀ i,i<m→∀ k,n≤k→A i k=0:=fun i _ k hk=>by
  rw[hA]
  show vf (vs.getD k []) i=0
  rw[getD_out _ _ (by omega),vf_nil]
 have inv0:=Inv.start m n A a9 az
 obtain⟨R,hR,hE⟩:=impl_reduced_ev hm (by omega) n 0 A [] (matT m vs) (by omega) rep0 inv0
 have inv:=Inv.all hm keeps64 true n 0 A [] (by omega) inv0
 obtain⟨M,hM⟩:∃ M,(elim wrap64 true n m n 0 A []).1=M:=⟨_,rfl⟩
 obtain⟨piv,hpv⟩:∃ piv,(elim wrap64 true n m n 0 A []).2=piv:=⟨_,rfl⟩
 rw[hM] at hR
 rw[hM,hpv] at inv
 rw[hpv] at hE
 have rlen:=rep0.len
 have hE':Ev (fun k=>Kw.f k (matT m vs) (n:Int)) (ints piv,R):=by
  unfold Kw.f
  rw[rlen]
  exact hE
 have head:∀ out,Ev (fun k=>(Kw.f k (matT m vs) (n:Int)).bind fun bt=>(if(bt.1.length:Int)=(wrap64 ((n:Int) - 1)) then(Gk.l2 k (n:Int) bt.2 bt.1 (wrap64 ((n:Int) - 1)) bt.1 (bt.1.length:Int) 0) else(some (([]:List Int),false)))) out→Ev (fun k=>Gk.f k vs) out:=fun out h=>by
  have hv0:(vs.getD 0 []).length=m:=by rw[getD_get _ _ (by omega)];exact hv _ (List.getElem_mem (by omega))
  have:=bal_l0 hn hv (by omega) (by omega) h m 0 [] (by omega) rfl
  refine Ev.congr (fun k=>?_) this
  unfold Gk.f
  rw[if_pos (by omega),show (0:Int)=((0:Nat):Int) from rfl,rdL_nat,hv0,hn]
 have w1:wrap64 ((n:Int) - 1)=((n - 1:Nat):Int):=by rw[w64 (by omega) (by omega)];omega
 by_cases c:piv.length+1=n
 ·obtain⟨o,p,s1,s2,s3,s4,s5⟩:=inv.fin
  have hpm:piv.length≤m:=s1.hr
  have hd:∀ j (hj:j<piv.length),M j piv[j]≠0:=fun j hj=>by
   have e:=s3 j hj
   rw[List.getElem?_eq_getElem hj] at e
   have e2:piv[j]=p j:=Option.some.inj e
   rw[e2]
   exact s2.piv j hj
  refine .inr ⟨inv.one.2 c,?_⟩
  obtain⟨f,hf,hfp⟩:=exists_not_mem piv n (by omega)
  have rel:∀ f,f<n→f ∉ piv→_:=fun f hf hfp=>inv.rel (f:=f) (a:=avf M piv) (u:=vf (uL n f (lcs (avf M piv) piv.length) M piv piv.length)) hm hn6 c hf hfp (fun j q hq=>by obtain⟨hj,e⟩:=mem_of_get hq;subst e;unfold avf;rw[pgetD piv j hj]) (uL_f hf hfp inv.low _ (Nat.le_refl _)) (fun j q hq=>by obtain⟨hj,e⟩:=mem_of_get hq;subst e;exact uL_at inv.asc inv.low _ (Nat.le_refl _) j hj hj) (fun k hk=>vf_out _ _ (by rw[uL_length];exact hk))
  obtain⟨z,hz⟩:∃ z,z=shL (uL n f (lcs (avf M piv) piv.length) M piv piv.length):=⟨_,rfl⟩
  have hzl:z.length=n:=by rw[hz,shL_length,uL_length]
  have hzv:∀ f,vf (shL (uL n f (lcs (avf M piv) piv.length) M piv piv.length))=divn n (vf (uL n f (lcs (avf M piv) piv.length) M piv piv.length)):=fun f=>by rw[shL_fun,uL_length]
  obtain⟨⟨r1,r2,r3⟩,r4,r5,r6⟩:=rel f hf hfp
  refine⟨z,hzl,by rw[hz,hzv];exact r1,by rw[hz,hzv];exact r2,⟨f,hf,by rw[hz,hzv];exact r3⟩,head _ (Ev.bind hE' (ev_if_pos (by rw[w1,ints_length];omega) ?_))⟩
  show Ev (fun k=>Gk.l2 k (n:Int) R (ints piv) (wrap64 ((n:Int) - 1)) (ints piv) ((ints piv).length:Int) 0) _
  rw[ints_length]
  refine bal_l2 (by omega) c inv.asc inv.low (fun f' hf' hfp'=>?_) piv.length 0 (by omega) (fun t _ ht=>by omega)
  have ef:f'=f:=by
   rcases s2.cover (f:=f) hf (fun j hj e=>hfp (by rw[←e];exact List.mem_of_getElem? (s3 j hj))) c f' hf' with e|⟨j,hj,e⟩
   ·exact e
   ·exact absurd (by rw[←e];exact List.mem_of_getElem? (s3 j hj)) hfp'
  subst ef
  have hsm:∀ i,i<m→∀ k,-184528125≤M i k∧M i k≤184528125:=fun i hi k=>inv.small hm i hi k
  refine Ev.step (f:=fun k=>Gk.l3 k R (ints piv) (f':Int) (List.replicate n 0) (lcs (avf M piv) 0) (ints piv) (piv.length:Int) 0) (fun k=>?_) ?_
  ·rw[Gk.j3,if_pos (by omega),Int.toNat_natCast,if_pos (by omega),ints_length]
   rfl
  ·refine bal_l3 hR (by omega) hpm inv.low hf' (by omega) r5 hsm ?_ piv.length 0 (by omega)
   have a0:∀ j,j<piv.length→avf M piv j≠0:=fun j hj=>by unfold avf;rw[pgetD piv j hj];exact hd j hj
   obtain⟨Ln,e1,e2,e3,e4⟩:=lcs_nat (avf M piv) piv.length a0
   refine bal_l4 hR (by omega) hpm inv.asc inv.low hf' (by omega) (r5 _ (Nat.le_refl _)) hd hsm r4 (fun j hj=>?_) ?_ piv.length 0 (by omega)
   ·have:=e3 j hj
    unfold avf at this
    rw[pgetD piv j hj] at this
    rw[e1]
    exact Int.natAbs_dvd_natAbs.1 (by simpa using this)
   ·refine Ev.bind (impl_shortened_ev _ (by rw[uL_length];omega) (fun k _=>by have:=r4 k;omega)) ?_
    rw[←hz]
    have:=bal_l5 z (by omega) z.length 0 (by omega)
    rw[List.drop_zero,hzl] at this
    exact this
 ·refine .inl ⟨fun h=>c (inv.one.1 h),head _ (Ev.bind hE' (ev_if_neg (by rw[w1,ints_length];omega) (ev_const _)))⟩
def eqL (d:Nat) (pts:List (List Int)):List (List Int):=matT d pts++[List.replicate pts.length 1]
def eqA (d:Nat) (pts:List (List Int)) (i j:Nat):Int:=if i<d then vf (pts.getD j []) i else if j<pts.length then 1 else 0
theorem vf_ones (n k:Nat):vf (List.replicate n 1) k=if k<n then 1 else 0:=by
 by_cases h:k<n
 ·rw[vf_get _ _ (by simpa using h),if_pos h];simp
 ·rw[vf_out _ _ (by simp;omega),if_neg h]
theorem eqL_length (d:Nat) (pts:List (List Int)):(eqL d pts).length=d+1:=by simp[eqL,matT]
theorem eqL_rep (d:Nat) (pts:List (List Int)):Rep (d+1) pts.length (eqL d pts) (eqA d pts):=by
 refine⟨eqL_length d pts,fun i hi=>?_⟩
 have r:=(matT_rep d pts).row
 have ml:(matT d pts).length=d:=by simp[matT]
 by_cases c:i<d
 ·have e:(eqL d pts).getD i []=(matT d pts).getD i []:=by
   unfold eqL
   rw[List.getD_eq_getElem?_getD,List.getD_eq_getElem?_getD,List.getElem?_append_left (by omega)]
  rw[e]
  refine⟨(r i c).1,?_⟩
  rw[(r i c).2]
  funext j
  unfold eqA
  rw[if_pos c]
 ·obtain rfl:i=d:=by omega
  have e:(eqL i pts).getD i []=List.replicate pts.length 1:=by
   unfold eqL
   rw[List.getD_eq_getElem?_getD,List.getElem?_append_right (by omega),ml]
   simp
  rw[e]
  refine⟨by simp,?_⟩
  funext j
  rw[vf_ones]
  unfold eqA
  simp
section
variable {d n:Nat} {pts:List (List Int)}
theorem eq_l2 (hn:pts.length=n) (hn2:n≤1000) (x3:List (List Int)) (h3:x3.length≤1000):∀ (j i:Nat) (acc:List Int),i+j=n→acc=List.replicate i 1→Ev (fun k=>Xk1.l2 k pts x3 acc (i:Int)) (x3++[List.replicate n 1])
|0,i,acc,hj,ha=>by
  obtain rfl:i=n:=by omega
  refine Ev.step (f:=fun _=>some (x3++[List.replicate i 1])) (fun k=>?_) (ev_const _)
  rw[Xk1.l2,if_neg (by omega),if_pos (by omega),ha]
|j+1,i,acc,hj,ha=>by
  refine Ev.step (fun k=>?_) (eq_l2 hn hn2 x3 h3 j (i+1) (acc++[1]) (by omega) (by rw[ha,List.replicate_succ']))
  have:acc.length=i:=by rw[ha];simp
  rw[Xk1.l2,if_pos (by omega),if_pos (by omega),w64_nat (by omega)]
theorem eq_l1 (hn:pts.length=n) (hv:∀ v∈pts,v.length=d) (hd:d≤1000) (hn2:n≤1000) (kc:Nat) (hk:kc<d) (x3:List (List Int)) (h3:x3.length≤1000) (x4:List Int) {out:List (List Int)}
  (h:Ev (fun k=>Xk1.l0 k pts (x3++[colL pts kc]) x4 (wrap64 ((kc:Int)+1))) out) :
  ∀ (j i:Nat) (acc:List Int),i+j=n→acc=(colL pts kc).take i→Ev (fun k=>Xk1.l1 k pts x3 x4 (kc:Int) acc (i:Int)) out
|0,i,acc,hj,ha=>by
  obtain rfl:i=n:=by omega
  refine Ev.step (fun k=>?_) h
  rw[Xk1.l1,if_neg (by omega),if_pos (by omega),ha,List.take_of_length_le (by simp[colL];omega)]
|j+1,i,acc,hj,ha=>by
  have hlt:i<pts.length:=by omega
  have hl:(pts.getD i []).length=d:=by rw[getD_get _ _ hlt];exact hv _ (List.getElem_mem hlt)
  have hc:i<(colL pts kc).length:=by simpa [colL] using hlt
  have ha2:acc.length≤1000:=by rw[ha,List.length_take];omega
  refine Ev.step (fun k=>?_) (eq_l1 hn hv hd hn2 kc hk x3 h3 x4 h j (i+1) (acc++[vf (pts.getD i []) kc]) (by omega) ?_)
  ·rw[Xk1.l1,if_pos (by omega),if_pos (by omega),if_pos (by omega),rdL_nat,if_pos (by omega),if_pos (by omega),rd_vf,w64_nat (by omega)]
  ·rw[ha,List.take_succ_eq_append_getElem hc,←vf_get _ _ hc,colL_vf]
theorem eq_l0 (hn:pts.length=n) (hn1:1≤n) (hv:∀ v∈pts,v.length=d) (hd:d≤1000) (hn2:n≤1000):∀ (j i:Nat) (x3:List (List Int)),i+j=d→x3=(matT d pts).take i→Ev (fun k=>Xk1.l0 k pts x3 [] (i:Int)) (eqL d pts)
|0,i,x3,hj,h3=>by
  obtain rfl:i=d:=by omega
  have ml:(matT i pts).length=i:=by simp[matT]
  have h3':x3=matT i pts:=by rw[h3,List.take_of_length_le (by omega)]
  have hv0:(pts.getD 0 []).length=i:=by rw[getD_get _ _ (by omega)];exact hv _ (List.getElem_mem (by omega))
  refine Ev.step (f:=fun k=>Xk1.j1 k pts x3 [] (i:Int) false) (fun k=>?_) (Ev.step (f:=fun k=>Xk1.l2 k pts x3 [] 0) (fun k=>?_) ?_)
  ·rw[Xk1.l0,if_pos (by omega),if_pos (by omega),show (0:Int)=((0:Nat):Int) from rfl,rdL_nat,hv0,decide_eq_false (by omega)]
  ·rw[Xk1.j1,if_neg (by simp)]
  ·have:=eq_l2 hn hn2 x3 (by rw[h3',ml];exact hd) n 0 [] (by omega) rfl
   rw[h3'] at this ⊢
   unfold eqL
   rw[hn]
   exact this
|j+1,i,x3,hj,h3=>by
  have hl:i<(matT d pts).length:=by simp[matT];omega
  have h3l:x3.length≤1000:=by rw[h3,List.length_take];omega
  have hv0:(pts.getD 0 []).length=d:=by rw[getD_get _ _ (by omega)];exact hv _ (List.getElem_mem (by omega))
  refine Ev.step (f:=fun k=>Xk1.j1 k pts x3 [] (i:Int) true) (fun k=>?_) (Ev.step (f:=fun k=>Xk1.l1 k pts x3 [] (i:Int) [] 0) (fun k=>?_) ?_)
  ·rw[Xk1.l0,if_pos (by omega),if_pos (by omega),show (0:Int)=((0:Nat):Int) from rfl,rdL_nat,hv0,decide_eq_true (by omega)]
  ·rw[Xk1.j1,if_pos rfl]
  ·refine eq_l1 hn hv hd hn2 i (by omega) x3 h3l [] ?_ n 0 [] (by omega) (by simp)
   rw[w64_nat (by omega)]
   refine eq_l0 hn hn1 hv hd hn2 j (i+1) _ (by omega) ?_
   rw[h3,List.take_succ_eq_append_getElem hl]
   congr 1
   simp[matT]
theorem spec_l4Equations_ev (hn:pts.length=n) (hn1:1≤n) (hv:∀ v∈pts,v.length=d) (hd:d≤1000) (hn2:n≤1000):Ev (fun k=>Xk1.f k pts) (eqL d pts):=eq_l0 hn hn1 hv hd hn2 d 0 [] (by omega) rfl
end
section
variable {m n f:Nat} {M:Nat→Nat→Int} {piv:List Nat} {R:List (List Int)} {out:List Int×Bool}
theorem rel_l0 (hn:n≤1000) (hl:piv.length≤1000) (x9:Int) (hf:f<n) (hfp:f ∉ piv) (hone:∀ f',f'<n→f' ∉ piv→f'=f)
  (h:Ev (fun k=>Gk1.l1 k (n:Int) R (ints piv) (f:Int) x9 0) out):∀ (j i:Nat),i+j=f→Ev (fun k=>Gk1.l0 k (n:Int) R (ints piv) (i:Int) x9) out
|0,i,hj=>by
  obtain rfl:i=f:=by omega
  have hh:Ev (fun k=>Gj1.f k (ints piv) (i:Int)) ((ints piv).any fun x=>decide (x=(i:Int))):=ev_of (ints piv).length fun k hk=>spec_l1Has_is k _ _ (by rw[ints_length];omega) hk
  have e:((ints piv).any fun x=>decide (x=(i:Int)))=false:=by
   rw[List.any_eq_false]
   intro x hx
   obtain⟨q,hq,rfl⟩:=List.mem_map.1 hx
   simp only[decide_eq_true_eq]
   intro e
   have:q=i:=by have e2:(q:Int)=(i:Int):=e;omega
   exact hfp (this ▸ hq)
  rw[e] at hh
  exact Ev.step (fun k=>by rw[Gk1.l0]) (Ev.bind hh (ev_if_neg Bool.false_ne_true h))
|j+1,i,hj=>by
  have hin:i∈piv:=Classical.byContradiction fun hc=>by have:=hone i (by omega) hc;omega
  have hh:Ev (fun k=>Gj1.f k (ints piv) (i:Int)) ((ints piv).any fun x=>decide (x=(i:Int))):=ev_of (ints piv).length fun k hk=>spec_l1Has_is k _ _ (by rw[ints_length];omega) hk
  have e:((ints piv).any fun x=>decide (x=(i:Int)))=true:=by
   rw[List.any_eq_true]
   exact⟨(i:Int),List.mem_map.2 ⟨i,hin,rfl⟩,by simp⟩
  rw[e] at hh
  refine Ev.step (fun k=>by rw[Gk1.l0]) (Ev.bind hh (ev_if_pos rfl ?_))
  rw[w64_nat (by omega)]
  exact rel_l0 hn hl x9 hf hfp hone h j (i+1) (by omega)
theorem rel_l1 (hR:Rep m n R M) (hn:n≤1000) (hpm:piv.length≤m) (hlow:∀ q∈piv,q<n) (hf:f<n) (hm:m≤1000)
  (hL:∀ j,j≤piv.length→0<lcs (avf M piv) j∧lcs (avf M piv) j≤1157095860480) (hs:∀ i,i<m→∀ k,-184528125≤M i k∧M i k≤184528125)
  (h:Ev (fun k=>Gk1.l2 k R (ints piv) (f:Int) (lcs (avf M piv) piv.length) (uL n f (lcs (avf M piv) piv.length) M piv 0) 0) out) :
  ∀ (j i:Nat),i+j=piv.length→Ev (fun k=>Gk1.l1 k (n:Int) R (ints piv) (f:Int) (lcs (avf M piv) i) (i:Int)) out
|0,i,hj=>by
  obtain rfl:i=piv.length:=by omega
  refine Ev.step (fun k=>?_) h
  rw[Gk1.l1,ints_length,if_neg (by omega),if_pos (by omega),Int.toNat_natCast,if_pos (by omega)]
  simp only[Option.bind_some]
  rw[if_pos (by omega),if_pos (by simp;omega),Int.toNat_natCast]
  rfl
|j+1,i,hj=>by
  have hi:i<piv.length:=by omega
  have hp:=ints_get piv i hi
  have hq:piv[i]<n:=hlow _ (List.getElem_mem hi)
  have hrow:=hR.row i (by omega)
  have hlen:=hR.len
  obtain⟨l1,l2⟩:=hL i (by omega)
  obtain⟨l3,l4⟩:=hL (i+1) (by omega)
  have ha:avf M piv i=M i piv[i]:=by unfold avf;rw[pgetD piv i hi]
  have hsm:=hs i (by omega) piv[i]
  rw[←ha] at hsm
  have dv:=spec_l2Gcd_ev (lcs (avf M piv) i) ((avf M piv i).natAbs:Int) (by omega) (by omega)
  have eg:((Nat.gcd (lcs (avf M piv) i).natAbs ((avf M piv i).natAbs:Int).natAbs:Nat):Int)=(Int.gcd (lcs (avf M piv) i) (avf M piv i):Int):=by
   rw[Int.natAbs_natCast]
   rfl
  rw[eg] at dv
  have hg:0<Int.gcd (lcs (avf M piv) i) (avf M piv i):=Int.gcd_pos_of_ne_zero_left _ (by omega)
  have eq_:lcs (avf M piv) (i+1)=lcs (avf M piv) i / (Int.gcd (lcs (avf M piv) i) (avf M piv i):Int) * ((avf M piv i).natAbs:Int):=rfl
  have et:Int.tdiv (lcs (avf M piv) i) (Int.gcd (lcs (avf M piv) i) (avf M piv i):Int)=lcs (avf M piv) i / (Int.gcd (lcs (avf M piv) i) (avf M piv i):Int):=Int.tdiv_eq_ediv_of_nonneg (by omega)
  have eb:0≤lcs (avf M piv) i / (Int.gcd (lcs (avf M piv) i) (avf M piv i):Int)∧lcs (avf M piv) i / (Int.gcd (lcs (avf M piv) i) (avf M piv i):Int)≤lcs (avf M piv) i :=
   ⟨Int.ediv_nonneg (by omega) (by omega),Int.ediv_le_self _ (by omega)⟩
  refine Ev.step (f:=fun k=>(Zz1.f k (lcs (avf M piv) i) ((avf M piv i).natAbs:Int)).bind fun t=>if t=0 then none else Gk1.l1 k (n:Int) R (ints piv) (f:Int) (wrap64 ((wrap64 (Int.tdiv (lcs (avf M piv) i) t)) * ((avf M piv i).natAbs:Int))) (wrap64 ((i:Int)+1))) (fun k=>?_) (Ev.bind dv (ev_if_neg (by omega) ?_))
  ·rw[Gk1.l1,ints_length,if_pos (by omega),if_pos (by omega),if_pos (by omega),rd_vf,hp,rdL_nat,if_pos (by omega),if_pos (by omega),rd_vf,hrow.2,←ha,l1Most_abs _ (by omega)]
   simp only[Option.bind_some]
  ·rw[et,w64 (x:=lcs (avf M piv) i / _) (by omega) (by omega),←eq_,w64 (by omega) (by omega),w64_nat (by omega)]
   exact rel_l1 hR hn hpm hlow hf hm hL hs h j (i+1) (by omega)
theorem rel_l2 (hR:Rep m n R M) (hn:n≤1000) (hpm:piv.length≤m) (hasc:piv.Pairwise (·<·)) (hlow:∀ q∈piv,q<n) (hf:f<n) (hm:m≤1000) {L:Int} (hL:0<L∧L≤1157095860480)
  (hd:∀ j (hj:j<piv.length),M j piv[j]≠0) (hs:∀ i,i<m→∀ k,-184528125≤M i k∧M i k≤184528125)
  (hU:∀ k,-1157095860480≤vf (uL n f L M piv piv.length) k∧vf (uL n f L M piv piv.length) k≤1157095860480) (hdv:∀ j (hj:j<piv.length),M j piv[j] ∣ L)
  (h:Ev (fun k=>(Kk1.f k (uL n f L M piv piv.length)).bind fun t=>some (t,true)) out) :
  ∀ (j i:Nat),i+j=piv.length→Ev (fun k=>Gk1.l2 k R (ints piv) (f:Int) L (uL n f L M piv i) (i:Int)) out
|0,i,hj=>by
  obtain rfl:i=piv.length:=by omega
  refine Ev.step (fun k=>?_) h
  rw[Gk1.l2,ints_length,if_neg (by omega)]
|j+1,i,hj=>by
  have hi:i<piv.length:=by omega
  have hp:=ints_get piv i hi
  have hq:piv[i]<n:=hlow _ (List.getElem_mem hi)
  have hrow:=hR.row i (by omega)
  have hlen:=hR.len
  have hb:=hU piv[i]
  rw[uL_at hasc hlow piv.length (Nat.le_refl _) i hi hi] at hb
  have h1:=hs i (by omega) f
  have h2:=hd i hi
  have et:Int.tdiv L (M i piv[i])=L / M i piv[i]:=Int.tdiv_eq_ediv_of_dvd (hdv i hi)
  have eb : -1157095860480≤L / M i piv[i]∧L / M i piv[i]≤1157095860480:=by
   have:=Int.natAbs_ediv_le_natAbs L (M i piv[i])
   omega
  have ed:=pgetD piv i hi
  refine Ev.step (fun k=>?_) (rel_l2 hR hn hpm hasc hlow hf hm hL hd hs hU hdv h j (i+1) (by omega))
  rw[Gk1.l2,ints_length,if_pos (by omega),if_pos (by omega),if_pos (by omega),if_pos (by omega),rdL_nat,if_pos (by omega),rd_vf,rd_vf,hp,rd_vf,hrow.2,if_pos (by omega),if_pos (by omega),if_neg h2,if_pos (by rw[uL_length];omega),et,w64 (x:=L / _) (by omega) (by omega),w64 (x:=-(M i f)) (by omega) (by omega),w64 (by omega) (by omega),w64_nat (by omega),uL,ed,Int.toNat_natCast]
end
theorem spec_l4Relation_ev {m n:Nat} {A:Nat→Nat→Int} {rows:List (List Int)} (rep0:Rep m n rows A) (hm:m≤5) (hn1:1≤n) (hn6:n≤6) (a9:∀ i,i<m→∀ x,-9≤A i x∧A i x≤9) (az:∀ i,i<m→∀ k,n≤k→A i k=0) :
  (¬ One n (Ker m n A)∧Ev (fun k=>Gk1.f k rows (n:Int)) ([],false)) ∨
  (One n (Ker m n A)∧∃ z:List Int,z.length=n∧Ker m n A (vf z)∧gcdn n (vf z)=1∧(∀ k,-1157095860480≤vf z k∧vf z k≤1157095860480)∧Ev (fun k=>Gk1.f k rows (n:Int)) (z,true)):=by
 have inv0:=Inv.start m n A a9 az
 obtain⟨R,hR,hE⟩:=spec_l4Reduced_ev hm (by omega) n 0 A [] rows (by omega) rep0 inv0
 have inv:=Inv.all hm keeps64 false n 0 A [] (by omega) inv0
 obtain⟨M,hM⟩:∃ M,(elim wrap64 false n m n 0 A []).1=M:=⟨_,rfl⟩
 obtain⟨piv,hpv⟩:∃ piv,(elim wrap64 false n m n 0 A []).2=piv:=⟨_,rfl⟩
 rw[hM] at hR
 rw[hM,hpv] at inv
 rw[hpv] at hE
 have rlen:=rep0.len
 have hE':Ev (fun k=>Vk1.f k rows (n:Int)) (R,ints piv):=by
  unfold Vk1.f
  refine Ev.bind (spec_l2Rows_ev rows (by omega) fun x hx=>?_) ?_
  ·obtain⟨i,hi,rfl⟩:=List.getElem_of_mem hx
   have:=(rep0.row i (by omega)).1
   rw[getD_get _ _ hi] at this
   omega
  ·rw[rlen]
   exact hE
 have w1:wrap64 ((n:Int) - 1)=((n - 1:Nat):Int):=by rw[w64 (by omega) (by omega)];omega
 by_cases c:piv.length+1=n
 ·obtain⟨o,p,s1,s2,s3,s4,s5⟩:=inv.fin
  have hpm:piv.length≤m:=s1.hr
  have hd:∀ j (hj:j<piv.length),M j piv[j]≠0:=fun j hj=>by
   have e:=s3 j hj
   rw[List.getElem?_eq_getElem hj] at e
   have e2:piv[j]=p j:=Option.some.inj e
   rw[e2]
   exact s2.piv j hj
  refine .inr ⟨inv.one.2 c,?_⟩
  obtain⟨f,hf,hfp⟩:=exists_not_mem piv n (by omega)
  have rel:=inv.rel (f:=f) (a:=avf M piv) (u:=vf (uL n f (lcs (avf M piv) piv.length) M piv piv.length)) hm hn6 c hf hfp (fun j q hq=>by obtain⟨hj,e⟩:=mem_of_get hq;subst e;unfold avf;rw[pgetD piv j hj]) (uL_f hf hfp inv.low _ (Nat.le_refl _)) (fun j q hq=>by obtain⟨hj,e⟩:=mem_of_get hq;subst e;exact uL_at inv.asc inv.low _ (Nat.le_refl _) j hj hj) (fun k hk=>vf_out _ _ (by rw[uL_length];exact hk))
  obtain⟨z,hz⟩:∃ z,z=shL (uL n f (lcs (avf M piv) piv.length) M piv piv.length):=⟨_,rfl⟩
  have hzl:z.length=n:=by rw[hz,shL_length,uL_length]
  have hzv:vf (shL (uL n f (lcs (avf M piv) piv.length) M piv piv.length))=divn n (vf (uL n f (lcs (avf M piv) piv.length) M piv piv.length)):=by rw[shL_fun,uL_length]
  obtain⟨⟨r1,r2,r3⟩,r4,r5,r6⟩:=rel
  have hsm:∀ i,i<m→∀ k,-184528125≤M i k∧M i k≤184528125:=fun i hi k=>inv.small hm i hi k
  have a0:∀ j,j<piv.length→avf M piv j≠0:=fun j hj=>by unfold avf;rw[pgetD piv j hj];exact hd j hj
  obtain⟨Ln,e1,e2,e3,e4⟩:=lcs_nat (avf M piv) piv.length a0
  refine⟨z,hzl,by rw[hz,hzv];exact r1,by rw[hz,hzv];exact r2,fun k=>by rw[hz,hzv];exact divn_abs n _ _ k (r4 k),?_⟩
  unfold Gk1.f
  refine Ev.bind hE' (ev_if_pos (by rw[w1,ints_length];omega) ?_)
  show Ev (fun k=>Gk1.l0 k (n:Int) R (ints piv) 0 1) _
  refine rel_l0 (by omega) (by omega) 1 hf hfp (fun f' hf' hfp'=>?_) ?_ f 0 (by omega)
  ·rcases s2.cover (f:=f) hf (fun j hj e=>hfp (by rw[←e];exact List.mem_of_getElem? (s3 j hj))) c f' hf' with e|⟨j,hj,e⟩
   ·exact e
   ·exact absurd (by rw[←e];exact List.mem_of_getElem? (s3 j hj)) hfp'
  ·refine rel_l1 hR (by omega) hpm inv.low hf (by omega) r5 hsm ?_ piv.length 0 (by omega)
   refine rel_l2 hR (by omega) hpm inv.asc inv.low hf (by omega) (r5 _ (Nat.le_refl _)) hd hsm r4 (fun j hj=>?_) ?_ piv.length 0 (by omega)
   ·have:=e3 j hj
    unfold avf at this
    rw[pgetD piv j hj] at this
    rw[e1]
    exact Int.natAbs_dvd_natAbs.1 (by simpa using this)
   ·rw[hz]
    exact Ev.bind (spec_l4Divided_ev _ (by rw[uL_length];omega) (fun k _=>by have:=r4 k;omega)) (ev_const _)
 ·refine .inl ⟨fun h=>c (inv.one.1 h),?_⟩
  unfold Gk1.f
  exact Ev.bind hE' (ev_if_neg (by rw[w1,ints_length];omega) (ev_const _))
def chL (kk n:Nat):Nat→List Int→List (List Int)
|0,_=>[]
|f+1,set=>(if set.length+1=kk then [set++[((n - (f+1):Nat):Int)]] else chL kk n f (set++[((n - (f+1):Nat):Int)]))++chL kk n f set
def chG (kk n f:Nat) (set:List Int):List (List Int):=if set.length=kk then [set] else chL kk n f set
theorem chL_succ (kk n f:Nat) (set:List Int):chL kk n (f+1) set=chG kk n f (set++[((n - (f+1):Nat):Int)])++chL kk n f set:=by
 rw[chL,chG]
 simp only[List.length_append,List.length_singleton]
theorem chL_len (kk n:Nat):∀ (f:Nat) (set:List Int),(chL kk n f set).length+1≤2 ^ f
|0,set=>by simp[chL]
|f+1,set=>by
  have h1:=chL_len kk n f (set++[((n - (f+1):Nat):Int)])
  have h2:=chL_len kk n f set
  have h3:2 ^ (f+1)=2 ^ f+2 ^ f:=by rw[Nat.pow_succ];omega
  rw[chL,List.length_append]
  split
  ·simp only[List.length_singleton]
   have:=Nat.one_le_two_pow (n:=f)
   omega
  ·omega
theorem chG_len (kk n f:Nat) (set:List Int):(chG kk n f set).length≤2 ^ f:=by
 unfold chG
 split
 ·simpa using Nat.one_le_two_pow (n:=f)
 ·have:=chL_len kk n f set
  omega
theorem chL_nil (kk n:Nat):∀ (f:Nat) (set:List Int),set.length+f<kk→chL kk n f set=[]
|0,set,_=>rfl
|f+1,set,h=>by
  rw[chL,if_neg (by omega),chL_nil kk n f _ (by simp;omega),chL_nil kk n f set (by omega)]
  rfl
def Asc (n:Nat) (S:List Int):Prop:=S.Pairwise (·<·)∧∀ x∈S,0≤x∧x<(n:Int)
theorem chL_asc (kk n:Nat):∀ (f:Nat) (set:List Int),f≤n→Asc n set→(∀ x∈set,x<((n - f:Nat):Int))→∀ S∈chL kk n f set,Asc n S∧S.length=kk
|0,set,_,_,_,S,h=>by simp[chL] at h
|f+1,set,hf,ha,hb,S,h=>by
  have up:Asc n (set++[((n - (f+1):Nat):Int)]):=by
   refine⟨List.pairwise_append.2 ⟨ha.1,List.pairwise_singleton _ _,fun a h1 b h2=>?_⟩,fun x hx=>?_⟩
   ·rw[List.mem_singleton.1 h2]
    exact hb a h1
   ·rcases List.mem_append.1 hx with hx|hx
    ·exact ha.2 x hx
    ·rw[List.mem_singleton.1 hx]
     omega
  have upb:∀ x∈set++[((n - (f+1):Nat):Int)],x<((n - f:Nat):Int):=fun x hx=>by
   rcases List.mem_append.1 hx with hx|hx
   ·have:=hb x hx
    omega
   ·rw[List.mem_singleton.1 hx]
    omega
  rw[chL] at h
  rcases List.mem_append.1 h with h|h
  ·by_cases c:set.length+1=kk
   ·rw[if_pos c] at h
    rw[List.mem_singleton.1 h]
    exact⟨up,by simp;omega⟩
   ·rw[if_neg c] at h
    exact chL_asc kk n f _ (by omega) up upb S h
  ·exact chL_asc kk n f set (by omega) ha (fun x hx=>by have:=hb x hx;omega) S h
theorem chG_asc (kk n:Nat) (S:List Int) (h:S∈chG kk n n []):Asc n S∧S.length=kk:=by
 unfold chG at h
 split at h
 ·rename_i e
  rw[List.mem_singleton.1 h]
  exact⟨⟨List.Pairwise.nil,fun x hx=>by simp at hx⟩,e⟩
 ·exact chL_asc kk n n [] (Nat.le_refl _) ⟨List.Pairwise.nil,fun x hx=>by simp at hx⟩ (fun x hx=>by simp at hx) S h
def runV {σ:Type} (t:List Int→Bool) (st:List Int→σ→σ):List (List Int)→σ→Bool×σ
|[],s=>(false,s)
|S :: L,s=>if t S=true then(true,st S s) else runV t st L (st S s)
theorem runV_append {σ:Type} (t:List Int→Bool) (st:List Int→σ→σ):∀ (L1 L2:List (List Int)) (s:σ),runV t st (L1++L2) s=if(runV t st L1 s).1=true then(true,(runV t st L1 s).2) else runV t st L2 (runV t st L1 s).2
|[],L2,s=>by simp[runV]
|S :: L1,L2,s=>by
  rw[List.cons_append,runV,runV]
  by_cases c:t S=true
  ·rw[if_pos c,if_pos c,if_pos rfl]
  ·rw[if_neg c,if_neg c]
   exact runV_append t st L1 L2 (st S s)
section
variable {σ:Type} {V:Nat→σ→List Int→Option (Bool×σ)} {t:List Int→Bool} {st:List Int→σ→σ} {n kk:Nat}
theorem choices_ev (hn:n≤1000):∀ (f:Nat) (set:List Int) (s:σ),f≤n→set.length+f≤1000000 →
  ((∀ S∈chG kk n f set,∀ s,Ev (fun k=>V k s S) (t S,st S s))→Ev (fun k=>Kv.g V (n:Int) (kk:Int) k s set ((n - f:Nat):Int)) (runV t st (chG kk n f set) s)) ∧
  ((∀ S∈chL kk n f set,∀ s,Ev (fun k=>V k s S) (t S,st S s))→Ev (fun k=>Kv.l V (n:Int) (kk:Int) k s set ((n - f:Nat):Int)) (runV t st (chL kk n f set) s))
|f,set,s,hf,hl=>by
  have part2:(∀ S∈chL kk n f set,∀ s,Ev (fun k=>V k s S) (t S,st S s))→Ev (fun k=>Kv.l V (n:Int) (kk:Int) k s set ((n - f:Nat):Int)) (runV t st (chL kk n f set) s):=by
   match f,hf with
  |0,hf =>
    intro _
    refine Ev.step (f:=fun _=>some (false,s)) (fun k=>?_) (ev_const _)
    rw[Kv.l,if_neg (by omega)]
  |f+1,hf =>
    intro hV
    rw[chL_succ] at hV ⊢
    have a:=(choices_ev hn f (set++[((n - (f+1):Nat):Int)]) s (by omega) (by rw[List.length_append,List.length_singleton];omega)).1 (fun S hS=>hV S (List.mem_append_left _ hS))
    refine Ev.step (fun k=>by rw[Kv.l,if_pos (by omega),if_pos (by omega),show wrap64 (((n - (f+1):Nat):Int)+1)=((n - f:Nat):Int) by rw[w64 (by omega) (by omega)];omega]) (Ev.bind a ?_)
    rw[runV_append]
    by_cases c:(runV t st (chG kk n f (set++[((n - (f+1):Nat):Int)])) s).1=true
    ·rw[if_pos c]
     exact ev_if_pos c (ev_const _)
    ·rw[if_neg c]
     refine ev_if_neg c ?_
     exact(choices_ev hn f set _ (by omega) (by omega)).2 (fun S hS=>hV S (List.mem_append_right _ hS))
  refine⟨fun hV=>?_,part2⟩
  unfold chG at hV ⊢
  by_cases c:set.length=kk
  ·rw[if_pos c] at hV ⊢
   have:=hV set (by simp) s
   refine Ev.step (f:=fun k=>V k s set) (fun k=>?_) ?_
   ·rw[Kv.g,if_pos (by omega)]
   ·rw[runV]
    cases h:t set with
   |true=>rw[if_pos rfl];rw[h] at this;exact this
   |false=>rw[if_neg (by simp),runV];rw[h] at this;exact this
  ·rw[if_neg c] at hV ⊢
   refine Ev.step (f:=fun k=>Kv.l V (n:Int) (kk:Int) k s set ((n - f:Nat):Int)) (fun k=>?_) (part2 hV)
   rw[Kv.g,if_neg (by omega)]
end
theorem impl_choices_ev {σ:Type} {V:Nat→σ→List Int→Option (Bool×σ)} {t:List Int→Bool} {st:List Int→σ→σ} (n kk:Nat) (hn:n≤1000) (s:σ) (hV:∀ S∈chG kk n n [],∀ s,Ev (fun k=>V k s S) (t S,st S s)):Ev (fun k=>Kv.f V k s (n:Int) (kk:Int)) (runV t st (chG kk n n []) s):=by
 have:=(choices_ev (t:=t) (st:=st) hn n [] s (Nat.le_refl _) (by simp;omega)).1 hV
 rw[Nat.sub_self] at this
 exact this
theorem choose_l0 (n kk:Nat) (hn:n≤20) (begun:List Int) (hb:begun.length+1≤1000000) (F:Nat)
  (child:∀ f,f<F→begun.length+(f+1)≤1000→Ev (fun k=>Jk1.f k (n:Int) (kk:Int) (begun++[((n - (f+1):Nat):Int)])) (chG kk n f (begun++[((n - (f+1):Nat):Int)]))) :
  ∀ (f:Nat) (acc:List (List Int)),f≤F→f≤n→begun.length+f≤1000→acc.length+2 ^ f≤1000000000→Ev (fun k=>Jk1.l0 k (n:Int) (kk:Int) begun acc ((n - f:Nat):Int)) (acc++chL kk n f begun)
|0,acc,hF,hf,hl,ha=>by
  refine Ev.step (f:=fun _=>some acc) (fun k=>?_) ?_
  ·rw[Jk1.l0,if_neg (by omega)]
  ·rw[chL,List.append_nil]
   exact ev_const _
|f+1,acc,hF,hf,hl,ha=>by
  have h1:=chG_len kk n f (begun++[((n - (f+1):Nat):Int)])
  have h3:2 ^ (f+1)=2 ^ f+2 ^ f:=by rw[Nat.pow_succ];omega
  have c:=child f (by omega) (by omega)
  rw[chL_succ]
  refine Ev.step (f:=fun k=>(Jk1.f k (n:Int) (kk:Int) (begun++[((n - (f+1):Nat):Int)])).bind fun t=>(if acc.length+t.length<5864062014805 then(Jk1.l0 k (n:Int) (kk:Int) begun (acc++t) (wrap64 (((n - (f+1):Nat):Int)+1))) else(none))) (fun k=>?_) (Ev.bind c (ev_if_pos (by omega) ?_))
  ·rw[Jk1.l0,if_pos (by omega),spec_l1Own_is begun (by omega)]
   simp only[Option.bind_some]
   rw[if_pos (by omega)]
  ·have e:wrap64 (((n - (f+1):Nat):Int)+1)=((n - f:Nat):Int):=by rw[w64 (by omega) (by omega)];omega
   rw[e,←List.append_assoc]
   exact choose_l0 n kk hn begun hb F child f _ (by omega) (by omega) (by omega) (by rw[List.length_append];omega)
theorem choose_f (n kk:Nat) (hn:n≤20):∀ (f:Nat) (begun:List Int),f≤n→begun.length+f≤1000→(begun=[]∧f=n∨∃ b0,begun=b0++[((n - f:Nat):Int) - 1]∧f<n)→Ev (fun k=>Jk1.f k (n:Int) (kk:Int) begun) (chG kk n f begun)
|f,begun,hf,hl,hb=>by
  have p20:2 ^ n≤1048576:=Nat.le_trans (Nat.pow_le_pow_right (by omega) hn) (by decide)
  have pf:2 ^ f≤2 ^ n:=Nat.pow_le_pow_right (by omega) hf
  by_cases c:begun.length=kk
  ·unfold chG
   rw[if_pos c]
   refine Ev.step (f:=fun _=>some [begun]) (fun k=>?_) (ev_const _)
   rw[Jk1.f,if_pos (by omega)]
  ·unfold chG
   rw[if_neg c]
   have loop:=choose_l0 n kk hn begun (by omega) f (fun f' hf' hl'=>choose_f n kk hn f' (begun++[((n - (f'+1):Nat):Int)]) (by omega) (by rw[List.length_append,List.length_singleton];omega) (.inr ⟨begun,by congr 2;omega,by omega⟩)) f [] (Nat.le_refl _) hf hl (by simp;omega)
   ·rw[List.nil_append] at loop
    have j0:Ev (fun k=>Jk1.j0 k (n:Int) (kk:Int) begun [] ((n - f:Nat):Int)) (chL kk n f begun):=Ev.step (fun k=>by rw[Jk1.j0]) loop
    refine Ev.step (f:=fun k=>Jk1.j0 k (n:Int) (kk:Int) begun [] ((n - f:Nat):Int)) (fun k=>?_) j0
    rw[Jk1.f,if_neg (by omega)]
    simp only[Option.bind_some]
    rcases hb with ⟨hb,rfl⟩|⟨b0,hb,hfn⟩
    ·rw[if_neg (by simp[hb]),Nat.sub_self]
     rfl
    ·have hlen:begun.length=b0.length+1:=by rw[hb];simp
     have ew:wrap64 ((begun.length:Int) - 1)=(b0.length:Int):=by rw[w64 (by omega) (by omega)];omega
     have ev:vf begun b0.length=((n - f:Nat):Int) - 1:=by rw[hb];simp[vf]
     rw[if_pos (by omega),ew,if_pos (by omega),if_pos (by omega),rd_vf,ev,w64 (by omega) (by omega)]
     congr 1
     omega
termination_by f=>f
theorem spec_l4Choose_ev (n kk:Nat) (hn:n≤20):Ev (fun k=>Jk1.f k (n:Int) (kk:Int) []) (chG kk n n []):=choose_f n kk hn n [] (Nat.le_refl _) (by simp;omega) (.inl ⟨rfl,rfl⟩)
theorem signs_l (z labs:List Int) (s:Int) (hs:s=1∨s = -1) (n:Nat) (hn:z.length=n) (hl:labs.length=n) (hn2:n≤1000) (hz:∀ k,-1157095860480≤vf z k∧vf z k≤1157095860480) (hlab:∀ k,k<n→vf labs k=1∨vf labs k = -1)
  (w:List Int) (hw:w.length=n) (hwv:∀ k,k<n→vf w k=s * vf z k * vf labs k):∀ (j i:Nat) (acc:List Int),i+j=n→acc=w.take i→Ev (fun k=>Jv1.l0 k z labs s acc (i:Int)) (if(w.drop i).all (fun x=>decide (0<x)) then(w,true) else([],false))
|0,i,acc,hj,ha=>by
  obtain rfl:i=n:=by omega
  refine Ev.step (f:=fun _=>some (w,true)) (fun k=>?_) ?_
  ·rw[Jv1.l0,if_neg (by omega),ha,List.take_of_length_le (by omega)]
  ·rw[List.drop_of_length_le (by omega)]
   exact ev_const _
|j+1,i,acc,hj,ha=>by
  have hi:i<w.length:=by omega
  have hb:=hz i
  have hv:=hwv i (by omega)
  rw[vf_get w i hi] at hv
  have e:wrap64 (wrap64 (s * vf z i) * vf labs i)=w[i]:=by
   rw[hv]
   have b1 : -1157095860480≤s * vf z i∧s * vf z i≤1157095860480:=by rcases hs with rfl|rfl <;> omega
   have b2 : -1157095860480≤s * vf z i * vf labs i∧s * vf z i * vf labs i≤1157095860480:=by
    rcases hlab i (by omega) with q|q <;> rw[q] <;> omega
   rw[w64 (x:=s * vf z i) (by omega) (by omega),w64 (by omega) (by omega)]
  have hal:acc.length≤1000:=by rw[ha,List.length_take];omega
  rw[List.drop_eq_getElem_cons hi,List.all_cons]
  by_cases c:0<w[i]
  ·rw[decide_eq_true c,Bool.true_and]
   refine Ev.step (fun k=>?_) (signs_l z labs s hs n hn hl hn2 hz hlab w hw hwv j (i+1) (acc++[w[i]]) (by omega) (by rw[ha,List.take_succ_eq_append_getElem hi]))
   rw[Jv1.l0,if_pos (by omega),if_pos (by omega),if_pos (by omega),rd_vf,rd_vf,e,if_neg (by omega),if_pos (by omega),w64_nat (by omega)]
  ·rw[decide_eq_false c,Bool.false_and]
   refine Ev.step (f:=fun _=>some ([],false)) (fun k=>?_) (ev_const _)
   rw[Jv1.l0,if_pos (by omega),if_pos (by omega),if_pos (by omega),rd_vf,rd_vf,e,if_pos (by omega)]
def sgnOf (z labs:List Int):Int:=if vf z 0 * vf labs 0<0 then -1 else 1
theorem spec_l4Signs_ev (z labs:List Int) (n:Nat) (hn:z.length=n) (hn1:1≤n) (hl:labs.length=n) (hn2:n≤1000) (hz:∀ k,-1157095860480≤vf z k∧vf z k≤1157095860480) (hlab:∀ k,k<n→vf labs k=1∨vf labs k = -1)
  (w:List Int) (hw:w.length=n) (hwv:∀ k,k<n→vf w k=sgnOf z labs * vf z k * vf labs k):Ev (fun k=>Jv1.f k z labs) (if w.all (fun x=>decide (0<x)) then(w,true) else([],false)):=by
 have hb:=hz 0
 have e:wrap64 (vf z 0 * vf labs 0)=vf z 0 * vf labs 0:=by
  rcases hlab 0 (by omega) with q|q <;> rw[q] <;> exact w64 (by omega) (by omega)
 unfold Jv1.f
 refine ev_if_pos (by omega) (ev_if_pos (by omega) ?_)
 rw[show (0:Int)=((0:Nat):Int) from rfl,rd_vf,rd_vf,e]
 unfold sgnOf at hwv
 by_cases c:vf z 0 * vf labs 0<0
 ·rw[if_pos c] at hwv
  refine ev_if_pos c (Ev.step (fun k=>by rw[Jv1.j0]) ?_)
  exact signs_l z labs (-1) (.inr rfl) n hn hl hn2 hz hlab w hw hwv n 0 [] (by omega) rfl
 ·rw[if_neg c] at hwv
  refine ev_if_neg c (Ev.step (fun k=>by rw[Jv1.j0]) ?_)
  exact signs_l z labs 1 (.inl rfl) n hn hl hn2 hz hlab w hw hwv n 0 [] (by omega) rfl
theorem vf_signed (l:Int) (hl:l=1∨l = -1) (p:List Int) (hp:p.all (inB (-9) 9)=true) (k:Nat):vf (signedL l p) k=match k with|0=>l|k+1=>vf p k * l:=by
 unfold signedL
 cases k with
|zero=>rfl
|succ k =>
  show vf (p.map fun x=>wrap64 (x * l)) k=vf p k * l
  by_cases h:k<p.length
  ·rw[vf_get _ _ (by simpa using h),vf_get p k h]
   simp only[List.getElem_map]
   have:=all_range hp k h
   rcases hl with rfl|rfl <;> exact w64 (by omega) (by omega)
  ·rw[vf_out _ _ (by simp;omega),vf_out p k (by omega),Int.zero_mul]
def ptsOf (ps:List (List Int)) (S:List Int):List (List Int):=S.map fun x=>rd_L1 ps x
def labsOf (ls S:List Int):List Int:=S.map fun x=>rd ls x
def vecsOf (ps:List (List Int)) (ls S:List Int):List (List Int):=S.map fun x=>signedL (rd ls x) (rd_L1 ps x)
structure Places (ps:List (List Int)) (ls S:List Int) (d n:Nat):Prop where
 len:S.length=n
 pt:∀ k,k<n→((ptsOf ps S).getD k []).length=d∧((ptsOf ps S).getD k []).all (inB (-9) 9)=true
 lab:∀ k,k<n→vf (labsOf ls S) k=1∨vf (labsOf ls S) k = -1
 ok:∀ x∈S,0≤x∧x<ps.length∧x<ls.length
 d4:1≤d∧d≤4
theorem ptsOf_get (ps:List (List Int)) (S:List Int) (k:Nat) (h:k<S.length):(ptsOf ps S).getD k []=rd_L1 ps S[k]:=by
 rw[getD_get _ _ (by simpa [ptsOf] using h)]
 simp[ptsOf]
theorem labsOf_vf (ls S:List Int) (k:Nat) (h:k<S.length):vf (labsOf ls S) k=rd ls S[k]:=by
 rw[vf_get _ _ (by simpa [labsOf] using h)]
 simp[labsOf]
theorem places_of {ps:List (List Int)} {ls S:List Int} (hs:smB ps ls=true) (ha:Asc ps.length S) (h0:0<ps.length):Places ps ls S (ps.headD []).length S.length:=by
 obtain⟨h16,hlen,hlb,hrow⟩:=smB_parts hs
 have ok:∀ x∈S,0≤x∧x<ps.length∧x<ls.length:=fun x hx=>by have:=ha.2 x hx;omega
 have hd:1≤(ps.headD []).length∧(ps.headD []).length≤4:=by
  cases ps with
 |nil=>simp at h0
 |cons a t =>
   have:=ptB_parts (hrow a (by simp)).1
   exact this.2
 refine⟨rfl,fun k hk=>?_,fun k hk=>?_,ok,hd⟩
 ·rw[ptsOf_get ps S k hk]
  obtain⟨q1,q2,q3⟩:=ok S[k] (List.getElem_mem hk)
  have e:rd_L1 ps S[k]=ps[S[k].toNat]'(by omega):=by
   unfold rd_L1
   rw[getD_get _ _ (by omega)]
  rw[e]
  have:=hrow _ (List.getElem_mem (show S[k].toNat<ps.length by omega))
  exact⟨this.2,(ptB_parts this.1).1⟩
 ·rw[labsOf_vf ls S k hk]
  obtain⟨q1,q2,q3⟩:=ok S[k] (List.getElem_mem hk)
  have e:rd ls S[k]=ls[S[k].toNat]'(by omega):=by
   unfold rd
   rw[List.getD_eq_getElem?_getD,List.getElem?_eq_getElem (by omega)]
   rfl
  rw[e]
  have:=List.all_eq_true.1 hlb _ (List.getElem_mem (show S[k].toNat<ls.length by omega))
  exact of_decide_eq_true this
section
variable {ps:List (List Int)} {ls S:List Int} {d n:Nat}
theorem vecsOf_get (h:Places ps ls S d n) (k:Nat) (hk:k<n) (i:Nat):vf ((vecsOf ps ls S).getD k []) i=match i with|0=>vf (labsOf ls S) k|i+1=>vf ((ptsOf ps S).getD k []) i * vf (labsOf ls S) k:=by
 have hl:=h.len
 have e:(vecsOf ps ls S).getD k []=signedL (vf (labsOf ls S) k) ((ptsOf ps S).getD k []):=by
  rw[getD_get _ _ (by simp[vecsOf];omega),ptsOf_get ps S k (by omega),labsOf_vf ls S k (by omega)]
  simp[vecsOf]
 rw[e,vf_signed _ (h.lab k hk) _ (h.pt k hk).2]
theorem ker_signed (h:Places ps ls S d n) (x:Nat→Int):Ker (d+1) n (fun i j=>vf ((vecsOf ps ls S).getD j []) i) x↔Ker (d+1) n (eqA d (ptsOf ps S)) (fun k=>vf (labsOf ls S) k * x k):=by
 have pl:(ptsOf ps S).length=n:=by simp[ptsOf,h.len]
 have e0:sm n (fun k=>vf ((vecsOf ps ls S).getD k []) 0 * x k)=sm n (fun k=>eqA d (ptsOf ps S) d k * (vf (labsOf ls S) k * x k)):=sm_congr fun k hk=>by
  rw[vecsOf_get h k hk 0]
  unfold eqA
  rw[if_neg (by omega),if_pos (by omega),Int.one_mul]
 have e1:∀ i,i<d→sm n (fun k=>vf ((vecsOf ps ls S).getD k []) (i+1) * x k)=sm n (fun k=>eqA d (ptsOf ps S) i k * (vf (labsOf ls S) k * x k)):=fun i hi=>sm_congr fun k hk=>by
  rw[vecsOf_get h k hk (i+1)]
  unfold eqA
  rw[if_pos hi,Int.mul_assoc]
 constructor
 ·intro hx i hi
  by_cases c:i<d
  ·show sm n (fun k=>eqA d (ptsOf ps S) i k * (vf (labsOf ls S) k * x k))=0
   rw[←e1 i c]
   exact hx (i+1) (by omega)
  ·obtain rfl:i=d:=by omega
   show sm n (fun k=>eqA i (ptsOf ps S) i k * (vf (labsOf ls S) k * x k))=0
   rw[←e0]
   exact hx 0 (by omega)
 ·intro hx i hi
  cases i with
 |zero =>
   show sm n (fun k=>vf ((vecsOf ps ls S).getD k []) 0 * x k)=0
   rw[e0]
   exact hx d (by omega)
 |succ i =>
   show sm n (fun k=>vf ((vecsOf ps ls S).getD k []) (i+1) * x k)=0
   rw[e1 i (by omega)]
   exact hx i (by omega)
theorem lab_sq (h:Places ps ls S d n) (k:Nat) (hk:k<n):vf (labsOf ls S) k * vf (labsOf ls S) k=1:=by
 rcases h.lab k hk with e|e <;> rw[e] <;> rfl
theorem ker_congr {m n:Nat} {A:Nat→Nat→Int} {x y:Nat→Int} (h:∀ k,k<n→x k=y k):Ker m n A x↔Ker m n A y:=by
 have e:∀ i,sm n (fun k=>A i k * x k)=sm n (fun k=>A i k * y k):=fun i=>sm_congr fun k hk=>by rw[h k hk]
 exact⟨fun q i hi=>by rw[←e];exact q i hi,fun q i hi=>by rw[e];exact q i hi⟩
theorem ker_signed' (h:Places ps ls S d n) (y:Nat→Int):Ker (d+1) n (eqA d (ptsOf ps S)) y↔Ker (d+1) n (fun i j=>vf ((vecsOf ps ls S).getD j []) i) (fun k=>vf (labsOf ls S) k * y k):=by
 rw[ker_signed h]
 refine ker_congr fun k hk=>?_
 rw[←Int.mul_assoc,lab_sq h k hk,Int.one_mul]
theorem one_signed (h:Places ps ls S d n):One n (Ker (d+1) n (fun i j=>vf ((vecsOf ps ls S).getD j []) i))↔One n (Ker (d+1) n (eqA d (ptsOf ps S))):=by
 have nz:∀ (k:Nat) (a:Int),k<n→a≠0→vf (labsOf ls S) k * a≠0:=fun k a hk ha=>by rcases h.lab k hk with e|e <;> rw[e] <;> omega
 have back:∀ (k:Nat) (a b x y:Int),k<n→a * (vf (labsOf ls S) k * x)=b * (vf (labsOf ls S) k * y)→a * x=b * y:=fun k a b x y hk e=>by
  rcases h.lab k hk with q|q
  ·rw[q,Int.one_mul,Int.one_mul] at e
   exact e
  ·rw[q] at e
   have e1:a * (-1 * x) = -(a * x):=by grind
   have e2:b * (-1 * y) = -(b * y):=by grind
   rw[e1,e2] at e
   omega
 constructor
 ·rintro⟨⟨x,x1,k,hk,x2⟩,t⟩
  refine⟨⟨_,(ker_signed h x).1 x1,k,hk,nz k _ hk x2⟩,fun u v hu hv=>?_⟩
  obtain⟨a,b,hab,e⟩:=t _ _ ((ker_signed' h u).1 hu) ((ker_signed' h v).1 hv)
  exact⟨a,b,hab,fun k hk=>back k a b _ _ hk (e k hk)⟩
 ·rintro⟨⟨x,x1,k,hk,x2⟩,t⟩
  refine⟨⟨_,(ker_signed' h x).1 x1,k,hk,nz k _ hk x2⟩,fun u v hu hv=>?_⟩
  obtain⟨a,b,hab,e⟩:=t _ _ ((ker_signed h u).1 hu) ((ker_signed h v).1 hv)
  exact⟨a,b,hab,fun k hk=>back k a b _ _ hk (e k hk)⟩
theorem gcdn_signed (h:Places ps ls S d n) (x:Nat→Int):gcdn n (fun k=>vf (labsOf ls S) k * x k)=gcdn n x:=by
 have:∀ j,j≤n→gcdn j (fun k=>vf (labsOf ls S) k * x k)=gcdn j x:=fun j=>by
  induction j with
 |zero=>intro _;rfl
 |succ j ih =>
   intro hj
   simp only[gcdn]
   rw[ih (by omega)]
   congr 1
   rcases h.lab j (by omega) with e|e <;> rw[e] <;> omega
 exact this n (Nat.le_refl _)
end
def toRes (r:Option (List Int)):List Int×Bool:=match r with|some ns=>(ns,true)|none=>([],false)
section
variable {ps:List (List Int)} {ls S:List Int} {d n:Nat}
theorem vecs_len (h:Places ps ls S d n):∀ v∈vecsOf ps ls S,v.length=d+1:=fun v hv=>by
 obtain⟨k,hk,rfl⟩:=List.getElem_of_mem hv
 have hl:=h.len
 have hk2:k<S.length:=by simpa [vecsOf] using hk
 have:=(h.pt k (by omega)).1
 rw[ptsOf_get ps S k hk2] at this
 simp[vecsOf,signedL,this]
theorem vecs_9 (h:Places ps ls S d n):∀ v∈vecsOf ps ls S,∀ k,-9≤vf v k∧vf v k≤9:=fun v hv i=>by
 obtain⟨k,hk,rfl⟩:=List.getElem_of_mem hv
 have hl:=h.len
 have hk2:k<S.length:=by simpa [vecsOf] using hk
 have e:=vecsOf_get h k (by omega) i
 rw[getD_get _ _ hk] at e
 rw[e]
 have lb:=h.lab k (by omega)
 cases i with
|zero =>
  show -9≤vf (labsOf ls S) k∧vf (labsOf ls S) k≤9
  omega
|succ i =>
  show -9≤vf ((ptsOf ps S).getD k []) i * vf (labsOf ls S) k∧vf ((ptsOf ps S).getD k []) i * vf (labsOf ls S) k≤9
  have b : -9≤vf ((ptsOf ps S).getD k []) i∧vf ((ptsOf ps S).getD k []) i≤9:=by
   by_cases c:i<((ptsOf ps S).getD k []).length
   ·rw[vf_get _ _ c]
    exact all_range (h.pt k (by omega)).2 i c
   ·rw[vf_out _ _ (by omega)]
    omega
  rcases lb with q|q <;> rw[q] <;> omega
theorem eqA_9 (h:Places ps ls S d n) (i x:Nat) : -9≤eqA d (ptsOf ps S) i x∧eqA d (ptsOf ps S) i x≤9:=by
 have hl:=h.len
 have pl:(ptsOf ps S).length=n:=by simp[ptsOf,h.len]
 unfold eqA
 by_cases c:i<d
 ·rw[if_pos c]
  by_cases c2:x<n
  ·by_cases c3:i<((ptsOf ps S).getD x []).length
   ·rw[vf_get _ _ c3]
    exact all_range (h.pt x c2).2 i c3
   ·rw[vf_out _ _ (by omega)]
    omega
  ·rw[getD_out _ _ (by omega),vf_nil]
   omega
 ·rw[if_neg c]
  split <;> omega
structure OneSet (ps:List (List Int)) (ls S:List Int) (d n:Nat) (r:Option (List Int)):Prop where
 yes:∀ ns,r=some ns→ns.length=n∧One n (Ker (d+1) n (fun i j=>vf ((vecsOf ps ls S).getD j []) i))∧Ker (d+1) n (fun i j=>vf ((vecsOf ps ls S).getD j []) i) (vf ns)∧gcdn n (vf ns)=1∧∀ k,k<n→0<vf ns k
 no:r=none→¬ (One n (Ker (d+1) n (fun i j=>vf ((vecsOf ps ls S).getD j []) i))∧∃ x,Ker (d+1) n (fun i j=>vf ((vecsOf ps ls S).getD j []) i) x∧∀ k,k<n→0<x k)
 impl:Ev (fun k=>Gk.f k (vecsOf ps ls S)) (toRes r)
 spec:(r=none∧Ev (fun k=>Gk1.f k (eqL d (ptsOf ps S)) (n:Int)) ([],false))∨∃ z,Ev (fun k=>Gk1.f k (eqL d (ptsOf ps S)) (n:Int)) (z,true)∧Ev (fun k=>Jv1.f k z (labsOf ls S)) (toRes r)
theorem all_pos_iff (w:List Int):w.all (fun x=>decide (0<x))=true↔∀ k,k<w.length→0<vf w k:=by
 rw[List.all_eq_true]
 constructor
 ·intro h k hk
  rw[vf_get w k hk]
  exact of_decide_eq_true (h _ (List.getElem_mem hk))
 ·intro h x hx
  obtain⟨k,hk,rfl⟩:=List.getElem_of_mem hx
  have:=h k hk
  rw[vf_get w k hk] at this
  exact decide_eq_true this
theorem one_set (h:Places ps ls S d n) (hn2:2≤n) (hnd:n≤d+2):∃ r,OneSet ps ls S d n r:=by
 have hl:=h.len
 have d4:=h.d4
 have pl:(ptsOf ps S).length=n:=by simp[ptsOf,h.len]
 have ll:(labsOf ls S).length=n:=by simp[labsOf,h.len]
 have vl:(vecsOf ps ls S).length=n:=by simp[vecsOf,h.len]
 have I:=impl_balance_ev (vecsOf ps ls S) (d+1) n vl (vecs_len h) (vecs_9 h) (by omega) (by omega) (by omega)
 have rep:=eqL_rep d (ptsOf ps S)
 rw[pl] at rep
 have R:=spec_l4Relation_ev rep (by omega) (by omega) (by omega) (fun i _ x=>eqA_9 h i x) (fun i hi k hk=>by
  unfold eqA
  by_cases c:i<d
  ·rw[if_pos c,getD_out _ _ (by omega),vf_nil]
  ·rw[if_neg c,if_neg (by omega)])
 rcases I with ⟨i1,i2⟩|⟨i1,z1,i2,i3,i4,⟨f,i5,i6⟩,i7⟩
 ·refine⟨none,fun ns e=>by simp at e,fun _ q=>i1 q.1,i2,.inl ⟨rfl,?_⟩⟩
  rcases R with ⟨r1,r2⟩|⟨r1,_⟩
  ·exact r2
  ·exact absurd ((one_signed h).2 r1) i1
 ·rcases R with ⟨r1,_⟩|⟨r1,z2,r2,r3,r4,r5,r6⟩
  ·exact absurd ((one_signed h).1 i1) r1
  ·obtain⟨t,ht,e⟩:=line_sign r1 r3 ((ker_signed h _).1 i3) r4 (by rw[gcdn_signed h];exact i4)
   have e2:∀ k,k<n→vf z1 k=t * (vf (labsOf ls S) k * vf z2 k):=fun k hk=>by
    have a:=e k hk
    have b:=lab_sq h k hk
    have c:vf (labsOf ls S) k * (vf (labsOf ls S) k * vf z1 k)=vf (labsOf ls S) k * (t * vf z2 k):=by rw[←a]
    rw[←Int.mul_assoc,b,Int.one_mul] at c
    rw[c]
    grind
   obtain⟨g1,g2⟩:=signs_same ht e2 i5 i6 (by omega)
   obtain⟨w,hw⟩:∃ w,w=nrL n (fun k=>if k<n then sgnOf z2 (labsOf ls S) * vf z2 k * vf (labsOf ls S) k else 0):=⟨_,rfl⟩
   have wl:w.length=n:=by rw[hw,nrL_length]
   have wv:∀ k,k<n→vf w k=sgnOf z2 (labsOf ls S) * vf z2 k * vf (labsOf ls S) k:=fun k hk=>by
    rw[hw,nrL_vf _ _ fun k hk=>if_neg (by omega)]
    exact if_pos hk
   have G:=spec_l4Signs_ev z2 (labsOf ls S) n r2 (by omega) ll (by omega) r5 h.lab w wl wv
   have q:w.all (fun x=>decide (0<x))=true↔z1.all (fun x=>decide (0<x))=true:=by
    rw[all_pos_iff,all_pos_iff,wl,i2]
    rw[←g1]
    unfold sgnOf at wv
    constructor
    ·intro a k hk
     have:=a k hk
     rw[wv k hk] at this
     exact this
    ·intro a k hk
     rw[wv k hk]
     exact a k hk
   by_cases c:z1.all (fun x=>decide (0<x))=true
   ·have ap:=(all_pos_iff z1).1 c
    rw[i2] at ap
    have ew:w=z1:=vf_ext (by omega) fun k hk=>by
     rw[wv k (by omega)]
     exact g2 ap k (by omega)
    rw[if_pos c] at i7
    rw[if_pos (q.2 c),ew] at G
    refine⟨some z1,fun ns e=>?_,fun e=>by simp at e,i7,.inr ⟨z2,r6,G⟩⟩
    obtain rfl:=Option.some.inj e
    exact⟨i2,i1,i3,i4,ap⟩
   ·rw[if_neg c] at i7
    rw[if_neg fun q2=>c (q.1 q2)] at G
    refine⟨none,fun ns e=>by simp at e,fun _ q3=>?_,i7,.inr ⟨z2,r6,G⟩⟩
    obtain⟨_,x,x1,x2⟩:=q3
    obtain⟨a,b,hab,e3⟩:=i1.2 _ _ i3 x1
    have hf:=e3 f i5
    have xf:=x2 f i5
    have b0:b≠0:=fun z=>by
     rw[z,Int.zero_mul] at hf
     rcases hab with q|q
     ·rcases Int.mul_eq_zero.1 hf with q2|q2
      ·exact q q2
      ·omega
     ·exact q z
    refine c ((all_pos_iff z1).2 fun k hk=>?_)
    have hk2:k<n:=by omega
    have ek:=e3 k hk2
    have xk:=x2 k hk2
    rcases Int.lt_or_gt_of_ne b0 with bn|bp
    ·have l1:b * x f<0:=Int.mul_neg_of_neg_of_pos bn xf
     have l2:b * x k<0:=Int.mul_neg_of_neg_of_pos bn xk
     have an:a<0:=by
      apply Classical.byContradiction
      intro q
      have:0≤a * vf z1 f:=Int.mul_nonneg (by omega) (by omega)
      omega
     apply Classical.byContradiction
     intro q
     have:0≤a * vf z1 k:=Int.mul_nonneg_of_nonpos_of_nonpos (by omega) (by omega)
     omega
    ·have l1:0<b * x f:=Int.mul_pos bp xf
     have l2:0<b * x k:=Int.mul_pos bp xk
     have ap:0<a:=by
      apply Classical.byContradiction
      intro q
      have:a * vf z1 f≤0:=Int.mul_nonpos_of_nonpos_of_nonneg (by omega) (by omega)
      omega
     apply Classical.byContradiction
     intro q
     have:a * vf z1 k≤0:=Int.mul_nonpos_of_nonneg_of_nonpos (by omega) (by omega)
     omega
end
def firstF (F:List Int→Option (List Int)) (L:List (List Int)):Option (List Int×List Int):=L.findSome? fun S=>(F S).map fun ns=>(S,ns)
theorem firstF_cons_some {F:List Int→Option (List Int)} {S ns:List Int} {L:List (List Int)} (h:F S=some ns):firstF F (S :: L)=some (S,ns):=by simp[firstF,h]
theorem firstF_cons_none {F:List Int→Option (List Int)} {S:List Int} {L:List (List Int)} (h:F S=none):firstF F (S :: L)=firstF F L:=by simp[firstF,h]
theorem firstF_mem {F:List Int→Option (List Int)}:∀ {L:List (List Int)} {r:List Int×List Int},firstF F L=some r→r.1∈L∧F r.1=some r.2
|[],r,h=>by simp[firstF] at h
|S :: L,r,h=>by
  cases e:F S with
 |none =>
   rw[firstF_cons_none e] at h
   obtain⟨a,b⟩:=firstF_mem h
   exact⟨List.mem_cons_of_mem _ a,b⟩
 |some ns =>
   rw[firstF_cons_some e] at h
   obtain rfl:=Option.some.inj h
   exact⟨List.mem_cons_self,e⟩
def hT (F:List Int→Option (List Int)) (S:List Int):Bool:=(F S).isSome
def hSt (F:List Int→Option (List Int)) (S:List Int) (s:List Int×List Int):List Int×List Int:=match F S with|some ns=>(S,ns)|none=>s
theorem runV_first (F:List Int→Option (List Int)):∀ (L:List (List Int)) (s:List Int×List Int),runV (hT F) (hSt F) L s=match firstF F L with|some r=>(true,r)|none=>(false,s)
|[],s=>rfl
|S :: L,s=>by
  rw[runV]
  cases e:F S with
 |none =>
   have h1:hT F S=false:=by unfold hT;rw[e];rfl
   have h2:hSt F S s=s:=by unfold hSt;rw[e]
   rw[h1,if_neg (by simp),h2,firstF_cons_none e]
   exact runV_first F L s
 |some ns =>
   have h1:hT F S=true:=by unfold hT;rw[e];rfl
   have h2:hSt F S s=(S,ns):=by unfold hSt;rw[e]
   rw[h1,if_pos rfl,h2,firstF_cons_some e]
def srch (F:List Int→Option (List Int)) (n:Nat):Nat→Nat→Option (List Int×List Int)
|0,_=>none
|j+1,kk=>match firstF F (chG kk n n []) with|some r=>some r|none=>srch F n j (kk+1)
theorem chG_nil {kk n:Nat} (h:n<kk):chG kk n n []=[]:=by
 unfold chG
 rw[if_neg (by simp;omega)]
 exact chL_nil kk n n [] (by simpa using h)
theorem srch_past (F:List Int→Option (List Int)) (n:Nat):∀ (j kk:Nat),n<kk→srch F n j kk=none
|0,_,_=>rfl
|j+1,kk,h=>by
  rw[srch,chG_nil h]
  exact srch_past F n j (kk+1) (by omega)
theorem srch_mem {F:List Int→Option (List Int)} {n:Nat}:∀ {j kk:Nat} {r:List Int×List Int},srch F n j kk=some r→∃ q,kk≤q∧q<kk+j∧r.1∈chG q n n []∧F r.1=some r.2∧∀ q',kk≤q'→q'<q→firstF F (chG q' n n [])=none
|0,_,_,h=>by simp[srch] at h
|j+1,kk,r,h=>by
  rw[srch] at h
  cases e:firstF F (chG kk n n []) with
 |some r2 =>
   rw[e] at h
   obtain rfl:=Option.some.inj h
   obtain⟨a,b⟩:=firstF_mem e
   exact⟨kk,Nat.le_refl _,by omega,a,b,fun q' _ _=>by omega⟩
 |none =>
   rw[e] at h
   obtain⟨q,a,b,c,d,f⟩:=srch_mem h
   refine⟨q,by omega,by omega,c,d,fun q' h1 h2=>?_⟩
   by_cases z:q'=kk
   ·rw[z]
    exact e
   ·exact f q' (by omega) h2
section
variable {ps:List (List Int)} {ls:List Int} {d:Nat} {F:List Int→Option (List Int)}
theorem vecs_ev (hs:smB ps ls=true) {S:List Int} {n:Nat} (h:Places ps ls S d n) (hn:n≤100):∀ (j i:Nat) (acc:List (List Int)),i+j=n→acc=(vecsOf ps ls S).take i→Ev (fun k=>Kk.v0 ps ls S k acc (i:Int)) (vecsOf ps ls S)
|0,i,acc,hj,ha=>by
  have hl:=h.len
  refine Ev.step (f:=fun _=>some (vecsOf ps ls S)) (fun k=>?_) (ev_const _)
  rw[Kk.v0,if_neg (by omega),ha,List.take_of_length_le (by simp[vecsOf];omega)]
|j+1,i,acc,hj,ha=>by
  have hl:=h.len
  have hi:i<S.length:=by omega
  have hiv:i<(vecsOf ps ls S).length:=by simp[vecsOf];omega
  obtain⟨q1,q2,q3⟩:=h.ok S[i] (List.getElem_mem hi)
  have e:((S[i].toNat:Nat):Int)=S[i]:=by omega
  have sg:Ev (fun k=>Xk.f k ps ls S[i]) (signedL (rd ls S[i]) (rd_L1 ps S[i])):=ev_of 10 fun k hk=>by
   have:=impl_Sample_signed_is k ps ls S[i].toNat hs (by omega) hk
   rwa [e] at this
  have hal:acc.length≤100:=by rw[ha,List.length_take];omega
  refine Ev.step (f:=fun k=>(Xk.f k ps ls S[i]).bind fun t=>(if acc.length<5864062014805 then Kk.v0 ps ls S k (acc++[t]) (wrap64 ((i:Int)+1)) else none)) (fun k=>?_) (Ev.bind sg (ev_if_pos (by omega) ?_))
  ·rw[Kk.v0,if_pos (by omega),if_pos (by omega),rd_vf,vf_get S i hi]
  ·rw[w64_nat (by omega)]
   refine vecs_ev hs h hn j (i+1) _ (by omega) ?_
   rw[ha,List.take_succ_eq_append_getElem hiv]
   congr 1
   simp[vecsOf]
theorem visit_ev (hs:smB ps ls=true) {S:List Int} {n:Nat} (h:Places ps ls S d n) (hn:n≤100) (hF:OneSet ps ls S d n (F S)) (s:List Int×List Int):Ev (fun k=>Kk.v ps ls k s S) (hT F S,hSt F S s):=by
 have hl:=h.len
 unfold Kk.v
 refine Ev.bind (vecs_ev hs h hn n 0 [] (by omega) rfl) (Ev.bind hF.impl ?_)
 cases e:F S with
|none =>
  have h1:hT F S=false:=by unfold hT;rw[e];rfl
  have h2:hSt F S s=s:=by unfold hSt;rw[e]
  rw[h1,h2]
  exact ev_if_neg (by simp[toRes]) (ev_const _)
|some ns =>
  have h1:hT F S=true:=by unfold hT;rw[e];rfl
  have h2:hSt F S s=(S,ns):=by unfold hSt;rw[e]
  rw[h1,h2]
  refine ev_if_pos rfl ?_
  rw[impl_copied_is S (by omega)]
  exact ev_const _
def allF (ps:List (List Int)) (ls:List Int) (F:List Int→Option (List Int)):Prop:=∀ kk,2≤kk→kk≤(ps.headD []).length+2→∀ S∈chG kk ps.length ps.length [],OneSet ps ls S (ps.headD []).length kk (F S)
theorem allF_some (hs:smB ps ls=true) (h0:0<ps.length):∃ F,allF ps ls F:=by
 have each:∀ S:List Int,∃ r,∀ kk,2≤kk→kk≤(ps.headD []).length+2→S∈chG kk ps.length ps.length []→OneSet ps ls S (ps.headD []).length kk r:=fun S=>by
  by_cases c:2≤S.length∧S.length≤(ps.headD []).length+2∧Asc ps.length S
  ·obtain⟨r,hr⟩:=one_set (places_of hs c.2.2 h0) c.1 c.2.1
   refine⟨r,fun kk _ _ hm=>?_⟩
   have:=(chG_asc kk ps.length S hm).2
   rw[←this]
   exact hr
  ·refine⟨none,fun kk h1 h2 hm=>absurd ?_ c⟩
   obtain⟨a,b⟩:=chG_asc kk ps.length S hm
   exact⟨by omega,by omega,a⟩
 exact⟨fun S=>Classical.choose (each S),fun kk h1 h2 S hm=>Classical.choose_spec (each S) kk h1 h2 hm⟩
def out3 (r:Option (List Int×List Int)):List Int×List Int×Bool:=match r with|some q=>(q.1,q.2,true)|none=>([],[],false)
def out2 (r:Option (List Int×List Int)):List Int×List Int:=match r with|some q=>q|none=>([],[])
theorem hard_l (hs:smB ps ls=true) (h0:0<ps.length) (hF:allF ps ls F):∀ (j kk:Nat) (s:List Int×List Int),2≤kk→kk+j=(ps.headD []).length+3→Ev (fun k=>Kk.l0 ps ls k s (kk:Int)) (out3 (srch F ps.length j kk))
|j,kk,s,hk,hj=>by
  obtain⟨h16,hlen,hlb,hrow⟩:=smB_parts hs
  have e0:rd_L1 ps 0=ps.headD []:=by cases ps <;> simp[rd_L1]
  have d4:1≤(ps.headD []).length∧(ps.headD []).length≤4:=by
   cases ps with
  |nil=>simp at h0
  |cons a t=>exact(ptB_parts (hrow a (by simp)).1).2
  have em:mn (ps.length:Int) (wrap64 (((rd_L1 ps 0).length:Int)+2))=if(ps.headD []).length+2<ps.length then((ps.headD []).length+2:Int) else(ps.length:Int):=by
   rw[e0,w64 (by omega) (by omega)]
   unfold mn
   by_cases c:(ps.headD []).length+2<ps.length
   ·rw[if_pos (by omega),if_pos c]
   ·rw[if_neg (by omega),if_neg c]
  by_cases c:kk≤ps.length∧kk≤(ps.headD []).length+2
  ·match j,hj with
  |0,hj=>omega
  |j+1,hj =>
    have V:=impl_choices_ev (V:=Kk.v ps ls) (t:=hT F) (st:=hSt F) ps.length kk (by omega) s (fun S hS s'=>by
     obtain⟨a,b⟩:=chG_asc kk ps.length S hS
     have pl:=places_of hs a h0
     rw[b] at pl
     exact visit_ev hs pl (by omega) (hF kk hk c.2 S hS) s')
    refine Ev.step (f:=fun k=>(Kv.f (Kk.v ps ls) k s (ps.length:Int) (kk:Int)).bind fun t=>(if t.1=true then some (t.2.1,t.2.2,true) else Kk.l0 ps ls k t.2 (wrap64 ((kk:Int)+1)))) (fun k=>?_) (Ev.bind V ?_)
    ·rw[Kk.l0,if_pos (by omega),em,if_pos (by split <;> omega)]
    ·rw[runV_first,srch]
     cases e:firstF F (chG kk ps.length ps.length []) with
    |some r=>exact ev_if_pos rfl (ev_const _)
    |none =>
      refine ev_if_neg (by simp) ?_
      rw[w64_nat (by omega)]
      exact hard_l hs h0 hF j (kk+1) _ (by omega) (by omega)
  ·have e:srch F ps.length j kk=none:=by
    rcases Nat.lt_or_ge ps.length kk with q|q
    ·exact srch_past F _ j kk q
    ·obtain rfl:j=0:=by omega
     rfl
   rw[e]
   refine Ev.step (f:=fun _=>some ([],[],false)) (fun k=>?_) (ev_const _)
   rw[Kk.l0,if_pos (by omega),em,if_neg (by split <;> omega)]
theorem part_ev {S:List Int} {n:Nat} (h:Places ps ls S d n) (hn:n≤100):∀ (j i:Nat) (a:List (List Int)) (b:List Int),i+j=n→a=(ptsOf ps S).take i→b=(labsOf ls S).take i→Ev (fun k=>Jx1.l0 k S (i:Int) ps ls a b) (ptsOf ps S,labsOf ls S)
|0,i,a,b,hj,ha,hb=>by
  have hl:=h.len
  refine Ev.step (f:=fun _=>some (ptsOf ps S,labsOf ls S)) (fun k=>?_) (ev_const _)
  rw[Jx1.l0,if_neg (by omega),ha,hb,List.take_of_length_le (by simp[ptsOf];omega),List.take_of_length_le (by simp[labsOf];omega)]
|j+1,i,a,b,hj,ha,hb=>by
  have hl:=h.len
  have hi:i<S.length:=by omega
  have hip:i<(ptsOf ps S).length:=by simp[ptsOf];omega
  have hil:i<(labsOf ls S).length:=by simp[labsOf];omega
  obtain⟨q1,q2,q3⟩:=h.ok S[i] (List.getElem_mem hi)
  have hal:a.length≤100:=by rw[ha,List.length_take];omega
  have hbl:b.length≤100:=by rw[hb,List.length_take];omega
  have hp:=(h.pt i (by omega)).1
  rw[ptsOf_get ps S i hi] at hp
  have d4:=h.d4
  refine Ev.step (fun k=>?_) (part_ev h hn j (i+1) (a++[rd_L1 ps S[i]]) (b++[rd ls S[i]]) (by omega) ?_ ?_)
  ·rw[Jx1.l0,if_pos (by omega),if_pos (by omega),rd_vf,vf_get S i hi,if_pos (by omega),if_pos (by omega),spec_l1Own_is _ (by omega)]
   simp only[Option.bind_some]
   rw[if_pos (by omega),if_pos (by omega),if_pos (by omega),w64_nat (by omega)]
  ·rw[ha,List.take_succ_eq_append_getElem hip]
   congr 1
   simp[ptsOf]
  ·rw[hb,List.take_succ_eq_append_getElem hil]
   congr 1
   simp[labsOf]
theorem spec_l2Part_ev {S:List Int} {n:Nat} (h:Places ps ls S d n) (hn:n≤100):Ev (fun k=>Jx1.f k ps ls S) (ptsOf ps S,labsOf ls S):=by
 have hl:=h.len
 unfold Jx1.f
 exact part_ev h hn n 0 [] [] (by omega) rfl rfl
theorem find_l1 (hs:smB ps ls=true) (h0:0<ps.length) (hF:allF ps ls F) (kk:Nat) (hk:2≤kk) (hkd:kk≤(ps.headD []).length+2) (L:List (List Int)) (hL:L=chG kk ps.length ps.length []) {out:List Int×List Int}
  (h:firstF F L=none→Ev (fun k=>Yk1.l0 k (wrap64 ((kk:Int)+1)) ps ls) out) (h2:∀ r,firstF F L=some r→out=r):∀ (j i:Nat),i+j=L.length→firstF F L=firstF F (L.drop i)→Ev (fun k=>Yk1.l1 k (kk:Int) L (i:Int) ps ls) out
|0,i,hj,hi=>by
  rw[List.drop_of_length_le (by omega)] at hi
  refine Ev.step (fun k=>?_) (h hi)
  rw[Yk1.l1,if_neg (by omega)]
|j+1,i,hj,hi=>by
  have hlt:i<L.length:=by omega
  have hmem:L[i]∈chG kk ps.length ps.length []:=by rw[←hL];exact List.getElem_mem hlt
  have hll:L.length≤1000000:=by
   obtain⟨h16,_⟩:=smB_parts hs
   rw[hL]
   have:=chG_len kk ps.length ps.length []
   have p:2 ^ ps.length≤2 ^ 16:=Nat.pow_le_pow_right (by omega) h16
   have:(2:Nat) ^ 16=65536:=by decide
   omega
  obtain⟨asc,len⟩:=chG_asc kk ps.length _ hmem
  have pl:=places_of hs asc h0
  rw[len] at pl
  have d4:=pl.d4
  have O:=hF kk hk hkd _ hmem
  have er:rd_L1 L (i:Int)=L[i]:=by rw[rdL_nat,getD_get _ _ hlt]
  have pn:(ptsOf ps L[i]).length=kk:=by simp[ptsOf,len]
  have EQ:=spec_l4Equations_ev (d:=(ps.headD []).length) pn (by omega) (fun v hv=>by
   obtain⟨q,hq,rfl⟩:=List.getElem_of_mem hv
   have:=(pl.pt q (by omega)).1
   rwa [getD_get _ _ hq] at this) (by omega) (by omega)
  have next:F L[i]=none→Ev (fun k=>Yk1.l1 k (kk:Int) L (wrap64 ((i:Int)+1)) ps ls) out:=fun e=>by
   rw[w64_nat (by omega)]
   refine find_l1 hs h0 hF kk hk hkd L hL h h2 j (i+1) (by omega) ?_
   rw[hi,List.drop_eq_getElem_cons hlt,firstF_cons_none e]
  refine Ev.step (fun k=>by rw[Yk1.l1,if_pos (by omega),if_pos (by omega),er]) (Ev.bind (spec_l2Part_ev pl (by omega)) (Ev.bind EQ ?_))
  rcases O.spec with ⟨e,R⟩|⟨z,R,G⟩
  ·exact Ev.bind R (ev_if_neg (by simp) (next e))
  ·refine Ev.bind R (ev_if_pos rfl (Ev.bind G ?_))
   cases e:F L[i] with
  |none =>
    refine ev_if_neg (by simp[toRes]) (next e)
  |some ns =>
    refine ev_if_pos rfl ?_
    rw[List.drop_eq_getElem_cons hlt,firstF_cons_some e] at hi
    have:=h2 _ hi
    rw[this]
    exact ev_const _
theorem find_l0 (hs:smB ps ls=true) (h0:0<ps.length) (hF:allF ps ls F):∀ (j kk:Nat),2≤kk→kk+j=(ps.headD []).length+3→Ev (fun k=>Yk1.l0 k (kk:Int) ps ls) (out2 (srch F ps.length j kk))
|j,kk,hk,hj=>by
  obtain⟨h16,hlen,hlb,hrow⟩:=smB_parts hs
  have e0:rd_L1 ps 0=ps.headD []:=by cases ps <;> simp[rd_L1]
  have d4:1≤(ps.headD []).length∧(ps.headD []).length≤4:=by
   cases ps with
  |nil=>simp at h0
  |cons a t=>exact(ptB_parts (hrow a (by simp)).1).2
  have ew:wrap64 (((ps.headD []).length:Int)+2)=((ps.headD []).length:Int)+2:=w64 (by omega) (by omega)
  match j,hj with
 |0,hj =>
   refine Ev.step (f:=fun _=>some ([],[])) (fun k=>?_) (ev_const _)
   rw[Yk1.l0,if_pos (by omega),e0,ew,if_neg (by omega)]
 |j+1,hj =>
   refine Ev.step (f:=fun k=>(Jk1.f k (ps.length:Int) (kk:Int) (([]:List Int))).bind fun t=>(Yk1.l1 k (kk:Int) t 0 ps ls)) (fun k=>?_) (Ev.bind (spec_l4Choose_ev ps.length kk (by omega)) ?_)
   ·rw[Yk1.l0,if_pos (by omega),e0,ew,if_pos (by omega)]
   ·refine find_l1 hs h0 hF kk hk (by omega) _ rfl (fun e=>?_) (fun r e=>?_) (chG kk ps.length ps.length []).length 0 (by omega) (by rw[List.drop_zero])
    ·rw[w64_nat (by omega),srch,e]
     exact find_l0 hs h0 hF j (kk+1) (by omega) (by omega)
    ·rw[srch,e]
     rfl
end
theorem hard_find {ps:List (List Int)} {ls:List Int} (hs:smB ps ls=true):∃ r:Option (List Int×List Int),Ev (fun k=>Kk.f k ps ls) (out3 r)∧Ev (fun k=>Yk1.f k ps ls) (out2 r)∧∀ q,r=some q→2≤q.1.length∧q.2.length=q.1.length∧Asc ps.length q.1∧q.1.length≤16:=by
 by_cases h0:ps.length=0
 ·refine⟨none,?_,?_,fun q e=>by simp at e⟩
  ·unfold Kk.f
   exact ev_if_pos (by omega) (ev_const _)
  ·unfold Yk1.f
   exact ev_if_pos (by omega) (ev_const _)
 ·obtain⟨F,hF⟩:=allF_some hs (by omega)
  refine⟨srch F ps.length ((ps.headD []).length+1) 2,?_,?_,fun q e=>?_⟩
  ·unfold Kk.f
   exact ev_if_neg (by omega) (hard_l hs (by omega) hF _ 2 _ (by omega) (by omega))
  ·unfold Yk1.f
   exact ev_if_neg (by omega) (find_l0 hs (by omega) hF _ 2 (by omega) (by omega))
  ·obtain⟨kk,a,b,c,e2,_⟩:=srch_mem e
   obtain⟨asc,len⟩:=chG_asc kk ps.length _ c
   have O:=hF kk a (by omega) _ c
   obtain⟨h16,_⟩:=smB_parts hs
   have y:=(O.yes _ e2).1
   refine⟨by omega,by omega,asc,?_⟩
   apply Classical.byContradiction
   intro z
   rw[chG_nil (by omega)] at c
   simp at c
theorem can_ev {ps:List (List Int)} {ls:List Int} (hs:smB ps ls=true):∃ b,Ev (fun k=>Jk.f k ps ls) b∧Ev (fun k=>Gx1.f k ps ls) b:=by
 obtain⟨r,h1,h2,h3⟩:=hard_find hs
 refine⟨r.isNone,?_,?_⟩
 ·unfold Jk.f
  refine Ev.bind h1 ?_
  cases r with
 |none=>exact ev_const _
 |some q=>exact ev_const _
 ·unfold Gx1.f
  refine Ev.bind h2 ?_
  cases r with
 |none=>exact ev_const _
 |some q =>
   have:=(h3 q rfl).1
   show Ev (fun _=>some ((q.1.length:Int) == 0)) false
   have e:((q.1.length:Int) == 0)=false:=by
    rw[beq_eq_false_iff_ne]
    omega
   rw[e]
   exact ev_const _
def ones (n:Nat):List Int:=List.replicate n 1
def fewB (ps:List (List Int)):Bool:=decide (ps.length≤8) && smB ps (ones ps.length)
theorem fill_l (ps:List (List Int)) (N:Nat) (hN:N≤2000000) {out:Bool} (h:Ev (fun k=>if(ps.length:Int)≤8 then(Vx.f k ps (ones N)).bind fun t=>some t else some false) out):∀ (j i:Nat) (x:List Int),i+j=N→x.length=N→(∀ k,k<i→vf x k=1)→Ev (fun k=>Vk.l0 k ps x (N:Int) (i:Int)) out
|0,i,x,hj,hx,hv=>by
  have e:x=ones N:=vf_ext (by simp[ones,hx]) fun k hk=>by rw[hv k (by omega),ones,vf_get _ _ (by simp;omega)];simp
  rw[←e] at h
  refine Ev.step (fun k=>?_) h
  rw[Vk.l0,if_neg (by omega)]
|j+1,i,x,hj,hx,hv=>by
  refine Ev.step (fun k=>?_) (fill_l ps N hN h j (i+1) (x.set i 1) (by omega) (by simpa using hx) fun k hk=>?_)
  ·rw[Vk.l0,if_pos (by omega),if_pos (by omega),if_pos (by omega),w64_nat (by omega),Int.toNat_natCast]
  ·rw[vf_set _ _ _ (by omega)]
   by_cases c:k=i
   ·rw[if_pos c]
   ·rw[if_neg c]
    exact hv k (by omega)
theorem impl_areFew_ev (ps:List (List Int)) (hl:ps.length≤1048576) (hr:∀ r∈ps,r.length≤1048576):Ev (fun k=>Vk.f k ps) (fewB ps):=by
 unfold Vk.f
 refine ev_if_pos (by omega) (ev_if_pos (by omega) ?_)
 simp only[Option.bind_some,Int.toNat_natCast,List.length_replicate]
 refine fill_l ps ps.length (by omega) ?_ ps.length 0 _ (by omega) (by simp) (fun k hk=>by omega)
 unfold fewB
 by_cases c:ps.length≤8
 ·rw[decide_eq_true c,Bool.true_and]
  refine ev_if_pos (by omega) ?_
  exact Ev.bind (ev_of 1048600 fun k hk=>impl_IsSample_is k ps _ hr (by simp[ones];omega) hk) (ev_const _)
 ·rw[decide_eq_false c,Bool.false_and]
  exact ev_if_neg (by omega) (ev_const _)
theorem ones_l (ps:List (List Int)) (hl:ps.length≤1048576) (hr:∀ r∈ps,r.length≤1048576):∀ (j i:Nat) (x:List Int),i+j=ps.length→x=ones i→Ev (fun k=>Zk1.l0 k ps x (i:Int)) (fewB ps)
|0,i,x,hj,hx=>by
  obtain rfl:i=ps.length:=by omega
  refine Ev.step (f:=fun k=>if(ps.length:Int)≤8 then(Yx1.f k ps x).bind fun t=>some t else some false) (fun k=>?_) ?_
  ·rw[Zk1.l0,if_neg (by omega)]
  ·rw[hx]
   unfold fewB
   by_cases c:ps.length≤8
   ·rw[decide_eq_true c,Bool.true_and]
    refine ev_if_pos (by omega) ?_
    exact Ev.bind (ev_of 1048600 fun k hk=>spec_l2Sample_is k ps _ hr (by simp[ones];omega) hk) (ev_const _)
   ·rw[decide_eq_false c,Bool.false_and]
    exact ev_if_neg (by omega) (ev_const _)
|j+1,i,x,hj,hx=>by
  have hxl:x.length=i:=by rw[hx];simp[ones]
  refine Ev.step (fun k=>?_) (ones_l ps hl hr j (i+1) (x++[1]) (by omega) (by rw[hx,ones,ones,List.replicate_succ']))
  rw[Zk1.l0,if_pos (by omega),if_pos (by omega),w64_nat (by omega)]
theorem spec_l4Points_ev (ps:List (List Int)) (hl:ps.length≤1048576) (hr:∀ r∈ps,r.length≤1048576):Ev (fun k=>Zk1.f k ps) (fewB ps):=ones_l ps hl hr ps.length 0 [] (by omega) rfl
theorem fewB_sm {ps:List (List Int)} (h:fewB ps=true):ps.length≤8∧smB ps (ones ps.length)=true:=by
 unfold fewB at h
 obtain⟨a,b⟩:=Bool.and_eq_true_iff.1 h
 exact⟨of_decide_eq_true a,b⟩
theorem sm_labels {ps:List (List Int)} {l1 l2:List Int} (h:smB ps l1=true) (hl:l2.length=ps.length) (hb:∀ x∈l2,x=1∨x = -1):smB ps l2=true:=by
 unfold smB at h ⊢
 simp only[Bool.and_eq_true,decide_eq_true_eq] at h ⊢
 refine⟨⟨⟨h.1.1.1,hl⟩,?_⟩,h.2⟩
 rw[List.all_eq_true]
 intro x hx
 unfold lbB
 exact decide_eq_true (hb x hx)
def wtL (m:Nat):Nat→List Int→List (List Int)
|0,b=>[b]
|d+1,b=>(List.range (2 * m+1)).flatMap fun i:Nat=>wtL m d (b++[(i:Int) - m])
def wtF (m d:Nat) (b:List Int):Nat→Nat→List (List Int)
|0,_=>[]
|j+1,i=>wtL m d (b++[(i:Int) - m])++wtF m d b j (i+1)
theorem wtF_range (m d:Nat) (b:List Int):∀ j i,wtF m d b j i=(List.range' i j).flatMap fun i:Nat=>wtL m d (b++[(i:Int) - m])
|0,i=>rfl
|j+1,i=>by
  rw[wtF,wtF_range m d b j (i+1),List.range'_succ,List.flatMap_cons]
theorem wtL_succ (m d:Nat) (b:List Int):wtL m (d+1) b=wtF m d b (2 * m+1) 0:=by
 rw[wtF_range,wtL,List.range_eq_range']
theorem wtF_snoc (m d:Nat) (b:List Int):∀ i j,wtF m d b (i+1) j=wtF m d b i j++wtL m d (b++[((j+i:Nat):Int) - m])
|0,j=>by simp[wtF]
|i+1,j=>by
  rw[wtF,wtF_snoc m d b i (j+1),wtF,List.append_assoc,show j+1+i=j+(i+1) by omega]
section
variable {σ:Type} {V:Nat→σ→List Int→Option σ} {st:σ→List Int→σ} {N m:Nat}
def swC (V:Nat→σ→List Int→Option σ) (N m:Nat) (s:σ) (b:List Int) (d:Nat) (out:σ):Prop :=
 ∃ r:List Int×Int,Ev (fun k=>Yw.g0 (N:Int) (m:Int) k (b++List.replicate d (-(m:Int))) ((b.length:Int) - 1)) r∧Ev (fun k=>if r.2<0 then some s else(if r.2<(N:Int) then Yw.l0 V (N:Int) (m:Int) k s (r.1.set r.2.toNat (wrap64 (rd r.1 r.2+1))) else none)) out
theorem sw_row (b:List Int) (v:Int) (t:List Int):rd (b++v :: t) (b.length:Int)=v:=by
 simp[rd]
theorem sw_put (b:List Int) (v u:Int) (t:List Int):(b++v :: t).set b.length u=b++u :: t:=by
 simp
theorem sw_all (hm:m≤1000) (hN:N≤1000) (hV:∀ s S,S.length=N→(∀ x∈S,-(m:Int)≤x∧x≤(m:Int))→Ev (fun k=>V k s S) (st s S)):∀ (d:Nat) (b:List Int) (s:σ) (out:σ),b.length+d=N→(∀ x∈b,-(m:Int)≤x∧x≤(m:Int)) →
  swC V N m ((wtL m d b).foldl st s) b d out→Ev (fun k=>Yw.l0 V (N:Int) (m:Int) k s (b++List.replicate d (-(m:Int)))) out
|0,b,s,out,hd,hb,⟨r,h1,h2⟩=>by
  rw[List.replicate_zero,List.append_nil] at h1 ⊢
  rw[show (b.length:Int) - 1=wrap64 ((N:Int) - 1) by rw[w64 (x:=(N:Int) - 1) (by omega) (by omega)];omega] at h1
  exact Ev.step (f:=fun k=>(V k s b).bind fun s1=>(Yw.g0 (N:Int) (m:Int) k b (wrap64 ((N:Int) - 1))).bind fun r=>(if r.2<0 then some s1 else(if r.2<(N:Int) then Yw.l0 V (N:Int) (m:Int) k s1 (r.1.set r.2.toNat (wrap64 (rd r.1 r.2+1))) else none))) (fun k=>by rw[Yw.l0]) (Ev.bind (hV s b (by omega) hb) (Ev.bind h1 h2))
|d+1,b,s,out,hd,hb,h=>by
  have hb2:∀ i:Nat,i≤2 * m→∀ x∈b++[(i:Int) - m],-(m:Int)≤x∧x≤(m:Int):=fun i hi x hx=>by
   rcases List.mem_append.1 hx with hx|hx
   ·exact hb x hx
   ·rw[List.mem_singleton.1 hx]
    omega
  have go:∀ (j i:Nat) (s:σ),i+(j+1)=2 * m+1→swC V N m ((wtF m d b (j+1) i).foldl st s) b (d+1) out→Ev (fun k=>Yw.l0 V (N:Int) (m:Int) k s (b++((i:Int) - m) :: List.replicate d (-(m:Int)))) out:=fun j=>by
   induction j with
  |zero =>
    intro i s hi h
    rw[wtF,wtF,List.append_nil] at h
    obtain⟨r,h1,h2⟩:=h
    have:=sw_all hm hN hV d (b++[(i:Int) - m]) s out (by rw[List.length_append,List.length_singleton];omega) (hb2 i (by omega)) ?_
    ·rwa [List.append_assoc,List.singleton_append] at this
    ·refine⟨r,Ev.step (fun k=>?_) h1,h2⟩
     rw[List.append_assoc,List.singleton_append,List.length_append,List.length_singleton,show ((b.length+1:Nat):Int) - 1=(b.length:Int) by omega]
     rw[Yw.g0,if_pos (by omega),if_pos (by omega),sw_row,if_pos (by omega),Int.toNat_natCast,sw_put,w64 (x:=-(m:Int)) (by omega) (by omega),w64 (x:=(b.length:Int) - 1) (by omega) (by omega),List.replicate_succ]
  |succ j ih =>
    intro i s hi h
    rw[wtF,List.foldl_append] at h
    have rest:=ih (i+1) _ (by omega) h
    have:=sw_all hm hN hV d (b++[(i:Int) - m]) s out (by rw[List.length_append,List.length_singleton];omega) (hb2 i (by omega)) ?_
    ·rwa [List.append_assoc,List.singleton_append] at this
    ·refine⟨(b++((i:Int) - m) :: List.replicate d (-(m:Int)),(b.length:Int)),Ev.step (f:=fun _=>some (b++((i:Int) - m) :: List.replicate d (-(m:Int)),(b.length:Int))) (fun k=>?_) (ev_const _),?_⟩
     ·rw[List.append_assoc,List.singleton_append,List.length_append,List.length_singleton,show ((b.length+1:Nat):Int) - 1=(b.length:Int) by omega]
      rw[Yw.g0,if_pos (by omega),if_pos (by omega),sw_row,if_neg (by omega)]
     ·refine ev_if_neg (by show ¬ ((b.length:Int)<0);omega) (ev_if_pos (by show (b.length:Int)<(N:Int);omega) ?_)
      show Ev (fun k=>Yw.l0 V (N:Int) (m:Int) k _ ((b++((i:Int) - m) :: List.replicate d (-(m:Int))).set (b.length:Int).toNat (wrap64 (rd (b++((i:Int) - m) :: List.replicate d (-(m:Int))) (b.length:Int)+1)))) out
      rw[sw_row,Int.toNat_natCast,sw_put,w64 (x:=(i:Int) - m+1) (by omega) (by omega),show (i:Int) - m+1=((i+1:Nat):Int) - m by omega]
      exact rest
  rw[List.replicate_succ,show -(m:Int) :: List.replicate d (-(m:Int))=(((0:Nat):Int) - m) :: List.replicate d (-(m:Int)) by rw[show ((0:Nat):Int) - m = -(m:Int) by omega]]
  rw[wtL_succ] at h
  exact go (2 * m) 0 s (by omega) h
theorem sw_fill (hm:m≤1000) (hN:N≤1000):∀ (j i:Nat),i+j=N→Ev (fun k=>Yw.f0 (N:Int) (m:Int) k (List.replicate i (-(m:Int))++List.replicate j 0) (i:Int)) (List.replicate N (-(m:Int)))
|0,i,hj=>by
  obtain rfl:i=N:=by omega
  refine Ev.step (f:=fun _=>some (List.replicate i (-(m:Int)))) (fun k=>?_) (ev_const _)
  rw[Yw.f0,if_neg (by omega),List.replicate_zero,List.append_nil]
|j+1,i,hj=>by
  refine Ev.step (fun k=>?_) (sw_fill hm hN j (i+1) (by omega))
  have:=sw_put (List.replicate i (-(m:Int))) 0 (-(m:Int)) (List.replicate j 0)
  rw[List.length_replicate] at this
  rw[Yw.f0,if_pos (by omega),if_pos (by omega),Int.toNat_natCast,List.replicate_succ,w64 (x:=-(m:Int)) (by omega) (by omega),this,w64_nat (by omega),List.replicate_succ',List.append_assoc,List.singleton_append]
theorem impl_smallWeights_ev (hm:m≤1000) (hN:N≤1000) (h1:1≤N) (hV:∀ s S,S.length=N→(∀ x∈S,-(m:Int)≤x∧x≤(m:Int))→Ev (fun k=>V k s S) (st s S)) (s:σ):Ev (fun k=>Yw.f V k s (N:Int) (m:Int)) ((wtL m N []).foldl st s):=by
 unfold Yw.f
 refine ev_if_pos (by omega) (ev_if_pos (by omega) ?_)
 rw[Int.toNat_natCast]
 refine Ev.bind (sw_fill hm hN N 0 (by omega)) ?_
 refine sw_all hm hN hV N [] s _ (by simp) (by simp) ⟨(List.replicate N (-(m:Int)),-1),Ev.step (f:=fun _=>some (List.replicate N (-(m:Int)),-1)) (fun k=>?_) (ev_const _),ev_if_pos (by show (-1:Int)<0;omega) (ev_const _)⟩
 show Yw.g0 (N:Int) (m:Int) (k+1) (List.replicate N (-(m:Int))) (-1)=_
 rw[Yw.g0,if_neg (by omega)]
end
theorem wt_len (m:Nat):∀ d,(∀ b,(wtL m d b).length=(2 * m+1) ^ d)∧∀ b j i,(wtF m d b j i).length=j * (2 * m+1) ^ d
|0=>⟨fun b=>by simp[wtL],fun b j=>by
  induction j with
 |zero=>intro i;simp[wtF]
 |succ j ih=>intro i;rw[wtF,List.length_append,ih,wtL];simp;omega⟩
|d+1=>by
  have a:∀ b,(wtL m (d+1) b).length=(2 * m+1) ^ (d+1):=fun b=>by
   rw[wtL_succ,(wt_len m d).2,Nat.pow_succ,Nat.mul_comm]
  refine⟨a,fun b j=>?_⟩
  induction j with
 |zero=>intro i;simp[wtF]
 |succ j ih =>
   intro i
   rw[wtF,List.length_append,ih,a,Nat.add_mul,Nat.one_mul,Nat.add_comm]
theorem l4w_ev (N m:Nat) (hm:m≤1000) (hN:N≤1000):∀ (d:Nat) (b:List Int),(2 * m+1) ^ d≤1000000→b.length+d=N→Ev (fun k=>Kv1.f k (N:Int) (m:Int) b) (wtL m d b)
|0,b,hB,hb=>by
  refine Ev.step (f:=fun _=>some [b]) (fun k=>?_) (ev_const _)
  rw[Kv1.f,if_pos (by omega)]
|d+1,b,hB,hb=>by
  have hp:(2 * m+1) ^ (d+1)=(2 * m+1) * (2 * m+1) ^ d:=by rw[Nat.pow_succ,Nat.mul_comm]
  have hd:(2 * m+1) ^ d≤1000000:=Nat.le_trans (Nat.pow_le_pow_right (by omega) (Nat.le_succ d)) hB
  have go:∀ (j i:Nat) (acc:List (List Int)),i+j=2 * m+1→acc=wtF m d b i 0→Ev (fun k=>Kv1.l0 k (N:Int) (m:Int) b acc ((i:Int) - m)) (acc++wtF m d b j i):=fun j=>by
   induction j with
  |zero =>
    intro i acc hi ha
    refine Ev.step (f:=fun _=>some acc) (fun k=>?_) ?_
    ·rw[Kv1.l0,if_neg (by omega)]
    ·rw[wtF,List.append_nil]
     exact ev_const _
  |succ j ih =>
    intro i acc hi ha
    have la:acc.length≤1000000:=by
     rw[ha,(wt_len m d).2]
     exact Nat.le_trans (Nat.mul_le_mul_right _ (by omega)) (Nat.le_trans (Nat.le_of_eq hp.symm) hB)
    have lw:=(wt_len m d).1 (b++[(i:Int) - m])
    have rec_:=l4w_ev N m hm hN d (b++[(i:Int) - m]) hd (by rw[List.length_append,List.length_singleton];omega)
    refine Ev.step (f:=fun k=>(Kv1.f k (N:Int) (m:Int) (b++[(i:Int) - m])).bind fun t124=>(if acc.length+t124.length<5864062014805 then(Kv1.l0 k (N:Int) (m:Int) b (acc++t124) (wrap64 ((i:Int) - m+1))) else(none))) (fun k=>?_) (Ev.bind rec_ (ev_if_pos (by omega) ?_))
    ·rw[Kv1.l0,if_pos (by omega),spec_l1Own_is b (by omega)]
     simp only[Option.bind_some]
     rw[if_pos (by omega)]
    ·have:=ih (i+1) (acc++wtL m d (b++[(i:Int) - m])) (by omega) (by rw[ha,wtF_snoc,Nat.zero_add])
     rw[w64 (x:=(i:Int) - m+1) (by omega) (by omega),show (i:Int) - m+1=((i+1:Nat):Int) - m by omega]
     rw[List.append_assoc] at this
     exact this
  refine Ev.step (f:=fun k=>Kv1.l0 k (N:Int) (m:Int) b [] (((0:Nat):Int) - m)) (fun k=>?_) ?_
  ·rw[Kv1.f,if_neg (by omega),w64 (x:=-(m:Int)) (by omega) (by omega),show ((0:Nat):Int) - m = -(m:Int) by omega]
  ·have:=go (2 * m+1) 0 [] (by omega) rfl
   rw[List.nil_append] at this
   rw[wtL_succ]
   exact this
def insL {α:Type} [DecidableEq α] (s:List α) (t:α):List α:=if t∈s then s else t :: s
theorem insL_mem {α:Type} [DecidableEq α] (x:α):∀ (L s:List α),x∈L.foldl insL s↔x∈s∨x∈L
|[],s=>by simp
|t :: L,s=>by
  rw[List.foldl_cons,insL_mem x L,insL]
  by_cases h:t∈s
  ·rw[if_pos h]
   constructor
   ·rintro (q|q)
    ·exact .inl q
    ·exact .inr (List.mem_cons_of_mem _ q)
   ·rintro (q|q)
    ·exact .inl q
    ·rcases List.mem_cons.1 q with rfl|q
     ·exact .inl h
     ·exact .inr q
  ·rw[if_neg h]
   simp only[List.mem_cons]
   constructor
   ·rintro ((q|q)|q)
    ·exact .inr (.inl q)
    ·exact .inl q
    ·exact .inr (.inr q)
   ·rintro (q|(q|q))
    ·exact .inl (.inr q)
    ·exact .inl (.inl q)
    ·exact .inr q
theorem insL_nodup {α:Type} [DecidableEq α]:∀ (L s:List α),s.Nodup→(L.foldl insL s).Nodup
|[],s,h=>h
|t :: L,s,h=>by
  rw[List.foldl_cons,insL]
  by_cases q:t∈s
  ·rw[if_pos q];exact insL_nodup L s h
  ·rw[if_neg q];exact insL_nodup L _ (List.nodup_cons.2 ⟨q,h⟩)
theorem insL_map {α β:Type} [DecidableEq α] [DecidableEq β] (c:α→β) (T:α→Prop) (hc:∀ x y,T x→T y→c x=c y→x=y):∀ (L s:List α),(∀ x∈s,T x)→(∀ x∈L,T x)→(L.map c).foldl insL (s.map c)=(L.foldl insL s).map c
|[],s,_,_=>rfl
|t :: L,s,hs,hL=>by
  have ht:T t:=hL t (List.mem_cons_self ..)
  have e:insL (s.map c) (c t)=(insL s t).map c:=by
   unfold insL
   by_cases q:t∈s
   ·rw[if_pos q,if_pos (List.mem_map.2 ⟨t,q,rfl⟩)]
   ·rw[if_neg q,if_neg (fun q2=>by obtain⟨y,hy,e⟩:=List.mem_map.1 q2;rw[hc y t (hs y hy) ht e] at hy;exact q hy),List.map_cons]
  rw[List.map_cons,List.foldl_cons,List.foldl_cons,e]
  refine insL_map c T hc L _ (fun x hx=>?_) (fun x hx=>hL x (List.mem_cons_of_mem _ hx))
  unfold insL at hx
  by_cases q:t∈s
  ·rw[if_pos q] at hx;exact hs x hx
  ·rw[if_neg q] at hx
   rcases List.mem_cons.1 hx with rfl|hx
   ·exact ht
   ·exact hs x hx
theorem insL_same {α β γ:Type} [DecidableEq α] [DecidableEq β] [DecidableEq γ] (c:α→β) (d:α→γ) (T:α→Prop) (hc:∀ x y,T x→T y→c x=c y→x=y) (hd:∀ x y,T x→T y→d x=d y→x=y) (L1 L2:List α) (h1:∀ x∈L1,T x) (h2:∀ x∈L2,T x) (h:∀ x,x∈L1↔x∈L2):((L1.map c).foldl insL []).length=((L2.map d).foldl insL []).length:=by
 have e1:=insL_map c T hc L1 [] (by simp) h1
 have e2:=insL_map d T hd L2 [] (by simp) h2
 rw[List.map_nil] at e1 e2
 rw[e1,e2,List.length_map,List.length_map]
 exact((List.perm_ext_iff_of_nodup (insL_nodup L1 [] List.nodup_nil) (insL_nodup L2 [] List.nodup_nil)).2 fun x=>by rw[insL_mem,insL_mem,h x]).length_eq
def codeL:List Bool→Nat
|[]=>0
|b :: l=>(if b=true then 1 else 0)+2 * codeL l
def codeB (l:List Bool):Nat:=l.foldl (fun n b=>2 * n+(if b=true then 1 else 0)) 0
theorem codeL_inj:∀ (x y:List Bool),x.length=y.length→codeL x=codeL y→x=y
|[],[],_,_=>rfl
|[],_ :: _,h,_=>by simp at h
|_ :: _,[],h,_=>by simp at h
|a :: x,b :: y,h,e=>by
  simp only[codeL] at e
  have:a=b∧codeL x=codeL y:=by
   cases a <;> cases b <;> simp at e ⊢ <;> omega
  rw[this.1,codeL_inj x y (by simpa using h) this.2]
theorem codeL_lt:∀ l:List Bool,codeL l<2 ^ l.length
|[]=>by simp[codeL]
|b :: l=>by
  have:=codeL_lt l
  rw[codeL,List.length_cons,Nat.pow_succ]
  cases b <;> simp <;> omega
theorem codeB_snoc (l:List Bool) (b:Bool):codeB (l++[b])=2 * codeB l+(if b=true then 1 else 0):=by
 unfold codeB;rw[List.foldl_append];rfl
theorem codeB_rev:∀ l:List Bool,codeB l.reverse=codeL l
|[]=>rfl
|b :: l=>by rw[List.reverse_cons,codeB_snoc,codeB_rev l,codeL];omega
theorem codeB_inj (x y:List Bool) (h:x.length=y.length) (e:codeB x=codeB y):x=y:=by
 have e1:=codeB_rev x.reverse
 have e2:=codeB_rev y.reverse
 rw[List.reverse_reverse] at e1 e2
 have:=codeL_inj x.reverse y.reverse (by simpa using h) (by omega)
 simpa using congrArg List.reverse this
theorem codeB_lt (x:List Bool):codeB x<2 ^ x.length:=by
 have e1:=codeB_rev x.reverse
 rw[List.reverse_reverse] at e1
 have:=codeL_lt x.reverse
 rw[List.length_reverse] at this
 omega
def tabB (ps:List Int) (b:Int):List Bool:=ps.map fun p=>decide (p ≥ b)
theorem tabB_low (ps:List Int) (b top:Int) (ht:∀ p∈ps,p<top) (hb:b≤top):∃ b'∈ps++[top],tabB ps b=tabB ps b':=by
 have main:∀ (l:List Int),(∃ p∈l,p ≥ b∧∀ q∈l,q ≥ b→p≤q)∨∀ q∈l,¬ q ≥ b:=by
  intro l
  induction l with
 |nil=>exact .inr (by simp)
 |cons a l ih =>
   by_cases ha:a ≥ b
   ·left
    rcases ih with ⟨p,hp,h1,h2⟩|h
    ·by_cases hap:a≤p
     ·exact⟨a,List.mem_cons_self ..,ha,fun q hq hqb=>by rcases List.mem_cons.1 hq with rfl|hq;exact Int.le_refl _;exact Int.le_trans hap (h2 q hq hqb)⟩
     ·exact⟨p,List.mem_cons_of_mem _ hp,h1,fun q hq hqb=>by rcases List.mem_cons.1 hq with rfl|hq;omega;exact h2 q hq hqb⟩
    ·exact⟨a,List.mem_cons_self ..,ha,fun q hq hqb=>by rcases List.mem_cons.1 hq with rfl|hq;exact Int.le_refl _;exact absurd hqb (h q hq)⟩
   ·rcases ih with ⟨p,hp,h1,h2⟩|h
    ·exact .inl ⟨p,List.mem_cons_of_mem _ hp,h1,fun q hq hqb=>by rcases List.mem_cons.1 hq with rfl|hq;exact absurd hqb ha;exact h2 q hq hqb⟩
    ·exact .inr fun q hq=>by rcases List.mem_cons.1 hq with rfl|hq;exact ha;exact h q hq
 rcases main ps with ⟨p,hp,h1,h2⟩|h
 ·refine⟨p,List.mem_append.2 (.inl hp),List.map_congr_left fun q hq=>?_⟩
  by_cases hq2:q ≥ b
  ·rw[decide_eq_true hq2,decide_eq_true (h2 q hq hq2)]
  ·rw[decide_eq_false hq2,decide_eq_false (by omega)]
 ·refine⟨top,List.mem_append.2 (.inr (by simp)),List.map_congr_left fun q hq=>?_⟩
  rw[decide_eq_false (h q hq),decide_eq_false (by have:=ht q hq;omega)]
def byt (l:List Int):Prop:=∀ x∈l,0≤x∧x≤255
theorem byt_wf {l:List Int} (h:∀ x∈l,(Lit.int .u8 x).wf=true):byt l:=fun x hx=>by
 have h:=h x hx
 have e1:IntKind.u8.min=0:=by decide
 have e2:IntKind.u8.max=255:=by decide
 simp only[Lit.wf,Bool.and_eq_true,decide_eq_true_eq] at h
 omega
theorem low8 (x:Int):0≤wrap64 (Go.bits .and .u64 (IntKind.u64.wrap x / 1099511627776) 255)∧wrap64 (Go.bits .and .u64 (IntKind.u64.wrap x / 1099511627776) 255)≤255:=by
 have h:0≤IntKind.u64.wrap x∧IntKind.u64.wrap x≤18446744073709551615:=by rw[IntKind.wrap_u64];omega
 obtain⟨n,hn⟩:=Int.eq_ofNat_of_zero_le (show 0≤IntKind.u64.wrap x / 1099511627776 by omega)
 have e:Go.bits .and .u64 (IntKind.u64.wrap x / 1099511627776) 255=((n &&& 255:Nat):Int):=by
  rw[hn]
  exact bits_and_u64_nat n 255 (by omega) (by omega)
 rw[e]
 have:=Nat.and_le_right (n:=n) (m:=255)
 rw[w64 (by omega) (by omega)]
 omega
theorem next_tells (l:List Int) (a sd:Int) (hb:byt l) (h0:0≤a) (h1:a≤4611686018427387904):∃ v sd',Xj1.f l a sd=some (v,a+1,sd')∧0≤v∧v≤255:=by
 unfold Xj1.f
 rw[w64 (x:=a+1) (by omega) (by omega)]
 by_cases c1:a<(l.length:Int)
 ·obtain⟨i,rfl⟩:=Int.eq_ofNat_of_zero_le h0
  have hi:i<l.length:=by omega
  have hx:=hb l[i] (List.getElem_mem hi)
  rw[if_pos c1,if_pos h0,if_pos (by omega)]
  refine⟨_,_,rfl,?_⟩
  rw[rd_nat l i hi,w64 (by omega) (by omega)]
  exact hx
 ·rw[if_neg c1]
  by_cases c2:a+1≤(l.length:Int)
  ·rw[if_pos c2]
   exact⟨_,_,rfl,by omega,by omega⟩
  ·rw[if_neg c2]
   exact⟨_,_,rfl,low8 _⟩
theorem pick_tells (l:List Int) (a sd n:Int) (hb:byt l) (h0:0≤a) (h1:a≤4000000000):∃ v a' sd',Zj1.f l a sd n=some (v,a',sd')∧0≤v∧(v<n∨v=0∧n≤1)∧a≤a'∧a'≤a+2:=by
 unfold Zj1.f
 by_cases c1:n≤1
 ·rw[if_pos c1]
  exact⟨_,_,_,rfl,by omega,.inr ⟨rfl,c1⟩,by omega,by omega⟩
 ·rw[if_neg c1]
  obtain⟨v,s1,e1,hv⟩:=next_tells l a sd hb h0 (by omega)
  rw[e1]
  simp only[Option.bind_some]
  by_cases c2:n > 200
  ·rw[if_pos c2]
   obtain⟨v2,s2,e2,hv2⟩:=next_tells l (a+1) s1 hb (by omega) (by omega)
   rw[e2]
   simp only[Option.bind_some]
   rw[if_neg (by omega),w64 (x:=v * 256) (by omega) (by omega),w64 (x:=v * 256+v2) (by omega) (by omega),Int.tmod_eq_emod_of_nonneg (by omega)]
   exact⟨_,_,_,rfl,Int.emod_nonneg _ (by omega),.inl (Int.emod_lt_of_pos _ (by omega)),by omega,by omega⟩
  ·rw[if_neg c2,if_neg (by omega),Int.tmod_eq_emod_of_nonneg (by omega)]
   exact⟨_,_,_,rfl,Int.emod_nonneg _ (by omega),.inl (Int.emod_lt_of_pos _ (by omega)),by omega,by omega⟩
theorem among_tells (l:List Int) (a sd:Int) (xs:List Int) (hb:byt l) (h0:0≤a) (h1:a≤4000000000) (hx:0<xs.length):∃ v a' sd',Jj1.f l a sd xs=some (v,a',sd')∧v∈xs∧a≤a'∧a'≤a+2:=by
 unfold Jj1.f
 obtain⟨v,a',s',e,g0,g1,g2,g3⟩:=pick_tells l a sd (xs.length:Int) hb h0 h1
 rw[e]
 simp only[Option.bind_some]
 obtain⟨i,rfl⟩:=Int.eq_ofNat_of_zero_le g0
 have hi:i<xs.length:=by omega
 rw[if_pos (by omega),if_pos (by omega),rd_nat xs i hi]
 exact⟨_,_,_,rfl,List.getElem_mem hi,g2,g3⟩
theorem oneI_tells (l:List Int) (a sd n:Int) (hb:byt l) (h0:0≤a) (h1:a≤4000000000):∃ v a' sd',Yj1.f l a sd n=some (v,a',sd')∧a≤a'∧a'≤a+2:=by
 unfold Yj1.f
 obtain⟨v,a',s',e,_,_,g2,g3⟩:=pick_tells l a sd n hb h0 h1
 rw[e]
 exact⟨_,_,_,rfl,g2,g3⟩
def prW (N:Nat) (W:List Int) (i:Nat):Int:=wdot 0 W (bitsFrom (i:Int) 0 N)
def prL (N:Nat) (W:List Int):List Int:=(List.range' 0 (2 ^ N)).map (prW N W)
theorem prL_length (N:Nat) (W:List Int):(prL N W).length=2 ^ N:=by simp[prL]
theorem shl_pow (N:Nat) (hN:N≤3):shl .i64 1 (N:Int)=((2 ^ N:Nat):Int):=by
 rcases (by omega:N=0∨N=1∨N=2∨N=3) with rfl|rfl|rfl|rfl <;> decide
theorem pow_le8 (N:Nat) (hN:N≤3):2 ^ N≤8:=Nat.pow_le_pow_right (n:=2) (by omega) hN
theorem productsOf_l (N:Nat) (hN:N≤3) (W:List Int) (hW:W.length=N):∀ (j i k:Nat) (acc:List Int),i+j=2 ^ N→acc.length=i→100+j<k→Jw.l0 k (N:Int) W acc ((2 ^ N:Nat):Int) (i:Int)=some (acc++(List.range' i j).map (prW N W))
|0,i,0,acc,h,ha,hk=>by omega
|0,i,k+1,acc,h,ha,hk=>by
  rw[Jw.l0,if_neg (by omega)]
  simp
|j+1,i,0,acc,h,ha,hk=>by omega
|j+1,i,k+1,acc,h,ha,hk=>by
  have h8:=pow_le8 N hN
  rw[Jw.l0,if_pos (by omega),impl_bitPoint_is k N (i:Int) (by omega) (by omega),Option.bind_some,impl_product_is k W _ (by omega) (by rw[bitsFrom_length];omega) (by omega),Option.bind_some,if_pos (by omega),w64_nat (by omega),productsOf_l N hN W hW j (i+1) k _ (by omega) (by simp;omega) (by omega)]
  simp[prW,List.range'_succ]
theorem productsOf_ev (N:Nat) (hN:N≤3) (W:List Int) (hW:W.length=N):Ev (fun k=>Jw.f k (N:Int) W) (prL N W):=by
 refine ev_of 200 fun k hk=>?_
 have h8:=pow_le8 N hN
 unfold Jw.f
 rw[if_pos (by omega),shl_pow N hN]
 have:=productsOf_l N hN W hW (2 ^ N) 0 k [] (by omega) rfl (by omega)
 rw[List.nil_append] at this
 exact this
theorem or_add:∀ j:Fin 8,∀ t:Fin 128,t.val<2 ^ j.val→Go.bits .or .i64 (t.val:Int) (shl .i64 1 (j.val:Int))=((t.val+2 ^ j.val:Nat):Int):=by decide +kernel
theorem codeL_snoc (b:Bool):∀ l:List Bool,codeL (l++[b])=codeL l+(if b=true then 2 ^ l.length else 0)
|[]=>by cases b <;> simp[codeL]
|a :: l=>by
  rw[List.cons_append,codeL,codeL,codeL_snoc b l,List.length_cons,Nat.pow_succ]
  cases b <;> simp <;> omega
theorem tab_g0 (qs:List Int) (hq:qs.length≤8) (b:Int):∀ (n j:Nat),j+n=qs.length→Ev (fun k=>Zw.g0 qs b k ((codeL (tabB (qs.take j) b):Nat):Int) (j:Int)) ((codeL (tabB qs b):Nat):Int)
|0,j,h=>by
  refine Ev.step (f:=fun _=>some ((codeL (tabB qs b):Nat):Int)) (fun k=>?_) (ev_const _)
  rw[Zw.g0,if_neg (by omega),List.take_of_length_le (by omega)]
|n+1,j,h=>by
  have hj:j<qs.length:=by omega
  have hc:=codeL_lt (tabB (qs.take j) b)
  have hl:(tabB (qs.take j) b).length=j:=by simp[tabB];omega
  rw[hl] at hc
  have h7:2 ^ j≤128:=Nat.pow_le_pow_right (n:=2) (by omega) (by omega:j≤7)
  have et:tabB (qs.take (j+1)) b=tabB (qs.take j) b++[decide (qs[j] ≥ b)]:=by
   unfold tabB;rw[List.take_succ_eq_append_getElem hj,List.map_append];rfl
  have ih:=tab_g0 qs hq b n (j+1) (by omega)
  refine Ev.step (fun k=>?_) ih
  rw[Zw.g0,if_pos (by omega),if_pos (by omega),rd_nat qs j hj,w64_nat (by omega),et,codeL_snoc,hl]
  by_cases hb:qs[j] ≥ b
  ·rw[if_pos hb,if_pos (decide_eq_true hb),or_add ⟨j,by omega⟩ ⟨codeL (tabB (qs.take j) b),by omega⟩ hc]
  ·rw[if_neg hb,if_neg (by simpa using hb)]
   rfl
theorem nodup_len:∀ (n:Nat) (s:List Int),s.Nodup→(∀ t∈s,0≤t∧t<(n:Int))→s.length≤n
|0,s,_,h=>by
  cases s with
 |nil=>exact Nat.le_refl _
 |cons t s=>have:=h t (List.mem_cons_self ..);omega
|n+1,s,hn,h=>by
  have:=nodup_len n (s.erase (n:Int)) (hn.erase _) (fun t ht=>by
   have h1:=h t (List.mem_of_mem_erase ht)
   have h2:t≠(n:Int):=fun e=>by subst e;exact(List.Nodup.not_mem_erase hn) ht
   omega)
  have h3:s.length≤(s.erase (n:Int)).length+1:=by
   by_cases hm:(n:Int)∈s
   ·rw[List.length_erase_of_mem hm];omega
   ·rw[List.erase_of_not_mem hm];omega
  omega
def Good (s:List Int):Prop:=s.Nodup∧∀ t∈s,0≤t∧t<256
theorem Good.len {s:List Int} (h:Good s):s.length≤256:=nodup_len 256 s h.1 h.2
theorem Good.ins {s:List Int} (h:Good s) {t:Int} (ht:0≤t∧t<256):Good (insL s t):=by
 unfold insL
 by_cases q:t∈s
 ·rw[if_pos q];exact h
 ·rw[if_neg q]
  exact⟨List.nodup_cons.2 ⟨q,h.1⟩,fun u hu=>by rcases List.mem_cons.1 hu with rfl|hu;exact ht;exact h.2 u hu⟩
def cdL (qs:List Int) (b:Int):Int:=((codeL (tabB qs b):Nat):Int)
theorem cdL_bd (qs:List Int) (hq:qs.length≤8) (b:Int):0≤cdL qs b∧cdL qs b<256:=by
 have h1:=codeL_lt (tabB qs b)
 have h2:(tabB qs b).length=qs.length:=by simp[tabB]
 rw[h2] at h1
 have h3:2 ^ qs.length≤256:=Nat.pow_le_pow_right (n:=2) (by omega) hq
 unfold cdL
 omega
theorem wf_small {t:Int} (h:0≤t∧t<256):(Lit.int .i64 t).wf=true:=by
 have e1:IntKind.i64.min = -9223372036854775808:=by decide
 have e2:IntKind.i64.max=9223372036854775807:=by decide
 simp only[Lit.wf,Bool.and_eq_true,decide_eq_true_eq,e1,e2]
 omega
theorem tab_l0 (N:Nat) (hN:N≤3) (W:List Int) (hW:W.length=N) (X:List Int) (hX:X.length≤100):∀ (n i:Nat) (s:List Int),i+n=X.length→Good s→Ev (fun k=>Zw.l0 (N:Int) W X k s (i:Int)) ((X.drop i).foldl (fun s b=>insL s (cdL (prL N W) b)) s)∧Good ((X.drop i).foldl (fun s b=>insL s (cdL (prL N W) b)) s)
|0,i,s,h,hs=>by
  rw[List.drop_of_length_le (by omega)]
  refine⟨Ev.step (f:=fun _=>some s) (fun k=>?_) (ev_const _),hs⟩
  rw[Zw.l0,if_neg (by omega)]
|n+1,i,s,h,hs=>by
  have hi:i<X.length:=by omega
  have h8:=pow_le8 N hN
  have hq:(prL N W).length≤8:=by rw[prL_length];exact h8
  have hb:=cdL_bd (prL N W) hq X[i]
  obtain⟨e1,e2⟩:=tab_l0 N hN W hW X hX n (i+1) (insL s (cdL (prL N W) X[i])) (by omega) (hs.ins hb)
  rw[List.drop_eq_getElem_cons hi,List.foldl_cons]
  refine⟨?_,e2⟩
  have g:=tab_g0 (prL N W) hq X[i] (prL N W).length 0 (by omega)
  refine Ev.step (f:=fun k=>(Jw.f k (N:Int) W).bind fun qs=>(Zw.g0 qs (rd X (i:Int)) k 0 0).bind fun t=>(if s.length<1000000000∧(Lit.int .i64 t).wf=true then Zw.l0 (N:Int) W X k (Zw.ins s t) (wrap64 ((i:Int)+1)) else none)) (fun k=>?_) (Ev.bind (productsOf_ev N hN W hW) (Ev.bind (a:=cdL (prL N W) X[i]) (by rw[rd_nat X i hi];exact g) ?_))
  ·rw[Zw.l0,if_pos (by omega),if_pos (by omega)]
  ·have hl:=hs.len
   refine ev_if_pos ⟨by omega,wf_small hb⟩ ?_
   rw[w64_nat (by omega)]
   exact e1
def stT (N:Nat) (s:List Int) (W:List Int):List Int:=(prL N W++[99]).foldl (fun s b=>insL s (cdL (prL N W) b)) s
theorem foldl_good (N:Nat) (hN:N≤3) (W:List Int):∀ (X:List Int) (s:List Int),Good s→Good (X.foldl (fun s b=>insL s (cdL (prL N W) b)) s)
|[],s,h=>h
|b :: X,s,h=>by
  rw[List.foldl_cons]
  exact foldl_good N hN W X _ (h.ins (cdL_bd _ (by rw[prL_length];exact pow_le8 N hN) b))
theorem tab_v (N:Nat) (hN:N≤3) (W:List Int) (hW:W.length=N) (s:List Int) (hs:Good s):Ev (fun k=>Zw.v (N:Int) k s W) (stT N s W):=by
 have h8:=pow_le8 N hN
 have hl:=prL_length N W
 unfold Zw.v
 refine Ev.bind (productsOf_ev N hN W hW) (ev_if_pos (by omega) ?_)
 have:=(tab_l0 N hN W hW (prL N W++[99]) (by simp;omega) (prL N W++[99]).length 0 s (by omega) hs).1
 rw[List.drop_zero] at this
 exact this
section
variable {σ τ:Type} (V:Nat→σ→List Int→Option σ) (U:Nat→τ→List Int→Option τ) (c:τ→σ) (hU:∀ k s S r,U k s S=some r→V k (c s) S=some (c r))
include hU
theorem sw_sub (N m:Int):∀ k s x r,Yw.l0 U N m k s x=some r→Yw.l0 V N m k (c s) x=some (c r)
|0,s,x,r,h=>by simp[Yw.l0] at h
|k+1,s,x,r,h=>by
  rw[Yw.l0] at h ⊢
  obtain⟨s1,h1,h⟩:=Option.bind_eq_some_iff.1 h
  obtain⟨q,h2,h⟩:=Option.bind_eq_some_iff.1 h
  rw[hU _ _ _ _ h1,Option.bind_some,h2,Option.bind_some]
  by_cases c1:q.2<0
  ·rw[if_pos c1] at h ⊢
   rw[Option.some.inj h]
  ·rw[if_neg c1] at h ⊢
   by_cases c2:q.2<N
   ·rw[if_pos c2] at h ⊢
    exact sw_sub N m k s1 _ r h
   ·rw[if_neg c2] at h
    exact absurd h (by simp)
theorem sw_subf (k:Nat) (s:τ) (n m:Int) (r:τ) (h:Yw.f U k s n m=some r):Yw.f V k (c s) n m=some (c r):=by
 unfold Yw.f at h ⊢
 by_cases c1:1≤n
 ·rw[if_pos c1] at h ⊢
  by_cases c2:n.toNat≤35184372088832
  ·rw[if_pos c2] at h ⊢
   obtain⟨x,h1,h⟩:=Option.bind_eq_some_iff.1 h
   rw[h1,Option.bind_some]
   exact sw_sub V U c hU n m k s x r h
  ·rw[if_neg c2] at h
   exact absurd h (by simp)
 ·rw[if_neg c1] at h
  exact absurd h (by simp)
end
theorem tablesOf_ev (N m:Nat) (hN:N≤3) (h1:1≤N) (hm:m≤1000):Ev (fun k=>Zw.f k (N:Int) (m:Int)) ((wtL m N []).foldl (stT N) []):=by
 classical
 let U:Nat→{s:List Int // Good s}→List Int→Option {s:List Int // Good s}:=fun k s S=>(Zw.v (N:Int) k s.1 S).bind fun r=>if h:Good r then some ⟨r,h⟩ else none
 let st:{s:List Int // Good s}→List Int→{s:List Int // Good s}:=fun s S=>⟨stT N s.1 S,foldl_good N hN S _ _ s.2⟩
 have hU:∀ k s S r,U k s S=some r→Zw.v (N:Int) k s.1 S=some r.1:=by
  intro k s S r h
  obtain⟨q,h1,h⟩:=Option.bind_eq_some_iff.1 h
  by_cases hg:Good q
  ·rw[dif_pos hg] at h
   rw[h1,←Option.some.inj h]
  ·rw[dif_neg hg] at h
   exact absurd h (by simp)
 have e:=impl_smallWeights_ev (V:=U) (st:=st) hm (by omega:N≤1000) h1 (fun s S hS _=>by
  obtain⟨B,hB⟩:=tab_v N hN S hS s.1 s.2
  exact⟨B,fun k hk=>by
   show (Zw.v (N:Int) k s.1 S).bind _=_
   have hB2:Zw.v (N:Int) k s.1 S=some (stT N s.1 S):=hB k hk
   rw[hB2,Option.bind_some,dif_pos (show Good (stT N s.1 S) from foldl_good N hN S _ _ s.2)]⟩) ⟨[],List.nodup_nil,by simp⟩
 have fs:∀ (L:List (List Int)) (s:{s:List Int // Good s}),(L.foldl st s).1=L.foldl (stT N) s.1:=by
  intro L
  induction L with
 |nil=>intro s;rfl
 |cons W L ih=>intro s;rw[List.foldl_cons,List.foldl_cons,ih]
 obtain⟨B,hB⟩:=e
 refine⟨B,fun k hk=>?_⟩
 have:=sw_subf (Zw.v (N:Int)) U Subtype.val hU k _ _ _ _ (hB k hk)
 rw[fs] at this
 exact this
def tI (N:Nat) (W:List Int) (b:Int) (i j:Nat):List Int:=(List.range' i j).map fun t=>if prW N W t ≥ b then(1:Int) else 0
theorem tableOf_l (N:Nat) (hN:N≤3) (W:List Int) (hW:W.length=N) (b:Int):∀ (j i k:Nat) (acc:List Int),i+j=2 ^ N→acc.length=i→100+j<k→Vx1.l0 k (N:Int) acc (i:Int) W b=some (acc++tI N W b i j)
|0,i,0,acc,h,ha,hk=>by omega
|0,i,k+1,acc,h,ha,hk=>by
  rw[Vx1.l0,shl_pow N hN,if_pos (by omega),if_neg (by omega)]
  simp[tI]
|j+1,i,0,acc,h,ha,hk=>by omega
|j+1,i,k+1,acc,h,ha,hk=>by
  have h8:=pow_le8 N hN
  have e:wrap64 (Int.tdiv (wrap64 (sideI W b (bitsFrom (i:Int) 0 N)+1)) 2)=(if prW N W i ≥ b then(1:Int) else 0):=by
   unfold sideI prW
   by_cases q:wdot 0 W (bitsFrom (i:Int) 0 N) ≥ b
   ·rw[if_pos q,if_pos q];decide +kernel
   ·rw[if_neg q,if_neg q];decide +kernel
  rw[Vx1.l0,shl_pow N hN,if_pos (by omega),if_pos (by omega),spec_l2BitPoint_is k N (i:Int) (by omega) (by omega),Option.bind_some,spec_l2Side_is k W b _ (by omega) (by rw[bitsFrom_length];omega) (by omega),Option.bind_some,if_pos (by omega),w64_nat (by omega),e,tableOf_l N hN W hW b j (i+1) k _ (by omega) (by simp;omega) (by omega)]
  simp[tI,List.range'_succ]
theorem tableOf_ev (N:Nat) (hN:N≤3) (W:List Int) (hW:W.length=N) (b:Int):Ev (fun k=>Vx1.f k (N:Int) W b) (tI N W b 0 (2 ^ N)):=by
 refine ev_of 200 fun k hk=>?_
 have h8:=pow_le8 N hN
 have:=tableOf_l N hN W hW b (2 ^ N) 0 k [] (by omega) rfl (by omega)
 rw[List.nil_append] at this
 exact this
theorem tI_tab (N:Nat) (W:List Int) (b:Int):tI N W b 0 (2 ^ N)=(tabB (prL N W) b).map fun x=>if x=true then(1:Int) else 0:=by
 unfold tI tabB prL
 rw[List.map_map,List.map_map]
 apply List.map_congr_left
 intro t _
 by_cases q:prW N W t ≥ b <;> simp[q]
def Rel (M:Nat) (seen:List Bool) (s:List Int):Prop:=seen.length=M∧∀ c:Nat,c<M→rdOf false seen (c:Int)=decide ((c:Int)∈s)
theorem rel_put {M:Nat} {seen:List Bool} {s:List Int} (h:Rel M seen s) (c:Nat) (hc:c<M):(rdOf false seen (c:Int)=true→Rel M seen (insL s (c:Int))∧(insL s (c:Int)).length=s.length)∧(rdOf false seen (c:Int)≠true→Rel M (seen.set c true) (insL s (c:Int))∧(insL s (c:Int)).length=s.length+1):=by
 have e:=h.2 c hc
 constructor
 ·intro q
  rw[q] at e
  have hm:(c:Int)∈s:=of_decide_eq_true e.symm
  unfold insL
  rw[if_pos hm]
  exact⟨h,rfl⟩
 ·intro q
  have hm:¬ (c:Int)∈s:=fun hm=>q (by rw[e];exact decide_eq_true hm)
  unfold insL
  rw[if_neg hm]
  refine⟨⟨by rw[List.length_set];exact h.1,fun d hd=>?_⟩,rfl⟩
  have e2:=h.2 d hd
  unfold rdOf at e2 ⊢
  rw[Int.toNat_natCast] at e2 ⊢
  have h1:=h.1
  by_cases hcd:d=c
  ·subst hcd
   rw[decide_eq_true (List.mem_cons_self ..),List.getD_eq_getElem?_getD,List.getElem?_set_self (by omega)]
   rfl
  ·rw[List.getD_eq_getElem?_getD,List.getElem?_set_ne (fun e=>hcd e.symm),←List.getD_eq_getElem?_getD,e2]
   apply decide_eq_decide.2
   rw[List.mem_cons]
   constructor
   ·exact .inr
   ·rintro (q|q)
    ·exact absurd (by omega) hcd
    ·exact q
theorem spec_l2_ev (x0 x1:Int) (all:List (List Int)) (i b:Int) (seen:List Bool) (s:List Int) (M:Nat) (hR:Rel M seen s) (hs:s.length≤1000) (T:List Bool) (hT:T.length≤8) (hM:2 ^ T.length=M) (hb : -100≤b∧b≤100) (r:Int×Bool) (next:∀ seen',Rel M seen' (insL s ((codeB T:Nat):Int))→Ev (fun k=>Gq1.l1 k x0 x1 seen' all ((insL s ((codeB T:Nat):Int)).length:Int) i (b+1)) r):∀ (n j:Nat),j+n=T.length→Ev (fun k=>Gq1.l2 k x0 x1 seen all (s.length:Int) i b (T.map fun x=>if x=true then(1:Int) else 0) ((codeB (T.take j):Nat):Int) (j:Int)) r
|0,j,h=>by
  have hc:=codeB_lt T
  rw[hM] at hc
  have hl:=hR.1
  obtain⟨p1,p2⟩:=rel_put hR (codeB T) hc
  by_cases q:rdOf false seen ((codeB T:Nat):Int)=true
  ·obtain⟨q1,q2⟩:=p1 q
   have:=next seen q1
   rw[q2] at this
   refine Ev.step (fun k=>?_) this
   rw[Gq1.l2,if_neg (by rw[List.length_map];omega),List.take_of_length_le (by omega),if_pos (by omega),if_pos (by omega),if_pos q,w64 (by omega) (by omega)]
  ·obtain⟨q1,q2⟩:=p2 q
   have:=next _ q1
   rw[q2] at this
   refine Ev.step (fun k=>?_) this
   rw[Gq1.l2,if_neg (by rw[List.length_map];omega),List.take_of_length_le (by omega),if_pos (by omega),if_pos (by omega),if_neg q,w64 (x:=b+1) (by omega) (by omega),Int.toNat_natCast,w64_nat (by omega)]
|n+1,j,h=>by
  have hj:j<T.length:=by omega
  have ih:=spec_l2_ev x0 x1 all i b seen s M hR hs T hT hM hb r next n (j+1) (by omega)
  have hc:=codeB_lt (T.take j)
  have hl:(T.take j).length=j:=by rw[List.length_take];omega
  rw[hl] at hc
  have h7:2 ^ j≤128:=Nat.pow_le_pow_right (n:=2) (by omega) (by omega:j≤7)
  refine Ev.step (fun k=>?_) ih
  have er:rd (T.map fun x=>if x=true then(1:Int) else 0) (j:Int)=(if T[j]=true then(1:Int) else 0):=by
   rw[rd_nat _ j (by rw[List.length_map];exact hj),List.getElem_map]
  have ec:((codeB (T.take (j+1)):Nat):Int)=2 * ((codeB (T.take j):Nat):Int)+(if T[j]=true then(1:Int) else 0):=by
   rw[List.take_succ_eq_append_getElem hj,codeB_snoc]
   cases T[j] <;> simp
  have hbit:(if T[j]=true then(1:Int) else 0)=0∨(if T[j]=true then(1:Int) else 0)=1:=by cases T[j] <;> simp
  rw[Gq1.l2,if_pos (by rw[List.length_map];omega),if_pos (by omega),er,w64 (x:=2 * _) (by omega) (by omega),w64 (x:=2 * _+_) (by omega) (by omega),←ec,w64_nat (by omega)]
def bsL (b:Int):Nat→List Int
|0=>[]
|n+1=>b :: bsL (b+1) n
theorem bsL_mem (x:Int):∀ (n:Nat) (b:Int),x∈bsL b n↔b≤x∧x<b+n
|0,b=>by simp[bsL];try omega
|n+1,b=>by
  rw[bsL,List.mem_cons,bsL_mem x n (b+1)]
  omega
def cdB (qs:List Int) (b:Int):Int:=((codeB (tabB qs b):Nat):Int)
theorem cdB_bd (qs:List Int) (hq:qs.length≤8) (b:Int):0≤cdB qs b∧cdB qs b<256:=by
 have h1:=codeB_lt (tabB qs b)
 have h2:(tabB qs b).length=qs.length:=by simp[tabB]
 rw[h2] at h1
 have h3:2 ^ qs.length≤256:=Nat.pow_le_pow_right (n:=2) (by omega) hq
 unfold cdB
 omega
def stS (N P:Nat) (s:List Int) (W:List Int):List Int:=(bsL (-(P:Int)) (2 * P+2)).foldl (fun s b=>insL s (cdB (prL N W) b)) s
theorem spec_l1_ev (N m P:Nat) (hN:N≤3) (hP:(N:Int) * (m:Int)=(P:Int)) (hP15:P≤15) (all:List (List Int)) (ha:all.length≤1000000) (i:Nat) (hi:i<all.length) (hW:all[i].length=N) (r:Int×Bool):∀ (n:Nat) (b:Int) (seen:List Bool) (s:List Int),b+n=P+2 → -100≤b→Rel (2 ^ 2 ^ N) seen s→Good s→(∀ seen',Rel (2 ^ 2 ^ N) seen' ((bsL b n).foldl (fun s b=>insL s (cdB (prL N all[i]) b)) s)→Good ((bsL b n).foldl (fun s b=>insL s (cdB (prL N all[i]) b)) s)→Ev (fun k=>Gq1.l0 k (N:Int) (m:Int) seen' all ((((bsL b n).foldl (fun s b=>insL s (cdB (prL N all[i]) b)) s).length:Nat):Int) ((i+1:Nat):Int)) r)→Ev (fun k=>Gq1.l1 k (N:Int) (m:Int) seen all (s.length:Int) (i:Int) b) r
|0,b,seen,s,h,hb,hR,hs,next=>by
  refine Ev.step (fun k=>?_) (next seen hR hs)
  rw[Gq1.l1,hP,w64 (x:=(P:Int)) (by omega) (by omega),w64 (x:=(P:Int)+1) (by omega) (by omega),if_neg (by omega),w64_nat (by omega)]
  rfl
|n+1,b,seen,s,h,hb,hR,hs,next=>by
  have h8:=pow_le8 N hN
  have hq:(prL N all[i]).length≤8:=by rw[prL_length];exact h8
  have hT:(tabB (prL N all[i]) b).length=2 ^ N:=by simp[tabB,prL]
  have e:=spec_l2_ev (N:Int) (m:Int) all (i:Int) b seen s (2 ^ 2 ^ N) hR (by have:=hs.len;omega) (tabB (prL N all[i]) b) (by omega) (by rw[hT]) ⟨hb,by omega⟩ r (fun seen' hR'=>spec_l1_ev N m P hN hP hP15 all ha i hi hW r n (b+1) seen' _ (by omega) (by omega) hR' (hs.ins (cdB_bd _ hq b)) (fun seen2 hR2 hs2=>next seen2 hR2 hs2)) (2 ^ N) 0 (by omega)
  rw[←tI_tab] at e
  have eW:rd_L1 all (i:Int)=all[i]:=by
   unfold rd_L1
   rw[Int.toNat_natCast,List.getD_eq_getElem?_getD,List.getElem?_eq_getElem hi]
   rfl
  refine Ev.step (f:=fun k=>(Vx1.f k (N:Int) all[i] b).bind fun t158=>(Gq1.l2 k (N:Int) (m:Int) seen all (s.length:Int) (i:Int) b t158 0 0)) (fun k=>?_) (Ev.bind (tableOf_ev N hN all[i] hW b) e)
  rw[Gq1.l1,hP,w64 (x:=(P:Int)) (by omega) (by omega),w64 (x:=(P:Int)+1) (by omega) (by omega),if_pos (by omega),if_pos (by omega),if_pos (by omega),eW]
theorem spec_l0_ev (N m P:Nat) (hN:N≤3) (hP:(N:Int) * (m:Int)=(P:Int)) (hP15:P≤15) (all:List (List Int)) (ha:all.length≤1000000) (hW:∀ W∈all,W.length=N):∀ (n i:Nat) (seen:List Bool) (s:List Int),i+n=all.length→Rel (2 ^ 2 ^ N) seen s→Good s→Ev (fun k=>Gq1.l0 k (N:Int) (m:Int) seen all (s.length:Int) (i:Int)) ((((all.drop i).foldl (stS N P) s).length:Int),true)
|0,i,seen,s,h,hR,hs=>by
  rw[List.drop_of_length_le (by omega)]
  refine Ev.step (f:=fun _=>some ((s.length:Int),true)) (fun k=>?_) (ev_const _)
  rw[Gq1.l0,if_neg (by omega)]
|n+1,i,seen,s,h,hR,hs=>by
  have hi:i<all.length:=by omega
  rw[List.drop_eq_getElem_cons hi,List.foldl_cons]
  have e:=spec_l1_ev N m P hN hP hP15 all ha i hi (hW _ (List.getElem_mem hi)) ((((all.drop (i+1)).foldl (stS N P) (stS N P s all[i])).length:Int),true) (2 * P+2) (-(P:Int)) seen s (by omega) (by omega) hR hs (fun seen' hR' hs'=>spec_l0_ev N m P hN hP hP15 all ha hW n (i+1) seen' _ (by omega) hR' hs')
  refine Ev.step (fun k=>?_) e
  rw[Gq1.l0,if_pos (by omega),w64 (x:=-(N:Int)) (by omega) (by omega),Int.neg_mul,hP,w64 (by omega) (by omega)]
theorem wt_memF (m d:Nat) (a:∀ b,∀ S∈wtL m d b,S.length=b.length+d∧((∀ x∈b,-(m:Int)≤x∧x≤(m:Int))→∀ x∈S,-(m:Int)≤x∧x≤(m:Int))):∀ b j i,i+j≤2 * m+1→∀ S∈wtF m d b j i,S.length=b.length+(d+1)∧((∀ x∈b,-(m:Int)≤x∧x≤(m:Int))→∀ x∈S,-(m:Int)≤x∧x≤(m:Int)):=fun b j=>by
 induction j with
|zero=>intro i _ S hS;simp[wtF] at hS
|succ j ih =>
  intro i hi S hS
  rw[wtF] at hS
  rcases List.mem_append.1 hS with hS|hS
  ·obtain⟨q1,q2⟩:=a _ S hS
   rw[List.length_append,List.length_singleton] at q1
   refine⟨by omega,fun hb=>q2 fun x hx=>?_⟩
   rcases List.mem_append.1 hx with hx|hx
   ·exact hb x hx
   ·rw[List.mem_singleton.1 hx]
    omega
  ·exact ih (i+1) (by omega) S hS
theorem wt_mem (m:Nat):∀ d b,∀ S∈wtL m d b,S.length=b.length+d∧((∀ x∈b,-(m:Int)≤x∧x≤(m:Int))→∀ x∈S,-(m:Int)≤x∧x≤(m:Int))
|0,b,S,hS=>by
  rw[wtL] at hS
  obtain rfl:=List.mem_singleton.1 hS
  exact⟨rfl,fun h=>h⟩
|d+1,b,S,hS=>by
  rw[wtL_succ] at hS
  exact wt_memF m d (wt_mem m d) b (2 * m+1) 0 (by omega) S hS
theorem shl2_pow (N:Nat) (hN:N≤3):shl .i64 1 (shl .u64 1 (N:Int))=((2 ^ 2 ^ N:Nat):Int):=by
 rcases (by omega:N=0∨N=1∨N=2∨N=3) with rfl|rfl|rfl|rfl <;> decide +kernel
theorem bits01:∀ i:Fin 8,∀ N:Fin 4,∀ y∈bitsFrom (i.val:Int) 0 N.val,y=0∨y=1:=by decide +kernel
theorem wdot_bd (m:Nat) (hm:m≤5):∀ (x y:List Int) (s:Int) (c:Nat),(∀ a∈x,-(m:Int)≤a∧a≤(m:Int))→(∀ a∈y,a=0∨a=1) → -(c:Int)≤s∧s≤(c:Int)→c+x.length * m≤1000 → -((c+x.length * m:Nat):Int)≤wdot s x y∧wdot s x y≤((c+x.length * m:Nat):Int)
|[],y,s,c,_,_,h,_=>by cases y <;> simp[wdot] <;> omega
|a :: x,[],s,c,_,_,h,hc=>by
  simp only[wdot]
  omega
|a :: x,b :: y,s,c,hx,hy,h,hc=>by
  have ha:=hx a (List.mem_cons_self ..)
  have hb:=hy b (List.mem_cons_self ..)
  rw[List.length_cons,Nat.succ_mul] at hc ⊢
  have hab : -(m:Int)≤a * b∧a * b≤(m:Int):=by rcases hb with rfl|rfl <;> simp <;> omega
  have ih:=wdot_bd m hm x y (s+a * b) (c+m) (fun u hu=>hx u (List.mem_cons_of_mem _ hu)) (fun u hu=>hy u (List.mem_cons_of_mem _ hu)) (by omega) (by omega)
  simp only[wdot]
  rw[w64 (x:=a * b) (by omega) (by omega),w64 (x:=s+a * b) (by omega) (by omega)]
  omega
theorem prL_bd (N m:Nat) (hN:N≤3) (hm:m≤5) (W:List Int) (hW:W.length=N) (hb:∀ a∈W,-(m:Int)≤a∧a≤(m:Int)):∀ p∈prL N W,-((N * m:Nat):Int)≤p∧p≤((N * m:Nat):Int):=by
 intro p hp
 unfold prL at hp
 obtain⟨i,hi,rfl⟩:=List.mem_map.1 hp
 have h8:=pow_le8 N hN
 have hi2:=(List.mem_range'_1.1 hi).2
 have h15:N * m≤3 * 5:=Nat.mul_le_mul hN hm
 have:=wdot_bd m hm W (bitsFrom (i:Int) 0 N) 0 0 hb (bits01 ⟨i,by omega⟩ ⟨N,by omega⟩) (by omega) (by rw[hW];omega)
 rw[hW,Nat.zero_add] at this
 exact this
theorem flat_ins {τ:Type} (f:List Int→List Int) (g:List Int→Int→τ) (c:τ→Int):∀ (L:List (List Int)) (s:List Int),L.foldl (fun s W=>(f W).foldl (fun s b=>insL s (c (g W b))) s) s=((L.flatMap fun W=>(f W).map (g W)).map c).foldl insL s
|[],s=>rfl
|W :: L,s=>by
  rw[List.foldl_cons,flat_ins f g c L,List.flatMap_cons,List.map_append,List.foldl_append,List.map_map]
  congr 1
  rw[List.foldl_map]
  rfl
theorem counts (N m:Nat) (hN:N≤3) (hm:m≤5):((wtL m N []).foldl (stT N) []).length=((wtL m N []).foldl (stS N (N * m)) []).length:=by
 have e1:=flat_ins (fun W=>prL N W++[99]) (fun W b=>tabB (prL N W) b) (fun T=>((codeL T:Nat):Int)) (wtL m N []) []
 have e2:=flat_ins (fun W=>bsL (-((N * m:Nat):Int)) (2 * (N * m)+2)) (fun W b=>tabB (prL N W) b) (fun T=>((codeB T:Nat):Int)) (wtL m N []) []
 have h15:N * m≤3 * 5:=Nat.mul_le_mul hN hm
 have hl:∀ (W:List Int) (b:Int),(tabB (prL N W) b).length=2 ^ N:=fun W b=>by simp[tabB,prL]
 refine(congrArg List.length e1).trans (Eq.trans ?_ (congrArg List.length e2).symm)
 refine insL_same _ _ (fun T=>T.length=2 ^ N) (fun x y hx hy h=>codeL_inj x y (by rw[hx,hy]) (by omega)) (fun x y hx hy h=>codeB_inj x y (by rw[hx,hy]) (by omega)) _ _ ?_ ?_ ?_
 ·intro T hT
  obtain⟨W,_,hT⟩:=List.mem_flatMap.1 hT
  obtain⟨b,_,rfl⟩:=List.mem_map.1 hT
  exact hl W b
 ·intro T hT
  obtain⟨W,_,hT⟩:=List.mem_flatMap.1 hT
  obtain⟨b,_,rfl⟩:=List.mem_map.1 hT
  exact hl W b
 ·intro T
  rw[List.mem_flatMap,List.mem_flatMap]
  have hp:∀ W∈wtL m N [],∀ p∈prL N W,-((N * m:Nat):Int)≤p∧p≤((N * m:Nat):Int):=fun W hW=>by
   obtain⟨q1,q2⟩:=wt_mem m N [] W hW
   exact prL_bd N m hN hm W (by simpa using q1) (q2 (by simp))
  constructor
  ·rintro⟨W,hW,hT⟩
   obtain⟨b,hb,rfl⟩:=List.mem_map.1 hT
   have hq:=hp W hW
   refine⟨W,hW,?_⟩
   rcases List.mem_append.1 hb with hb|hb
   ·have:=hq b hb
    exact List.mem_map.2 ⟨b,(bsL_mem _ _ _).2 (by omega),rfl⟩
   ·obtain rfl:=List.mem_singleton.1 hb
    refine List.mem_map.2 ⟨((N * m:Nat):Int)+1,(bsL_mem _ _ _).2 (by omega),?_⟩
    unfold tabB
    apply List.map_congr_left
    intro p hp'
    have:=hq p hp'
    rw[decide_eq_false (by omega),decide_eq_false (by omega)]
  ·rintro⟨W,hW,hT⟩
   obtain⟨b,hb,rfl⟩:=List.mem_map.1 hT
   have hb2:=(bsL_mem _ _ _).1 hb
   obtain⟨b',h1,h2⟩:=tabB_low (prL N W) b 99 (fun p hp'=>by have:=hp W hW p hp';omega) (by omega)
   exact⟨W,hW,List.mem_map.2 ⟨b',h1,h2.symm⟩⟩
theorem in_is (a b c:Int):spec_l1In.f a b c=some (decide (b≤a∧a≤c))∧Vw.f a b c=some (decide (b≤a∧a≤c)):=by
 unfold spec_l1In.f Vw.f
 by_cases h:a ≥ b
 ·rw[if_pos h]
  have:decide (b≤a∧a≤c)=decide (a≤c):=decide_eq_decide.2 ⟨fun q=>q.2,fun q=>⟨h,q⟩⟩
  rw[this]
  exact⟨rfl,rfl⟩
 ·rw[if_neg h]
  have:decide (b≤a∧a≤c)=false:=decide_eq_false (fun q=>h q.1)
  rw[this]
  exact⟨rfl,rfl⟩
theorem two_len {l:List Int} {a b:Int} (ha:a∈l) (hb:b∈l) (h:a≠b):2≤l.length:=by
 match l,ha,hb with
|[],ha,_=>simp at ha
|[x],ha,hb=>rw[List.mem_singleton.1 ha,List.mem_singleton.1 hb] at h;exact absurd rfl h
|x :: y :: l,_,_=>simp
theorem tables_bd (N m:Nat) (hN:N≤3) (hm:m≤5):2≤((wtL m N []).foldl (stT N) []).length∧((wtL m N []).foldl (stT N) []).length≤2 ^ 2 ^ N:=by
 have e1:(wtL m N []).foldl (stT N) []=(((wtL m N []).flatMap fun W=>(prL N W++[99]).map (tabB (prL N W))).map fun T=>((codeL T:Nat):Int)).foldl insL []:=flat_ins (fun W=>prL N W++[99]) (fun W b=>tabB (prL N W) b) (fun T=>((codeL T:Nat):Int)) (wtL m N []) []
 have mem:∀ x,x∈(wtL m N []).foldl (stT N) []↔x∈((wtL m N []).flatMap fun W=>(prL N W++[99]).map (tabB (prL N W))).map fun T=>((codeL T:Nat):Int):=fun x=>by
  rw[e1,insL_mem]
  simp only[List.not_mem_nil,false_or]
 have nd:((wtL m N []).foldl (stT N) []).Nodup:=by
  rw[e1]
  exact insL_nodup _ _ List.nodup_nil
 have hp:∀ W∈wtL m N [],∀ p∈prL N W,p<99:=fun W hW p hp=>by
  obtain⟨q1,q2⟩:=wt_mem m N [] W hW
  have h15:N * m≤3 * 5:=Nat.mul_le_mul hN hm
  have:=prL_bd N m hN hm W (by simpa using q1) (q2 (by simp)) p hp
  omega
 constructor
 ·have pos:0<(wtL m N []).length:=by
   rw[(wt_len m N).1]
   exact Nat.pow_pos (by omega)
  obtain⟨W,hW⟩:∃ W,W∈wtL m N []:=⟨_,List.getElem_mem pos⟩
  have lp:0<(prL N W).length:=by
   rw[prL_length]
   exact Nat.pow_pos (by omega)
  obtain⟨p,t,ept⟩:∃ p t,prL N W=p :: t:=by
   match prL N W,lp with
  |p :: t,_=>exact⟨p,t,rfl⟩
  have p99:=hp W hW p (by rw[ept];exact List.mem_cons_self ..)
  have inn:∀ b∈prL N W++[99],((codeL (tabB (prL N W) b):Nat):Int)∈(wtL m N []).foldl (stT N) []:=fun b hb=>(mem _).2 (List.mem_map.2 ⟨_,List.mem_flatMap.2 ⟨W,hW,List.mem_map.2 ⟨b,hb,rfl⟩⟩,rfl⟩)
  refine two_len (inn p (List.mem_append.2 (.inl (by rw[ept];exact List.mem_cons_self ..)))) (inn 99 (List.mem_append.2 (.inr (by simp)))) fun e=>?_
  rw[ept] at e
  simp only[tabB,List.map_cons,codeL,decide_eq_true (show p ≥ p by omega),decide_eq_false (show ¬ p ≥ 99 by omega)] at e
  simp only[if_true,Bool.false_eq_true,if_false] at e
  omega
 ·refine nodup_len _ _ nd fun t ht=>?_
  obtain⟨T,hT,rfl⟩:=List.mem_map.1 ((mem t).1 ht)
  obtain⟨W,_,hT⟩:=List.mem_flatMap.1 hT
  obtain⟨b,_,rfl⟩:=List.mem_map.1 hT
  have:=codeL_lt (tabB (prL N W) b)
  have hl:(tabB (prL N W) b).length=2 ^ N:=by simp[tabB,prL]
  rw[hl] at this
  show (0:Int)≤_∧_
  omega
theorem tables_full (n m:Int):∃ (t:Int) (b:Bool),Ev (fun k=>Yk.f k n m) (t,b)∧Ev (fun k=>Gq1.f k n m) (t,b)∧(b=true→∃ N:Nat,n=(N:Int)∧N≤3∧2≤t∧t≤((2 ^ 2 ^ N:Nat):Int)):=by
 by_cases c1:1≤n∧n≤3
 ·by_cases c2:0≤m∧m≤5
  ·obtain⟨N,rfl⟩:=Int.eq_ofNat_of_zero_le (show 0≤n by omega)
   obtain⟨M,rfl⟩:=Int.eq_ofNat_of_zero_le c2.1
   have hN:N≤3:=by omega
   have hM:M≤5:=by omega
   have h15:N * M≤3 * 5:=Nat.mul_le_mul hN hM
   have hpw:(2 * M+1) ^ N≤11 ^ 3:=Nat.le_trans (Nat.pow_le_pow_left (by omega) N) (Nat.pow_le_pow_right (by omega) hN)
   have hK:2 ^ 2 ^ N≤2 ^ 8:=Nat.pow_le_pow_right (by omega) (pow_le8 N hN)
   have hpos:0<2 ^ 2 ^ N:=Nat.pow_pos (by omega)
   have bd:=tables_bd N M hN hM
   rw[counts N M hN hM] at bd
   refine⟨(((wtL M N []).foldl (stS N (N * M)) []).length:Int),true,?_,?_,fun _=>⟨N,rfl,hN,by omega,by omega⟩⟩
   ·rw[←counts N M hN hM]
    have e1:=Ev.bind (tablesOf_ev N M hN (by omega) (by omega)) (f:=fun(_:Nat) (s:List Int)=>some ((s.length:Int),true)) (ev_const _)
    refine Ev.congr (fun k=>?_) e1
    unfold Yk.f
    rw[(in_is _ _ _).2,Option.bind_some,if_pos (decide_eq_true c1),(in_is _ _ _).2,Option.bind_some,if_pos (decide_eq_true c2)]
   ·have e0:=spec_l0_ev N M (N * M) hN (by push_cast;rfl) (by omega) (wtL M N []) (by rw[(wt_len M N).1];omega) (fun W hW=>by have:=(wt_mem M N [] W hW).1;simpa using this) (wtL M N []).length 0 (List.replicate (2 ^ 2 ^ N) false) [] (by omega) ⟨by simp,fun c hc=>by unfold rdOf;rw[Int.toNat_natCast,List.getD_eq_getElem?_getD,List.getElem?_replicate,if_pos hc];simp⟩ ⟨List.nodup_nil,by simp⟩
    rw[List.drop_zero] at e0
    have e1:Ev (fun k=>Gq1.j0 k (N:Int) (M:Int) false) ((((wtL M N []).foldl (stS N (N * M)) []).length:Int),true):=by
     refine Ev.step (f:=fun k=>(Kv1.f k (N:Int) (M:Int) []).bind fun t154=>Gq1.l0 k (N:Int) (M:Int) (List.replicate (2 ^ 2 ^ N) false) t154 0 0) (fun k=>?_) (Ev.bind (l4w_ev N M (by omega) (by omega) N [] (by omega) (by simp)) e0)
     rw[Gq1.j0,if_neg (by simp),if_pos (by omega),shl2_pow N hN,if_pos (by omega),Int.toNat_natCast,if_pos (by omega)]
    refine Ev.congr (fun k=>?_) e1
    unfold Gq1.f
    rw[(in_is _ _ _).1,Option.bind_some,if_pos (decide_eq_true c1),(in_is _ _ _).1,Option.bind_some,decide_eq_true c2]
    rfl
  ·refine⟨0,false,ev_of 0 fun k _=>?_,Ev.step (f:=fun _=>some (0,false)) (fun k=>?_) (ev_const _),fun h=>by simp at h⟩
   ·unfold Yk.f
    rw[(in_is _ _ _).2,Option.bind_some,if_pos (decide_eq_true c1),(in_is _ _ _).2,Option.bind_some,if_neg (by simpa using c2)]
   ·unfold Gq1.f
    rw[(in_is _ _ _).1,Option.bind_some,if_pos (decide_eq_true c1),(in_is _ _ _).1,Option.bind_some,decide_eq_false c2]
    simp[Gq1.j0]
 ·refine⟨0,false,ev_of 0 fun k _=>?_,Ev.step (f:=fun _=>some (0,false)) (fun k=>?_) (ev_const _),fun h=>by simp at h⟩
  ·unfold Yk.f
   rw[(in_is _ _ _).2,Option.bind_some,if_neg (by simpa using c1)]
  ·unfold Gq1.f
   rw[(in_is _ _ _).1,Option.bind_some,if_neg (by simpa using c1)]
   simp[Gq1.j0]
def cn:Nat→(Nat→Bool)→Nat
|0,_=>0
|n+1,s=>cn n s+(if s n=true then 1 else 0)
theorem cn_le:∀ (n:Nat) (s:Nat→Bool),cn n s≤n
|0,_=>Nat.le_refl _
|n+1,s=>by
  have:=cn_le n s
  simp only[cn]
  split <;> omega
theorem cn_congr:∀ {n:Nat} {s t:Nat→Bool},(∀ k,k<n→s k=t k)→cn n s=cn n t
|0,_,_,_=>rfl
|n+1,s,t,h=>by
  simp only[cn]
  rw[cn_congr (n:=n) fun k hk=>h k (by omega),h n (by omega)]
theorem cn_mono:∀ {n:Nat} {s t:Nat→Bool},(∀ k,k<n→s k=true→t k=true)→cn n s≤cn n t
|0,_,_,_=>Nat.le_refl _
|n+1,s,t,h=>by
  have a:=cn_mono (n:=n) fun k hk=>h k (by omega)
  have b:=h n (by omega)
  simp only[cn]
  split
  ·rw[if_pos (b (by assumption))]
   omega
  ·omega
theorem cn_pos:∀ {n:Nat} {s:Nat→Bool},0<cn n s→∃ k,k<n∧s k=true
|0,s,h=>by simp[cn] at h
|n+1,s,h=>by
  by_cases c:s n=true
  ·exact⟨n,by omega,c⟩
  ·simp only[cn,if_neg c,Nat.add_zero] at h
   obtain⟨k,h1,h2⟩:=cn_pos h
   exact⟨k,by omega,h2⟩
def but (s:Nat→Bool) (i:Nat):Nat→Bool:=fun k=>s k && !(k == i)
theorem but_true {s:Nat→Bool} {i k:Nat}:but s i k=true↔s k=true∧k≠i:=by simp[but]
theorem cn_but:∀ {n:Nat} {s:Nat→Bool} {i:Nat},i<n→s i=true→cn n (but s i)+1=cn n s
|0,_,_,h,_=>by omega
|n+1,s,i,h,hs=>by
  simp only[cn]
  by_cases e:i=n
  ·subst e
   rw[if_neg (by simp[but]),if_pos hs,cn_congr (n:=i) (s:=but s i) (t:=s) fun k hk=>by simp[but];intro _;omega]
  ·have:=cn_but (n:=n) (s:=s) (i:=i) (by omega) hs
   have q:but s i n=s n:=by
    have:(n == i)=false:=beq_eq_false_iff_ne.2 (fun q=>e q.symm)
    simp[but,this]
   rw[q]
   omega
theorem cn_sub:∀ {n:Nat} {s:Nat→Bool} {m:Nat},m≤cn n s→∃ t:Nat→Bool,(∀ k,t k=true→s k=true)∧cn n t=m
|n,s,m,h=>by
  by_cases c:cn n s=m
  ·exact⟨s,fun _ h=>h,c⟩
  ·obtain⟨i,h1,h2⟩:=cn_pos (n:=n) (s:=s) (by omega)
   have e:=cn_but h1 h2
   obtain⟨t,t1,t2⟩:=cn_sub (n:=n) (s:=but s i) (m:=m) (by omega)
   exact⟨t,fun k hk=>(but_true.1 (t1 k hk)).1,t2⟩
 termination_by n s=>cn n s
theorem rel:∀ (E:List (Nat→Int)) (n:Nat) (s:Nat→Bool),E.length<cn n s→∃ c:Nat→Int,(∃ k,k<n∧c k≠0)∧(∀ k,s k=false→c k=0)∧∀ e∈E,sm n (fun k=>c k * e k)=0
|[],n,s,h=>by
  obtain⟨i,h1,h2⟩:=cn_pos (n:=n) (s:=s) (by simpa using h)
  refine⟨fun k=>if k=i then 1 else 0,⟨i,h1,by simp⟩,fun k hk=>if_neg fun e=>?_,fun e he=>by simp at he⟩
  rw[e,h2] at hk
  simp at hk
|e :: E,n,s,h=>by
  have h:E.length+1<cn n s:=h
  by_cases c:∃ i,i<n∧s i=true∧e i≠0
  ·obtain⟨i,h1,h2,h3⟩:=c
   have q:=cn_but h1 h2
   obtain⟨c,⟨k0,k1,k2⟩,c2,c3⟩:=rel (E.map fun f=>fun k=>e i * f k - e k * f i) n (but s i) (by rw[List.length_map];omega)
   have ci:c i=0:=c2 i (by simp[but])
   obtain⟨T,hT⟩:∃ T,T=sm n (fun k=>c k * e k):=⟨_,rfl⟩
   have val:∀ f:Nat→Int,sm n (fun k=>(e i * c k+(if k=i then -T else 0)) * f k)=e i * sm n (fun k=>c k * f k) - T * f i:=fun f=>by
    have e1:sm n (fun k=>(e i * c k+(if k=i then -T else 0)) * f k)=sm n (fun k=>e i * (c k * f k)+(if k=i then -(T * f i) else 0)):=sm_congr fun k _=>by
     by_cases q:k=i
     ·subst q
      rw[if_pos rfl,if_pos rfl]
      grind
     ·rw[if_neg q,if_neg q]
      grind
    rw[e1,sm_add,sm_mul,sm_single (f:=fun k=>if k=i then -(T * f i) else 0) h1 fun k _ hk=>if_neg hk]
    show e i * sm n (fun k=>c k * f k)+(if i=i then -(T * f i) else 0)=_
    rw[if_pos rfl]
    omega
   refine⟨fun k=>e i * c k+(if k=i then -T else 0),⟨k0,k1,?_⟩,fun k hk=>?_,fun f hf=>?_⟩
   ·have:k0≠i:=fun q=>k2 (by rw[q];exact ci)
    show e i * c k0+(if k0=i then -T else 0)≠0
    rw[if_neg this,Int.add_zero]
    exact Int.mul_ne_zero h3 k2
   ·have hne:k≠i:=fun q=>by rw[q,h2] at hk;simp at hk
    show e i * c k+(if k=i then -T else 0)=0
    rw[if_neg hne,c2 k (by simp[but,hk])]
    omega
   ·rw[val]
    rcases List.mem_cons.1 hf with rfl|hf
    ·rw[←hT,Int.mul_comm]
     omega
    ·have:=c3 _ (List.mem_map.2 ⟨f,hf,rfl⟩)
     have e2:sm n (fun k=>c k * (e i * f k - e k * f i))=sm n (fun k=>e i * (c k * f k) + -(f i) * (c k * e k)):=sm_congr fun k _=>by grind
     rw[e2,sm_add,sm_mul,sm_mul,←hT] at this
     grind
  ·obtain⟨c',d1,d2,d3⟩:=rel E n s (by omega)
   refine⟨c',d1,d2,fun f hf=>?_⟩
   rcases List.mem_cons.1 hf with rfl|hf
   ·refine sm_zero fun k hk=>?_
    by_cases q:s k=true
    ·have:f k=0:=Classical.byContradiction fun z=>c ⟨k,hk,q,z⟩
     rw[this,Int.mul_zero]
    ·rw[d2 k (Bool.eq_false_iff.2 q),Int.zero_mul]
   ·exact d3 f hf
 termination_by E=>E.length
def Rl (m n:Nat) (v:Nat→Nat→Int) (c:Nat→Int):Prop:=∀ x,x<m→sm n (fun k=>c k * v k x)=0
theorem rel_vec {m n:Nat} (v:Nat→Nat→Int) {s:Nat→Bool} (h:m<cn n s):∃ c:Nat→Int,(∃ k,k<n∧c k≠0)∧(∀ k,s k=false→c k=0)∧Rl m n v c:=by
 obtain⟨c,h1,h2,h3⟩:=rel ((List.range m).map fun x=>fun k=>v k x) n s (by simpa using h)
 exact⟨c,h1,h2,fun x hx=>h3 _ (List.mem_map.2 ⟨x,List.mem_range.2 hx,rfl⟩)⟩
def dt (m:Nat) (w u:Nat→Int):Int:=sm m (fun x=>w x * u x)
theorem sm_dt {m n:Nat} (v:Nat→Nat→Int) (c w:Nat→Int):sm n (fun k=>c k * dt m w (v k))=sm m (fun x=>w x * sm n (fun k=>c k * v k x)):=by
 have e:sm n (fun k=>c k * dt m w (v k))=sm n (fun k=>sm m (fun x=>c k * (w x * v k x))):=sm_congr fun k _=>by
  unfold dt
  rw[sm_mul]
 rw[e,sm_swap]
 exact sm_congr fun x _=>by
  rw[←sm_mul]
  exact sm_congr fun k _=>by grind
theorem rl_dt {m n:Nat} {v:Nat→Nat→Int} {c:Nat→Int} (h:Rl m n v c) (w:Nat→Int):sm n (fun k=>c k * dt m w (v k))=0:=by
 rw[sm_dt]
 exact sm_zero fun x hx=>by rw[h x hx,Int.mul_zero]
theorem rel_plane {m n:Nat} (v:Nat→Nat→Int) {s:Nat→Bool} (h:m≤cn n s) {w:Nat→Int} {x0:Nat} (hx:x0<m) (hw:w x0≠0) (hz:∀ k,k<n→s k=true→dt m w (v k)=0):∃ c:Nat→Int,(∃ k,k<n∧c k≠0)∧(∀ k,s k=false→c k=0)∧Rl m n v c:=by
 have hl:(((List.range m).erase x0).map fun x=>fun k=>v k x).length<cn n s:=by
  rw[List.length_map,List.length_erase_of_mem (List.mem_range.2 hx),List.length_range]
  omega
 obtain⟨c,h1,h2,h3⟩:=rel _ n s hl
 have h4:∀ x,x<m→x≠x0→sm n (fun k=>c k * v k x)=0:=fun x hxm hne=>h3 _ (List.mem_map.2 ⟨x,(List.mem_erase_of_ne hne).2 (List.mem_range.2 hxm),rfl⟩)
 refine⟨c,h1,h2,fun x hxm=>?_⟩
 by_cases e:x=x0
 ·have z:sm n (fun k=>c k * dt m w (v k))=0:=sm_zero fun k hk=>by
   by_cases q:s k=true
   ·rw[hz k hk q,Int.mul_zero]
   ·rw[h2 k (Bool.eq_false_iff.2 q),Int.zero_mul]
  rw[sm_dt,sm_single hx fun y hy hne=>by rw[h4 y hy hne,Int.mul_zero]] at z
  rw[e]
  exact(Int.mul_eq_zero.1 z).resolve_left hw
 ·exact h4 x hxm e
def Hard (m n:Nat) (v:Nat→Nat→Int):Prop:=∃ c:Nat→Int,(∀ k,k<n→0≤c k)∧(∃ k,k<n∧c k≠0)∧Rl m n v c
def supp (c:Nat→Int):Nat→Bool:=fun k=>decide (c k≠0)
theorem supp_true {c:Nat→Int} {k:Nat}:supp c k=true↔c k≠0:=by simp[supp]
theorem cn_less {n:Nat} {s t:Nat→Bool} (h:∀ k,k<n→s k=true→t k=true) {i:Nat} (hi:i<n) (ht:t i=true) (hs:s i=false):cn n s<cn n t:=by
 have a:=cn_mono (n:=n) (s:=s) (t:=but t i) fun k hk q=>but_true.2 ⟨h k hk q,fun e=>by rw[e,hs] at q;simp at q⟩
 have b:=cn_but hi ht
 omega
theorem hard_least {m n:Nat} {v:Nat→Nat→Int} (h:Hard m n v):∃ c:Nat→Int,(∀ k,k<n→0≤c k)∧(∃ k,k<n∧c k≠0)∧Rl m n v c∧∀ c':Nat→Int,(∀ k,k<n→0≤c' k)→(∃ k,k<n∧c' k≠0)→Rl m n v c'→cn n (supp c)≤cn n (supp c'):=by
 have go:∀ (N:Nat) (c:Nat→Int),cn n (supp c)≤N→(∀ k,k<n→0≤c k)→(∃ k,k<n∧c k≠0)→Rl m n v c→∃ c:Nat→Int,(∀ k,k<n→0≤c k)∧(∃ k,k<n∧c k≠0)∧Rl m n v c∧∀ c':Nat→Int,(∀ k,k<n→0≤c' k)→(∃ k,k<n∧c' k≠0)→Rl m n v c'→cn n (supp c)≤cn n (supp c'):=by
  intro N
  induction N with
 |zero =>
   intro c h0 h1 h2 h3
   exact⟨c,h1,h2,h3,fun c' _ _ _=>by omega⟩
 |succ N ih =>
   intro c h0 h1 h2 h3
   by_cases q:∃ c':Nat→Int,(∀ k,k<n→0≤c' k)∧(∃ k,k<n∧c' k≠0)∧Rl m n v c'∧cn n (supp c')<cn n (supp c)
   ·obtain⟨c',a1,a2,a3,a4⟩:=q
    exact ih c' (by omega) a1 a2 a3
   ·refine⟨c,h1,h2,h3,fun c' a1 a2 a3=>?_⟩
    apply Classical.byContradiction
    intro z
    exact q ⟨c',a1,a2,a3,by omega⟩
 obtain⟨c,h1,h2,h3⟩:=h
 exact go _ c (Nat.le_refl _) h1 h2 h3
theorem most_at (n:Nat) (c x:Nat→Int) (hc:∀ k,k<n→0≤c k):(∃ k,k<n∧c k≠0)→∃ i,i<n∧0<c i∧∀ k,k<n→0<c k→x k * c i≤x i * c k:=by
 induction n with
|zero=>rintro⟨k,hk,_⟩;omega
|succ n ih =>
  rintro⟨k,hk,hne⟩
  have hn:=hc n (by omega)
  by_cases q:∃ k,k<n∧c k≠0
  ·obtain⟨i,h1,h2,h3⟩:=ih (fun k hk=>hc k (by omega)) q
   by_cases z:0<c n∧x i * c n<x n * c i
   ·refine⟨n,by omega,z.1,fun k hk hck=>?_⟩
    by_cases e:k=n
    ·rw[e]
     exact Int.le_refl _
    ·have a:=h3 k (by omega) hck
     have b1:x k * c i * c n≤x i * c k * c n:=Int.mul_le_mul_of_nonneg_right a hn
     have b2:x i * c n * c k≤x n * c i * c k:=Int.mul_le_mul_of_nonneg_right (by omega) (by omega)
     have e1:x i * c k * c n=x i * c n * c k:=by grind
     have b3:x k * c n * c i≤x n * c k * c i:=by
      have f1:x k * c n * c i=x k * c i * c n:=by grind
      have f2:x n * c k * c i=x n * c i * c k:=by grind
      rw[f1,f2]
      omega
     exact Int.le_of_mul_le_mul_right b3 h2
   ·refine⟨i,by omega,h2,fun k hk hck=>?_⟩
    by_cases e:k=n
    ·subst e
     apply Classical.byContradiction
     intro w
     exact z ⟨hck,by omega⟩
    ·exact h3 k (by omega) hck
  ·have e:k=n:=by
    apply Classical.byContradiction
    intro e
    exact q ⟨k,by omega,hne⟩
   subst e
   refine⟨k,by omega,by omega,fun j hj hcj=>?_⟩
   by_cases e:j=k
   ·rw[e]
    exact Int.le_refl _
   ·exact absurd ⟨j,by omega,by omega⟩ q
theorem rl_lin {m n:Nat} {v:Nat→Nat→Int} {c d:Nat→Int} (hc:Rl m n v c) (hd:Rl m n v d) (a b:Int):Rl m n v (fun k=>a * c k+b * d k):=fun x hx=>by
 have e:sm n (fun k=>(a * c k+b * d k) * v k x)=sm n (fun k=>a * (c k * v k x)+b * (d k * v k x)):=sm_congr fun k _=>by grind
 rw[e,sm_add,sm_mul,sm_mul,hc x hx,hd x hx]
 omega
theorem least_one {m n:Nat} {v:Nat→Nat→Int} {c:Nat→Int} (h1:∀ k,k<n→0≤c k) (h2:∃ k,k<n∧c k≠0) (h3:Rl m n v c) (h4:∀ c':Nat→Int,(∀ k,k<n→0≤c' k)→(∃ k,k<n∧c' k≠0)→Rl m n v c'→cn n (supp c)≤cn n (supp c'))
  {x:Nat→Int} (hx:Rl m n v x) (hs:∀ k,k<n→c k=0→x k=0):∃ a b:Int,a≠0∧∀ k,k<n→a * x k=b * c k:=by
 obtain⟨i,i1,i2,i3⟩:=most_at n c x h1 h2
 have y0:∀ k,k<n→0≤x i * c k + -(c i) * x k:=fun k hk=>by
  by_cases q:c k=0
  ·rw[q,hs k hk q]
   omega
  ·have:=i3 k hk (by have:=h1 k hk;omega)
   have e : -(c i) * x k = -(x k * c i):=by grind
   omega
 have yr:=rl_lin h3 hx (x i) (-(c i))
 refine⟨c i,x i,by omega,fun k hk=>?_⟩
 apply Classical.byContradiction
 intro z
 have:=h4 _ y0 ⟨k,hk,by
  have e:x i * c k + -(c i) * x k=x i * c k - c i * x k:=by grind
  rw[e]
  omega⟩ yr
 have l:=cn_less (n:=n) (s:=supp fun k=>x i * c k + -(c i) * x k) (t:=supp c) (fun k hk q=>supp_true.2 fun e=>by
  have:=supp_true.1 q
  rw[e,hs k hk e] at this
  omega) i1 (supp_true.2 (by omega)) (by
   have:¬ supp (fun k=>x i * c k + -(c i) * x k) i=true:=fun q=>(supp_true.1 q) (by grind)
   exact Bool.eq_false_iff.2 this)
 omega
theorem least_few {m n:Nat} {v:Nat→Nat→Int} {c:Nat→Int} (h1:∀ k,k<n→0≤c k) (h2:∃ k,k<n∧c k≠0) (h3:Rl m n v c) (h4:∀ c':Nat→Int,(∀ k,k<n→0≤c' k)→(∃ k,k<n∧c' k≠0)→Rl m n v c'→cn n (supp c)≤cn n (supp c')):cn n (supp c)≤m+1:=by
 apply Classical.byContradiction
 intro z
 obtain⟨i,hi,hci⟩:=h2
 have q:=cn_but hi (supp_true.2 hci)
 obtain⟨x,⟨k,k1,k2⟩,x2,x3⟩:=rel_vec v (s:=but (supp c) i) (m:=m) (n:=n) (by omega)
 have xs:∀ k,c k=0→x k=0:=fun k hk=>x2 k (by
  have:supp c k=false:=Bool.eq_false_iff.2 fun q=>supp_true.1 q hk
  simp[but,this])
 obtain⟨a,b,ha,e⟩:=least_one h1 ⟨i,hi,hci⟩ h3 h4 x3 fun k _ hk=>xs k hk
 have xi:x i=0:=x2 i (by simp[but])
 have ei:=e i hi
 rw[xi,Int.mul_zero] at ei
 have b0:b=0:=(Int.mul_eq_zero.1 ei.symm).resolve_right hci
 have ek:=e k k1
 rw[b0,Int.zero_mul] at ek
 exact k2 ((Int.mul_eq_zero.1 ek).resolve_left ha)
namespace Cover
def cnt:Nat→(List Bool→Bool)→Nat
|0,p=>if p []=true then 1 else 0
|n+1,p=>cnt n (fun l=>p (false :: l))+cnt n (fun l=>p (true :: l))
theorem cnt_mono:∀ (n:Nat) (p q:List Bool→Bool),(∀ l,l.length=n→p l=true→q l=true)→cnt n p≤cnt n q
|0,p,q,h=>by
  simp only[cnt]
  by_cases hp:p []=true
  ·rw[if_pos hp,if_pos (h [] rfl hp)];exact Nat.le_refl _
  ·rw[if_neg hp];exact Nat.zero_le _
|n+1,p,q,h=>by
  simp only[cnt]
  exact Nat.add_le_add (cnt_mono n _ _ fun l hl=>h _ (by simp[hl])) (cnt_mono n _ _ fun l hl=>h _ (by simp[hl]))
theorem cnt_congr (n:Nat) (p q:List Bool→Bool) (h:∀ l,l.length=n→p l=q l):cnt n p=cnt n q :=
 Nat.le_antisymm (cnt_mono n _ _ fun l hl hp=>by rw[←h l hl];exact hp) (cnt_mono n _ _ fun l hl hp=>by rw[h l hl];exact hp)
theorem cnt_or_and:∀ (n:Nat) (p q:List Bool→Bool),cnt n (fun l=>p l || q l)+cnt n (fun l=>p l && q l)=cnt n p+cnt n q
|0,p,q=>by
  simp only[cnt]
  by_cases a:p []=true <;> by_cases b:q []=true <;> simp[a,b]
|n+1,p,q=>by
  simp only[cnt]
  have a:=cnt_or_and n (fun l=>p (false :: l)) (fun l=>q (false :: l))
  have b:=cnt_or_and n (fun l=>p (true :: l)) (fun l=>q (true :: l))
  omega
theorem cnt_not:∀ (n:Nat) (p:List Bool→Bool),cnt n (fun l=>p (l.map (!·)))=cnt n p
|0,p=>rfl
|n+1,p=>by
  simp only[cnt]
  have a:=cnt_not n (fun l=>p (false :: l))
  have b:=cnt_not n (fun l=>p (true :: l))
  simp only[List.map_cons,Bool.not_false,Bool.not_true] at *
  omega
def bsum:Nat→Nat→Nat
|0,_=>1
|n+1,0=>bsum n 0
|n+1,d+1=>bsum n (d+1)+bsum n d
def Sh:Nat→(List Bool→Bool)→Nat→Prop
|0,p,0=>p []=true
|0,_,_+1=>False
|n+1,p,0=>Sh n (fun l=>p (false :: l) || p (true :: l)) 0
|n+1,p,k+1=>Sh n (fun l=>p (false :: l) || p (true :: l)) (k+1)∨Sh n (fun l=>p (false :: l) && p (true :: l)) k
theorem cnt_zero_of:∀ (n:Nat) (p:List Bool→Bool),¬ Sh n p 0→cnt n p=0
|0,p,h=>by unfold cnt;rw[if_neg (by unfold Sh at h;exact h)]
|n+1,p,h=>by
  unfold Sh at h
  have a:=cnt_zero_of n _ h
  have b:=cnt_or_and n (fun l=>p (false :: l)) (fun l=>p (true :: l))
  have c:cnt n (fun l=>p (false :: l) && p (true :: l))≤cnt n (fun l=>p (false :: l) || p (true :: l)) :=
   cnt_mono n _ _ fun l _ h=>by simp at h ⊢;exact .inl h.1
  simp only[cnt]
  omega
theorem cnt_le_bsum:∀ (n:Nat) (p:List Bool→Bool) (d:Nat),¬ Sh n p (d+1)→cnt n p≤bsum n d
|0,p,d,_=>by unfold cnt bsum;split <;> omega
|n+1,p,0,h=>by
  unfold Sh at h
  have a:=cnt_le_bsum n _ 0 (fun x=>h (.inl x))
  have z:=cnt_zero_of n _ (fun x=>h (.inr x))
  have b:=cnt_or_and n (fun l=>p (false :: l)) (fun l=>p (true :: l))
  simp only[cnt,bsum]
  omega
|n+1,p,d+1,h=>by
  unfold Sh at h
  have a:=cnt_le_bsum n _ (d+1) (fun x=>h (.inl x))
  have z:=cnt_le_bsum n _ d (fun x=>h (.inr x))
  have b:=cnt_or_and n (fun l=>p (false :: l)) (fun l=>p (true :: l))
  simp only[cnt,bsum]
  omega
def trues (l:List Bool):Nat:=l.countP (fun b=>b)
def agree:List Bool→List Bool→List Bool→Prop
|s :: S,a :: A,b :: B=>(s=true→a=b)∧agree S A B
|_,_,_=>True
theorem sh_tells:∀ (n:Nat) (p:List Bool→Bool) (k:Nat),Sh n p k→∃ S:List Bool,S.length=n∧trues S=k∧∀ t:List Bool,t.length=n→∃ l,l.length=n∧p l=true∧agree S l t
|0,p,0,h=>⟨[],rfl,rfl,fun t ht=>⟨[],rfl,h,by unfold agree;trivial⟩⟩
|0,p,k+1,h=>by unfold Sh at h;exact h.elim
|n+1,p,0,h=>by
  unfold Sh at h
  obtain⟨S,hS,hk,hall⟩:=sh_tells n _ 0 h
  refine⟨false :: S,by simp[hS],by simpa [trues] using hk,fun t ht=>?_⟩
  cases t with
 |nil=>simp at ht
 |cons b t =>
   obtain⟨l,hl,hp,ha⟩:=hall t (by simpa using ht)
   rcases Bool.or_eq_true_iff.1 hp with h1|h1
   ·exact⟨false :: l,by simp[hl],h1,by simp,ha⟩
   ·exact⟨true :: l,by simp[hl],h1,by simp,ha⟩
|n+1,p,k+1,h=>by
  unfold Sh at h
  rcases h with h|h
  ·obtain⟨S,hS,hk,hall⟩:=sh_tells n _ (k+1) h
   refine⟨false :: S,by simp[hS],by simpa [trues] using hk,fun t ht=>?_⟩
   cases t with
  |nil=>simp at ht
  |cons b t =>
    obtain⟨l,hl,hp,ha⟩:=hall t (by simpa using ht)
    rcases Bool.or_eq_true_iff.1 hp with h1|h1
    ·exact⟨false :: l,by simp[hl],h1,by simp,ha⟩
    ·exact⟨true :: l,by simp[hl],h1,by simp,ha⟩
  ·obtain⟨S,hS,hk,hall⟩:=sh_tells n _ k h
   refine⟨true :: S,by simp[hS],by simp[trues] at hk ⊢;exact hk,fun t ht=>?_⟩
   cases t with
  |nil=>simp at ht
  |cons b t =>
    obtain⟨l,hl,hp,ha⟩:=hall t (by simpa using ht)
    have h2:=Bool.and_eq_true_iff.1 hp
    cases b with
   |false=>exact⟨false :: l,by simp[hl],h2.1,fun _=>rfl,ha⟩
   |true=>exact⟨true :: l,by simp[hl],h2.2,fun _=>rfl,ha⟩
def ss:Nat→(List Bool→Bool)→List Bool→Bool
|0,p,_=>p []
|n+1,p,S=>if S.headD false=true then ss n (fun l=>p (false :: l) && p (true :: l)) S.tail else(ss n (fun l=>p (false :: l)) S.tail || ss n (fun l=>p (true :: l)) S.tail)
theorem ss_mono:∀ (n:Nat) (p q:List Bool→Bool),(∀ l,p l=true→q l=true)→∀ S,ss n p S=true→ss n q S=true
|0,p,q,h,S,hp=>h _ hp
|n+1,p,q,h,S,hp=>by
  unfold ss at hp ⊢
  by_cases c:S.headD false=true
  ·rw[if_pos c] at hp ⊢
   refine ss_mono n _ _ (fun l hl=>?_) _ hp
   have:=Bool.and_eq_true_iff.1 hl
   exact Bool.and_eq_true_iff.2 ⟨h _ this.1,h _ this.2⟩
  ·rw[if_neg c] at hp ⊢
   rcases Bool.or_eq_true_iff.1 hp with x|x
   ·exact Bool.or_eq_true_iff.2 (.inl (ss_mono n _ _ (fun l=>h _) _ x))
   ·exact Bool.or_eq_true_iff.2 (.inr (ss_mono n _ _ (fun l=>h _) _ x))
theorem ss_le_cnt:∀ (n:Nat) (p:List Bool→Bool),cnt n (ss n p)≤cnt n p
|0,p=>by unfold cnt ss;exact Nat.le_refl _
|n+1,p=>by
  simp only[cnt]
  have a:=ss_le_cnt n (fun l=>p (false :: l))
  have b:=ss_le_cnt n (fun l=>p (true :: l))
  have o:=cnt_or_and n (ss n fun l=>p (false :: l)) (ss n fun l=>p (true :: l))
  have e1:cnt n (fun l=>ss (n+1) p (false :: l))=cnt n (fun l=>ss n (fun l=>p (false :: l)) l || ss n (fun l=>p (true :: l)) l) :=
   cnt_congr n _ _ fun l _=>rfl
  have e2:cnt n (fun l=>ss (n+1) p (true :: l))≤cnt n (fun l=>ss n (fun l=>p (false :: l)) l && ss n (fun l=>p (true :: l)) l) :=
   cnt_mono n _ _ fun l _ h=>by
    unfold ss at h
    simp only[List.headD_cons,if_true,List.tail_cons] at h
    exact Bool.and_eq_true_iff.2 ⟨ss_mono n _ _ (fun l hl=>(Bool.and_eq_true_iff.1 hl).1) _ h,ss_mono n _ _ (fun l hl=>(Bool.and_eq_true_iff.1 hl).2) _ h⟩
  omega
def blend:List Bool→List Bool→List Bool→List Bool
|s :: S,t :: T,o :: O=>(if s=true then t else o) :: blend S T O
|_,_,_=>[]
theorem ss_of:∀ (n:Nat) (p:List Bool→Bool) (S o:List Bool),S.length=n→o.length=n→(∀ t:List Bool,t.length=n→p (blend S t o)=true)→ss n p S=true
|0,p,S,o,hS,ho,h=>by
  have:=h [] rfl
  unfold ss
  have hS':S=[]:=List.length_eq_zero_iff.1 hS
  subst hS'
  simpa [blend] using this
|n+1,p,S,o,hS,ho,h=>by
  cases S with
 |nil=>simp at hS
 |cons s S =>
   cases o with
  |nil=>simp at ho
  |cons b o =>
    unfold ss
    cases s with
   |true =>
     simp only[List.headD_cons,if_true,List.tail_cons]
     refine ss_of n _ S o (by simpa using hS) (by simpa using ho) fun t ht=>?_
     exact Bool.and_eq_true_iff.2 ⟨by simpa [blend] using h (false :: t) (by simp[ht]),by simpa [blend] using h (true :: t) (by simp[ht])⟩
   |false =>
     simp only[List.headD_cons,List.tail_cons,Bool.false_eq_true,if_false]
     cases b with
    |false=>exact Bool.or_eq_true_iff.2 (.inl (ss_of n _ S o (by simpa using hS) (by simpa using ho) fun t ht=>by simpa [blend] using h (false :: t) (by simp[ht])))
    |true=>exact Bool.or_eq_true_iff.2 (.inr (ss_of n _ S o (by simpa using hS) (by simpa using ho) fun t ht=>by simpa [blend] using h (false :: t) (by simp[ht])))
theorem cnt_trues:∀ (n d:Nat),cnt n (fun S=>decide (trues S≤d))=bsum n d
|0,d=>by unfold cnt bsum;simp[trues]
|n+1,0=>by
  simp only[cnt,bsum]
  have a:=cnt_trues n 0
  have e1:cnt n (fun l=>decide (trues (false :: l)≤0))=cnt n (fun S=>decide (trues S≤0)):=cnt_congr n _ _ fun l _=>by simp[trues]
  have e2:cnt n (fun l=>decide (trues (true :: l)≤0))=cnt n (fun _=>false):=cnt_congr n _ _ fun l _=>by simp[trues]
  have e3:∀ n,cnt n (fun _=>false)=0:=fun n=>by
   induction n with
  |zero=>rfl
  |succ n ih=>simp only[cnt];omega
  have:=e3 n
  omega
|n+1,d+1=>by
  simp only[cnt,bsum]
  have a:=cnt_trues n (d+1)
  have b:=cnt_trues n d
  have e1:cnt n (fun l=>decide (trues (false :: l)≤d+1))=cnt n (fun S=>decide (trues S≤d+1)):=cnt_congr n _ _ fun l _=>by rw[show trues (false :: l)=trues l by simp[trues]]
  have e2:cnt n (fun l=>decide (trues (true :: l)≤d+1))=cnt n (fun S=>decide (trues S≤d)):=cnt_congr n _ _ fun l _=>by rw[show trues (true :: l)=trues l+1 by simp[trues]];simp
  omega
theorem bsum_le_cnt (n d:Nat) (p:List Bool→Bool) (h:∀ S:List Bool,S.length=n→trues S≤d→∃ o:List Bool,o.length=n∧∀ t:List Bool,t.length=n→p (blend S t o)=true):bsum n d≤cnt n p:=by
 refine Nat.le_trans ?_ (ss_le_cnt n p)
 rw[←cnt_trues]
 refine cnt_mono n _ _ fun S hS ht=>?_
 obtain⟨o,ho,hall⟩:=h S hS (of_decide_eq_true ht)
 exact ss_of n p S o hS ho hall
end Cover
theorem chG_all (kk n:Nat):∀ (f:Nat) (set R:List Int),f≤n→R.Pairwise (·<·)→(∀ x∈R,((n - f:Nat):Int)≤x∧x<(n:Int))→set.length+R.length=kk→set++R∈chG kk n f set
|f,set,[],hf,hp,hr,hl=>by
  have:set.length=kk:=by simpa using hl
  unfold chG
  rw[if_pos this,List.append_nil]
  exact List.mem_singleton.2 rfl
|0,set,r :: R,hf,hp,hr,hl=>by
  have:=hr r (List.mem_cons_self ..)
  omega
|f+1,set,r :: R,hf,hp,hr,hl=>by
  have hl2:set.length+(R.length+1)=kk:=hl
  have hp2:=List.pairwise_cons.1 hp
  have hrr:=hr r (List.mem_cons_self ..)
  unfold chG
  rw[if_neg (by omega),chL_succ]
  by_cases c:r=((n - (f+1):Nat):Int)
  ·refine List.mem_append_left _ ?_
   have:=chG_all kk n f (set++[r]) R (by omega) hp2.2 (fun x hx=>by
    have a1:=hp2.1 x hx
    have a2:=hr x (List.mem_cons_of_mem _ hx)
    omega) (by rw[List.length_append,List.length_singleton];omega)
   rw[List.append_assoc,List.singleton_append] at this
   rw[←c]
   exact this
  ·refine List.mem_append_right _ ?_
   have:=chG_all kk n f set (r :: R) (by omega) hp (fun x hx=>by
    have a2:=hr x hx
    rcases List.mem_cons.1 hx with rfl|hx
    ·omega
    ·have a1:=hp2.1 x hx
     omega) hl
   unfold chG at this
   rw[if_neg (by omega)] at this
   exact this
theorem chG_mem {kk n:Nat} {S:List Int} (h:Asc n S) (hl:S.length=kk):S∈chG kk n n []:=by
 have:=chG_all kk n n [] S (Nat.le_refl _) h.1 (fun x hx=>by have:=h.2 x hx;omega) (by simpa using hl)
 simpa using this
theorem firstF_none {F:List Int→Option (List Int)} {L:List (List Int)} (h:firstF F L=none) (S:List Int) (hS:S∈L):F S=none:=by
 have:=List.findSome?_eq_none_iff.1 h S hS
 simpa using this
theorem srch_none {F:List Int→Option (List Int)} {n:Nat}:∀ (j kk:Nat),srch F n j kk=none→∀ q,kk≤q→q<kk+j→∀ S∈chG q n n [],F S=none
|0,kk,_,q,h1,h2,S,_=>by omega
|j+1,kk,h,q,h1,h2,S,hS=>by
  rw[srch] at h
  cases e:firstF F (chG kk n n []) with
 |some r=>rw[e] at h;simp at h
 |none =>
   rw[e] at h
   by_cases c:q=kk
   ·subst c
    exact firstF_none e S hS
   ·exact srch_none j (kk+1) h q (by omega) (by omega) S hS
def push (S:List Int) (y:Nat→Int) (i:Nat):Int:=sm S.length (fun k=>if(vf S k).toNat=i then y k else 0)
theorem push_sum {S:List Int} {n:Nat} (hS:∀ k,k<S.length→(vf S k).toNat<n) (y g:Nat→Int):sm n (fun i=>push S y i * g i)=sm S.length (fun k=>y k * g (vf S k).toNat):=by
 have e:sm n (fun i=>push S y i * g i)=sm n (fun i=>sm S.length (fun k=>g i * (if(vf S k).toNat=i then y k else 0))):=sm_congr fun i _=>by
  rw[sm_mul,Int.mul_comm]
  rfl
 rw[e,sm_swap]
 refine sm_congr fun k hk=>?_
 rw[sm_single (f:=fun i=>g i * (if(vf S k).toNat=i then y k else 0)) (hS k hk) fun i _ hne=>by
  show g i * (if(vf S k).toNat=i then y k else 0)=0
  rw[if_neg (Ne.symm hne),Int.mul_zero]]
 show g (vf S k).toNat * (if(vf S k).toNat=(vf S k).toNat then y k else 0)=_
 rw[if_pos rfl,Int.mul_comm]
theorem asc_vf {n:Nat} {S:List Int} (h:Asc n S) (k:Nat) (hk:k<S.length):0≤vf S k∧vf S k<(n:Int):=by
 rw[vf_get S k hk]
 exact h.2 _ (List.getElem_mem hk)
theorem asc_lt {n:Nat} {S:List Int} (h:Asc n S) (k:Nat) (hk:k<S.length):(vf S k).toNat<n:=by
 have:=asc_vf h k hk
 omega
theorem asc_inj {n:Nat} {S:List Int} (h:Asc n S) {j k:Nat} (hj:j<S.length) (hk:k<S.length) (e:vf S j=vf S k):j=k:=by
 rw[vf_get S j hj,vf_get S k hk] at e
 rcases Nat.lt_trichotomy j k with q|q|q
 ·have:=List.pairwise_iff_getElem.1 h.1 j k hj hk q
  omega
 ·exact q
 ·have:=List.pairwise_iff_getElem.1 h.1 k j hk hj q
  omega
theorem push_in {n:Nat} {S:List Int} (h:Asc n S) (y:Nat→Int) {k:Nat} (hk:k<S.length):push S y (vf S k).toNat=y k:=by
 unfold push
 rw[sm_single hk fun j hj hne=>if_neg fun e=>hne (asc_inj h hj hk (by
  have:=asc_vf h j hj
  have:=asc_vf h k hk
  omega))]
 exact if_pos rfl
theorem push_out {S:List Int} (y:Nat→Int) {i:Nat} (h:∀ k,k<S.length→(vf S k).toNat≠i):push S y i=0:=sm_zero fun k hk=>if_neg (h k hk)
def idx (n:Nat) (s:Nat→Bool):List Int:=((List.range n).filter s).map fun i:Nat=>(i:Int)
theorem idx_asc (n:Nat) (s:Nat→Bool):Asc n (idx n s):=by
 refine⟨List.pairwise_map.2 ((List.pairwise_lt_range.filter s).imp fun h=>by omega),fun x hx=>?_⟩
 obtain⟨i,hi,rfl⟩:=List.mem_map.1 hx
 have:=List.mem_range.1 (List.mem_filter.1 hi).1
 omega
theorem idx_len:∀ (n:Nat) (s:Nat→Bool),(idx n s).length=cn n s
|0,s=>rfl
|n+1,s=>by
  have ih:=idx_len n s
  simp only[idx,List.length_map] at ih ⊢
  rw[List.range_succ,List.filter_append,List.length_append,ih,cn]
  by_cases c:s n=true
  ·rw[if_pos c,List.filter_cons_of_pos c]
   rfl
  ·rw[if_neg c,List.filter_cons_of_neg c]
   rfl
theorem idx_at {n:Nat} {s:Nat→Bool} {i:Nat} (hi:i<n) (hs:s i=true):∃ k,k<(idx n s).length∧(vf (idx n s) k).toNat=i:=by
 have:(i:Int)∈idx n s:=List.mem_map.2 ⟨i,List.mem_filter.2 ⟨List.mem_range.2 hi,hs⟩,rfl⟩
 obtain⟨k,hk,e⟩:=List.getElem_of_mem this
 exact⟨k,hk,by rw[vf_get _ k hk,e];omega⟩
theorem idx_in {n:Nat} {s:Nat→Bool} {k:Nat} (hk:k<(idx n s).length):s (vf (idx n s) k).toNat=true:=by
 rw[vf_get _ k hk]
 obtain⟨i,hi,e⟩:=List.mem_map.1 (List.getElem_mem hk)
 have e:(i:Int)=(idx n s)[k]:=e
 rw[←e]
 exact(List.mem_filter.1 hi).2
theorem push_idx {n:Nat} {c:Nat→Int} {s:Nat→Bool} (hc:∀ k,k<n→s k=false→c k=0) {i:Nat} (hi:i<n):push (idx n s) (fun k=>c (vf (idx n s) k).toNat) i=c i:=by
 by_cases q:s i=true
 ·obtain⟨k,hk,e⟩:=idx_at hi q
  rw[←e,push_in (idx_asc n s) _ hk]
 ·rw[hc i hi (Bool.eq_false_iff.2 q)]
  exact push_out _ fun k hk e=>q (by rw[←e];exact idx_in hk)
def vv (ps:List (List Int)) (ls:List Int) (k x:Nat):Int:=vf ls k * vf (1 :: ps.getD k []) x
section
variable {ps:List (List Int)} {ls S:List Int} {d n:Nat}
theorem vecs_vv (h:Places ps ls S d n) (k:Nat) (hk:k<n) (x:Nat):vf ((vecsOf ps ls S).getD k []) x=vv ps ls (vf S k).toNat x:=by
 have hl:=h.len
 have hk2:k<S.length:=by omega
 obtain⟨q1,q2,q3⟩:=h.ok S[k] (List.getElem_mem hk2)
 have e:((S[k].toNat:Nat):Int)=S[k]:=by omega
 have e1:vf (labsOf ls S) k=vf ls S[k].toNat:=by
  rw[labsOf_vf ls S k hk2,←rd_vf,e]
 have e2:(ptsOf ps S).getD k []=ps.getD S[k].toNat []:=by
  rw[ptsOf_get ps S k hk2]
  rfl
 rw[vecsOf_get h k hk x,vf_get S k hk2]
 unfold vv
 cases x with
|zero =>
  show vf (labsOf ls S) k=vf ls S[k].toNat * 1
  rw[e1,Int.mul_one]
|succ x =>
  show vf ((ptsOf ps S).getD k []) x * vf (labsOf ls S) k=vf ls S[k].toNat * vf (ps.getD S[k].toNat []) x
  rw[e1,e2,Int.mul_comm]
theorem ker_push (h:Places ps ls S d n) (ha:Asc ps.length S) (y:Nat→Int):Ker (d+1) n (fun i j=>vf ((vecsOf ps ls S).getD j []) i) y↔Rl (d+1) ps.length (vv ps ls) (push S y):=by
 have e:∀ x,sm ps.length (fun k=>push S y k * vv ps ls k x)=sm n (fun k=>vf ((vecsOf ps ls S).getD k []) x * y k):=fun x=>by
  rw[push_sum (asc_lt ha),h.len]
  exact sm_congr fun k hk=>by rw[vecs_vv h k hk x,Int.mul_comm]
 exact⟨fun q x hx=>by rw[e];exact q x hx,fun q x hx=>by
  have:=q x hx
  rw[e] at this
  exact this⟩
end
section
variable {ps:List (List Int)} {ls:List Int} {F:List Int→Option (List Int)}
theorem labs_one (hs:smB ps ls=true) {k:Nat} (hk:k<ps.length):vf ls k=1∨vf ls k = -1:=by
 obtain⟨h16,hlen,hlb,hrow⟩:=smB_parts hs
 rw[vf_get ls k (by omega)]
 exact of_decide_eq_true (List.all_eq_true.1 hlb _ (List.getElem_mem _))
theorem two_places (hs:smB ps ls=true) {c:Nat→Int} (h2:∃ k,k<ps.length∧c k≠0) {m:Nat} (h3:Rl (m+1) ps.length (vv ps ls) c):2≤cn ps.length (supp c):=by
 obtain⟨k,hk,hne⟩:=h2
 have e:=cn_but hk (supp_true.2 hne)
 apply Classical.byContradiction
 intro z
 have z0:∀ j,j<ps.length→j≠k→c j=0:=fun j hj hjk=>by
  apply Classical.byContradiction
  intro q
  have:=cn_but (n:=ps.length) (s:=but (supp c) k) hj (but_true.2 ⟨supp_true.2 q,hjk⟩)
  omega
 have:=h3 0 (by omega)
 rw[sm_single hk fun j hj hjk=>by rw[z0 j hj hjk,Int.zero_mul]] at this
 have e0:vv ps ls k 0=vf ls k:=by
  show vf ls k * 1=_
  rw[Int.mul_one]
 rw[e0] at this
 rcases Int.mul_eq_zero.1 this with q|q
 ·exact hne q
 ·rcases labs_one hs hk with w|w <;> omega
theorem least_some (hs:smB ps ls=true) (h0:0<ps.length) (hF:allF ps ls F) (H:Hard ((ps.headD []).length+1) ps.length (vv ps ls)) :
  ∃ S:List Int,2≤S.length∧S.length≤(ps.headD []).length+2∧S∈chG S.length ps.length ps.length []∧F S≠none∧∀ c':Nat→Int,(∀ k,k<ps.length→0≤c' k)→(∃ k,k<ps.length∧c' k≠0)→Rl ((ps.headD []).length+1) ps.length (vv ps ls) c'→S.length≤cn ps.length (supp c'):=by
 obtain⟨c,c1,c2,c3,c4⟩:=hard_least H
 have few:=least_few c1 c2 c3 c4
 have two:=two_places hs c2 c3
 have asc:=idx_asc ps.length (supp c)
 have len:=idx_len ps.length (supp c)
 have pl:=places_of hs asc h0
 have mem:=chG_mem asc rfl
 have off:∀ k,k<ps.length→supp c k=false→c k=0:=fun k _ hk=>by
  apply Classical.byContradiction
  intro q
  rw[supp_true.2 q] at hk
  simp at hk
 refine⟨idx ps.length (supp c),by omega,by omega,mem,fun e=>?_,fun c' a1 a2 a3=>by rw[len];exact c4 c' a1 a2 a3⟩
 refine(hF _ (by omega) (by omega) _ mem).no e ⟨⟨⟨fun k=>c (vf (idx ps.length (supp c)) k).toNat,?_,0,by omega,?_⟩,fun x y hx hy=>?_⟩,fun k=>c (vf (idx ps.length (supp c)) k).toNat,?_,fun k hk=>?_⟩
 ·refine(ker_push pl asc _).2 fun x hx=>?_
  rw[←c3 x hx]
  exact sm_congr fun i hi=>by rw[push_idx off hi]
 ·exact supp_true.1 (idx_in (by omega))
 ·have out:∀ z:Nat→Int,∀ k,k<ps.length→c k=0→push (idx ps.length (supp c)) z k=0:=fun z k hk hc=>push_out z fun j hj e=>by
   have:=supp_true.1 (idx_in hj)
   rw[e] at this
   exact this hc
  obtain⟨a1,b1,n1,e1⟩:=least_one c1 c2 c3 c4 ((ker_push pl asc x).1 hx) (out x)
  obtain⟨a2,b2,n2,e2⟩:=least_one c1 c2 c3 c4 ((ker_push pl asc y).1 hy) (out y)
  have f1:∀ k,k<(idx ps.length (supp c)).length→a1 * x k=b1 * c (vf (idx ps.length (supp c)) k).toNat:=fun k hk=>by
   have:=e1 _ (asc_lt asc k hk)
   rwa [push_in asc x hk] at this
  have f2:∀ k,k<(idx ps.length (supp c)).length→a2 * y k=b2 * c (vf (idx ps.length (supp c)) k).toNat:=fun k hk=>by
   have:=e2 _ (asc_lt asc k hk)
   rwa [push_in asc y hk] at this
  by_cases q:b1=0
  ·refine⟨1,0,.inl (by omega),fun k hk=>?_⟩
   have:=f1 k hk
   rw[q,Int.zero_mul] at this
   have:=(Int.mul_eq_zero.1 this).resolve_left n1
   rw[this]
   omega
  ·refine⟨a1 * b2,a2 * b1,.inr (Int.mul_ne_zero n2 q),fun k hk=>?_⟩
   have g1:=f1 k hk
   have g2:=f2 k hk
   have h1:a1 * b2 * x k=b2 * (a1 * x k):=by grind
   have h2:a2 * b1 * y k=b1 * (a2 * y k):=by grind
   rw[h1,h2,g1,g2]
   grind
 ·refine(ker_push pl asc _).2 fun x hx=>?_
  rw[←c3 x hx]
  exact sm_congr fun i hi=>by rw[push_idx off hi]
 ·have a:=asc_lt asc k hk
  have:=c1 _ a
  have:=supp_true.1 (idx_in hk)
  show 0<c (vf (idx ps.length (supp c)) k).toNat
  omega
theorem sm_nonneg:∀ {n:Nat} {f:Nat→Int},(∀ k,k<n→0≤f k)→0≤sm n f
|0,f,_=>by simp[sm]
|n+1,f,h=>by
  have a:=sm_nonneg (n:=n) fun k hk=>h k (by omega)
  have b:=h n (by omega)
  simp only[sm]
  omega
theorem push_hard (hs:smB ps ls=true) (h0:0<ps.length) {S ns:List Int} {kk:Nat} (ha:Asc ps.length S) (hl:S.length=kk) (O:OneSet ps ls S (ps.headD []).length kk (F S)) (e:F S=some ns) (hk:0<kk) :
  (∀ k,k<ps.length→0≤push S (vf ns) k)∧(∃ k,k<ps.length∧push S (vf ns) k≠0)∧Rl ((ps.headD []).length+1) ps.length (vv ps ls) (push S (vf ns)):=by
 obtain⟨y1,y2,y3,y4,y5⟩:=O.yes ns e
 have pl:=places_of hs ha h0
 rw[hl] at pl
 refine⟨fun i _=>sm_nonneg fun k hk=>?_,⟨(vf S 0).toNat,asc_lt ha 0 (by omega),?_⟩,(ker_push pl ha _).1 y3⟩
 ·split
  ·have:=y5 k (by omega)
   omega
  ·omega
 ·rw[push_in ha _ (by omega)]
  have:=y5 0 (by omega)
  omega
theorem srch_hard (hs:smB ps ls=true) (h0:0<ps.length) (hF:allF ps ls F):srch F ps.length ((ps.headD []).length+1) 2=none↔¬ Hard ((ps.headD []).length+1) ps.length (vv ps ls):=by
 constructor
 ·intro e H
  obtain⟨S,s1,s2,s3,s4,_⟩:=least_some hs h0 hF H
  exact s4 (srch_none _ _ e S.length s1 (by omega) S s3)
 ·intro H
  cases e:srch F ps.length ((ps.headD []).length+1) 2 with
 |none=>rfl
 |some r =>
   obtain⟨q,a,b,c,e2,_⟩:=srch_mem e
   obtain⟨asc,len⟩:=chG_asc q ps.length _ c
   exact absurd ⟨_,push_hard hs h0 asc len (hF q a (by omega) _ c) e2 (by omega)⟩ H
end
theorem hard_all {ps:List (List Int)} {ls:List Int} (hs:smB ps ls=true):∃ r:Option (List Int×List Int),Ev (fun k=>Kk.f k ps ls) (out3 r)∧Ev (fun k=>Yk1.f k ps ls) (out2 r)∧(r=none↔¬ Hard ((ps.headD []).length+1) ps.length (vv ps ls)) ∧
  ∀ q,r=some q→2≤q.1.length∧q.2.length=q.1.length∧Asc ps.length q.1∧q.1.length≤(ps.headD []).length+2∧(∀ k,k<q.1.length→0<vf q.2 k)∧gcdn q.1.length (vf q.2)=1∧One q.1.length (Ker ((ps.headD []).length+1) q.1.length (fun i j=>vf ((vecsOf ps ls q.1).getD j []) i))∧Rl ((ps.headD []).length+1) ps.length (vv ps ls) (push q.1 (vf q.2)) ∧
   ∀ c':Nat→Int,(∀ k,k<ps.length→0≤c' k)→(∃ k,k<ps.length∧c' k≠0)→Rl ((ps.headD []).length+1) ps.length (vv ps ls) c'→q.1.length≤cn ps.length (supp c'):=by
 by_cases h0:ps.length=0
 ·refine⟨none,?_,?_,⟨fun _ H=>?_,fun _=>rfl⟩,fun q e=>by simp at e⟩
  ·unfold Kk.f
   exact ev_if_pos (by omega) (ev_const _)
  ·unfold Yk1.f
   exact ev_if_pos (by omega) (ev_const _)
  ·obtain⟨c,_,⟨k,hk,_⟩,_⟩:=H
   omega
 ·obtain⟨F,hF⟩:=allF_some hs (by omega)
  refine⟨srch F ps.length ((ps.headD []).length+1) 2,?_,?_,srch_hard hs (by omega) hF,fun r e=>?_⟩
  ·unfold Kk.f
   exact ev_if_neg (by omega) (hard_l hs (by omega) hF _ 2 _ (by omega) (by omega))
  ·unfold Yk1.f
   exact ev_if_neg (by omega) (find_l0 hs (by omega) hF _ 2 (by omega) (by omega))
  ·obtain⟨q,a,b,c,e2,e3⟩:=srch_mem e
   obtain⟨asc,len⟩:=chG_asc q ps.length _ c
   have O:=hF q a (by omega) _ c
   obtain⟨y1,y2,y3,y4,y5⟩:=O.yes _ e2
   obtain⟨p1,p2,p3⟩:=push_hard hs (by omega) asc len O e2 (by omega)
   refine⟨by omega,by omega,asc,by omega,by rw[len];exact y5,by rw[len];exact y4,by rw[len];exact y2,p3,fun c' a1 a2 a3=>?_⟩
   obtain⟨S,s1,s2,s3,s4,s5⟩:=least_some hs (by omega) hF ⟨c',a1,a2,a3⟩
   have:=s5 c' a1 a2 a3
   apply Classical.byContradiction
   intro z
   exact s4 (firstF_none (e3 S.length s1 (by omega)) S s3)
theorem sm_first:∀ (n:Nat) (f:Nat→Int),sm (n+1) f=f 0+sm n (fun k=>f (k+1))
|0,f=>by simp[sm]
|n+1,f=>by
  have:=sm_first n f
  rw[sm,this,sm]
  omega
theorem sm_rev:∀ (n:Nat) (f:Nat→Int),sm n (fun k=>f (n - 1 - k))=sm n f
|0,f=>rfl
|n+1,f=>by
  rw[sm_first,sm]
  have e:sm n (fun k=>f (n+1 - 1 - (k+1)))=sm n (fun k=>f (n - 1 - k)):=sm_congr fun k hk=>by
   rw[show n+1 - 1 - (k+1)=n - 1 - k by omega]
  rw[e,sm_rev n f]
  simp only[Nat.add_sub_cancel,Nat.sub_zero]
  omega
theorem bits_plain:∀ (c:Fin 256) (i:Fin 8),bitOf c.val i.val=((c.val / 2 ^ i.val % 2:Nat):Int):=by decide +kernel
theorem bits_turn:∀ (n:Fin 9) (c:Fin 256) (i:Fin 8),c.val<2 ^ n.val→i.val<n.val→(2 ^ n.val - 1 - c.val) / 2 ^ i.val % 2=1 - c.val / 2 ^ i.val % 2:=by decide +kernel
theorem shl_8 (n:Nat) (h:n≤8):shl .i64 1 (n:Int)=((2 ^ n:Nat):Int):=by
 have:∀ m:Fin 9,shl .i64 1 (m.val:Int)=((2 ^ m.val:Nat):Int):=by decide
 exact this ⟨n,by omega⟩
def labI (n c:Nat):List Int:=(List.range n).map fun i=>2 * ((c / 2 ^ i % 2:Nat):Int) - 1
def labS (n c:Nat):List Int:=(List.range n).map fun i=>1 - 2 * ((c / 2 ^ i % 2:Nat):Int)
theorem lab_turn {n c:Nat} (hn:n≤8) (hc:c<2 ^ n):labS n c=labI n (2 ^ n - 1 - c):=by
 have p:2 ^ n≤256:=Nat.le_trans (Nat.pow_le_pow_right (by omega) hn) (by decide)
 unfold labS labI
 apply List.map_congr_left
 intro i hi
 have hi2:i<n:=by simpa using hi
 have:=bits_turn ⟨n,by omega⟩ ⟨c,by omega⟩ ⟨i,by omega⟩ hc hi2
 have e:(2 ^ n - 1 - c) / 2 ^ i % 2=1 - c / 2 ^ i % 2:=this
 rw[e]
 have:=Nat.mod_lt (c / 2 ^ i) (y:=2) (by omega)
 omega
theorem labI_one (n c:Nat):∀ x∈labI n c,x=1∨x = -1:=fun x hx=>by
 obtain⟨i,_,rfl⟩:=List.mem_map.1 hx
 have:=Nat.mod_lt (c / 2 ^ i) (y:=2) (by omega)
 omega
theorem labI_len (n c:Nat):(labI n c).length=n:=by simp[labI]
theorem labS_len (n c:Nat):(labS n c).length=n:=by simp[labS]
section
variable {ps:List (List Int)} {C:List Int→Bool} {n:Nat}
theorem cp_il1 (hn:ps.length=n) (h8:n≤8) (c:Nat) (hc:c<2 ^ n) (x4:Int) (hC:Ev (fun k=>Jk.f k ps (labI n c)) (C (labI n c))) {out:Int×Bool}
  (h:Ev (fun k=>Xx.l0 k ps (if C (labI n c)=true then wrap64 (x4+1) else x4) ((2 ^ n:Nat):Int) (wrap64 ((c:Int)+1))) out) :
  ∀ (j i:Nat) (acc:List Int),i+j=n→acc=(labI n c).take i→Ev (fun k=>Xx.l1 k ps x4 (c:Int) acc ((2 ^ n:Nat):Int) (c:Int) (n:Int) (i:Int)) out
|0,i,acc,hj,ha=>by
  obtain rfl:i=n:=by omega
  rw[List.take_of_length_le (by rw[labI_len];omega)] at ha
  subst ha
  refine Ev.step (f:=fun k=>(Jk.f k ps (labI i c)).bind fun t=>(if t=true then(Xx.l0 k ps (wrap64 (x4+1)) ((2 ^ i:Nat):Int) (wrap64 ((c:Int)+1))) else(Xx.l0 k ps x4 ((2 ^ i:Nat):Int) (wrap64 ((c:Int)+1))))) (fun k=>by rw[Xx.l1,if_neg (by omega)]) (Ev.bind hC ?_)
  by_cases q:C (labI i c)=true
  ·rw[if_pos q] at h
   exact ev_if_pos q h
  ·rw[if_neg q] at h
   exact ev_if_neg q h
|j+1,i,acc,hj,ha=>by
  have p:2 ^ n≤256:=Nat.le_trans (Nat.pow_le_pow_right (by omega) h8) (by decide)
  have hil:i<(labI n c).length:=by rw[labI_len];omega
  have hal:acc.length≤100:=by rw[ha,List.length_take,labI_len];omega
  have eb:=bits_plain ⟨c,by omega⟩ ⟨i,by omega⟩
  have eb2:Go.bits .and .i64 (shr .i64 (c:Int) (i:Int)) 1=((c / 2 ^ i % 2:Nat):Int):=eb
  have:=Nat.mod_lt (c / 2 ^ i) (y:=2) (by omega)
  refine Ev.step (fun k=>?_) (cp_il1 hn h8 c hc x4 hC h j (i+1) (acc++[2 * ((c / 2 ^ i % 2:Nat):Int) - 1]) (by omega) ?_)
  ·rw[Xx.l1,if_pos (by omega),if_pos (by omega),if_pos (by omega),eb2,w64 (x:=2 * _) (by omega) (by omega),w64 (x:=2 * _ - 1) (by omega) (by omega),w64_nat (by omega)]
  ·rw[ha,List.take_succ_eq_append_getElem hil]
   congr 1
   simp[labI]
theorem cp_il0 (hn:ps.length=n) (h8:n≤8) (hC:∀ c,c<2 ^ n→Ev (fun k=>Jk.f k ps (labI n c)) (C (labI n c))) :
  ∀ (j i:Nat),i+j=2 ^ n→Ev (fun k=>Xx.l0 k ps (sm i fun c=>if C (labI n c)=true then 1 else 0) ((2 ^ n:Nat):Int) (i:Int)) (sm (2 ^ n) (fun c=>if C (labI n c)=true then 1 else 0),true)
|0,i,hj=>by
  obtain rfl:i=2 ^ n:=by omega
  refine Ev.step (f:=fun _=>some (sm (2 ^ n) (fun c=>if C (labI n c)=true then 1 else 0),true)) (fun k=>?_) (ev_const _)
  rw[Xx.l0,if_neg (by omega)]
|j+1,i,hj=>by
  have p:2 ^ n≤256:=Nat.le_trans (Nat.pow_le_pow_right (by omega) h8) (by decide)
  have b:=sm_range (B:=1) i (fun c=>if C (labI n c)=true then 1 else 0) (fun k _=>by show 0≤(if C (labI n k)=true then(1:Int) else 0)∧_;split <;> omega)
  refine Ev.step (f:=fun k=>Xx.l1 k ps (sm i fun c=>if C (labI n c)=true then 1 else 0) (i:Int) [] ((2 ^ n:Nat):Int) (i:Int) (ps.length:Int) 0) (fun k=>by rw[Xx.l0,if_pos (by omega)]) ?_
  rw[hn]
  refine cp_il1 hn h8 i (by omega) _ (hC i (by omega)) ?_ n 0 [] (by omega) rfl
  have e:(if C (labI n i)=true then wrap64 ((sm i fun c=>if C (labI n c)=true then 1 else 0)+1) else sm i fun c=>if C (labI n c)=true then 1 else 0)=sm (i+1) (fun c=>if C (labI n c)=true then 1 else 0):=by
   rw[sm]
   split
   ·rw[w64 (by omega) (by omega)]
   ·omega
  rw[e,w64_nat (by omega)]
  exact cp_il0 hn h8 hC j (i+1) (by omega)
theorem cp_sl1 (hn:ps.length=n) (h8:n≤8) (c:Nat) (hc:c<2 ^ n) (x4:Int) (hC:Ev (fun k=>Gx1.f k ps (labS n c)) (C (labS n c))) {out:Int×Bool}
  (h:Ev (fun k=>Jq1.l0 k ps (if C (labS n c)=true then wrap64 (x4+1) else x4) (n:Int) (wrap64 ((c:Int)+1))) out) :
  ∀ (j i:Nat) (acc:List Int),i+j=n→acc=(labS n c).take i→Ev (fun k=>Jq1.l1 k ps x4 (n:Int) (c:Int) (i:Int) ps acc) out
|0,i,acc,hj,ha=>by
  obtain rfl:i=n:=by omega
  rw[List.take_of_length_le (by rw[labS_len];omega)] at ha
  subst ha
  refine Ev.step (f:=fun k=>(Gx1.f k ps (labS i c)).bind fun t=>(if t=true then(Jq1.l0 k ps (wrap64 (x4+1)) (i:Int) (wrap64 ((c:Int)+1))) else(Jq1.l0 k ps x4 (i:Int) (wrap64 ((c:Int)+1))))) (fun k=>by rw[Jq1.l1,if_neg (by omega)]) (Ev.bind hC ?_)
  by_cases q:C (labS i c)=true
  ·rw[if_pos q] at h
   exact ev_if_pos q h
  ·rw[if_neg q] at h
   exact ev_if_neg q h
|j+1,i,acc,hj,ha=>by
  have p:2 ^ n≤256:=Nat.le_trans (Nat.pow_le_pow_right (by omega) h8) (by decide)
  have hil:i<(labS n c).length:=by rw[labS_len];omega
  have hal:acc.length≤100:=by rw[ha,List.length_take,labS_len];omega
  have eb:=bits_plain ⟨c,by omega⟩ ⟨i,by omega⟩
  have eb2:Go.bits .and .i64 (shr .i64 (c:Int) (i:Int)) 1=((c / 2 ^ i % 2:Nat):Int):=eb
  have:=Nat.mod_lt (c / 2 ^ i) (y:=2) (by omega)
  refine Ev.step (fun k=>?_) (cp_sl1 hn h8 c hc x4 hC h j (i+1) (acc++[1 - 2 * ((c / 2 ^ i % 2:Nat):Int)]) (by omega) ?_)
  ·rw[Jq1.l1,if_pos (by omega),if_pos (by omega),if_pos (by omega),eb2,w64 (x:=2 * _) (by omega) (by omega),w64 (x:=1 - 2 * _) (by omega) (by omega),w64_nat (by omega)]
  ·rw[ha,List.take_succ_eq_append_getElem hil]
   congr 1
   simp[labS]
theorem cp_sl0 (hn:ps.length=n) (h8:n≤8) (hC:∀ c,c<2 ^ n→Ev (fun k=>Gx1.f k ps (labS n c)) (C (labS n c))) :
  ∀ (j i:Nat),i+j=2 ^ n→Ev (fun k=>Jq1.l0 k ps (sm i fun c=>if C (labS n c)=true then 1 else 0) (n:Int) (i:Int)) (sm (2 ^ n) (fun c=>if C (labS n c)=true then 1 else 0),true)
|0,i,hj=>by
  obtain rfl:i=2 ^ n:=by omega
  refine Ev.step (f:=fun _=>some (sm (2 ^ n) (fun c=>if C (labS n c)=true then 1 else 0),true)) (fun k=>?_) (ev_const _)
  rw[Jq1.l0,if_pos (by omega),shl_8 n h8,if_neg (by omega)]
|j+1,i,hj=>by
  have p:2 ^ n≤256:=Nat.le_trans (Nat.pow_le_pow_right (by omega) h8) (by decide)
  have b:=sm_range (B:=1) i (fun c=>if C (labS n c)=true then 1 else 0) (fun k _=>by show 0≤(if C (labS n k)=true then(1:Int) else 0)∧_;split <;> omega)
  refine Ev.step (f:=fun k=>Jq1.l1 k ps (sm i fun c=>if C (labS n c)=true then 1 else 0) (n:Int) (i:Int) 0 ps []) (fun k=>by rw[Jq1.l0,if_pos (by omega),shl_8 n h8,if_pos (by omega)]) ?_
  refine cp_sl1 hn h8 i (by omega) _ (hC i (by omega)) ?_ n 0 [] (by omega) rfl
  have e:(if C (labS n i)=true then wrap64 ((sm i fun c=>if C (labS n c)=true then 1 else 0)+1) else sm i fun c=>if C (labS n c)=true then 1 else 0)=sm (i+1) (fun c=>if C (labS n c)=true then 1 else 0):=by
   rw[sm]
   split
   ·rw[w64 (by omega) (by omega)]
   ·omega
  rw[e,w64_nat (by omega)]
  exact cp_sl0 hn h8 hC j (i+1) (by omega)
end
theorem inv_null {m n:Nat} {A M:Nat→Nat→Int} {piv:List Nat} (h:Inv m n n A M piv):(∃ x,Ker m n A x∧∃ k,k<n∧x k≠0)↔piv.length<n:=by
 obtain⟨o,p,s1,s2,s3,s4,s5⟩:=h.fin
 constructor
 ·rintro⟨x,hx,k,hk,hne⟩
  have le:=s2.le
  by_cases c:piv.length=n
  ·exact absurd (s2.none c ((h.ker x).2 hx) k hk) hne
  ·omega
 ·intro hlt
  obtain⟨f,hf,hfp⟩:=exists_not_mem piv n hlt
  obtain⟨x,hx,hxf,_⟩:=s2.free hf (fun j hj e=>hfp (by
   have q:=s3 j hj
   rw[List.getElem?_eq_getElem hj] at q
   have e2:piv[j]=p j:=Option.some.inj q
   rw[←e,←e2]
   exact List.getElem_mem hj))
  exact⟨x,(h.ker x).1 hx,f,hf,hxf⟩
theorem sm_insert:∀ (s p:Nat) (f:Nat→Int),p≤s→sm (s+1) (fun k=>if k<p then f k else if k=p then 0 else f (k - 1))=sm s f
|s,p,f,hp=>by
  by_cases e:p=s
  ·subst e
   rw[sm,if_neg (by omega),if_pos rfl,Int.add_zero]
   exact sm_congr fun k hk=>if_pos hk
  ·match s,hp,e with
  |0,hp,e=>exact absurd (by omega) e
  |s+1,hp,e =>
    have ih:=sm_insert s p f (by omega)
    rw[sm,ih,if_neg (by omega),if_neg (by omega)]
    rfl
def rowOf (ps:List (List Int)) (S:List Int) (k x:Nat):Int:=vf (1 :: rd_L1 ps (vf S k)) x
def dep (ps:List (List Int)) (S:List Int):Prop:=Dep S.length (rowOf ps S)
noncomputable def depT (ps:List (List Int)) (S:List Int):Bool:=@decide (dep ps S) (Classical.propDecidable _)
theorem depT_iff (ps:List (List Int)) (S:List Int):depT ps S=true↔dep ps S:=@decide_eq_true_iff _ (Classical.propDecidable _)
theorem vf_app (L1 L2:List Int) (a:Int) (k:Nat):vf (L1++a :: L2) k=if k<L1.length then vf (L1++L2) k else if k=L1.length then a else vf (L1++L2) (k - 1):=by
 unfold vf
 simp only[List.getD_eq_getElem?_getD]
 by_cases c:k<L1.length
 ·rw[if_pos c,List.getElem?_append_left c,List.getElem?_append_left c]
 ·rw[if_neg c,List.getElem?_append_right (by omega)]
  by_cases c2:k=L1.length
  ·rw[if_pos c2,c2]
   simp
  ·rw[if_neg c2,List.getElem?_append_right (by omega)]
   obtain⟨j,hj⟩:∃ j,k - L1.length=j+1:=⟨k - L1.length - 1,by omega⟩
   rw[hj,show k - 1 - L1.length=j by omega]
   rfl
theorem dep_insert (ps:List (List Int)) (L1 L2:List Int) (a:Int) (h:dep ps (L1++L2)):dep ps (L1++a :: L2):=by
 obtain⟨d,⟨k0,hk0,hne⟩,hz⟩:=h
 have l1:(L1++a :: L2).length=(L1++L2).length+1:=by simp;omega
 have l2:L1.length≤(L1++L2).length:=by simp
 refine⟨fun k=>if k<L1.length then d k else if k=L1.length then 0 else d (k - 1),?_,fun x=>?_⟩
 ·rw[l1]
  by_cases c:k0<L1.length
  ·exact⟨k0,by omega,by show (if k0<L1.length then d k0 else _)≠0;rw[if_pos c];exact hne⟩
  ·refine⟨k0+1,by omega,?_⟩
   show (if k0+1<L1.length then d (k0+1) else if k0+1=L1.length then 0 else d (k0+1 - 1))≠0
   rw[if_neg (by omega),if_neg (by omega)]
   exact hne
 ·rw[l1]
  refine Eq.trans (sm_congr fun k _=>?_) ((sm_insert _ L1.length (fun k=>d k * rowOf ps (L1++L2) k x) l2).trans (hz x))
  show (if k<L1.length then d k else if k=L1.length then 0 else d (k - 1)) * rowOf ps (L1++a :: L2) k x=if k<L1.length then d k * rowOf ps (L1++L2) k x else if k=L1.length then 0 else d (k - 1) * rowOf ps (L1++L2) (k - 1) x
  unfold rowOf
  rw[vf_app]
  by_cases c:k<L1.length
  ·rw[if_pos c,if_pos c,if_pos c]
  ·rw[if_neg c,if_neg c,if_neg c]
   by_cases c2:k=L1.length
   ·rw[if_pos c2,if_pos c2,if_pos c2,Int.zero_mul]
   ·rw[if_neg c2,if_neg c2,if_neg c2]
theorem place_in:∀ (S:List Int) (a:Int),S.Pairwise (·<·)→a ∉ S→∃ L1 L2,S=L1++L2∧(∀ x∈L1,x<a)∧∀ x∈L2,a<x
|[],a,_,_=>⟨[],[],rfl,by simp,by simp⟩
|x :: S,a,hp,ha=>by
  have hp2:=List.pairwise_cons.1 hp
  by_cases c:x<a
  ·obtain⟨L1,L2,e,h1,h2⟩:=place_in S a hp2.2 (fun h=>ha (List.mem_cons_of_mem _ h))
   refine⟨x :: L1,L2,by rw[e];rfl,fun y hy=>?_,h2⟩
   rcases List.mem_cons.1 hy with rfl|hy
   ·exact c
   ·exact h1 y hy
  ·have hne:a≠x:=fun e=>ha (by rw[e];exact List.mem_cons_self ..)
   refine⟨[],x :: S,rfl,by simp,fun y hy=>?_⟩
   rcases List.mem_cons.1 hy with rfl|hy
   ·omega
   ·have:=hp2.1 y hy
    omega
theorem asc_more {n:Nat} {S:List Int} (h:Asc n S) (hl:S.length<n):∃ a L1 L2,S=L1++L2∧Asc n (L1++a :: L2):=by
 obtain⟨f,hf,hfp⟩:=exists_not_mem (S.map Int.toNat) n (by simpa using hl)
 have ha:(f:Int) ∉ S:=fun hm=>hfp (List.mem_map.2 ⟨(f:Int),hm,by simp⟩)
 obtain⟨L1,L2,e,h1,h2⟩:=place_in S (f:Int) h.1 ha
 have hp:=h.1
 rw[e] at hp
 obtain⟨q1,q2,q3⟩:=List.pairwise_append.1 hp
 refine⟨(f:Int),L1,L2,e,List.pairwise_append.2 ⟨q1,List.pairwise_cons.2 ⟨h2,q2⟩,fun x hx y hy=>?_⟩,fun x hx=>?_⟩
 ·rcases List.mem_cons.1 hy with rfl|hy
  ·exact h1 x hx
  ·exact q3 x hx y hy
 ·rcases List.mem_append.1 hx with hx|hx
  ·exact h.2 x (by rw[e];exact List.mem_append_left _ hx)
  ·rcases List.mem_cons.1 hx with rfl|hx
   ·exact⟨by omega,by omega⟩
   ·exact h.2 x (by rw[e];exact List.mem_append_right _ hx)
theorem dep_up (ps:List (List Int)) {n:Nat}:∀ (j:Nat) (S:List Int),Asc n S→S.length+j≤n→dep ps S→∃ T,Asc n T∧T.length=S.length+j∧dep ps T
|0,S,h,_,hd=>⟨S,h,rfl,hd⟩
|j+1,S,h,hl,hd=>by
  obtain⟨a,L1,L2,e,h2⟩:=asc_more h (by omega)
  have hl2:(L1++a :: L2).length=S.length+1:=by rw[e];simp;omega
  rw[e] at hd
  obtain⟨T,t1,t2,t3⟩:=dep_up ps j (L1++a :: L2) h2 (by omega) (dep_insert ps L1 L2 a hd)
  exact⟨T,t1,by omega,t3⟩
noncomputable def anyFrom (ps:List (List Int)) (n:Nat):Nat→Nat→Bool
|0,_=>false
|j+1,s=>(chG s n n []).any (depT ps) || anyFrom ps n j (s+1)
theorem anyFrom_iff (ps:List (List Int)) (n:Nat):∀ (j s:Nat),anyFrom ps n j s=true↔∃ S,Asc n S∧s≤S.length∧S.length<s+j∧dep ps S
|0,s=>by
  simp only[anyFrom,Bool.false_eq_true,false_iff]
  rintro⟨S,_,h1,h2,_⟩
  omega
|j+1,s=>by
  rw[anyFrom,Bool.or_eq_true,anyFrom_iff ps n j (s+1),List.any_eq_true]
  constructor
  ·rintro (⟨S,hm,hd⟩|⟨S,a,h1,h2,hd⟩)
   ·obtain⟨a,l⟩:=chG_asc s n S hm
    exact⟨S,a,by omega,by omega,(depT_iff ps S).1 hd⟩
   ·exact⟨S,a,by omega,by omega,hd⟩
  ·rintro⟨S,a,h1,h2,hd⟩
   by_cases c:S.length=s
   ·exact .inl ⟨S,chG_mem a c,(depT_iff ps S).2 hd⟩
   ·exact .inr ⟨S,a,by omega,by omega,hd⟩
theorem asc_len {n:Nat} {S:List Int} (h:Asc n S):S.length≤n:=by
 by_cases c:n<S.length
 ·have:=chG_mem h rfl
  rw[chG_nil c] at this
  simp at this
 ·omega
theorem dep_one (ps:List (List Int)) (S:List Int) (h:S.length=1):¬ dep ps S:=by
 rintro⟨d,⟨k,hk,hne⟩,hz⟩
 have:=hz 0
 rw[h] at this hk
 obtain rfl:k=0:=by omega
 have e:rowOf ps S 0 0=1:=by simp[rowOf,vf]
 rw[sm,sm,e] at this
 omega
theorem any_same (ps:List (List Int)) {n d M:Nat} (hd:1≤d) (hn:1≤n) (hM:M=if d+1<n then d+1 else n):(chG M n n []).any (depT ps)=anyFrom ps n d 2:=by
 apply Bool.eq_iff_iff.2
 rw[anyFrom_iff,List.any_eq_true]
 have b:M≤n∧M≤d+1∧(M=n∨M=d+1):=by rw[hM];split <;> omega
 constructor
 ·rintro⟨S,hm,hs⟩
  obtain⟨a,l⟩:=chG_asc M n S hm
  have hs:=(depT_iff ps S).1 hs
  refine⟨S,a,?_,by omega,hs⟩
  by_cases c:S.length=1
  ·exact absurd hs (dep_one ps S c)
  ·omega
 ·rintro⟨S,a,h1,h2,hs⟩
  have l:=asc_len a
  obtain⟨T,t1,t2,t3⟩:=dep_up ps (M - S.length) S a (by omega) hs
  exact⟨T,chG_mem t1 (by omega),(depT_iff ps T).2 t3⟩
def oneL (ps:List (List Int)) (S:List Int):List (List Int):=S.map fun x=>1 :: rd_L1 ps x
structure Pl (ps:List (List Int)) (S:List Int) (d n:Nat):Prop where
 len:S.length=n
 pt:∀ x∈S,(rd_L1 ps x).length=d∧∀ k,-9≤vf (rd_L1 ps x) k∧vf (rd_L1 ps x) k≤9
 ok:∀ x∈S,0≤x∧x<ps.length
 d4:1≤d∧d≤4
theorem pl_of {ps:List (List Int)} {S:List Int} (hs:smB ps (ones ps.length)=true) (ha:Asc ps.length S) (h0:0<ps.length):Pl ps S (ps.headD []).length S.length:=by
 obtain⟨h16,hlen,hlb,hrow⟩:=smB_parts hs
 have ok:∀ x∈S,0≤x∧x<ps.length:=fun x hx=>by have:=ha.2 x hx;omega
 have hd:1≤(ps.headD []).length∧(ps.headD []).length≤4:=by
  cases ps with
 |nil=>simp at h0
 |cons a t=>exact(ptB_parts (hrow a (by simp)).1).2
 refine⟨rfl,fun x hx=>?_,ok,hd⟩
 obtain⟨q1,q2⟩:=ok x hx
 have e:rd_L1 ps x=ps[x.toNat]'(by omega):=by
  unfold rd_L1
  rw[getD_get _ _ (by omega)]
 rw[e]
 have:=hrow _ (List.getElem_mem (show x.toNat<ps.length by omega))
 refine⟨this.2,fun k=>?_⟩
 by_cases c:k<(ps[x.toNat]'(by omega)).length
 ·rw[vf_get _ _ c]
  exact all_range (ptB_parts this.1).1 k c
 ·rw[vf_out _ _ (by omega)]
  omega
section
variable {ps:List (List Int)} {S:List Int} {d n:Nat}
theorem vf_cons (a:Int) (p:List Int) (k:Nat):vf (a :: p) k=match k with|0=>a|k+1=>vf p k:=by
 cases k <;> simp[vf]
theorem vf_mem (h:Pl ps S d n) (k:Nat) (hk:k<n):vf S k∈S:=by
 have:=h.len
 rw[vf_get S k (by omega)]
 exact List.getElem_mem _
theorem one_rep (h:Pl ps S d n):Rep n (d+1) (oneL ps S) (rowOf ps S):=by
 have hl:=h.len
 refine⟨by simp[oneL,hl],fun i hi=>?_⟩
 have e:(oneL ps S).getD i []=1 :: rd_L1 ps (vf S i):=by
  rw[getD_get _ _ (by simp[oneL];omega),vf_get S i (by omega)]
  simp[oneL]
 rw[e]
 refine⟨?_,rfl⟩
 rw[List.length_cons,(h.pt _ (vf_mem h i hi)).1]
theorem row_9 (h:Pl ps S d n):∀ i,i<n→∀ x,-9≤rowOf ps S i x∧rowOf ps S i x≤9:=fun i hi x=>by
 unfold rowOf
 rw[vf_cons]
 cases x with
|zero=>show -9≤(1:Int)∧(1:Int)≤9;omega
|succ x=>exact(h.pt _ (vf_mem h i hi)).2 x
theorem row_z (h:Pl ps S d n):∀ i,i<n→∀ k,d+1≤k→rowOf ps S i k=0:=fun i hi k hk=>by
 unfold rowOf
 refine vf_out _ _ ?_
 rw[List.length_cons,(h.pt _ (vf_mem h i hi)).1]
 exact hk
theorem pts_len (h:Pl ps S d n):(ptsOf ps S).length=n:=by simp[ptsOf,h.len]
theorem pts_get (h:Pl ps S d n) (k:Nat) (hk:k<n):(ptsOf ps S).getD k []=rd_L1 ps (vf S k):=by
 have:=h.len
 rw[getD_get _ _ (by rw[pts_len h];exact hk),vf_get S k (by omega)]
 simp[ptsOf]
theorem eq_9 (h:Pl ps S d n):∀ i,i<d+1→∀ x,-9≤eqA d (ptsOf ps S) i x∧eqA d (ptsOf ps S) i x≤9:=fun i _ x=>by
 unfold eqA
 by_cases c:i<d
 ·rw[if_pos c]
  by_cases c2:x<n
  ·rw[pts_get h x c2]
   exact(h.pt _ (vf_mem h x c2)).2 i
  ·rw[getD_out _ _ (by rw[pts_len h];omega),vf_nil]
   omega
 ·rw[if_neg c]
  split <;> omega
theorem eq_z (h:Pl ps S d n):∀ i,i<d+1→∀ k,n≤k→eqA d (ptsOf ps S) i k=0:=fun i _ k hk=>by
 unfold eqA
 rw[getD_out _ _ (by rw[pts_len h];exact hk),vf_nil,pts_len h]
 split
 ·rfl
 ·rw[if_neg (by omega)]
theorem ker_dep (h:Pl ps S d n):(∃ x,Ker (d+1) n (eqA d (ptsOf ps S)) x∧∃ k,k<n∧x k≠0)↔dep ps S:=by
 have hl:=h.len
 unfold dep
 rw[hl]
 have e0:∀ k,k<n→eqA d (ptsOf ps S) d k=rowOf ps S k 0:=fun k hk=>by
  unfold eqA rowOf
  rw[if_neg (by omega),pts_len h,if_pos hk]
  rfl
 have e1:∀ i,i<d→∀ k,k<n→eqA d (ptsOf ps S) i k=rowOf ps S k (i+1):=fun i hi k hk=>by
  unfold eqA rowOf
  rw[if_pos hi,pts_get h k hk,vf_cons]
 constructor
 ·rintro⟨x,hx,hne⟩
  refine⟨x,hne,fun q=>?_⟩
  cases q with
 |zero=>rw[←hx d (by omega)];exact sm_congr fun k hk=>by rw[e0 k hk,Int.mul_comm]
 |succ q =>
   by_cases c:q<d
   ·rw[←hx q (by omega)]
    exact sm_congr fun k hk=>by rw[e1 q c k hk,Int.mul_comm]
   ·exact sm_zero fun k hk=>by rw[row_z h k hk (q+1) (by omega),Int.mul_zero]
 ·rintro⟨x,hne,hx⟩
  refine⟨x,fun i hi=>?_,hne⟩
  by_cases c:i<d
  ·rw[←hx (i+1)]
   exact sm_congr fun k hk=>by rw[e1 i c k hk,Int.mul_comm]
  ·obtain rfl:i=d:=by omega
   rw[←hx 0]
   exact sm_congr fun k hk=>by rw[e0 k hk,Int.mul_comm]
theorem one_ev (h:Pl ps S d n) (hn:n≤100):∀ (j i:Nat) (acc:List (List Int)),i+j=n→acc=(oneL ps S).take i→Ev (fun k=>Yx.v0 ps S k acc (i:Int)) (oneL ps S)
|0,i,acc,hj,ha=>by
  have hl:=h.len
  refine Ev.step (f:=fun _=>some (oneL ps S)) (fun k=>?_) (ev_const _)
  rw[Yx.v0,if_neg (by omega),ha,List.take_of_length_le (by simp[oneL];omega)]
|j+1,i,acc,hj,ha=>by
  have hl:=h.len
  have d4:=h.d4
  have hi:i<S.length:=by omega
  have hiv:i<(oneL ps S).length:=by simp[oneL];omega
  obtain⟨q1,q2⟩:=h.ok S[i] (List.getElem_mem hi)
  have q3:=(h.pt S[i] (List.getElem_mem hi)).1
  have hal:acc.length≤100:=by rw[ha,List.length_take];omega
  refine Ev.step (fun k=>?_) (one_ev h hn j (i+1) (acc++[[1]++rd_L1 ps S[i]]) (by omega) ?_)
  ·rw[Yx.v0,if_pos (by omega),if_pos (by omega),rd_vf,vf_get S i hi,if_pos (by omega),if_pos (by omega),if_pos (by omega),if_pos (by omega),w64_nat (by omega)]
  ·rw[ha,List.take_succ_eq_append_getElem hiv]
   congr 1
   simp[oneL]
theorem gvisit_ev (h:Pl ps S d n) (hn1:1≤n) (hn5:n≤5) (s:Unit):Ev (fun k=>Yx.v ps (n:Int) k s S) (depT ps S,s):=by
 have hl:=h.len
 have d4:=h.d4
 have ol:(oneL ps S).length=n:=by simp[oneL,hl]
 have o0:(rd_L1 (oneL ps S) 0).length=d+1:=by
  have:=((one_rep h).row 0 (by omega)).1
  rw[←this]
  simp[rd_L1]
 have inv0:=Inv.start n (d+1) (rowOf ps S) (row_9 h) (row_z h)
 obtain⟨R,hR,hE⟩:=impl_reduced_ev hn5 (by omega) (d+1) 0 (rowOf ps S) [] (oneL ps S) (by omega) (one_rep h) inv0
 have inv:=Inv.all hn5 keeps64 true (d+1) 0 (rowOf ps S) [] (by omega) inv0
 obtain⟨piv,hpv⟩:∃ piv,(elim wrap64 true (d+1) n (d+1) 0 (rowOf ps S) []).2=piv:=⟨_,rfl⟩
 rw[hpv] at inv hE
 have hE':Ev (fun k=>Kw.f k (oneL ps S) (((rd_L1 (oneL ps S) 0).length:Int))) (ints piv,R):=by
  unfold Kw.f
  rw[o0,ol]
  exact hE
 unfold Yx.v
 refine Ev.bind (one_ev h (by omega) n 0 [] (by omega) rfl) (ev_if_pos (by omega) (Ev.bind hE' ?_))
 have e:decide (((ints piv).length:Int)<(n:Int))=depT ps S:=by
  apply Bool.eq_iff_iff.2
  rw[depT_iff,decide_eq_true_eq,ints_length]
  unfold dep
  rw[hl,inv.dep (row_z h)]
  omega
 show Ev (fun _=>some (decide (((ints piv).length:Int)<(n:Int)),s)) _
 rw[e]
 exact ev_const _
theorem pivots_ev (h:Pl ps S d n) (hn1:1≤n) (hn5:n≤5):∃ (R:List (List Int)) (piv:List Int),Ev (fun k=>Vk1.f k (eqL d (ptsOf ps S)) (n:Int)) (R,piv)∧((piv.length:Int)<(n:Int)↔dep ps S):=by
 have d4:=h.d4
 have rep0:=eqL_rep d (ptsOf ps S)
 rw[pts_len h] at rep0
 have inv0:=Inv.start (d+1) n (eqA d (ptsOf ps S)) (eq_9 h) (eq_z h)
 obtain⟨R,hR,hE⟩:=spec_l4Reduced_ev (by omega) (by omega) n 0 (eqA d (ptsOf ps S)) [] (eqL d (ptsOf ps S)) (by omega) rep0 inv0
 have inv:=Inv.all (by omega) keeps64 false n 0 (eqA d (ptsOf ps S)) [] (by omega) inv0
 obtain⟨piv,hpv⟩:∃ piv,(elim wrap64 false n (d+1) n 0 (eqA d (ptsOf ps S)) []).2=piv:=⟨_,rfl⟩
 rw[hpv] at inv hE
 have rlen:=rep0.len
 refine⟨R,ints piv,?_,?_⟩
 ·unfold Vk1.f
  refine Ev.bind (spec_l2Rows_ev _ (by omega) fun x hx=>?_) ?_
  ·obtain⟨i,hi,rfl⟩:=List.getElem_of_mem hx
   have:=(rep0.row i (by omega)).1
   rw[getD_get _ _ hi] at this
   omega
  ·rw[rlen]
   exact hE
 ·rw[←ker_dep h,inv_null inv,ints_length]
  omega
end
section
variable {ps:List (List Int)} {d:Nat}
theorem some_ev {S:List Int} {n:Nat} (h:Pl ps S d n) (hn1:1≤n) (hn5:n≤5) (L:List (List Int)) (i:Nat) (hi:i<L.length) (hS:L.getD i []=S) {out:Bool×Bool}
  (next:¬ dep ps S→Ev (fun k=>Zq1.l1 k ps (n:Int) L (wrap64 ((i:Int)+1))) out) (hout:dep ps S→out=(false,true)) :
  ∀ (j q:Nat) (acc:List (List Int)),q+j=n→acc=(ptsOf ps S).take q→Ev (fun k=>Zq1.l2 k ps (n:Int) L (i:Int) acc (q:Int)) out
|0,q,acc,hj,ha=>by
  have pl:=pts_len h
  have d4:=h.d4
  have e:acc=ptsOf ps S:=by rw[ha,List.take_of_length_le (by omega)]
  have EQ:=spec_l4Equations_ev (d:=d) pl hn1 (fun v hv=>by
   obtain⟨x,hx,rfl⟩:=List.mem_map.1 hv
   exact(h.pt x hx).1) (by omega) (by omega)
  obtain⟨R,piv,h1,h2⟩:=pivots_ev h hn1 hn5
  refine Ev.step (f:=fun k=>(Xk1.f k (ptsOf ps S)).bind fun t208=>((Vk1.f k t208 (n:Int)).bind fun bt211=>(if(bt211.2.length:Int)<(n:Int) then(some (false,true)) else(Zq1.l1 k ps (n:Int) L (wrap64 ((i:Int)+1)))))) (fun k=>?_) (Ev.bind EQ (Ev.bind h1 ?_))
  ·rw[Zq1.l2,if_neg (by omega),e]
  ·by_cases c:dep ps S
   ·refine ev_if_pos (h2.2 c) ?_
    rw[hout c]
    exact ev_const _
   ·exact ev_if_neg (fun q=>c (h2.1 q)) (next c)
|j+1,q,acc,hj,ha=>by
  have pl:=pts_len h
  have hl:=h.len
  have hq:q<S.length:=by omega
  have hqp:q<(ptsOf ps S).length:=by omega
  obtain⟨q1,q2⟩:=h.ok S[q] (List.getElem_mem hq)
  have hal:acc.length≤100:=by rw[ha,List.length_take];omega
  refine Ev.step (fun k=>?_) (some_ev h hn1 hn5 L i hi hS next hout j (q+1) (acc++[rd_L1 ps S[q]]) (by omega) ?_)
  ·rw[Zq1.l2,if_pos (by omega),if_pos (by omega),if_pos (by omega),if_pos (by omega),rdL_nat,hS,if_pos (by omega),rd_vf,vf_get S q hq,if_pos (by omega),if_pos (by omega),if_pos (by omega),w64_nat (by omega)]
  ·rw[ha,List.take_succ_eq_append_getElem hqp]
   congr 1
   simp[ptsOf]
theorem size_l1 (hs:smB ps (ones ps.length)=true) (h0:0<ps.length) (h8:ps.length≤8) (s:Nat) (hs1:1≤s) (hs5:s≤5) (L:List (List Int)) (hL:L=chG s ps.length ps.length []) {out:Bool×Bool}
  (next:L.any (depT ps)=false→Ev (fun k=>Zq1.l0 k ps (wrap64 ((s:Int)+1))) out) (hout:L.any (depT ps)=true→out=(false,true)) :
  ∀ (j i:Nat),i+j=L.length→L.any (depT ps)=(L.drop i).any (depT ps)→Ev (fun k=>Zq1.l1 k ps (s:Int) L (i:Int)) out
|0,i,hj,hi=>by
  rw[List.drop_of_length_le (by omega)] at hi
  refine Ev.step (fun k=>?_) (next (hi.trans rfl))
  rw[Zq1.l1,if_neg (by omega)]
|j+1,i,hj,hi=>by
  have hlt:i<L.length:=by omega
  have hmem:L[i]∈chG s ps.length ps.length []:=by rw[←hL];exact List.getElem_mem hlt
  have hll:L.length≤1000000:=by
   rw[hL]
   have:=chG_len s ps.length ps.length []
   have p:2 ^ ps.length≤2 ^ 8:=Nat.pow_le_pow_right (by omega) h8
   have:(2:Nat) ^ 8=256:=by decide
   omega
  obtain⟨asc,len⟩:=chG_asc s ps.length _ hmem
  have pl:=pl_of hs asc h0
  rw[len] at pl
  rw[List.drop_eq_getElem_cons hlt,List.any_cons] at hi
  refine Ev.step (fun k=>by rw[Zq1.l1,if_pos (by omega)];rfl) (some_ev pl hs1 hs5 L i hlt (by rw[getD_get _ _ hlt]) (fun c=>?_) (fun c=>hout ?_) s 0 [] (by omega) (by simp))
  ·rw[w64_nat (by omega)]
   have e:depT ps L[i]=false:=by
    rw[Bool.eq_false_iff]
    exact fun q=>c ((depT_iff ps _).1 q)
   rw[e,Bool.false_or] at hi
   exact size_l1 hs h0 h8 s hs1 hs5 L hL next hout j (i+1) (by omega) hi
  ·rw[hi,(depT_iff ps _).2 c,Bool.true_or]
theorem size_l0 (hs:smB ps (ones ps.length)=true) (h0:0<ps.length) (h8:ps.length≤8) (hd:(ps.headD []).length=d) (hd4:d≤4):∀ (j s:Nat),2≤s→s+j=d+2→Ev (fun k=>Zq1.l0 k ps (s:Int)) (!anyFrom ps ps.length j s,true)
|j,s,hs2,hj=>by
  have e0:rd_L1 ps 0=ps.headD []:=by cases ps <;> simp[rd_L1]
  have ew:wrap64 ((d:Int)+1)=(d:Int)+1:=w64 (by omega) (by omega)
  match j,hj with
 |0,hj =>
   refine Ev.step (f:=fun k=>Zq1.j1 k ps (s:Int) false) (fun k=>?_) ?_
   ·rw[Zq1.l0,if_pos (by omega),if_pos (by omega),e0,hd,ew,decide_eq_false (by omega)]
   ·refine Ev.step (f:=fun _=>some (true,true)) (fun k=>?_) (ev_const _)
    rw[Zq1.j1,if_neg (by simp)]
 |j+1,hj =>
   refine Ev.step (f:=fun k=>Zq1.j1 k ps (s:Int) true) (fun k=>?_) ?_
   ·rw[Zq1.l0,if_pos (by omega),if_pos (by omega),e0,hd,ew,decide_eq_true (by omega)]
   ·refine Ev.step (f:=fun k=>(Jk1.f k (ps.length:Int) (s:Int) (([]:List Int))).bind fun t=>(Zq1.l1 k ps (s:Int) t 0)) (fun k=>by rw[Zq1.j1,if_pos rfl]) (Ev.bind (spec_l4Choose_ev ps.length s (by omega)) ?_)
    refine size_l1 hs h0 h8 s (by omega) (by omega) _ rfl (fun e=>?_) (fun e=>?_) (chG s ps.length ps.length []).length 0 (by omega) (by rw[List.drop_zero])
    ·rw[w64_nat (by omega),anyFrom,e,Bool.false_or]
     exact size_l0 hs h0 h8 hd hd4 j (s+1) (by omega) (by omega)
    ·rw[anyFrom,e]
     rfl
end
theorem runV_any (t:List Int→Bool):∀ (L:List (List Int)),runV t (fun _ (s:Unit)=>s) L ()=(L.any t,())
|[]=>rfl
|S :: L=>by
  rw[runV,runV_any t L,List.any_cons]
  by_cases c:t S=true
  ·rw[if_pos c,c]
   rfl
  ·rw[if_neg c,Bool.eq_false_iff.2 c]
   rfl
theorem parting_inside:∀ n d:Fin 9,1≤d.val→d.val≤4→(Vq1.f 20 (n.val:Int) (d.val:Int)).isSome=true∧Gx.f 20 (n.val:Int) (d.val:Int)=Vq1.f 20 (n.val:Int) (d.val:Int):=by
 decide +kernel
theorem parting_same (n d:Int):∃ r,Ev (fun k=>Gx.f k n d) r∧Ev (fun k=>Vq1.f k n d) r:=by
 have h:∃ r,Vq1.f 20 n d=some r∧Gx.f 20 n d=some r:=by
  by_cases h:inB 0 8 n=true
  ·by_cases h2:inB 1 4 d=true
   ·have a:=inB_iff.1 h
    have b:=inB_iff.1 h2
    obtain⟨n,rfl⟩:=Int.eq_ofNat_of_zero_le a.1
    obtain⟨d,rfl⟩:=Int.eq_ofNat_of_zero_le (show 0≤d by omega)
    have q:=parting_inside ⟨n,by omega⟩ ⟨d,by omega⟩ (show 1≤d by omega) (show d≤4 by omega)
    simp only at q
    obtain⟨r,hr⟩:=Option.isSome_iff_exists.1 q.1
    exact⟨r,hr,q.2.trans hr⟩
   ·refine⟨(0,false),?_,?_⟩
    ·unfold Vq1.f
     rw[spec_l1In_is,spec_l1In_is]
     simp[Vq1.j0,h,h2]
    ·unfold Gx.f
     rw[impl_within_is,impl_within_is]
     simp[Gx.j0,h,h2]
  ·refine⟨(0,false),?_,?_⟩
   ·unfold Vq1.f
    rw[spec_l1In_is]
    simp[Vq1.j0,h]
   ·unfold Gx.f
    rw[impl_within_is]
    simp[Gx.j0,h]
 obtain⟨r,h1,h2⟩:=h
 exact⟨r,Ev.of (fun k=>Gx.mono _ _ k) h2,Ev.of (fun k=>Vq1.mono _ _ k) h1⟩
def rw0 (ps:List (List Int)) (k x:Nat):Int:=vf (1 :: ps.getD k []) x
def Free (m n:Nat) (v:Nat→Nat→Int):Prop:=∀ s:Nat→Bool,cn n s≤m→∀ c:Nat→Int,(∀ k,k<n→s k=false→c k=0)→Rl m n v c→∀ k,k<n→c k=0
def sgb (b:Bool):Int:=if b=true then 1 else -1
def sv (v:Nat→Nat→Int) (l:List Bool) (k x:Nat):Int:=sgb (l.getD k false) * v k x
theorem sgb_one (b:Bool):sgb b=1∨sgb b = -1:=by cases b <;> simp[sgb]
theorem cn_first:∀ (n:Nat) (s:Nat→Bool),cn (n+1) s=(if s 0=true then 1 else 0)+cn n (fun k=>s (k+1))
|0,s=>by simp[cn]
|n+1,s=>by
  have:=cn_first n s
  rw[cn,this,cn]
  omega
theorem cn_list:∀ S:List Bool,cn S.length (fun k=>S.getD k false)=Cover.trues S
|[]=>rfl
|b :: S=>by
  have:=cn_list S
  rw[List.length_cons,cn_first]
  have e:cn S.length (fun k=>(b :: S).getD (k+1) false)=Cover.trues S:=by
   rw[←this]
   rfl
  rw[e]
  unfold Cover.trues
  rw[List.countP_cons]
  show (if b=true then 1 else 0)+_=_
  omega
theorem agree_at:∀ (S l t:List Bool),S.length=l.length→S.length=t.length→Cover.agree S l t→∀ k,k<S.length→S.getD k false=true→l.getD k false=t.getD k false
|[],l,t,_,_,_,k,hk,_=>by simp at hk
|s :: S,[],t,h,_,_,k,hk,_=>by simp at h
|s :: S,a :: l,[],_,h,_,k,hk,_=>by simp at h
|s :: S,a :: l,b :: t,h1,h2,ha,0,hk,hs=>ha.1 hs
|s :: S,a :: l,b :: t,h1,h2,ha,k+1,hk,hs=>agree_at S l t (by simpa using h1) (by simpa using h2) ha.2 k (by simpa using hk) hs
theorem blend_at:∀ (S t o:List Bool),S.length=t.length→S.length=o.length→(Cover.blend S t o).length=S.length∧∀ k,k<S.length→(Cover.blend S t o).getD k false=if S.getD k false=true then t.getD k false else o.getD k false
|[],t,o,_,_=>by
  refine⟨?_,fun k hk=>by simp at hk⟩
  unfold Cover.blend
  rfl
|s :: S,[],o,h,_=>by simp at h
|s :: S,a :: t,[],_,h=>by simp at h
|s :: S,a :: t,b :: o,h1,h2=>by
  obtain⟨q1,q2⟩:=blend_at S t o (by simpa using h1) (by simpa using h2)
  rw[Cover.blend]
  refine⟨by simp[q1],fun k hk=>?_⟩
  cases k with
 |zero=>rfl
 |succ k=>exact q2 k (by simpa using hk)
theorem range_get (N:Nat) (f:Nat→Bool) (k:Nat) (hk:k<N):((List.range N).map f).getD k false=f k:=by
 rw[List.getD_eq_getElem?_getD,List.getElem?_map,List.getElem?_range hk]
 rfl
theorem abs_sgb (c:Int) (b:Bool) (h:0≤sgb b * c):((c.natAbs:Nat):Int) * sgb b=c:=by
 cases b <;> simp[sgb] at h ⊢ <;> omega
theorem upper_half {N d:Nat} {v:Nat→Nat→Int} (p:List Bool→Bool) (hp:∀ l:List Bool,l.length=N+1→p l=true→¬ Hard (d+1) (N+1) (sv v l)) (b:Bool):Cover.cnt N (fun l=>p (b :: l))≤Cover.bsum N d:=by
 refine Cover.cnt_le_bsum N _ d fun sh=>?_
 obtain⟨S,hS,hk,hall⟩:=Cover.sh_tells N _ (d+1) sh
 obtain⟨c0,⟨k0,k1,k2⟩,c2,c3⟩:=rel_vec v (m:=d+1) (n:=N+1) (s:=fun k=>(true :: S).getD k false) (by
  have:=cn_list (true :: S)
  rw[List.length_cons,hS] at this
  rw[this]
  unfold Cover.trues at hk ⊢
  rw[List.countP_cons_of_pos rfl]
  omega)
 have sg:∃ c:Nat→Int,c k0≠0∧(∀ k,(true :: S).getD k false=false→c k=0)∧Rl (d+1) (N+1) v c∧0≤sgb b * c 0:=by
  by_cases q:0≤sgb b * c0 0
  ·exact⟨c0,k2,c2,c3,q⟩
  ·refine⟨fun k=>-1 * c0 k+0 * c0 k,by show -1 * c0 k0+0 * c0 k0≠0;omega,fun k hk=>by show -1 * c0 k+0 * c0 k=0;rw[c2 k hk];rfl,rl_lin c3 c3 (-1) 0,?_⟩
   show 0≤sgb b * (-1 * c0 0+0 * c0 0)
   have e:sgb b * (-1 * c0 0+0 * c0 0) = -(sgb b * c0 0):=by grind
   omega
 obtain⟨c,n1,n2,n3,n4⟩:=sg
 obtain⟨l,hl,hpl,ha⟩:=hall ((List.range N).map fun k=>decide (0≤c (k+1))) (by simp)
 refine hp (b :: l) (by simp[hl]) hpl ⟨fun k=>((c k).natAbs:Int),fun k _=>Int.natCast_nonneg _,⟨k0,k1,by show ((c k0).natAbs:Int)≠0;omega⟩,fun x hx=>?_⟩
 rw[←n3 x hx]
 refine sm_congr fun k hk=>?_
 show ((c k).natAbs:Int) * (sgb ((b :: l).getD k false) * v k x)=c k * v k x
 rw[←Int.mul_assoc]
 congr 1
 refine abs_sgb _ _ ?_
 cases k with
|zero=>exact n4
|succ k =>
  show 0≤sgb (l.getD k false) * c (k+1)
  by_cases q:S.getD k false=true
  ·have:=agree_at S l _ (by omega) (by simp[hS]) ha k (by omega) q
   rw[this,range_get N _ k (by omega)]
   by_cases z:0≤c (k+1)
   ·rw[decide_eq_true z]
    show 0≤1 * c (k+1)
    omega
   ·rw[decide_eq_false z]
    show 0 ≤ -1 * c (k+1)
    omega
  ·rw[n2 (k+1) (Bool.eq_false_iff.2 q),Int.mul_zero]
   exact Int.le_refl _
theorem sm_all_zero:∀ {n:Nat} {f:Nat→Int},(∀ k,k<n→0≤f k)→sm n f=0→∀ k,k<n→f k=0
|0,f,_,_,k,hk=>by omega
|n+1,f,h,e,k,hk=>by
  have a:=sm_nonneg (n:=n) (f:=f) fun k hk=>h k (by omega)
  have b:=h n (by omega)
  simp only[sm] at e
  by_cases q:k=n
  ·rw[q]
   omega
  ·exact sm_all_zero (n:=n) (fun k hk=>h k (by omega)) (by omega) k (by omega)
theorem lower_half {N d:Nat} {v:Nat→Nat→Int} (G:Free (d+1) (N+1) v) (p:List Bool→Bool) (hp:∀ l:List Bool,l.length=N+1→¬ Hard (d+1) (N+1) (sv v l)→p l=true) (b:Bool):Cover.bsum N d≤Cover.cnt N (fun l=>p (b :: l)):=by
 refine Cover.bsum_le_cnt N d _ fun S hS ht=>?_
 obtain⟨w0,⟨x0,x1,x2⟩,_,w3⟩:=rel (((List.range N).filter fun i=>S.getD i false).map fun i=>fun x=>v (i+1) x) (d+1) (fun _=>true) (by
  have e1:∀ n,cn n (fun _=>true)=n:=fun n=>by
   induction n with
  |zero=>rfl
  |succ n ih=>rw[cn,ih,if_pos rfl]
  have e2:=idx_len N (fun i=>S.getD i false)
  have e3:=cn_list S
  rw[hS] at e3
  unfold idx at e2
  rw[List.length_map] at e2 ⊢
  rw[e1]
  omega)
 have inS:∀ k,k<N→S.getD k false=true→dt (d+1) w0 (v (k+1))=0:=fun k hk q=>w3 _ (List.mem_map.2 ⟨k,List.mem_filter.2 ⟨List.mem_range.2 hk,q⟩,rfl⟩)
 have sg:∃ w:Nat→Int,w x0≠0∧(∀ k,k<N→S.getD k false=true→dt (d+1) w (v (k+1))=0)∧0≤sgb b * dt (d+1) w (v 0):=by
  by_cases q:0≤sgb b * dt (d+1) w0 (v 0)
  ·exact⟨w0,x2,inS,q⟩
  ·have neg:∀ u,dt (d+1) (fun x=>-1 * w0 x) u = -(dt (d+1) w0 u):=fun u=>by
    unfold dt
    have e:sm (d+1) (fun x=>-1 * w0 x * u x)=sm (d+1) (fun x=>-1 * (w0 x * u x)):=sm_congr fun x _=>Int.mul_assoc _ _ _
    rw[e,sm_mul]
    omega
   refine⟨fun x=>-1 * w0 x,by show -1 * w0 x0≠0;omega,fun k hk q=>by rw[neg,inS k hk q];rfl,?_⟩
   rw[neg,Int.mul_neg]
   omega
 obtain⟨w,y1,y2,y3⟩:=sg
 obtain⟨z,hz⟩:∃ z:Nat→Bool,z=fun k=>decide (dt (d+1) w (v k)=0):=⟨_,rfl⟩
 have few:cn (N+1) z≤d+1:=by
  apply Classical.byContradiction
  intro q
  obtain⟨t,t1,t2⟩:=cn_sub (n:=N+1) (s:=z) (m:=d+1) (by omega)
  obtain⟨c,⟨k,k1,k2⟩,c2,c3⟩:=rel_plane v (m:=d+1) (n:=N+1) (s:=t) (by omega) x1 y1 fun k _ hk=>by
   have:=t1 k hk
   rw[hz] at this
   exact of_decide_eq_true this
  exact k2 (G t (by omega) c (fun k _ hk=>c2 k hk) c3 k k1)
 refine⟨(List.range N).map fun k=>decide (0≤dt (d+1) w (v (k+1))),by simp,fun t ht'=>?_⟩
 obtain⟨q1,q2⟩:=blend_at S t ((List.range N).map fun k=>decide (0≤dt (d+1) w (v (k+1)))) (by omega) (by simp[hS])
 refine hp _ (by simp[q1,hS]) ?_
 rintro⟨c,c1,⟨k0,k1,k2⟩,c3⟩
 obtain⟨l,hl⟩:∃ l,l=b :: Cover.blend S t ((List.range N).map fun k=>decide (0≤dt (d+1) w (v (k+1)))):=⟨_,rfl⟩
 rw[←hl] at c3
 have r:Rl (d+1) (N+1) v (fun k=>c k * sgb (l.getD k false)):=fun x hx=>by
  rw[←c3 x hx]
  exact sm_congr fun k _=>by rw[Int.mul_assoc];rfl
 have side:∀ k,k<N+1→0≤sgb (l.getD k false) * dt (d+1) w (v k):=fun k hk=>by
  rw[hl]
  cases k with
 |zero=>exact y3
 |succ k =>
   show 0≤sgb ((Cover.blend S t _).getD k false) * _
   rw[q2 k (by omega)]
   by_cases q:S.getD k false=true
   ·rw[y2 k (by omega) q,Int.mul_zero]
    exact Int.le_refl _
   ·rw[if_neg q,range_get N _ k (by omega)]
    by_cases e:0≤dt (d+1) w (v (k+1))
    ·rw[decide_eq_true e]
     show 0≤1 * _
     omega
    ·rw[decide_eq_false e]
     show 0 ≤ -1 * _
     omega
 have zero:=rl_dt r w
 have terms:=sm_all_zero (n:=N+1) (f:=fun k=>c k * sgb (l.getD k false) * dt (d+1) w (v k)) (fun k hk=>by
  have a:=c1 k hk
  have b:=side k hk
  rw[Int.mul_assoc]
  exact Int.mul_nonneg a b) zero
 have off:∀ k,k<N+1→z k=false→c k * sgb (l.getD k false)=0:=fun k hk q=>by
  have:=terms k hk
  rw[hz] at q
  exact(Int.mul_eq_zero.1 this).resolve_right (of_decide_eq_false q)
 have all:=G z few _ off r
 have:=all k0 k1
 rcases Int.mul_eq_zero.1 this with q|q
 ·exact k2 q
 ·rcases sgb_one (l.getD k0 false) with e|e <;> omega
def bits (n c:Nat):List Bool:=(List.range n).map fun i=>decide (c / 2 ^ i % 2=1)
theorem bits_succ (n c:Nat):bits (n+1) c=decide (c % 2=1) :: bits n (c / 2):=by
 unfold bits
 rw[List.range_succ_eq_map,List.map_cons,List.map_map]
 congr 1
 ·simp
 ·apply List.map_congr_left
  intro i _
  show decide (c / 2 ^ (i+1) % 2=1)=decide (c / 2 / 2 ^ i % 2=1)
  rw[Nat.div_div_eq_div_mul,Nat.pow_succ,Nat.mul_comm]
theorem sm_pairs:∀ (n:Nat) (f:Nat→Int),sm (2 * n) f=sm n (fun c=>f (2 * c)+f (2 * c+1))
|0,f=>rfl
|n+1,f=>by
  show sm (2 * n+1+1) f=_
  rw[sm,sm,sm_pairs n f,sm]
  omega
theorem sm_cnt:∀ (n:Nat) (P:List Bool→Bool),sm (2 ^ n) (fun c=>if P (bits n c)=true then 1 else 0)=(Cover.cnt n P:Int)
|0,P=>by
  show (0:Int)+(if P []=true then 1 else 0)=((if P []=true then 1 else 0:Nat):Int)
  split <;> rfl
|n+1,P=>by
  rw[Nat.pow_succ,Nat.mul_comm,sm_pairs]
  have e:sm (2 ^ n) (fun c=>(if P (bits (n+1) (2 * c))=true then(1:Int) else 0)+(if P (bits (n+1) (2 * c+1))=true then 1 else 0))=sm (2 ^ n) (fun c=>(if P (false :: bits n c)=true then(1:Int) else 0)+(if P (true :: bits n c)=true then 1 else 0)):=sm_congr fun c _=>by
   rw[bits_succ,bits_succ,show 2 * c / 2=c by omega,show (2 * c+1) / 2=c by omega,decide_eq_false (show ¬ 2 * c % 2=1 by omega),decide_eq_true (show (2 * c+1) % 2=1 by omega)]
  rw[e,sm_add,sm_cnt n (fun l=>P (false :: l)),sm_cnt n (fun l=>P (true :: l)),Cover.cnt]
  omega
theorem labI_bits (n c:Nat):labI n c=(bits n c).map sgb:=by
 unfold labI bits
 rw[List.map_map]
 apply List.map_congr_left
 intro i _
 show 2 * ((c / 2 ^ i % 2:Nat):Int) - 1=sgb (decide (c / 2 ^ i % 2=1))
 have:=Nat.mod_lt (c / 2 ^ i) (y:=2) (by omega)
 by_cases q:c / 2 ^ i % 2=1
 ·rw[decide_eq_true q,q]
  rfl
 ·rw[decide_eq_false q,show c / 2 ^ i % 2=0 by omega]
  rfl
theorem hard_sv {ps:List (List Int)} {m:Nat} (l:List Bool) (hl:l.length=ps.length):Hard m ps.length (vv ps (l.map sgb))↔Hard m ps.length (sv (rw0 ps) l):=by
 have e:∀ k,k<ps.length→∀ x,vv ps (l.map sgb) k x=sv (rw0 ps) l k x:=fun k hk x=>by
  unfold vv sv rw0
  congr 1
  rw[vf_get _ k (by simp;omega),List.getElem_map,List.getD_eq_getElem?_getD,List.getElem?_eq_getElem (by omega)]
  rfl
 have r:∀ c:Nat→Int,Rl m ps.length (vv ps (l.map sgb)) c↔Rl m ps.length (sv (rw0 ps) l) c:=fun c=>by
  have f:∀ x,sm ps.length (fun k=>c k * vv ps (l.map sgb) k x)=sm ps.length (fun k=>c k * sv (rw0 ps) l k x):=fun x=>sm_congr fun k hk=>by rw[e k hk]
  exact⟨fun q x hx=>by rw[←f];exact q x hx,fun q x hx=>by rw[f];exact q x hx⟩
 exact⟨fun ⟨c,h1,h2,h3⟩=>⟨c,h1,h2,(r c).1 h3⟩,fun ⟨c,h1,h2,h3⟩=>⟨c,h1,h2,(r c).2 h3⟩⟩
theorem can_hard {ps:List (List Int)} {ls:List Int} (hs:smB ps ls=true):∃ b,Ev (fun k=>Jk.f k ps ls) b∧Ev (fun k=>Gx1.f k ps ls) b∧(b=true↔¬ Hard ((ps.headD []).length+1) ps.length (vv ps ls)):=by
 obtain⟨r,h1,h2,h4,h3⟩:=hard_all hs
 refine⟨r.isNone,?_,?_,?_⟩
 ·unfold Jk.f
  refine Ev.bind h1 ?_
  cases r with
 |none=>exact ev_const _
 |some q=>exact ev_const _
 ·unfold Gx1.f
  refine Ev.bind h2 ?_
  cases r with
 |none=>exact ev_const _
 |some q =>
   have:=(h3 q rfl).1
   show Ev (fun _=>some ((q.1.length:Int) == 0)) false
   have e:((q.1.length:Int) == 0)=false:=by
    rw[beq_eq_false_iff_ne]
    omega
   rw[e]
   exact ev_const _
 ·rw[←h4]
  cases r <;> simp
theorem count_full {ps:List (List Int)} (hl:ps.length≤1048576) (hr:∀ r∈ps,r.length≤1048576) (c:fewB ps=true):∃ P:List Bool→Bool,(∀ l:List Bool,l.length=ps.length→(P l=true↔¬ Hard ((ps.headD []).length+1) ps.length (sv (rw0 ps) l))) ∧
  Ev (fun k=>Xx.f k ps) ((Cover.cnt ps.length P:Int),true)∧Ev (fun k=>Jq1.f k ps) ((Cover.cnt ps.length P:Int),true):=by
 obtain⟨h8,hs⟩:=fewB_sm c
 have each:∀ l:List Int,∃ b,smB ps l=true→Ev (fun k=>Jk.f k ps l) b∧Ev (fun k=>Gx1.f k ps l) b∧(b=true↔¬ Hard ((ps.headD []).length+1) ps.length (vv ps l)):=fun l=>by
  by_cases q:smB ps l=true
  ·obtain⟨b,h⟩:=can_hard q
   exact⟨b,fun _=>h⟩
  ·exact⟨true,fun q2=>absurd q2 q⟩
 have sI:∀ c,smB ps (labI ps.length c)=true:=fun c=>sm_labels hs (labI_len _ _) (labI_one _ _)
 have sB:∀ l:List Bool,l.length=ps.length→smB ps (l.map sgb)=true:=fun l h=>sm_labels hs (by simp[h]) fun x hx=>by
  obtain⟨b,_,rfl⟩:=List.mem_map.1 hx
  exact sgb_one b
 have val:sm (2 ^ ps.length) (fun c=>if Classical.choose (each (labI ps.length c))=true then(1:Int) else 0)=(Cover.cnt ps.length (fun l=>Classical.choose (each (l.map sgb))):Int):=by
  rw[←sm_cnt]
  exact sm_congr fun c _=>by rw[labI_bits]
 refine⟨fun l=>Classical.choose (each (l.map sgb)),fun l h=>?_,?_,?_⟩
 ·rw[←hard_sv l h]
  exact(Classical.choose_spec (each (l.map sgb)) (sB l h)).2.2
 ·unfold Xx.f
  refine Ev.bind (impl_areFew_ev ps hl hr) (ev_if_pos c ?_)
  rw[shl_8 ps.length h8,←val]
  exact cp_il0 (C:=fun l=>Classical.choose (each l)) rfl h8 (fun c hc=>(Classical.choose_spec (each (labI ps.length c)) (sI c)).1) (2 ^ ps.length) 0 (by omega)
 ·unfold Jq1.f
  refine Ev.bind (spec_l4Points_ev ps hl hr) (ev_if_pos c ?_)
  have q:=cp_sl0 (C:=fun l=>Classical.choose (each l)) rfl h8 (fun c hc=>by
   have:=(Classical.choose_spec (each (labS ps.length c)) (by rw[lab_turn h8 hc];exact sI _)).2.1
   exact this) (2 ^ ps.length) 0 (by omega)
  have e:sm (2 ^ ps.length) (fun c=>if Classical.choose (each (labS ps.length c))=true then(1:Int) else 0)=sm (2 ^ ps.length) (fun c=>if Classical.choose (each (labI ps.length c))=true then 1 else 0):=by
   rw[←sm_rev (2 ^ ps.length) (fun c=>if Classical.choose (each (labI ps.length c))=true then 1 else 0)]
   exact sm_congr fun c hc=>by rw[lab_turn h8 hc]
  rw[e,val] at q
  exact q
theorem dep_mask {ps:List (List Int)} (hs:smB ps (ones ps.length)=true) (h0:0<ps.length) {s:Nat→Bool} {c:Nat→Int} (hc:∀ k,k<ps.length→s k=false→c k=0) (hr:Rl ((ps.headD []).length+1) ps.length (rw0 ps) c) {k:Nat} (hk:k<ps.length) (hne:c k≠0):dep ps (idx ps.length s):=by
 have asc:=idx_asc ps.length s
 have pl:=pl_of hs asc h0
 have sk:s k=true:=by
  apply Classical.byContradiction
  intro q
  exact hne (hc k hk (Bool.eq_false_iff.2 q))
 obtain⟨j,hj,e⟩:=idx_at hk sk
 have row:∀ j,j<(idx ps.length s).length→∀ x,rowOf ps (idx ps.length s) j x=rw0 ps (vf (idx ps.length s) j).toNat x:=fun j hj x=>by
  unfold rowOf rw0
  have:=asc_vf asc j hj
  have e:(((vf (idx ps.length s) j).toNat:Nat):Int)=vf (idx ps.length s) j:=by omega
  rw[←rdL_nat,e]
 refine⟨fun j=>c (vf (idx ps.length s) j).toNat,⟨j,hj,by show c (vf (idx ps.length s) j).toNat≠0;rw[e];exact hne⟩,fun x=>?_⟩
 by_cases q:x<(ps.headD []).length+1
 ·have:=push_sum (asc_lt asc) (fun j=>c (vf (idx ps.length s) j).toNat) (fun i=>rw0 ps i x)
  rw[←hr x q]
  refine Eq.trans (sm_congr fun j hj=>?_) (this.symm.trans (sm_congr fun i hi=>by rw[push_idx hc hi]))
  rw[row j hj]
 ·exact sm_zero fun j hj=>by rw[row_z pl j hj x (by omega),Int.mul_zero]
theorem general_full {ps:List (List Int)} (hl:ps.length≤1048576) (hr:∀ r∈ps,r.length≤1048576) (c:fewB ps=true):∃ v:Bool,Ev (fun k=>Yx.f k ps) (v,true)∧Ev (fun k=>Zq1.f k ps) (v,true)∧(0<ps.length→v=true→Free ((ps.headD []).length+1) ps.length (rw0 ps)):=by
 obtain⟨h8,hs⟩:=fewB_sm c
 by_cases z:ps.length=0
 ·refine⟨true,?_,?_,fun h=>by omega⟩
  ·unfold Yx.f
   exact Ev.bind (impl_areFew_ev ps hl hr) (ev_if_pos c (ev_if_pos (by omega) (ev_const _)))
  ·unfold Zq1.f
   refine Ev.bind (spec_l4Points_ev ps hl hr) (ev_if_pos c ?_)
   refine Ev.step (f:=fun k=>Zq1.j1 k ps 2 false) (fun k=>?_) ?_
   ·rw[Zq1.l0,if_neg (by omega)]
   ·refine Ev.step (f:=fun _=>some (true,true)) (fun k=>?_) (ev_const _)
    rw[Zq1.j1,if_neg (by simp)]
 ·have h0:0<ps.length:=by omega
  have d4:1≤(ps.headD []).length∧(ps.headD []).length≤4:=(pl_of (S:=[]) hs ⟨List.Pairwise.nil,by simp⟩ h0).d4
  obtain⟨d,hd⟩:∃ d,(ps.headD []).length=d:=⟨_,rfl⟩
  obtain⟨M,hM⟩:∃ M,M=if d+1<ps.length then d+1 else ps.length:=⟨_,rfl⟩
  have bM:1≤M∧M≤5:=by rw[hM];split <;> omega
  have e0:rd_L1 ps 0=ps.headD []:=by cases ps <;> simp[rd_L1]
  have em:mn (ps.length:Int) (wrap64 (((rd_L1 ps 0).length:Int)+1))=(M:Int):=by
   rw[e0,hd,w64 (by omega) (by omega),hM]
   unfold mn
   split <;> split <;> omega
  refine⟨!anyFrom ps ps.length d 2,?_,?_,fun _ hv=>?_⟩
  ·unfold Yx.f
   rw[em]
   have ch:=impl_choices_ev (V:=Yx.v ps (M:Int)) (t:=depT ps) (st:=fun _ (s:Unit)=>s) ps.length M (by omega) () (fun S hS s=>by
    obtain⟨asc,len⟩:=chG_asc M ps.length S hS
    have pl:=pl_of hs asc h0
    rw[len] at pl
    exact gvisit_ev pl bM.1 bM.2 s)
   rw[runV_any,any_same ps (by omega) h0 hM] at ch
   exact Ev.bind (impl_areFew_ev ps hl hr) (ev_if_pos c (ev_if_neg (by omega) (ev_if_pos (by omega) (Ev.bind ch (ev_const _)))))
  ·unfold Zq1.f
   exact Ev.bind (spec_l4Points_ev ps hl hr) (ev_if_pos c (size_l0 hs h0 h8 hd (by omega) d 2 (by omega) (by omega)))
  ·intro s hcn x hx hR k hk
   apply Classical.byContradiction
   intro hne
   have D:=dep_mask hs h0 hx hR hk hne
   have len:=idx_len ps.length s
   have any:¬ anyFrom ps ps.length d 2=true:=by
    intro q
    rw[q] at hv
    simp at hv
   refine any ((anyFrom_iff ps ps.length d 2).2 ⟨idx ps.length s,idx_asc _ _,?_,by omega,D⟩)
   apply Classical.byContradiction
   intro q
   have:(idx ps.length s).length=1∨(idx ps.length s).length=0:=by omega
   rcases this with w|w
   ·exact dep_one ps _ w D
   ·obtain⟨e,⟨j,hj,_⟩,_⟩:=D
    omega
theorem bound_inside:∀ n d:Fin 9,1≤n.val→1≤d.val→d.val≤4→Gx.f 20 (n.val:Int) (d.val:Int)=some (((2 * Cover.bsum (n.val - 1) d.val:Nat):Int),true):=by
 decide +kernel
theorem point_j1 (l:List Int) (hb:byt l) (d:Nat) (x5:List Int) (hx:x5.length=d) (hd:d≤4) (b:Bool) (hbd:b=true→1≤d) (a sd:Int) (h0:0≤a) (h1:a≤1000000000):∃ r a' sd',Ev (fun k=>Vj1.j1 k (d:Int) x5 b l a sd) (r,a',sd')∧r.length≤5∧a≤a'∧a'≤a+6:=by
 by_cases c:b=true
 ·have hd1:=hbd c
  obtain⟨v,a1,s1,e1,g0,g1,g2,g3⟩:=pick_tells l a sd (d:Int) hb h0 (by omega)
  obtain⟨v2,a2,s2,e2,_,g4,g5⟩:=among_tells l a1 s1 [10,(-10),9,(-9),4611686018427387904] hb (by omega) (by omega) (by decide)
  obtain⟨q,a3,s3,e3,g6,g7⟩:=oneI_tells l a2 s2 80 hb (by omega) (by omega)
  refine⟨if q=true then x5.set v.toNat v2++[0] else x5.set v.toNat v2,a3,s3,Ev.step (f:=fun _=>some (if q=true then x5.set v.toNat v2++[0] else x5.set v.toNat v2,a3,s3)) (fun k=>?_) (ev_const _),?_,by omega,by omega⟩
  ·rw[Vj1.j1,if_pos c,e1]
   simp only[Option.bind_some]
   rw[e2]
   simp only[Option.bind_some]
   rw[if_pos g0,if_pos (by omega),e3]
   simp only[Option.bind_some]
   by_cases w:q=true
   ·rw[if_pos w,if_pos w,if_pos (by rw[List.length_set];omega)]
   ·rw[if_neg w,if_neg w]
  ·split
   ·rw[List.length_append,List.length_set,List.length_singleton]
    omega
   ·rw[List.length_set]
    omega
 ·obtain⟨q,a3,s3,e3,g6,g7⟩:=oneI_tells l a sd 80 hb (by omega) (by omega)
  refine⟨if q=true then x5++[0] else x5,a3,s3,Ev.step (f:=fun _=>some (if q=true then x5++[0] else x5,a3,s3)) (fun k=>?_) (ev_const _),?_,by omega,by omega⟩
  ·rw[Vj1.j1,if_neg c,e3]
   simp only[Option.bind_some]
   by_cases w:q=true
   ·rw[if_pos w,if_pos w,if_pos (by omega)]
   ·rw[if_neg w,if_neg w]
  ·split
   ·rw[List.length_append,List.length_singleton]
    omega
   ·omega
theorem point_l0 (l:List Int) (hb:byt l) (d:Nat) (hd:d≤4) (big:Int):∀ (j i:Nat) (x5:List Int) (a sd:Int),i+j=d→x5.length=i→0≤a→a+2 * j≤900000000→∃ r a' sd',Ev (fun k=>Vj1.l0 k (d:Int) x5 big (i:Int) l a sd) (r,a',sd')∧r.length≤5∧a≤a'∧a'≤a+2 * j+8
|0,i,x5,a,sd,hj,hx,h0,h1=>by
  obtain rfl:i=d:=by omega
  by_cases c:(i:Int) > 0
  ·obtain⟨q,a1,s1,e1,g1,g2⟩:=oneI_tells l a sd 60 hb h0 (by omega)
   obtain⟨r,a',sd',h,k1,k2,k3⟩:=point_j1 l hb i x5 hx hd q (fun _=>by omega) a1 s1 (by omega) (by omega)
   refine⟨r,a',sd',Ev.step (fun k=>?_) h,k1,by omega,by omega⟩
   rw[Vj1.l0,if_neg (by omega),if_pos c,e1]
   rfl
  ·obtain⟨r,a',sd',h,k1,k2,k3⟩:=point_j1 l hb i x5 hx hd false (fun h=>by simp at h) a sd (by omega) (by omega)
   refine⟨r,a',sd',Ev.step (fun k=>?_) h,k1,by omega,by omega⟩
   rw[Vj1.l0,if_neg (by omega),if_neg c]
|j+1,i,x5,a,sd,hj,hx,h0,h1=>by
  obtain⟨v,a1,s1,e1,_,_,g2,g3⟩:=pick_tells l a sd (wrap64 (wrap64 (2 * big)+1)) hb h0 (by omega)
  obtain⟨r,a',sd',h,k1,k2,k3⟩:=point_l0 l hb d hd big j (i+1) (x5++[wrap64 (v - big)]) a1 s1 (by omega) (by simp[hx]) (by omega) (by omega)
  refine⟨r,a',sd',Ev.step (fun k=>?_) h,k1,by omega,by omega⟩
  rw[Vj1.l0,if_pos (by omega),e1]
  simp only[Option.bind_some]
  rw[if_pos (by omega),w64_nat (by omega)]
theorem point_ev (l:List Int) (hb:byt l) (d:Nat) (hd:d≤4) (a sd:Int) (h0:0≤a) (h1:a≤800000000):∃ r a' sd',Ev (fun k=>Vj1.f k l a sd (d:Int)) (r,a',sd')∧r.length≤5∧a≤a'∧a'≤a+20:=by
 obtain⟨v,a1,s1,e1,_,g2,g3⟩:=among_tells l a sd [2,3,5,9] hb h0 (by omega) (by decide)
 obtain⟨r,a',sd',h,k1,k2,k3⟩:=point_l0 l hb d hd v d 0 [] a1 s1 (by omega) rfl (by omega) (by omega)
 refine⟨r,a',sd',Ev.congr (fun k=>?_) h,k1,by omega,by omega⟩
 unfold Vj1.f
 rw[e1]
 rfl
theorem dots_l1 (l:List Int) (hb:byt l):∀ (j:Nat) (xs:List (List Int)) (a sd:Int),9≤xs.length+j→(∀ r∈xs,r.length≤5)→xs.length≤100→0≤a→a+2 * j≤1000000000→∃ rs a' sd',Ev (fun k=>Kj1.l1 k xs l a sd) (rs,a',sd')∧rs.length≤100+j∧∀ r∈rs,r.length≤5
|j,xs,a,sd,hj,hx,hl,h0,h1=>by
  obtain⟨v,a1,s1,e1,g0,g1,g2,g3⟩:=pick_tells l a sd 2 hb h0 (by omega)
  by_cases c:(xs.length:Int)<wrap64 (8+v)
  ·rw[w64 (by omega) (by omega)] at c
   match j,hj with
  |0,hj=>omega
  |j+1,hj =>
    obtain⟨rs,a',sd',h,k1,k2⟩:=dots_l1 l hb j (xs++[[(xs.length:Int),(xs.length:Int)]]) a1 s1 (by simp;omega) (fun r hr=>by
     rcases List.mem_append.1 hr with q|q
     ·exact hx r q
     ·rw[List.mem_singleton.1 q]
      simp) (by simp;omega) (by omega) (by omega)
    refine⟨rs,a',sd',Ev.step (fun k=>?_) h,by omega,k2⟩
    rw[Kj1.l1,e1]
    simp only[Option.bind_some]
    rw[if_pos (by rw[w64 (by omega) (by omega)];exact c),if_pos (by omega)]
  ·refine⟨xs,a1,s1,Ev.step (f:=fun _=>some (xs,a1,s1)) (fun k=>?_) (ev_const _),by omega,hx⟩
   rw[Kj1.l1,e1]
   simp only[Option.bind_some]
   rw[if_neg c]
theorem dots_l0 (l:List Int) (hb:byt l) (d:Nat) (hd:d≤4):∀ (j:Nat) (xs:List (List Int)) (a sd:Int),xs.length+j≤20→(∀ r∈xs,r.length≤5)→0≤a→a+20 * j≤700000000→∃ rs a' sd',Ev (fun k=>Kj1.l0 k xs (d:Int) (j:Int) l a sd) (rs,a',sd')∧rs.length≤200∧∀ r∈rs,r.length≤5
|0,xs,a,sd,hj,hx,h0,h1=>by
  obtain⟨q,a1,s1,e1,g1,g2⟩:=oneI_tells l a sd 24 hb h0 (by omega)
  by_cases c:q=true
  ·obtain⟨rs,a',sd',h,k1,k2⟩:=dots_l1 l hb 9 xs a1 s1 (by omega) hx (by omega) (by omega) (by omega)
   refine⟨rs,a',sd',Ev.step (fun k=>?_) h,by omega,k2⟩
   rw[Kj1.l0,if_neg (by omega),e1]
   simp only[Option.bind_some]
   rw[if_pos c]
  ·refine⟨xs,a1,s1,Ev.step (f:=fun _=>some (xs,a1,s1)) (fun k=>?_) (ev_const _),by omega,hx⟩
   rw[Kj1.l0,if_neg (by omega),e1]
   simp only[Option.bind_some]
   rw[if_neg c]
|j+1,xs,a,sd,hj,hx,h0,h1=>by
  obtain⟨r,a1,s1,e1,g1,g2,g3⟩:=point_ev l hb d hd a sd h0 (by omega)
  obtain⟨rs,a',sd',h,k1,k2⟩:=dots_l0 l hb d hd j (xs++[r]) a1 s1 (by simp;omega) (fun x hx'=>by
   rcases List.mem_append.1 hx' with q|q
   ·exact hx x q
   ·rw[List.mem_singleton.1 q]
    exact g1) (by omega) (by omega)
  refine⟨rs,a',sd',Ev.step (f:=fun k=>(Vj1.f k l a sd (d:Int)).bind fun t=>if xs.length<5864062014805 then Kj1.l0 k (xs++[t.1]) (d:Int) (wrap64 (((j+1:Nat):Int) - 1)) l t.2.1 t.2.2 else none) (fun k=>?_) (Ev.bind e1 (ev_if_pos (by omega) ?_)),k1,k2⟩
  ·rw[Kj1.l0,if_pos (by omega)]
  ·rw[w64 (by omega) (by omega),show (((j+1:Nat):Int) - 1)=(j:Int) by omega]
   exact h
theorem drawCount_ev (l:List Int) (hb:byt l):∃ rs:List (List Int),Ev (fun k=>Kq1.f k l) rs∧rs.length≤200∧∀ r∈rs,r.length≤5:=by
 obtain⟨d,a1,s1,e1,m1,g1,g2⟩:=among_tells l 0 0 [1,2,2,3,4] hb (by omega) (by omega) (by decide)
 obtain⟨n,a2,s2,e2,m2,g3,g4⟩:=among_tells l a1 s1 [4,3,5,2,1,0,6] hb (by omega) (by omega) (by decide)
 have bd:0≤d∧d≤4:=by
  simp only[List.mem_cons,List.not_mem_nil,or_false] at m1
  omega
 have bn:0≤n∧n≤6:=by
  simp only[List.mem_cons,List.not_mem_nil,or_false] at m2
  omega
 obtain⟨d,rfl⟩:=Int.eq_ofNat_of_zero_le bd.1
 obtain⟨n,rfl⟩:=Int.eq_ofNat_of_zero_le bn.1
 obtain⟨rs,a',sd',h,k1,k2⟩:=dots_l0 l hb d (by omega) n [] a2 s2 (by simp;omega) (by simp) (by omega) (by omega)
 refine⟨rs,?_,k1,k2⟩
 have h2:Ev (fun k=>Kj1.f k l 0 0) (rs,a',sd'):=Ev.congr (fun k=>by
  unfold Kj1.f
  rw[e1]
  simp only[Option.bind_some]
  rw[e2]
  rfl) h
 unfold Kq1.f
 exact Ev.bind h2 (ev_const _)
theorem drawBound_is (l:List Int) (hb:byt l):∃ n d,Xq1.f l=some (n,d):=by
 obtain⟨d,a1,s1,e1,m1,g1,g2⟩:=among_tells l 0 0 [4,3,5,8,1,0,9,(-1),6] hb (by omega) (by omega) (by decide)
 obtain⟨n,a2,s2,e2,m2,g3,g4⟩:=among_tells l a1 s1 [1,2,3,4,0,5] hb (by omega) (by omega) (by decide)
 refine⟨d,n,?_⟩
 unfold Xq1.f
 rw[e1]
 simp only[Option.bind_some]
 rw[e2]
 rfl
theorem drawTable_is (l:List Int) (hb:byt l):∃ n d,Yq1.f l=some (n,d):=by
 obtain⟨d,a1,s1,e1,m1,g1,g2⟩:=among_tells l 0 0 [2,1,3,2,0,4] hb (by omega) (by omega) (by decide)
 obtain⟨n,a2,s2,e2,m2,g3,g4⟩:=among_tells l a1 s1 [1,2,0,3,5,6,(-1)] hb (by omega) (by omega) (by decide)
 refine⟨d,n,?_⟩
 unfold Yq1.f
 rw[e1]
 simp only[Option.bind_some]
 rw[e2]
 rfl
theorem last_ev {ps:List (List Int)} (hl:ps.length≤1048576) (hr:∀ r∈ps,r.length≤1048576) (c:fewB ps=true) {P:List Bool→Bool} (hP:∀ l:List Bool,l.length=ps.length→(P l=true↔¬ Hard ((ps.headD []).length+1) ps.length (sv (rw0 ps) l))) {v:Bool} (hv:0<ps.length→v=true→Free ((ps.headD []).length+1) ps.length (rw0 ps)):Ev (fun k=>Gw.j4 k ps (Cover.cnt ps.length P:Int) true v false) true:=by
 obtain⟨h8,hs⟩:=fewB_sm c
 by_cases z:ps.length=0
 ·have e0:ps=[]:=List.length_eq_zero_iff.1 z
  subst e0
  have p0:P []=true:=(hP [] rfl).2 fun ⟨_,_,⟨k,hk,_⟩,_⟩=>absurd hk (Nat.not_lt_zero k)
  refine Ev.step (f:=fun _=>some true) (fun k=>?_) (ev_const _)
  have e1:Cover.cnt ([]:List (List Int)).length P=1:=by
   show (if P []=true then 1 else 0)=1
   rw[if_pos p0]
  rw[Gw.j4,if_neg (by simp),if_pos rfl,if_pos (show ((([]:List (List Int)).length:Nat):Int)=0 from rfl),e1]
  rfl
 ·have h0:0<ps.length:=by omega
  have d4:1≤(ps.headD []).length∧(ps.headD []).length≤4:=(pl_of (S:=[]) hs ⟨List.Pairwise.nil,by simp⟩ h0).d4
  have e0:rd_L1 ps 0=ps.headD []:=by cases ps <;> simp[rd_L1]
  obtain⟨d,hd⟩:∃ d,(ps.headD []).length=d:=⟨_,rfl⟩
  rw[hd] at hP hv d4
  obtain⟨N,hN⟩:∃ N,ps.length=N+1:=⟨ps.length - 1,by omega⟩
  have B:=bound_inside ⟨N+1,by omega⟩ ⟨d,by omega⟩ (by show 1≤N+1;omega) d4.1 d4.2
  have B2:Ev (fun k=>Gx.f k ((N+1:Nat):Int) (d:Int)) (((2 * Cover.bsum N d:Nat):Int),true):=Ev.of (fun k=>Gx.mono _ _ k) B
  rw[hN] at hP hv ⊢
  have u1:=upper_half (d:=d) P (fun l h=>(hP l h).1) false
  have u2:=upper_half (d:=d) P (fun l h=>(hP l h).1) true
  have ct:Cover.cnt (N+1) P=Cover.cnt N (fun l=>P (false :: l))+Cover.cnt N (fun l=>P (true :: l)):=rfl
  refine Ev.step (f:=fun k=>(Gx.f k ((N+1:Nat):Int) (d:Int)).bind fun bt663=>(if bt663.2=true then(if(Cover.cnt (N+1) P:Int)≤bt663.1 then(if v=true then(some ((Cover.cnt (N+1) P:Int) == bt663.1)) else(some true)) else(some false)) else(some false))) (fun k=>?_) (Ev.bind B2 (ev_if_pos rfl (ev_if_pos ?_ ?_)))
  ·rw[Gw.j4,if_neg (by simp),if_pos rfl,hN,if_neg (by omega),if_pos (by omega),e0,hd]
  ·show (Cover.cnt (N+1) P:Int)≤((2 * Cover.bsum N d:Nat):Int)
   omega
  ·by_cases q:v=true
   ·have G:=hv (by omega) q
    have l1:=lower_half G P (fun l h=>(hP l h).2) false
    have l2:=lower_half G P (fun l h=>(hP l h).2) true
    refine ev_if_pos q ?_
    have:((Cover.cnt (N+1) P:Int) == ((2 * Cover.bsum N d:Nat):Int))=true:=by
     rw[beq_iff_eq]
     omega
    show Ev (fun _=>some ((Cover.cnt (N+1) P:Int) == ((2 * Cover.bsum N d:Nat):Int))) true
    rw[this]
    exact ev_const _
   ·exact ev_if_neg q (ev_const _)
theorem rest_ev (l0:List Int) (hb:byt l0) (ps:List (List Int)) (cnt:Int) (ok v:Bool) (last:Ev (fun k=>Gw.j4 k ps cnt ok v false) true):Ev (fun k=>Gw.j1 k l0 ps cnt ok v false) true:=by
 obtain⟨n,d,e1⟩:=drawBound_is l0 hb
 obtain⟨k,m,e2⟩:=drawTable_is l0 hb
 obtain⟨⟨x,y⟩,h1,h2⟩:=parting_same n d
 obtain⟨t,b,h3,h4,h5⟩:=tables_full k m
 refine Ev.step (f:=fun q=>(Gx.f q n d).bind fun bt652=>((Vq1.f q n d).bind fun bt654=>(if bt652.1=bt654.1 then(Gw.j2 q l0 ps cnt ok v (bt652.2 != bt654.2)) else(Gw.j2 q l0 ps cnt ok v true)))) (fun q=>?_) (Ev.bind h1 (Ev.bind h2 (ev_if_pos rfl ?_)))
 ·rw[Gw.j1,if_neg (by simp),e1]
  rfl
 simp only[bne_self_eq_false]
 refine Ev.step (f:=fun q=>(Yk.f q k m).bind fun bt658=>((Gq1.f q k m).bind fun bt660=>(if bt658.1=bt660.1 then(Gw.j3 q ps cnt ok v k bt658.1 bt658.2 (bt658.2 != bt660.2)) else(Gw.j3 q ps cnt ok v k bt658.1 bt658.2 true)))) (fun q=>?_) (Ev.bind h3 (Ev.bind h4 (ev_if_pos rfl ?_)))
 ·rw[Gw.j2,if_neg (by simp),e2]
  rfl
 simp only[bne_self_eq_false]
 by_cases c:b=true
 ·obtain⟨N,rfl,hN,b1,b2⟩:=h5 c
  refine Ev.step (fun q=>?_) last
  rw[Gw.j3,if_neg (by simp),if_pos c,if_neg (by omega),if_pos (by omega),shl2_pow N hN,decide_eq_false (by omega)]
 ·refine Ev.step (fun q=>?_) last
  rw[Gw.j3,if_neg (by simp),if_neg c]
theorem FnPartings:∀ (l0:List Int),l0.length≤maxLen→(∀ x∈l0,(Lit.int .u8 x).wf=true)→∃ k,Gw.f k l0=some true:=by
 intro l0 hm hw
 refine Ev.rounds (g:=fun k=>Gw.f k l0) ?_
 unfold Gw.f
 have hb:=byt_wf hw
 have big:Ev (fun _=>laws_rBig.f l0) (decide ((l0.length:Int) > 65536)):=ev_const _
 refine Ev.bind big ?_
 by_cases c0:decide ((l0.length:Int) > 65536)=true
 ·exact ev_if_pos c0 (ev_const _)
 refine ev_if_neg c0 ?_
 obtain⟨ps,hD,d1,d2⟩:=drawCount_ev l0 hb
 refine Ev.bind hD ?_
 have hl:ps.length≤1048576:=by omega
 have hr:∀ r∈ps,r.length≤1048576:=fun r h=>by have:=d2 r h;omega
 by_cases c:fewB ps=true
 ·obtain⟨P,hP,i1,i2⟩:=count_full hl hr c
  obtain⟨v,g1,g2,g3⟩:=general_full hl hr c
  refine Ev.bind i1 (Ev.bind i2 (ev_if_pos rfl ?_))
  refine Ev.step (f:=fun k=>(Yx.f k ps).bind fun bt646=>((Zq1.f k ps).bind fun bt648=>(if(bt646.1 != bt648.1)=true then(Gw.j1 k l0 ps (Cover.cnt ps.length P:Int) true bt646.1 true) else(if(bt646.2 != bt648.2)=true then(Gw.j1 k l0 ps (Cover.cnt ps.length P:Int) true bt646.1 true) else(Gw.j1 k l0 ps (Cover.cnt ps.length P:Int) true bt646.1 (bt646.2 != true)))))) (fun k=>by rw[bne_self_eq_false,Gw.j0,if_neg (by simp)]) (Ev.bind g1 (Ev.bind g2 (ev_if_neg (by simp) (ev_if_neg (by simp) ?_))))
  exact rest_ev l0 hb ps _ true v (last_ev hl hr c hP g3)
 ·have i1:Ev (fun k=>Xx.f k ps) (0,false):=by
   unfold Xx.f
   exact Ev.bind (impl_areFew_ev ps hl hr) (ev_if_neg c (ev_const _))
  have i2:Ev (fun k=>Jq1.f k ps) (0,false):=by
   unfold Jq1.f
   exact Ev.bind (spec_l4Points_ev ps hl hr) (ev_if_neg c (ev_const _))
  have g1:Ev (fun k=>Yx.f k ps) (false,false):=by
   unfold Yx.f
   exact Ev.bind (impl_areFew_ev ps hl hr) (ev_if_neg c (ev_const _))
  have g2:Ev (fun k=>Zq1.f k ps) (false,false):=by
   unfold Zq1.f
   exact Ev.bind (spec_l4Points_ev ps hl hr) (ev_if_neg c (ev_const _))
  refine Ev.bind i1 (Ev.bind i2 (ev_if_pos rfl ?_))
  refine Ev.step (f:=fun k=>(Yx.f k ps).bind fun bt646=>((Zq1.f k ps).bind fun bt648=>(if(bt646.1 != bt648.1)=true then(Gw.j1 k l0 ps 0 false bt646.1 true) else(if(bt646.2 != bt648.2)=true then(Gw.j1 k l0 ps 0 false bt646.1 true) else(Gw.j1 k l0 ps 0 false bt646.1 (bt646.2 != false)))))) (fun k=>by rw[bne_self_eq_false,Gw.j0,if_neg (by simp)]) (Ev.bind g1 (Ev.bind g2 (ev_if_neg (by simp) (ev_if_neg (by simp) ?_))))
  refine rest_ev l0 hb ps _ false false (Ev.step (f:=fun _=>some true) (fun k=>?_) (ev_const _))
  rw[Gw.j4,if_neg (by simp),if_neg (by simp)]
end Go.Proofs.Ytdjclffkidoohaa.Pure
