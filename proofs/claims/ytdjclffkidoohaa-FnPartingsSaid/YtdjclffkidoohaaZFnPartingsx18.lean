/- Some of the functions that the law reaches, and what they tell; no condition. -/
import Derived.Test.YtdjclffkidoohaaVFnPartings
import Derived.Test.YtdjclffkidoohaaZFnPartingsH
import Derived.Test.YtdjclffkidoohaaZFnPartingsx0
import Derived.Test.YtdjclffkidoohaaZFnPartingsx16
import Derived.Test.YtdjclffkidoohaaZFnPartingsx17
import Derived.Test.YtdjclffkidoohaaZFnPartingsx9
namespace Go.Proofs.Ytdjclffkidoohaa.QFnPartings
open Go.RowKit Go.Proofs.YtdjclffkidoohaaW.PrintWords Go.Proofs.YtdjclffkidoohaaW.PrintLast Go.Proofs.YtdjclffkidoohaaW.PrintMore
attribute [local go_sem] max2_int min2_int max_two min_two max_three min_three max_four min_four   -- for this text's walks alone
set_option linter.unusedVariables false
set_option linter.unusedSimpArgs false
open Go.Proofs.Ytdjclffkidoohaa.Hof
open Go.Proofs.Ytdjclffkidoohaa.Clos
mutual
def Kv.g {σ:Type} (V:Nat→σ→List Int→Option (Bool×σ)) (n kk:Int):Nat→σ→List Int→Int→Option (Bool×σ)
|0,_,_,_=>none
|k+1,s,set,i=>if(set.length:Int)=kk then V k s set else Kv.l V n kk k s set i
def Kv.l {σ:Type} (V:Nat→σ→List Int→Option (Bool×σ)) (n kk:Int):Nat→σ→List Int→Int→Option (Bool×σ)
|0,_,_,_=>none
|k+1,s,set,i=>if i<n then(if set.length<17592186044416 then((Kv.g V n kk k s (set++[i]) (wrap64 (i+1))).bind fun t=>if t.1=true then some (true,t.2) else Kv.l V n kk k t.2 set (wrap64 (i+1))) else none) else some (false,s)
end
def Kv.f {σ:Type} (V:Nat→σ→List Int→Option (Bool×σ)) (k:Nat) (s:σ) (n kk:Int):Option (Bool×σ):=Kv.g V n kk k s [] 0
def Kv.J (G:FuncId) (C:Array Value) (n kk:Int) (bk bv bn bg:Nat) (w:World):Prop :=
 w.heap[bk]?=some (.cells #[.int .i64 kk] 3 (0,0))∧w.heap[bv]?=some (.cells #[.func (.func G) #[] C] 93 (0,0))∧w.heap[bn]?=some (.cells #[.int .i64 n] 3 (0,0))∧w.heap[bg]?=some (.cells #[.func (.func 132) #[] #[.pointer (some ⟨bk,0,none⟩),.pointer (some ⟨bv,0,none⟩),.pointer (some ⟨bn,0,none⟩),.pointer (some ⟨bg,0,none⟩)]] 66 (0,0))
theorem hI_drew {σ:Type} {I:σ→World→Prop} (hI:∀ s w w',I s w→Below w.heap.size w w'→I s w') {s:σ} {w:World} (h:I s w):I s w.drew:=hI s w w.drew h (Xq (Below.refl _ _))
theorem Kv.J_kept {G:FuncId} {C:Array Value} {n kk:Int} {bk bv bn bg:Nat} {w w':World} {S:Nat→Prop} (h:Kv.J G C n kk bk bv bn bg w) (hk:Kept w w' S) (hS:¬ S bk∧¬ S bv∧¬ S bn∧¬ S bg):Kv.J G C n kk bk bv bn bg w' :=
 ⟨blk_kept h.1 hk hS.1,blk_kept h.2.1 hk hS.2.1,blk_kept h.2.2.1 hk hS.2.2.1,blk_kept h.2.2.2 hk hS.2.2.2⟩
set_option maxHeartbeats 8000000 in
set_option maxRecDepth 100000 in
theorem Kv.gcalls {σ:Type} (V:Nat→σ→List Int→Option (Bool×σ)) (G:FuncId) (C:Array Value) (hent:Ent Try.prog G) (I:σ→World→Prop) (S:Nat→Prop) (hI:∀ s w w',I s w→Below w.heap.size w w'→I s w')
  (hat:∀ k s set b s' A c w,I s w→(∀ W',Kept w W' S→(Kd.int .i64).C W' A set.length set)→set.length≤c→V k s set=some (b,s')→Calls Try.prog G (#[.slice A set.length c]++C) w fun e w'=>e=.returned (.bool b)∧I s' w'∧Kept w w' S)
  (n kk:Int) (bk bv bn bg base:Nat) (hS:¬ S bk∧¬ S bv∧¬ S bn∧¬ S bg) (hSb:∀ k,S k→k<base) (k:Nat) :
  ∀ (s:σ) (set:List Int) (i:Int) (b:Bool) (s':σ) (A:Option Addr) (c:Nat) (w:World) (_:base≤w.heap.size) (_:I s w) (_:Kv.J G C n kk bk bv bn bg w) (_:∀ W',Kept w W' S→(Kd.int .i64).C W' A set.length set) (_:set.length≤c) (_:Kv.g V n kk k s set i=some (b,s')),
  Calls Try.prog 132 #[.slice A set.length c,.int .i64 i,.pointer (some ⟨bk,0,none⟩),.pointer (some ⟨bv,0,none⟩),.pointer (some ⟨bn,0,none⟩),.pointer (some ⟨bg,0,none⟩)] w fun e w'=>e=.returned (.bool b)∧I s' w'∧Kept w w' S:=by
 have HI:=Jq.mk hI;have HAT:=Jq.mk hat;have HE:=Jq.mk hent;have HS:=Jq.mk hS;have HSB:=Jq.mk hSb;clear hI hat hent hS hSb
 induction k using Nat.strongRecOn with
|_ k ih =>
 intro s set i b s' A c w hbase hi hj hset hc h
 have IH:=Jq.mk ih
 clear ih
 cases k with
|zero=>exact absurd h (by simp[Kv.g])
|succ k =>
 simp only[Kv.g] at h
 have HW:=Jq.mk hi
 have HJ:=Jq.mk hj
 have HC:=Jq.mk hset
 have HL:=Jq.mk hc
 have HBA:=Jq.mk hbase
 have hck:w.cell? ⟨bk,0,none⟩=some (.int .i64 kk):=(Xj hj.1 0).trans rfl
 clear hi hset hc hbase
 by_cases c1:(set.length:Int)=kk
 ·rw[if_pos c1] at h
  have c1b:((set.length:Int) == kk)=true:=beq_iff_eq.mpr c1
  have hcv:w.cell? ⟨bv,0,none⟩=some (.func (.func G) #[] C):=(Xj hj.2.1 0).trans rfl
  have A1:=Jq.mk (HAT.out k s set b s' A c w HW.out HC.out HL.out h)
  clear h hj c1
  go_enter Try.func132,Try.ntmps132
  go_wp2_with (first|(refine goesC_ (some 16) rfl rfl HE.out #[.slice A set.length c] rfl rfl d17_ ?_;(with_reducible refine A1.out.mono ?_);rintro e w9 ⟨rfl,hi9,hk9⟩;refine⟨_,rfl,?_⟩;have n0_:=Jq.mk hi9;have n1_:=Jq.mk hk9;clear hi9 hk9))
  go_ret
  exact⟨rfl,n0_.out,n1_.out⟩
 ·rw[if_neg c1] at h
  have c1b:((set.length:Int) == kk)=false:=beq_eq_false_iff_ne.mpr c1
  have H':=Jq.mk h
  have HK0:=Jq.mk (Kept.refl w S)
  clear h hj c1
  go_enter Try.func132,Try.ntmps132
  go_wp2
  go_loopg [9] k (fun kq v9 w'=>∃ (s1:σ) (i1:Int),v9=.int .i64 i1∧Jq (Kv.l V n kk kq s1 set i1=some (b,s'))∧Jq (kq≤k)∧Jq (I s1 w')∧Jq (Kv.J G C n kk bk bv bn bg w')∧Jq (Kept w w' S))
  case atStart=>exact⟨s,i,rfl,H',⟨Nat.le_refl _⟩,HW,HJ,HK0⟩
  case round =>
   clear H' HW HJ HK0 hck
   obtain⟨s1,i1,rfl,HA,HK1,HW,HJ,HK⟩:=hrel
   cases gk with
  |zero=>exact absurd HA.out (by simp[Kv.l])
  |succ k1 =>
    have H:=HA.out
    clear HA
    simp only[Kv.l] at H
    have hcn:wr.cell? ⟨bn,0,none⟩=some (.int .i64 n):=(Xj HJ.out.2.2.1 0).trans rfl
    by_cases c5:i1<n
    ·rw[if_pos c5] at H
     have c5b0:decide (i1<n)=true:=decide_eq_true c5
     clear c5
     by_cases c6:set.length<17592186044416
     ·rw[if_pos c6] at H
      have L6:=Jq.mk c6
      clear c6
      obtain⟨⟨b1,s2⟩,A70,H⟩:=Option.bind_eq_some_iff.mp H
      have A7:=Jq.mk A70
      have H':=Jq.mk H
      clear H A70
      go_wp2
      refine start_ (n:=13) (S:=fun w'=>w'.cell? ⟨bg,0,none⟩=some (.func (.func 132) #[] #[.pointer (some ⟨bk,0,none⟩),.pointer (some ⟨bv,0,none⟩),.pointer (some ⟨bn,0,none⟩),.pointer (some ⟨bg,0,none⟩)])) (ds:=[12]) #[F_,F_,F_,F_,F_,F_,F_,F_,F_,F_,F_,F_,F_] (by kernel_rfl) rfl rfl ((Xj HJ.out.2.2.2 0).trans rfl) (fun hHeld=>?_)
      have n1_:=Jq.mk (hI_drew HI.out HW.out)
      have n2_:Jq (Kv.J G C n kk bk bv bn bg wr.drew):=⟨HJ.out⟩
      have n3_:=Jq.mk (Kept.drew HK.out)
      clear HW HJ HK hcn
      generalize wr.drew=wd at n1_ n2_ n3_ hHeld ⊢
      refine take_ (i:=0) (N:=some 23) (v:=?_) (a':=?_) #[T_,F_,F_,F_,F_,F_,F_,F_,F_,F_,F_,F_,F_] rfl rfl (by kernel_rfl) (fun _ _ _ h=>h) (Or.inl ⟨by rfl,?_⟩) hHeld ?_ ?_
      rotate_left
      ·intro w' s0
       go_simp
       with_reducible rfl
      rotate_left
      ·simp only[Z_]
       rfl
      refine pure_ (i:=1) (N:=some 24) (v:=?_) (a':=?_) #[T_,T_,F_,F_,F_,F_,F_,F_,F_,F_,F_,F_,F_] rfl rfl (by kernel_rfl) (fun _ _ _ h=>h) (Or.inl ⟨by rfl,?_⟩) ?_ ?_
      rotate_left
      ·intro w'
       go_simp
       first|(with_reducible rfl)|(simp only[ByteArray.size_extract] at *;simp only[show ∀ (d_:Array UInt8),(⟨d_⟩:ByteArray).size=d_.size from fun _=>rfl,List.size_toArray,List.length_cons,List.length_nil] at *;rw[if_neg (by omega)])
      rotate_left
      ·simp only[Z_]
       rfl
      refine pure_ (i:=2) (N:=some 25) (v:=?_) (a':=?_) #[T_,T_,T_,F_,F_,F_,F_,F_,F_,F_,F_,F_,F_] rfl rfl (by kernel_rfl) (fun _ _ _ h=>h) (Or.inl ⟨by rfl,?_⟩) ?_ ?_
      rotate_left
      ·intro w'
       go_simp
       first|(with_reducible rfl)|(simp only[ByteArray.size_extract] at *;simp only[show ∀ (d_:Array UInt8),(⟨d_⟩:ByteArray).size=d_.size from fun _=>rfl,List.size_toArray,List.length_cons,List.length_nil] at *;rw[if_neg (by omega)])
      rotate_left
      ·simp only[Z_]
       rfl
      refine pure_ (i:=3) (N:=some 26) (v:=?_) (a':=?_) #[T_,T_,T_,T_,F_,F_,F_,F_,F_,F_,F_,F_,F_] rfl rfl (by kernel_rfl) (fun _ _ _ h=>h) (Or.inl ⟨by rfl,?_⟩) ?_ ?_
      rotate_left
      ·intro w'
       go_simp
       first|(with_reducible rfl)|(simp only[ByteArray.size_extract] at *;simp only[show ∀ (d_:Array UInt8),(⟨d_⟩:ByteArray).size=d_.size from fun _=>rfl,List.size_toArray,List.length_cons,List.length_nil] at *;rw[if_neg (by omega)])
      rotate_left
      ·simp only[Z_]
       rfl
      refine pure_ (i:=4) (N:=some 27) (v:=?_) (a':=?_) #[T_,T_,T_,T_,T_,F_,F_,F_,F_,F_,F_,F_,F_] rfl rfl (by kernel_rfl) (fun _ _ _ h=>h) (Or.inl ⟨by rfl,?_⟩) ?_ ?_
      rotate_left
      ·intro w'
       go_simp
       first|(with_reducible rfl)|(simp only[ByteArray.size_extract] at *;simp only[show ∀ (d_:Array UInt8),(⟨d_⟩:ByteArray).size=d_.size from fun _=>rfl,List.size_toArray,List.length_cons,List.length_nil] at *;rw[if_neg (by omega)])
      rotate_left
      ·simp only[Z_]
       rfl
      refine pure_ (i:=5) (N:=some 28) (v:=?_) (a':=?_) #[T_,T_,T_,T_,T_,T_,F_,F_,F_,F_,F_,F_,F_] rfl rfl (by kernel_rfl) (fun _ _ _ h=>h) (Or.inl ⟨by rfl,?_⟩) ?_ ?_
      rotate_left
      ·intro w'
       go_simp
       first|(with_reducible rfl)|(simp only[ByteArray.size_extract] at *;simp only[show ∀ (d_:Array UInt8),(⟨d_⟩:ByteArray).size=d_.size from fun _=>rfl,List.size_toArray,List.length_cons,List.length_nil] at *;rw[if_neg (by omega)])
      rotate_left
      ·simp only[Z_]
       rfl
      refine pure_ (i:=6) (N:=some 29) (v:=?_) (a':=?_) #[T_,T_,T_,T_,T_,T_,T_,F_,F_,F_,F_,F_,F_] rfl rfl (by kernel_rfl) (fun _ _ _ h=>h) (Or.inl ⟨by rfl,?_⟩) ?_ ?_
      rotate_left
      ·intro w'
       have hfs:=full_slice (P:=Try.prog) (w:=w') 26 3 Try.underlying26 (by kernel_rfl) A set.length c HL.out
       go_simp
       with_reducible rfl
      rotate_left
      ·simp only[Z_]
       rfl
      refine pure_ (i:=7) (N:=some 30) (v:=?_) (a':=?_) #[T_,T_,T_,T_,T_,T_,T_,T_,F_,F_,F_,F_,F_] rfl rfl (by kernel_rfl) (fun _ _ _ h=>h) (Or.inl ⟨by rfl,?_⟩) ?_ ?_
      rotate_left
      ·intro w'
       go_simp
       first|(with_reducible rfl)|(simp only[ByteArray.size_extract] at *;simp only[show ∀ (d_:Array UInt8),(⟨d_⟩:ByteArray).size=d_.size from fun _=>rfl,List.size_toArray,List.length_cons,List.length_nil] at *;rw[if_neg (by omega)])
      rotate_left
      ·simp only[Z_]
       rfl
      refine pure_ (i:=10) (N:=some 33) (v:=?_) (a':=?_) #[T_,T_,T_,T_,T_,T_,T_,T_,F_,F_,T_,F_,F_] rfl rfl (by kernel_rfl) (fun _ _ _ h=>h) (Or.inl ⟨by rfl,?_⟩) ?_ ?_
      rotate_left
      ·intro w'
       go_simp
       first|(with_reducible rfl)|(simp only[ByteArray.size_extract] at *;simp only[show ∀ (d_:Array UInt8),(⟨d_⟩:ByteArray).size=d_.size from fun _=>rfl,List.size_toArray,List.length_cons,List.length_nil] at *;rw[if_neg (by omega)])
      rotate_left
      ·simp only[Z_]
       rfl
      refine pure_ (i:=11) (N:=some 34) (v:=?_) (a':=?_) #[T_,T_,T_,T_,T_,T_,T_,T_,F_,F_,T_,T_,F_] rfl rfl (by kernel_rfl) (fun _ _ _ h=>h) (Or.inl ⟨by rfl,?_⟩) ?_ ?_
      rotate_left
      ·intro w'
       go_simp
       first|(with_reducible rfl)|(simp only[ByteArray.size_extract] at *;simp only[show ∀ (d_:Array UInt8),(⟨d_⟩:ByteArray).size=d_.size from fun _=>rfl,List.size_toArray,List.length_cons,List.length_nil] at *;rw[if_neg (by omega)])
      rotate_left
      ·simp only[Z_]
       rfl
      refine one_ (i:=8) (N:=some 31) #[T_,T_,T_,T_,T_,T_,T_,T_,T_,F_,T_,T_,F_] rfl rfl (by kernel_rfl) (by decide) (fun K hK=>?_)
      refine value_ (w1:=?_) (v:=?_) (by rfl) rfl ?_ ?_
      rotate_left 2
      ·go_simp
       constructor
       ·rfl
       ·rfl
      refine hK.out _ _ ((Xj (Vq n2_.out.2.2.2 _) 0).trans rfl) (fun hHeld=>?_)
      clear hK K
      refine norm_ (a':=?_) ?_ ?_
      rotate_left
      ·show Act.put _ (some 31) _=_
       simp only[Z_]
       rfl
      refine one_ (i:=9) (N:=some 32) #[T_,T_,T_,T_,T_,T_,T_,T_,T_,T_,T_,T_,F_] rfl rfl (by kernel_rfl) (by decide) (fun K hK=>?_)
      refine grow_step (by rfl) (.tmp 29) (.tmp 31) 26 3 rfl Try.underlying26 info3 A set i1 rfl rfl (HC.out wd n3_.out) L6.out ?_
      intro v1 w1 hr hb
      have m1_:=Jq.mk (HI.out _ _ _ n1_.out hb)
      have m2_:=Jq.mk (Kv.J_kept n2_.out (Kept.of_below hb S) HS.out)
      have m3_:=Jq.mk (n3_.out.below hb)
      have m4_:=Jq.mk hr
      have hle:=Jq.mk (Nat.le_trans HBA.out n3_.out.1)
      clear n1_ n2_ n3_ hHeld
      obtain⟨Ao,co,rfl⟩:=Kd.R_slice hr
      clear hr
      refine hK.out _ _ ((Xj m2_.out.2.2.2 0).trans rfl) (fun hHeld=>?_)
      clear hK K
      refine norm_ (a':=?_) ?_ ?_
      rotate_left
      ·show Act.put _ (some 32) _=_
       simp only[Z_]
       rfl
      refine last_ (i:=12) (N:=some 35) #[T_,T_,T_,T_,T_,T_,T_,T_,T_,T_,T_,T_,T_] rfl rfl (by kernel_rfl) (by decide) (fun K hK=>?_)
      have hcap:=Jq.mk (Kd.R_reads' m4_.out).2.1
      refine goesV_ (ent_of Try.func132 (by kernel_rfl) rfl) #[.slice Ao (set++[i1]).length co,.int .i64 (wrap64 (i1+1))] (by rfl) rfl rfl rfl d17_ ?_
      refine(IH.out k1 d21_ s1 (set++[i1]) (wrap64 (i1+1)) b1 s2 Ao co w1 (Nat.le_trans hle.out hb.size) m1_.out m2_.out (Kd.C_kept_own (Kd.R_mono (ok':=fun k_=>wd.heap.size≤k_) (Kd.R_bound m4_.out) (fun k_ hk=>hk.2.1)) (fun k_ hk hs=>by have:=HSB.out k_ hs;have:=hle.out;omega)) hcap.out A7.out).mono ?_
      rintro e w9 ⟨rfl,hi9,hk9⟩
      refine⟨_,rfl,?_⟩
      refine hK.out _ _ ?_
      clear hK K
      refine norm_ (a':=?_) ?_ ?_
      rotate_left
      ·show Act.put _ (some 35) _=_
       simp only[Z_]
       rfl
      refine done_ (by kernel_rfl) ?_
      have p1_:=Jq.mk hi9
      have p2_:=Jq.mk (Kv.J_kept m2_.out hk9 HS.out)
      have p3_:=Jq.mk (m3_.out.then_ hk9 (fun _ h=>.inl h))
      clear hi9 hk9 m1_ m2_ m3_ m4_ hHeld hb
      cases b1 with
     |true =>
       have H:=H'.out
       simp only[if_true,Option.some.injEq,Prod.mk.injEq] at H
       obtain⟨rfl,rfl⟩:=H
       go_wp2
       go_ret
       exact⟨rfl,p1_.out,p3_.out⟩
     |false =>
       have H:=H'.out
       simp only[Bool.false_eq_true,if_false] at H
       have H2:=Jq.mk H
       clear H
       go_wp2
       go_roundg k1
       case measure=>have:=HK1.out;omega
       case rel=>exact⟨s2,wrap64 (i1+1),rfl,H2,⟨d21_⟩,p1_,p2_,p3_⟩
     ·rw[if_neg c6] at H
      exact absurd H (by simp)
    ·rw[if_neg c5] at H
     have c5b0:decide (i1<n)=false:=decide_eq_false c5
     simp only[Option.some.injEq,Prod.mk.injEq] at H
     obtain⟨rfl,rfl⟩:=H
     clear c5
     go_wp2
     go_ret
     exact⟨rfl,HW.out,HK.out⟩
set_option maxHeartbeats 8000000 in
set_option maxRecDepth 100000 in
theorem Kv.calls {σ:Type} (V:Nat→σ→List Int→Option (Bool×σ)) (G:FuncId) (C:Array Value) (hent:Ent Try.prog G) (I:σ→World→Prop) (S:Nat→Prop) (hI:∀ s w w',I s w→Below w.heap.size w w'→I s w')
  (hat:∀ k s set b s' A c w,I s w→(∀ W',Kept w W' S→(Kd.int .i64).C W' A set.length set)→set.length≤c→V k s set=some (b,s')→Calls Try.prog G (#[.slice A set.length c]++C) w fun e w'=>e=.returned (.bool b)∧I s' w'∧Kept w w' S)
  (k:Nat) (s:σ) (n kk:Int) (b:Bool) (s':σ) (w:World) (hi:I s w) (hSb:∀ k,S k→k<w.heap.size) (h:Kv.f V k s n kk=some (b,s')) :
  Calls Try.prog 89 #[.int .i64 n,.int .i64 kk,.func (.func G) #[] C] w fun e w'=>e=.returned (.bool b)∧I s' w'∧Kept w w' S:=by
 have HB:=Jq.mk (Below.refl w.heap.size w);have HAT:=Jq.mk hat;have HI:=Jq.mk hI;have HE:=Jq.mk hent;have HSB:=Jq.mk hSb;have HW:=Jq.mk hi;have H':=Jq.mk h;have hmf:∀ (fn:Fn) (first cap:Array Value) (w:World),(Instr.makeFunc fn first cap).run Try.prog w=.ok (.func fn first cap) w:=fun _ _ _ _=>rfl;clear hat hI hent hSb hi h;(go_enter Try.func89,Try.ntmps89)
 go_wp2_with (first
 |((with_reducible refine Xz (N:=3) rfl ?_);refine Zz ?hg (N:=3) ?hd (cs:=#[.int .i64 n]) (t:=3) ?hr ?_;(case hd=>rfl);(case hg=>rfl);(case hr=>exact d11_);intro bn hbn w1 hbx hb;have B1:=Jq.mk (Yj HB.out hb);have K1:=Jq.mk hbx;have Z1:=Jq.mk (show w.heap.size≤bn by rw[hbn];exact HB.out.size);clear HB hbx hb hbn)
 |((with_reducible refine Xz (N:=4) rfl ?_);refine Zz ?hg (N:=4) ?hd (cs:=#[.int .i64 kk]) (t:=3) ?hr ?_;(case hd=>rfl);(case hg=>rfl);(case hr=>exact d11_);intro bk hbn w2 hbx hb;have B2:=Jq.mk (Yj B1.out hb);have K12:=Jq.mk (Vj K1.out hb);have K2:=Jq.mk hbx;have Z2:=Jq.mk (show w.heap.size≤bk by rw[hbn];exact B1.out.size);clear B1 K1 hbx hb hbn)
 |((with_reducible refine Xz (N:=5) rfl ?_);refine Zz ?hg (N:=5) ?hd (cs:=#[.func (.func G) #[] C]) (t:=93) ?hr ?_;(case hd=>rfl);(case hg=>rfl);(case hr=>exact d11_);intro bv hbn w3 hbx hb;have B3:=Jq.mk (Yj B2.out hb);have K13:=Jq.mk (Vj K12.out hb);have K23:=Jq.mk (Vj K2.out hb);have K3:=Jq.mk hbx;have Z3:=Jq.mk (show w.heap.size≤bv by rw[hbn];exact B2.out.size);clear B2 K12 K2 hbx hb hbn)
 |((with_reducible refine Xz (N:=7) rfl ?_);refine Zz ?hg (N:=7) ?hd (cs:=#[.nilFunc]) (t:=66) ?hr ?_;(case hd=>rfl);(case hg=>rfl);(case hr=>kernel_rfl);intro bg hbn w4 hbx hb;have B4:=Jq.mk (Yj B3.out hb);have K14:=Jq.mk (Vj K13.out hb);have K24:=Jq.mk (Vj K23.out hb);have K34:=Jq.mk (Vj K3.out hb);have K4:=Jq.mk hbx;have Z4:=Jq.mk (show w.heap.size≤bg by rw[hbn];exact B3.out.size);have N4:=Jq.mk (show bn≠bg∧bk≠bg∧bv≠bg by(have l1:=blk_lt K13.out;have l2:=blk_lt K23.out;have l3:=blk_lt K3.out;omega));have hc4:w4.cell? ⟨bg,0,none⟩=some .nilFunc:=(Xj hbx 0).trans rfl;have hf4:=Zj hbx 0;clear B3 K13 K23 K3 hbx hb hbn)
 |fail)
 have B5:=Jq.mk (Zq (j:=0) (v:=(.func (.func 132) #[] #[.pointer (some ⟨bk,0,none⟩),.pointer (some ⟨bv,0,none⟩),.pointer (some ⟨bn,0,none⟩),.pointer (some ⟨bg,0,none⟩)])) B4.out Z4.out);have J5:Jq (Kv.J G C n kk bk bv bn bg (w4.setCell ⟨bg,0,none⟩ (.func (.func 132) #[] #[.pointer (some ⟨bk,0,none⟩),.pointer (some ⟨bv,0,none⟩),.pointer (some ⟨bn,0,none⟩),.pointer (some ⟨bg,0,none⟩)]))):=⟨(Gz K24.out N4.out.2.1 _),(Gz K34.out N4.out.2.2 _),(Gz K14.out N4.out.1 _),(blk_put K4.out 0 _ rfl)⟩;refine(Kv.gcalls V G C HE.out I S HI.out HAT.out n kk bk bv bn bg w.heap.size ⟨fun hs=>by have:=HSB.out _ hs;have:=Z2.out;omega,fun hs=>by have:=HSB.out _ hs;have:=Z3.out;omega,fun hs=>by have:=HSB.out _ hs;have:=Z1.out;omega,fun hs=>by have:=HSB.out _ hs;have:=Z4.out;omega⟩ HSB.out k s [] 0 b s' none 0 _ B5.out.size (HI.out s w _ HW.out B5.out) J5.out (fun W' _=>Kd.C_nil _ W') (Nat.le_refl _) H'.out).mono ?_;rintro e w9 ⟨rfl,hi9,hk9⟩;have n0_:=Jq.mk hi9;have n1_:=Jq.mk ((Kept.of_below B5.out S).then_ hk9 (fun _ h=>.inl h));clear hi9 hk9 B5 J5 K14 K24 K34 K4 hc4 hf4;(go_wp2);(go_ret);exact⟨rfl,n0_.out,n1_.out⟩
def Kk.v0 (l0_0:List (List Int)) (l0_1:List Int) (places:List Int):Nat→List (List Int)→Int→Option (List (List Int))
|0,_,_=>none
|k+1,acc,i=>if i<(places.length:Int) then(if 0≤i then((Xk.f k l0_0 l0_1 (rd places i)).bind fun t=>(if acc.length<5864062014805 then Kk.v0 l0_0 l0_1 places k (acc++[t]) (wrap64 (i+1)) else none)) else none) else some acc
def Kk.v (l0_0:List (List Int)) (l0_1:List Int) (k:Nat) (s:List Int×List Int) (places:List Int):Option (Bool×(List Int×List Int)) :=
 (Kk.v0 l0_0 l0_1 places k [] 0).bind fun vs=>((Gk.f k vs).bind fun t=>(if t.2=true then((Yv.f places).bind fun c=>some (true,(c,t.1))) else some (false,s)))
def Kk.l0 (l0_0:List (List Int)) (l0_1:List Int):Nat→(List Int×List Int)→Int→Option (List Int×List Int×Bool)
|0,_,_=>none
|k+1,s,kk=>if 0<(l0_0.length:Int) then(if kk≤mn (l0_0.length:Int) (wrap64 (((rd_L1 l0_0 0).length:Int)+2)) then((Kv.f (Kk.v l0_0 l0_1) k s (l0_0.length:Int) kk).bind fun t=>(if t.1=true then some (t.2.1,t.2.2,true) else Kk.l0 l0_0 l0_1 k t.2 (wrap64 (kk+1)))) else some ([],[],false)) else none
def Kk.f (k:Nat) (l0_0:List (List Int)) (l0_1:List Int):Option (List Int×List Int×Bool):=if(l0_0.length:Int)=0 then some ([],[],false) else Kk.l0 l0_0 l0_1 k ([],[]) 2
def Kk.I (w0:World) (A0_0:Option Addr) (c0_0:Nat) (l0_0:List (List Int)) (A0_1:Option Addr) (c0_1:Nat) (l0_1:List Int) (bs b1 b2:Nat) (s:List Int×List Int) (w:World):Prop :=
 Below w0.heap.size w0 w∧w.heap[bs]?=some (.cells #[.slice A0_0 l0_0.length c0_0,.slice A0_1 l0_1.length c0_1] 32 (0,0))∧∃ v1 v2:Value,w.heap[b1]?=some (.cells #[v1] 26 (0,0))∧w.heap[b2]?=some (.cells #[v2] 26 (0,0))∧Kd.R (Kd.int .i64) 3 w w0.heap.size (fun k_=>some k_≠v2.ownBlock) v1 s.1∧Kd.R (Kd.int .i64) 3 w w0.heap.size (fun _=>True) v2 s.2
theorem Kk.I_below {w0:World} {A0_0:Option Addr} {c0_0:Nat} {l0_0:List (List Int)} {A0_1:Option Addr} {c0_1:Nat} {l0_1:List Int} {bs b1 b2:Nat} {s:List Int×List Int} {w w':World} (h:Kk.I w0 A0_0 c0_0 l0_0 A0_1 c0_1 l0_1 bs b1 b2 s w) (hb:Below w.heap.size w w'):Kk.I w0 A0_0 c0_0 l0_0 A0_1 c0_1 l0_1 bs b1 b2 s w':=by
 obtain⟨h1,h2,v1,v2,h3,h4,h5,h6⟩:=h;exact⟨Yj h1 hb,Vj h2 hb,v1,v2,Vj h3 hb,Vj h4 hb,Kd.R_below h5 hb,Kd.R_below h6 hb⟩
set_option maxHeartbeats 8000000 in
set_option maxRecDepth 100000 in
theorem Kk.vcalls (w0:World) (A0_0:Option Addr) (c0_0:Nat) (l0_0:List (List Int)) (A0_1:Option Addr) (c0_1:Nat) (l0_1:List Int) (hr0_0:Kd.C (Kd.slice 3 (Kd.int .i64)) w0 A0_0 l0_0.length l0_0) (hc0_0:l0_0.length≤c0_0) (hr0_1:Kd.C (Kd.int .i64) w0 A0_1 l0_1.length l0_1) (hc0_1:l0_1.length≤c0_1)
  (bs b1 b2:Nat) (hne:bs≠b1∧bs≠b2∧b1≠b2) (hle:w0.heap.size≤b1∧w0.heap.size≤b2)
  (k:Nat) (s:List Int×List Int) (set:List Int) (b:Bool) (s':List Int×List Int) (A:Option Addr) (c:Nat) (w:World) (hi:Kk.I w0 A0_0 c0_0 l0_0 A0_1 c0_1 l0_1 bs b1 b2 s w) (hset:∀ W',Kept w W' (fun k_=>k_=b1∨k_=b2)→(Kd.int .i64).C W' A set.length set) (hc:set.length≤c) (h:Kk.v l0_0 l0_1 k s set=some (b,s')) :
  Calls Try.prog 139 (#[.slice A set.length c]++#[.pointer (some ⟨bs,0,none⟩),.pointer (some ⟨b1,0,none⟩),.pointer (some ⟨b2,0,none⟩)]) w fun e w'=>e=.returned (.bool b)∧Kk.I w0 A0_0 c0_0 l0_0 A0_1 c0_1 l0_1 bs b1 b2 s' w'∧Kept w w' (fun k_=>k_=b1∨k_=b2):=by
 have hu32:=Try.underlying32;have HR0:=Jq.mk hr0_0;have HC0:=Jq.mk hc0_0;have HR1:=Jq.mk hr0_1;have HC1:=Jq.mk hc0_1;have HNE:=Jq.mk hne;have HLE:=Jq.mk hle;have HW:=Jq.mk hi;have HS:=Jq.mk hset;have HL:=Jq.mk hc;have HB:=Jq.mk (Below.refl w.heap.size w);(unfold Kk.v at h);obtain⟨vs,A10,H⟩:=Option.bind_eq_some_iff.mp h;obtain⟨⟨nums_,ok_⟩,A20,H⟩:=Option.bind_eq_some_iff.mp H;have A2:=Jq.mk A20;have HF:=Jq.mk H;clear hr0_0 hc0_0 hr0_1 hc0_1 hne hle hi hset hc h A20 H;obtain⟨y0,hy0⟩:∃ y_:List (List Int),y_=([]:List (List Int)):=⟨_,rfl⟩;rw[←hy0] at A10;have NY:=Jq.mk hy0;have H':=Jq.mk A10;clear hy0 A10;(go_enter Try.func139,Try.ntmps139);(go_wp2_with (first|((with_reducible refine Xz (N:=11) rfl ?_);refine Kd.S_lit (Kd.slice 3 (Kd.int .i64)) _ 26 ?hg (N:=11) ?hd (xs:=([]:List (List Int))) (inner:=[]) (ok:=fun _=>True) (okp:=fun _=>True) ?hr ?hp (fun _ hk=>hk) trivial (Below.refl _ _) (Nat.le_refl _) (by simp) ?_;(case hd=>rfl);(case hg=>rfl);(case hr=>exact d11_);(case hp=>exact d34_);intro v11 w2 ho3 hb hg_ hnew_;clear hg_ hnew_;rw[←NY.out] at ho3;have HOv:=Jq.mk (Kd.S_lower ho3 (Kj HB.out));replace HB:=Jq.mk (Yj HB.out hb);clear hb ho3)));(go_loopg [6,14] k (fun kq v6 v14 w'=>∃ (acc:List (List Int)) (i:Int),v14=.int .i64 i∧Jq (Kk.v0 l0_0 l0_1 set kq acc i=some vs)∧Jq (kq≤k)∧Jq (Kd.S (Kd.slice 3 (Kd.int .i64)) 26 w' w.heap.size (fun _=>True) v6 acc)∧Jq (Below w.heap.size w w')));(case atStart=>exact⟨y0,0,rfl,H',⟨Nat.le_refl _⟩,HOv,HB⟩)
 case round =>
  clear H' HOv NY HB;obtain⟨acc,i,rfl,HA,HK1,HOv,HB⟩:=hrel
  cases gk with
 |zero=>exact absurd HA.out (by simp[Kk.v0])
 |succ k1 =>
   have H:=HA.out;clear HA;(simp only[Kk.v0] at H);(by_cases c1:i<(set.length:Int))
   ·rw[if_pos c1] at H;have c1b:decide (i<(set.length:Int))=true:=decide_eq_true c1;(by_cases c2:0≤i)
    ·rw[if_pos c2] at H;obtain⟨t,A30,H⟩:=Option.bind_eq_some_iff.mp H;have A3:=Jq.mk A30;clear A30;(by_cases c3:acc.length<5864062014805)
     ·rw[if_pos c3] at H;have L3:=Jq.mk c3;clear c3;obtain⟨y1,hy1⟩:∃ y_:List (List Int),y_=acc++[t]:=⟨_,rfl⟩;rw[←hy1] at H;have NY:=Jq.mk hy1;have H':=Jq.mk H;clear H hy1;obtain⟨ad,ea,hx⟩:=Kd.at_int (HS.out wr (Kept.of_below HB.out _)) i c2 c1;(cases ea);have p1:=eq_true c2;have p2:=eq_true c1;have HI:=Jq.mk (Kk.I_below HW.out HB.out);have hz0:wr.cell? ⟨bs,0,none⟩=some (.slice A0_0 l0_0.length c0_0):=(Xj HI.out.2.1 0).trans rfl;have hz1:wr.cell? ⟨bs,1,none⟩=some (.slice A0_1 l0_1.length c0_1):=(Xj HI.out.2.1 1).trans rfl;clear c1 c2
      go_wp2_with (first
      |((with_reducible refine Gj (f:=140) rfl ?_);refine Kx (some 21) rfl rfl Try.func140 (by kernel_rfl) rfl #[.agg #[.slice A0_0 l0_0.length c0_0,.slice A0_1 l0_1.length c0_1],.int .i64 (rd set i)] rfl d17_ ?_;(with_reducible refine(Xk.calls _ _ _ l0_0 _ _ l0_1 (rd set i) t _ ?s1 HC0.out ?s2 HC1.out A3.out).mono ?_);(case s1=>exact Kd.C_below HR0.out HI.out.1);(case s2=>exact Kd.C_below HR1.out HI.out.1);rintro e w19 ⟨v19,rfl,ho0,hb⟩;refine⟨_,rfl,?_⟩;have n0_:=Jq.mk (Kd.S_elder' HOv.out (Kd.R_base ho0) hb);have n2_:=Jq.mk (Kd.R_lower ho0 (Kj HB.out));have n3_:=Jq.mk (Yj HB.out hb);clear HOv HB hb ho0;have HOv:=n0_;have HOt:=n2_;have HB:=n3_;clear n0_ n2_ n3_;obtain⟨Ao,co,eo⟩:=Kd.R_slice HOt.out;subst eo)
      |((with_reducible refine gate_builtin (b:=.append) (xs:=#[.tmp 18,.tmp 22]) rfl ?_);at_builtin;refine Kd.S_append (Kd.slice 3 (Kd.int .i64)) (w0:=w) w.heap.size rfl (.tmp 18) (.tmp 22) 25 26 (.slice none 0 0) 24 rfl Try.underlying25 info26 rfl (by decide) (by omega) u6 acc t [.slice Ao t.length co] (fun _=>True) (fun k_=>some k_=(.slice Ao t.length co:Value).ownBlock) rfl rfl ?aP (fun k_ hk_=>((Kd.R_mono (ok':=fun k_=>((fun _=>True)) k_∧some k_≠(u6:Value).ownBlock) (Kd.R_apart' (HOt.out) (Kd.S_typed HOv.out) (by decide)) (fun k_ hk=>⟨trivial,hk.2⟩))).1 k_ hk_.symm) ?aF ?aO ?aB ?aS ?aL ?_;(case aP=>exact Kd.M_row (Kd.R_mono (Kd.R_tight rfl (Kd.R_mono (ok':=fun k_=>((fun _=>True)) k_∧some k_≠(u6:Value).ownBlock) (Kd.R_apart' (HOt.out) (Kd.S_typed HOv.out) (by decide)) (fun k_ hk=>⟨trivial,hk.2⟩))) (fun _ h_=>h_)));(case aB=>exact HB.out);(case aF=>exact d39_);(case aO=>exact Kd.S_mono HOv.out (fun k_ hk=>⟨trivial,fun e_=>hk.2 e_⟩));(case aS=>exact(Kj HB.out));(case aL=>have:=L3.out;omega);intro v23 w25 ho hb hg hat;rw[←NY.out] at ho;replace HB:=Jq.mk (hb);replace HOv:=Jq.mk (ho);clear HOt;clear ho hb hg hat))
      (go_roundg k1);(case measure=>exact d21_);(case rel=>exact⟨y1,wrap64 (i+1),rfl,H',⟨d21_⟩,HOv,HB⟩)
     ·rw[if_neg c3] at H;exact absurd H (by simp)
    ·rw[if_neg c2] at H;exact absurd H (by simp)
   ·rw[if_neg c1] at H;have c1b:decide (i<(set.length:Int))=false:=decide_eq_false c1;obtain rfl:=Option.some.inj H;clear H c1;obtain⟨Av,cv,ev⟩:=Kd.S_slice HOv.out;subst ev;have HI:=Jq.mk (Kk.I_below HW.out HB.out)
    cases ok_ with
   |false =>
     have H:=HF.out;(simp only[Bool.false_eq_true,if_false,Option.some.injEq,Prod.mk.injEq] at H);obtain⟨rfl,rfl⟩:=H
     go_wp2_with (first
     |((with_reducible refine Gj (f:=141) rfl ?_);refine Kx (some 27) rfl rfl Try.func141 (by kernel_rfl) rfl #[.slice Av acc.length cv] rfl d17_ ?_;(with_reducible refine(Gk.calls _ _ _ acc nums_ false _ ?s1 ?s2 A2.out).mono ?_);(case s1=>exact(Kd.S_reads' HOv.out).2.2);(case s2=>exact(Kd.S_reads' HOv.out).2.1);rintro e w29 ⟨v29,rfl,ho0,hb⟩;refine⟨_,rfl,?_⟩;have n0_:=Jq.mk (Kk.I_below HI.out hb);have n3_:=Jq.mk (Yj HB.out hb);clear HOv HB HI hb ho0;have HI:=n0_;have HB:=n3_;clear n0_ n3_))
     (go_ret);exact⟨rfl,HI.out,Kept.of_below HB.out _⟩
   |true =>
     have H:=HF.out;rw[if_pos rfl] at H;obtain⟨cp,A40,H⟩:=Option.bind_eq_some_iff.mp H;have A4:=Jq.mk A40;(simp only[Option.some.injEq,Prod.mk.injEq] at H);obtain⟨rfl,rfl⟩:=H;clear A40
     go_wp2_with (first
     |((with_reducible refine Gj (f:=141) rfl ?_);refine Kx (some 27) rfl rfl Try.func141 (by kernel_rfl) rfl #[.slice Av acc.length cv] rfl d17_ ?_;(with_reducible refine(Gk.calls _ _ _ acc nums_ true _ ?s1 ?s2 A2.out).mono ?_);(case s1=>exact(Kd.S_reads' HOv.out).2.2);(case s2=>exact(Kd.S_reads' HOv.out).2.1);rintro e w29 ⟨v29,rfl,ho0,hb⟩;refine⟨_,rfl,?_⟩;have n0_:=Jq.mk (Kk.I_below HI.out hb);have n3_:=Jq.mk (Yj HB.out hb);have n4_:=Jq.mk (Kd.R_lower ho0 (Kj HI.out.1));clear HOv HB HI hb ho0;have HI:=n0_;have HB:=n3_;have HOn:=n4_;clear n0_ n3_ n4_;obtain⟨An,cn,en⟩:=Kd.R_slice HOn.out;subst en)
     |((with_reducible refine Gj (f:=82) rfl ?_);refine Kx (some 32) rfl rfl Try.func82 (by kernel_rfl) rfl #[.slice A set.length c] rfl d17_ ?_;(with_reducible refine(Yv.calls _ _ set cp _ ?s1 HL.out A4.out).mono ?_);(case s1=>exact HS.out _ (Kept.of_below HB.out _));rintro e w39 ⟨v39,rfl,ho0,hb⟩;refine⟨_,rfl,?_⟩;have n0_:=Jq.mk (Kk.I_below HI.out hb);have n3_:=Jq.mk (Yj HB.out hb);have n4_:=Jq.mk (Kd.R_below HOn.out hb);have n5_:=Jq.mk (Kd.R_lower (Kd.R_new' ho0 (Kd.R_lt HOn.out)) (Kj HI.out.1));clear HB HI HOn hb ho0;have HI:=n0_;have HB:=n3_;have HOn:=n4_;have HOc:=n5_;clear n0_ n3_ n4_ n5_;obtain⟨Ac,cc,ec⟩:=Kd.R_slice HOc.out;subst ec;obtain⟨J1,J2,x1,x2,J3,J4,J5,J6⟩:=HI.out;have hs1:w39.cell? ⟨b1,0,none⟩=some x1:=(Xj J3 0).trans rfl;have hf1:=Zj J3 0;have hs2:w39.cell? ⟨b2,0,none⟩=some x2:=(Xj J4 0).trans rfl;have hf2:=Zj J4 0;have hn1:=HNE.out.2.2;have hn2:=Ne.symm HNE.out.2.2;have HJ1:=Jq.mk J1;have HJ2:=Jq.mk J2;have HJ3:=Jq.mk J3;have HJ4:=Jq.mk J4;clear J1 J2 J3 J4 J5 J6))
     (go_ret);refine⟨rfl,⟨Zq (Zq HJ1.out HLE.out.1) HLE.out.2,Gz (Gz HJ2.out HNE.out.1 _) HNE.out.2.1 _,_,_,Gz (blk_put HJ3.out 0 _ rfl) HNE.out.2.2 _,blk_put (Gz HJ4.out (Ne.symm HNE.out.2.2) _) 0 _ rfl,?_,?_⟩,((Kept.of_below HB.out _).setCell (p:=⟨b1,0,none⟩) (.inl (.inl rfl)) _).setCell (p:=⟨b2,0,none⟩) (.inl (.inr rfl)) _⟩;(·exact Kd.R_mono (Kd.R_set (Kd.R_set HOc.out HJ3.out (by decide) 0 _) (Gz HJ4.out (Ne.symm HNE.out.2.2) _) (by decide) 0 _) (fun _ hk=>hk.2));(·exact Kd.R_set (Kd.R_set HOn.out HJ3.out (by decide) 0 _) (Gz HJ4.out (Ne.symm HNE.out.2.2) _) (by decide) 0 _)
set_option maxHeartbeats 8000000 in
set_option maxRecDepth 100000 in
theorem Kk.calls (k:Nat) (A0_0:Option Addr) (c0_0:Nat) (l0_0:List (List Int)) (A0_1:Option Addr) (c0_1:Nat) (l0_1:List Int) (r1:List Int) (r2:List Int) (r3:Bool) (w:World) (hr0_0:Kd.C (Kd.slice 3 (Kd.int .i64)) w A0_0 l0_0.length l0_0) (hc0_0:l0_0.length≤c0_0) (hr0_1:Kd.C (Kd.int .i64) w A0_1 l0_1.length l0_1) (hc0_1:l0_1.length≤c0_1) (h:Kk.f k l0_0 l0_1=some (r1,r2,r3)) :
  Calls Try.prog 101 #[.agg #[.slice A0_0 l0_0.length c0_0,.slice A0_1 l0_1.length c0_1]] w fun e w'=>∃ v0_ v1_:Value,e=.returned (.tuple #[v0_,v1_,.bool r3])∧Kd.R (Kd.int .i64) 3 w' w.heap.size (fun k_=>some k_≠(v1_:Value).ownBlock) v0_ r1∧Kd.R (Kd.int .i64) 3 w' w.heap.size (fun _=>True) v1_ r2∧Below w.heap.size w w':=by
 have hu32:=Try.underlying32;have hmf:∀ (fn:Fn) (first cap:Array Value) (w:World),(Instr.makeFunc fn first cap).run Try.prog w=.ok (.func fn first cap) w:=fun _ _ _ _=>rfl;have HR0:=Jq.mk hr0_0;have HC0:=Jq.mk hc0_0;have HR1:=Jq.mk hr0_1;have HC1:=Jq.mk hc0_1;have HB:=Jq.mk (Below.refl w.heap.size w);(unfold Kk.f at h);clear hr0_0 hc0_0 hr0_1 hc0_1;(by_cases c1:(l0_0.length:Int)=0);(·rw[if_pos c1] at h;have c1b:((l0_0.length:Int) == 0)=true:=beq_iff_eq.mpr c1;have c1e:l0_0=[]:=List.length_eq_zero_iff.mp (by omega);(simp only[Option.some.injEq,Prod.mk.injEq] at h);obtain⟨rfl,rfl,rfl⟩:=h;clear c1;(go_enter Try.func101,Try.ntmps101);(go_wp2_with (first|((with_reducible refine Xz (N:=1) rfl ?_);refine Zz ?hg (N:=1) ?hd (cs:=#[.slice A0_0 l0_0.length c0_0,.slice A0_1 l0_1.length c0_1]) (t:=32) ?hr ?_;(case hd=>rfl);(case hg=>rfl);(case hr=>exact d11_);intro bs hg w9 hbox hb;have n0_:=Jq.mk (Yj HB.out hb);have hz0:w9.cell? ⟨bs,0,none⟩=some (.slice A0_0 l0_0.length c0_0):=(Xj hbox 0).trans rfl;have hz1:w9.cell? ⟨bs,1,none⟩=some (.slice A0_1 l0_1.length c0_1):=(Xj hbox 1).trans rfl;clear HB hb hbox hg;have HB:=n0_;clear n0_)));refine bodyPost_ret (v:=.tuple #[.slice none 0 0,.slice none 0 0,.bool false]) (by simp[results,Try.results101,go_sem]) rfl ?_;exact⟨_,_,rfl,Kd.R_nil _ _ _ _ _,Kd.R_nil _ _ _ _ _,HB.out⟩)
 ·rw[if_neg c1] at h;have c1b:((l0_0.length:Int) == 0)=false:=beq_eq_false_iff_ne.mpr c1;have c1n:¬ (l0_0=[]):=fun h_=>c1 (by rw[h_];rfl);have H':=Jq.mk h;clear h c1;(go_enter Try.func101,Try.ntmps101)
  go_wp2_with (first
  |((with_reducible refine Xz (N:=1) rfl ?_);refine Zz ?hg (N:=1) ?hd (cs:=#[.slice A0_0 l0_0.length c0_0,.slice A0_1 l0_1.length c0_1]) (t:=32) ?hr ?_;(case hd=>rfl);(case hg=>rfl);(case hr=>exact d11_);intro bs hg w9 hbox hb;have B1:=Jq.mk (Yj HB.out hb);have K1:=Jq.mk hbox;have hz0:w9.cell? ⟨bs,0,none⟩=some (.slice A0_0 l0_0.length c0_0):=(Xj hbox 0).trans rfl;have hz1:w9.cell? ⟨bs,1,none⟩=some (.slice A0_1 l0_1.length c0_1):=(Xj hbox 1).trans rfl;clear HB hb hbox hg)
  |((with_reducible refine Xz (N:=6) rfl ?_);refine Zz ?hg (N:=6) ?hd (cs:=#[.slice none 0 0]) (t:=26) ?hr ?_;(case hd=>rfl);(case hg=>rfl);(case hr=>first|(go_simp;done)|(go_simp;rfl)|kernel_rfl);intro b1 hg w10 hbox hb;have B2:=Jq.mk (Yj B1.out hb);have K12:=Jq.mk (Vj K1.out hb);have K2:=Jq.mk hbox;have Z2:=Jq.mk (show w.heap.size≤b1 by rw[hg];exact B1.out.size);have N2:=Jq.mk (show bs≠b1 by(have:=blk_lt K1.out;omega));clear B1 K1 hz0 hz1 hbox hb hg)
  |((with_reducible refine Xz (N:=7) rfl ?_);refine Zz ?hg (N:=7) ?hd (cs:=#[.slice none 0 0]) (t:=26) ?hr ?_;(case hd=>rfl);(case hg=>rfl);(case hr=>first|(go_simp;done)|(go_simp;rfl)|kernel_rfl);intro b2 hg w11 hbox hb;have B3:=Jq.mk (Yj B2.out hb);have K13:=Jq.mk (Vj K12.out hb);have K23:=Jq.mk (Vj K2.out hb);have K3:=Jq.mk hbox;have Z3:=Jq.mk (show w.heap.size≤b2 by rw[hg];exact B2.out.size);have N3:=Jq.mk (show bs≠b2∧b1≠b2 by(have l1:=blk_lt K12.out;have l2:=blk_lt K2.out;omega));have hs1:w11.cell? ⟨b1,0,none⟩=some (.slice none 0 0):=(Xj K23.out 0).trans rfl;have hf1:=Zj K23.out 0;have hs2:w11.cell? ⟨b2,0,none⟩=some (.slice none 0 0):=(Xj K3.out 0).trans rfl;have hf2:=Zj K3.out 0;have hn1:=N3.out.2;have hn2:=Ne.symm N3.out.2;clear B2 K12 K2 hbox hb hg))
  have HNE:Jq (bs≠b1∧bs≠b2∧b1≠b2):=⟨⟨N2.out,N3.out.1,N3.out.2⟩⟩;have HLE:Jq (w.heap.size≤b1∧w.heap.size≤b2):=⟨⟨Z2.out,Z3.out⟩⟩
  have HI0:Jq (Kk.I w A0_0 c0_0 l0_0 A0_1 c0_1 l0_1 bs b1 b2 ([],[]) ((w11.setCell ⟨b1,0,none⟩ (.slice none 0 0)).setCell ⟨b2,0,none⟩ (.slice none 0 0))) :=
   ⟨⟨Zq (Zq B3.out Z2.out) Z3.out,Gz (Gz K13.out N2.out _) N3.out.1 _,_,_,Gz (blk_put K23.out 0 _ rfl) N3.out.2 _,blk_put (Gz K3.out (Ne.symm N3.out.2) _) 0 _ rfl,Kd.R_nil _ _ _ _ _,Kd.R_nil _ _ _ _ _⟩⟩
  clear hs1 hf1 hs2 hf2 hn1 hn2 N2 N3 Z2 Z3 B3 K13 K23 K3;(go_loopg [8] k (fun kq v8 w'=>∃ (s:List Int×List Int) (kk:Int),v8=.int .i64 kk∧Jq (Kk.l0 l0_0 l0_1 kq s kk=some (r1,r2,r3))∧Jq (kq≤k)∧Jq (Kk.I w A0_0 c0_0 l0_0 A0_1 c0_1 l0_1 bs b1 b2 s w')));(case atStart=>exact⟨([],[]),2,rfl,H',⟨Nat.le_refl _⟩,HI0⟩)
  case round =>
   clear H' HI0;obtain⟨s,kk,rfl,HA,HK1,HI⟩:=hrel
   cases gk with
  |zero=>exact absurd HA.out (by simp[Kk.l0])
  |succ k1 =>
    have H:=HA.out;clear HA;(simp only[Kk.l0] at H);(by_cases c2:0<(l0_0.length:Int))
    ·rw[if_pos c2] at H;have hz0:wr.cell? ⟨bs,0,none⟩=some (.slice A0_0 l0_0.length c0_0):=(Xj HI.out.2.1 0).trans rfl;have hz1:wr.cell? ⟨bs,1,none⟩=some (.slice A0_1 l0_1.length c0_1):=(Xj HI.out.2.1 1).trans rfl;(have p1:0≤(0:Int):=by omega);obtain⟨ad,A1,c1,ea,hx,hl,hi⟩:=at_L1 HR0.out 0 p1 c2;(cases ea);have qi:(0<l0_0.length)=True:=eq_true (by omega);(try rw[show ((0:Int)).toNat=0 from rfl] at hx);(try rw[Addr.add_zero'] at hx);replace hx:=(HI.out.1.cell (World.block_lt_of_cell? w _ hx)).trans hx;have c2b:decide (0<(l0_0.length:Int))=true:=decide_eq_true c2;have p1t:=eq_true p1;have c2t:=eq_true c2;clear hl hi p1 c2;obtain⟨M,hM⟩:∃ M:Int,(if wrap64 (((rd_L1 l0_0 0).length:Int)+2)<(l0_0.length:Int) then wrap64 (((rd_L1 l0_0 0).length:Int)+2) else(l0_0.length:Int))=M:=⟨_,rfl⟩;rw[show mn (l0_0.length:Int) (wrap64 (((rd_L1 l0_0 0).length:Int)+2))=M from hM] at H;(by_cases c3:kk≤M)
     ·rw[if_pos c3] at H;have c3b:decide (kk≤M)=true:=decide_eq_true c3;obtain⟨⟨b,s2⟩,A40,H⟩:=Option.bind_eq_some_iff.mp H;have A4:=Jq.mk A40;have H':=Jq.mk H;clear c3 A40 H;have HM:=Jq.mk hM;(go_wp2_with fail);refine(Kv.calls (Kk.v l0_0 l0_1) 139 #[.pointer (some ⟨bs,0,none⟩),.pointer (some ⟨b1,0,none⟩),.pointer (some ⟨b2,0,none⟩)] (ent_of Try.func139 (by kernel_rfl) rfl) (Kk.I w (some ad) c0_0 l0_0 A0_1 c0_1 l0_1 bs b1 b2) (fun k_=>k_=b1∨k_=b2) (fun s_ wa wb hi_ hb_=>Kk.I_below hi_ hb_) (Kk.vcalls w (some ad) c0_0 l0_0 A0_1 c0_1 l0_1 HR0.out HC0.out HR1.out HC1.out bs b1 b2 HNE.out HLE.out) k1 s (l0_0.length:Int) kk b s2 wr HI.out (fun k_ hk_=>by obtain⟨_,_,x1,x2,J3,J4,_⟩:=HI.out;rcases hk_ with rfl|rfl;exact blk_lt J3;exact blk_lt J4) A4.out).mono ?_;rintro e w9 ⟨rfl,hi9,hk9⟩;have HI9:=Jq.mk hi9;clear hi9 hk9 HI hx hz0 hz1
      cases b with
     |true =>
       have H:=H'.out;(simp only[if_true,Option.some.injEq,Prod.mk.injEq] at H);obtain⟨rfl,rfl,rfl⟩:=H;obtain⟨J1,J2,x1,x2,J3,J4,J5,J6⟩:=HI9.out;have hs1:w9.cell? ⟨b1,0,none⟩=some x1:=(Xj J3 0).trans rfl;have hs2:w9.cell? ⟨b2,0,none⟩=some x2:=(Xj J4 0).trans rfl;have Q1:=Jq.mk J1;have Q5:=Jq.mk J5;have Q6:=Jq.mk J6;clear J1 J2 J3 J4 J5 J6 HI9;(go_wp2);(go_quiet (fail));(go_wp2);refine bodyPost_ret (v:=.tuple #[x1,x2,.bool true]) (by simp[results,Try.results101,go_sem]) rfl ?_;exact⟨_,_,rfl,r0_ Q5.out,r0_ Q6.out,by repeat(first|(with_reducible first|exact Q1.out|apply Yq|apply Kq|apply Xq)|exact Q1.out)⟩
     |false =>
       have H:=H'.out;(simp only[Bool.false_eq_true,if_false] at H);have H2:=Jq.mk H;clear H H';(go_wp2);(go_roundg k1);(case measure=>exact d21_);(case rel=>exact⟨s2,wrap64 (kk+1),rfl,H2,⟨d21_⟩,HI9⟩)
     ·rw[if_neg c3] at H;have c3b:decide (kk≤M)=false:=decide_eq_false c3;(simp only[Option.some.injEq,Prod.mk.injEq] at H);obtain⟨rfl,rfl,rfl⟩:=H;clear c3;(go_wp2);refine bodyPost_ret (v:=.tuple #[.slice none 0 0,.slice none 0 0,.bool false]) (by simp[results,Try.results101,go_sem]) rfl ?_;exact⟨_,_,rfl,Kd.R_nil _ _ _ _ _,Kd.R_nil _ _ _ _ _,HI.out.1⟩
    ·rw[if_neg c2] at H;exact absurd H (by simp)
def Jk.f (k:Nat) (l0_0:List (List Int)) (l0_1:List Int):Option (Bool):=(Kk.f k l0_0 l0_1).bind fun bt496=>(some (!bt496.2.2))
set_option maxHeartbeats 8000000 in
set_option maxRecDepth 100000 in
theorem Jk.calls (k:Nat) (A0_0:Option Addr) (c0_0:Nat) (l0_0:List (List Int)) (A0_1:Option Addr) (c0_1:Nat) (l0_1:List Int) (r:Bool) (w:World) (hr0_0:Kd.C (Kd.slice 3 (Kd.int .i64)) w A0_0 l0_0.length l0_0) (hc0_0:l0_0.length≤c0_0) (hr0_1:Kd.C (Kd.int .i64) w A0_1 l0_1.length l0_1) (hc0_1:l0_1.length≤c0_1) (h:Jk.f k l0_0 l0_1=some r) :
  Calls Try.prog 99 #[.agg #[.slice A0_0 l0_0.length c0_0,.slice A0_1 l0_1.length c0_1]] w fun e w'=>e=.returned (.bool r)∧Below w.heap.size w w':=by
 have hu32:=Try.underlying32;have HR0_0:=Jq.mk hr0_0;have HC0_0:=Jq.mk hc0_0;clear hr0_0 hc0_0;have HR0_1:=Jq.mk hr0_1;have HC0_1:=Jq.mk hc0_1;clear hr0_1 hc0_1;have HB:=Jq.mk (Below.refl w.heap.size w);have H:((Kk.f k l0_0 l0_1).bind fun bt496=>(some (!bt496.2.2)))=some r:=h;clear h;replace H:=Option.bind_eq_some_iff.mp H;obtain⟨⟨t496,t499,t502⟩,A20,H⟩:=H;replace H:(some (!t502))=some r:=H;have A2:=Jq.mk A20;clear A20;obtain rfl:=Option.some.inj H;(go_enter Try.func99,Try.ntmps99);(go_wp2_with (first|((with_reducible refine Xz (N:=1) rfl ?_);refine Zz ?hg (N:=1) ?hd (cs:=#[.slice A0_0 l0_0.length c0_0,.slice A0_1 l0_1.length c0_1]) (t:=32) ?hr ?_;(case hd=>rfl);(case hg=>rfl);(case hr=>exact d11_);intro gb495 hg w3 hbox hb;have BK495:=Jq.mk (hbox);have GW495:=Jq.mk ((d27_:w.heap.size≤gb495));have GE495:=Jq.mk ((d27_:w.heap.size≤gb495));replace HB:=Jq.mk (Yj d0_ hb);clear hb hbox hg;have hcz4_0:w3.cell? ⟨gb495,0,none⟩=some (.slice A0_0 l0_0.length c0_0):=(Xj BK495.out 0).trans rfl;have hcz4_1:w3.cell? ⟨gb495,1,none⟩=some (.slice A0_1 l0_1.length c0_1):=(Xj BK495.out 1).trans rfl;have hfz4_0:=Zj BK495.out 0;have hfz4_1:=Zj BK495.out 1)|((with_reducible refine Gj (f:=101) rfl ?_);refine Kx (some 8) rfl rfl Try.func101 (by kernel_rfl) rfl #[.agg #[.slice A0_0 l0_0.length c0_0,.slice A0_1 l0_1.length c0_1]] rfl d2_ ?_;(with_reducible refine(Kk.calls k _ _ l0_0 _ _ l0_1 t496 t499 t502 _ ?side1 ?side2 ?side3 ?side4 A2.out).mono ?_);(case side1=>exact d40_);(case side2=>exact d97_);(case side3=>exact d54_);(case side4=>exact d117_);rintro e w5 ⟨v497,v500,rfl,ho0,ho1,hb⟩;refine⟨_,rfl,?_⟩;have HO498:=Jq.mk (Kd.R_lower ho0 (Kj d47_));have HO501:=Jq.mk (Kd.R_lower ho1 (Kj d47_));replace BK495:=Jq.mk (Vj (g:=gb495) (o:=.cells #[.slice A0_0 l0_0.length c0_0,.slice A0_1 l0_1.length c0_1] 32 (0,0)) (r3_ BK495.out) hb);replace HB:=Jq.mk (Yj d47_ hb);(try clear hb);(try clear hb2);(try clear hk);(try clear hi);(try clear ho0);(try clear ho1))));(go_ret);exact⟨d9_,d47_⟩
mutual
def Xx.l0:Nat→List (List Int)→Int→Int→Int→Option (Int×Bool)
|0,_,_,_,_=>none
|k+1,x0,x4,x13,x14=>if x14<x13 then(Xx.l1 k x0 x4 x14 (([]:List Int)) x13 x14 (x0.length:Int) 0) else(some (x4,true))
def Xx.l1:Nat→List (List Int)→Int→Int→List Int→Int→Int→Int→Int→Option (Int×Bool)
|0,_,_,_,_,_,_,_,_=>none
|k+1,x0,x4,x5,x6,x13,x14,x19,x20=>if x20<x19 then(if 0≤x20 then(if x6.length<17592186044416 then(Xx.l1 k x0 x4 x5 (x6++[wrap64 ((wrap64 (2 * (Go.bits .and .i64 (shr .i64 x5 x20) 1))) - 1)]) x13 x14 x19 (wrap64 (x20+1))) else(none)) else(none)) else((Jk.f k x0 x6).bind fun t510=>(if t510=true then(Xx.l0 k x0 (wrap64 (x4+1)) x13 (wrap64 (x14+1))) else(Xx.l0 k x0 x4 x13 (wrap64 (x14+1)))))
end
def Xx.f (k:Nat) (l0:List (List Int)):Option (Int×Bool):=(Vk.f k l0).bind fun t503=>(if t503=true then(Xx.l0 k l0 0 (shl .i64 1 (l0.length:Int)) 0) else(some (0,false)))
set_option maxHeartbeats 8000000 in
set_option maxRecDepth 100000 in
theorem Xx.calls (k:Nat) (A0:Option Addr) (c0:Nat) (l0:List (List Int)) (r1:Int) (r2:Bool) (w:World) (hr0:Kd.C (Kd.slice 3 (Kd.int .i64)) w A0 l0.length l0) (hc0:l0.length≤c0) (h:Xx.f k l0=some (r1,r2)) :
  Calls Try.prog 39 #[.slice A0 l0.length c0] w fun e w'=>e=.returned (.tuple #[.int .i64 r1,.bool r2])∧Below w.heap.size w w':=by
 have hu32:=Try.underlying32;have HR0:=Jq.mk hr0;have HC0:=Jq.mk hc0;clear hr0 hc0;have HB:=Jq.mk (Below.refl w.heap.size w);have H:((Vk.f k l0).bind fun t503=>(if t503=true then(Xx.l0 k l0 0 (shl .i64 1 (l0.length:Int)) 0) else(some (0,false))))=some (r1,r2):=h;clear h;replace H:=Option.bind_eq_some_iff.mp H;obtain⟨t503,A20,H⟩:=H;replace H:(if t503=true then(Xx.l0 k l0 0 (shl .i64 1 (l0.length:Int)) 0) else(some (0,false)))=some (r1,r2):=H;have A2:=Jq.mk A20;clear A20;(by_cases c3:t503=true)
 ·subst c3;(have H1:(Xx.l0 k l0 0 (shl .i64 1 (l0.length:Int)) 0)=some (r1,r2):=by rw[if_pos rfl] at H;exact H);clear H;have H:=H1;clear H1;obtain⟨ji4,hji4⟩:∃ j_:Int,(shl .i64 1 (l0.length:Int))=j_:=⟨_,rfl⟩;(replace H:(Xx.l0 k l0 0 ji4 0)=some (r1,r2):=by first|(rw[hji4] at H;exact H)|(simp only[hji4] at H ⊢;exact H));(try rw[hji4] at A2);have hji4_:(IntKind.i64.wrap (1 * 2 ^ min (l0.length:Int).toNat 64))=ji4:=hji4;have hji4z:(l0.length:Int)≤64→(IntKind.i64.wrap (1 * 2 ^ (l0.length:Int).toNat))=ji4:=shl_small hji4;have hji4p:(IntKind.i64.wrap (1 * 2 ^ min l0.length 64))=ji4:=hji4_;have hji4q:(l0.length:Int)≤64→(IntKind.i64.wrap (1 * 2 ^ l0.length))=ji4:=hji4z;(have hji4r:(IntKind.i64.wrap (2 ^ min l0.length 64))=ji4:=by have h_:=hji4p;rw[Int.one_mul] at h_;exact h_);(have hji4s:(l0.length:Int)≤64→(IntKind.i64.wrap (2 ^ l0.length))=ji4:=fun hle_=>by have h_:=hji4q hle_;rw[Int.one_mul] at h_;exact h_);(have hji4u:(IntKind.i64.wrap (2 ^ min (l0.length:Int).toNat 64))=ji4:=by have h_:=hji4_;rw[Int.one_mul] at h_;exact h_);(have hji4v:(l0.length:Int)≤64→(IntKind.i64.wrap (2 ^ (l0.length:Int).toNat))=ji4:=fun hle_=>by have h_:=hji4z hle_;rw[Int.one_mul] at h_;exact h_);have hji4y:(wrap64 (1 * 2 ^ min (l0.length:Int).toNat 64))=ji4:=(i64_w _).symm.trans hji4_;have hji4x:(l0.length:Int)≤64→(wrap64 (1 * 2 ^ (l0.length:Int).toNat))=ji4:=fun h_=>(i64_w _).symm.trans (hji4z h_);have H':=Jq.mk H;clear H;(go_enter Try.func39,Try.ntmps39);(go_wp2_with (first|((with_reducible refine Gj (f:=88) rfl ?_);refine Kx (some 9) rfl rfl Try.func88 (by kernel_rfl) rfl #[.slice A0 l0.length c0] rfl d2_ ?_;(with_reducible refine(Vk.calls k _ _ l0 true _ ?side1 ?side2 A2.out).mono ?_);(case side1=>exact d105_);(case side2=>exact HC0.out);rintro e w5 ⟨rfl,hb⟩;refine⟨_,rfl,?_⟩;replace HB:=Jq.mk (Yj d0_ hb);(try clear hb);(try clear hb2);(try clear hk);(try clear hi))));(go_loopg [4,14] k (fun kq v4 v14 w'=>∃ (x4_1:Int) (x14_1:Int),v4=.int .i64 x4_1∧v14=.int .i64 x14_1∧Jq (Xx.l0 kq l0 x4_1 ji4 x14_1=some (r1,r2))∧Jq (kq≤k)∧Jq (Below w.heap.size w w')));(case atStart=>exact⟨(0),(0),d7_,d7_,H',⟨Nat.le_refl _⟩,⟨d0_⟩⟩)
  case round =>
   clear H';(try clear p2);(try clear c3);obtain⟨x4_1,x14_1,rfl,rfl,HA,HK1,HB⟩:=hrel
   cases gk with
  |zero=>exact absurd HA.out (by simp[Xx.l0])
  |succ k1 =>
    have H:=HA.out;clear HA;(simp only[Xx.l0] at H);(by_cases c6:x14_1<ji4)
    ·rw[if_pos c6] at H;have c6b0:decide (x14_1<ji4)=true:=decide_eq_true c6;clear c6;obtain⟨y504,hy504⟩:∃ y_:List Int,y_=(([]:List Int)):=⟨_,rfl⟩;(replace H:(Xx.l1 k1 l0 x4_1 x14_1 y504 ji4 x14_1 (l0.length:Int) 0)=some (r1,r2):=r7_ hy504 H);have Ny504:=Jq.mk hy504;clear hy504;have H':=Jq.mk H;clear H;(go_wp2_with (first|((with_reducible refine Xz (N:=17) rfl ?_);refine Kd.R_lit (Kd.int .i64) _ 3 ?hg (N:=17) ?hd (xs:=([]:List Int)) (inner:=[]) (ok:=fun _=>True) (okp:=fun _=>True) ?hr ?hp (fun _ hk=>hk) trivial (Below.refl _ _) (Nat.le_refl _) (by simp) ?_;(case hd=>rfl);(case hg=>rfl);(case hr=>exact d11_);(case hp=>exact d34_);intro v505 w7 ho8 hb hg_ hnew_;clear hg_ hnew_;(first|rw[←Ny504.out] at ho8|(simp only[Int.reduceToNat] at ho8;rw[←Ny504.out] at ho8));have HO506:=Jq.mk (Kd.R_lower ho8 (Kj d0_));replace HB:=Jq.mk (Yj d0_ hb);clear hb ho8)));(go_loopg [6,20] k1 (fun kq v6 v20 w'=>∃ (x6_2:List Int) (x20_2:Int),v20=.int .i64 x20_2∧Jq (Xx.l1 kq l0 x4_1 x14_1 x6_2 ji4 x14_1 (l0.length:Int) x20_2=some (r1,r2))∧Jq (kq≤k1)∧Jq (Kd.R (Kd.int .i64) 3 w' w.heap.size (fun _=>True) v6 x6_2)∧Jq (Below w.heap.size w w')));(case atStart=>exact⟨(y504),(0),d7_,H',⟨Nat.le_refl _⟩,⟨r0_ HO506.out⟩,⟨d0_⟩⟩)
     case round =>
      clear H';(try clear p2);(try clear c3);(try clear c6);(try clear c6b0);(try clear p6);(try clear c8);(try clear p2);obtain⟨x6_2,x20_2,rfl,HA,HK2,HO_6,HB⟩:=hrel
      cases gk with
     |zero=>exact absurd HA.out (by simp[Xx.l1])
     |succ k2 =>
       have H:=HA.out;clear HA;(simp only[Xx.l1] at H);(by_cases c9:x20_2<(l0.length:Int));(·rw[if_pos c9] at H;have c9b0:decide (x20_2<(l0.length:Int))=true:=decide_eq_true c9;clear c9;(by_cases c10:0≤x20_2);(·rw[if_pos c10] at H;have c10b0:=eq_true c10;have c10b1:decide (0≤x20_2)=true:=decide_eq_true c10;clear c10;obtain⟨ji11,hji11⟩:∃ j_:Int,(shr .i64 x14_1 x20_2)=j_:=⟨_,rfl⟩;(replace H:(if x6_2.length<17592186044416 then(Xx.l1 k2 l0 x4_1 x14_1 (x6_2++[wrap64 ((wrap64 (2 * (Go.bits .and .i64 (ji11) 1))) - 1)]) ji4 x14_1 (l0.length:Int) (wrap64 (x20_2+1))) else(none))=some (r1,r2):=by first|(rw[hji11] at H;exact H)|(simp only[hji11] at H ⊢;exact H));have hji11_:(x14_1 / 2 ^ min x20_2.toNat 64)=ji11:=hji11;have hji11z:x20_2≤64→(x14_1 / 2 ^ x20_2.toNat)=ji11:=shr_small hji11;(by_cases c12:x6_2.length<17592186044416);(·rw[if_pos c12] at H;have LMc12:=Jq.mk c12;clear c12;obtain⟨y507,hy507⟩:∃ y_:List Int,y_=(x6_2++[wrap64 ((wrap64 (2 * (Go.bits .and .i64 (ji11) 1))) - 1)]):=⟨_,rfl⟩;(replace H:(Xx.l1 k2 l0 x4_1 x14_1 y507 ji4 x14_1 (l0.length:Int) (wrap64 (x20_2+1)))=some (r1,r2):=r7_ hy507 H);have Ny507:=Jq.mk hy507;clear hy507;have H':=Jq.mk H;clear H;(go_wp2_with (first|((with_reducible refine gate_builtin (b:=.append) (xs:=#[.tmp 23,.tmp 30]) rfl ?_);at_builtin;refine Kd.R_append (Kd.int .i64) (w0:=w) w.heap.size rfl (.tmp 23) (.tmp 30) 26 3 (.int .i64 0) 8 rfl Try.underlying26 info3 rfl (by decide) (by omega) u6 x6_2 (wrap64 ((wrap64 (2 * (Go.bits .and .i64 (ji11) 1))) - 1)) [.int .i64 (wrap64 ((wrap64 (2 * (Go.bits .and .i64 (ji11) 1))) - 1))] (fun _=>True) (fun _=>False) rfl rfl ?aP (fun _ hk=>hk.elim) ?aF ?aO ?aB ?aS ?aL ?_;(case aP=>exact rfl);(case aB=>exact d0_);(case aF=>exact d39_);(case aO=>exact(r0_ HO_6.out));(case aS=>exact d93_);(case aL=>have:=LMc12.out;omega);intro v508 w13 ho hb hg hat;rw[←Ny507.out] at ho;replace HB:=Jq.mk (hb);have HO509:=Jq.mk (ho);clear HO_6;clear ho hb hg hat)));(go_roundg k2);(case measure=>exact d24_);(case rel=>exact⟨(y507),(wrap64 (x20_2+1)),d7_,H',⟨d24_⟩,⟨r0_ HO509.out⟩,⟨d0_⟩⟩));(·exact r5_ c12 H));(·exact r5_ c10 H));(·rw[if_neg c9] at H;have c9b0:decide (x20_2<(l0.length:Int))=false:=decide_eq_false c9;clear c9;replace H:=Option.bind_eq_some_iff.mp H;obtain⟨t510,A140,H⟩:=H;replace H:(if t510=true then(Xx.l0 k2 l0 (wrap64 (x4_1+1)) ji4 (wrap64 (x14_1+1))) else(Xx.l0 k2 l0 x4_1 ji4 (wrap64 (x14_1+1))))=some (r1,r2):=H;have A14:=Jq.mk A140;clear A140;(by_cases c15:t510=true);(·subst c15;(have H1:(Xx.l0 k2 l0 (wrap64 (x4_1+1)) ji4 (wrap64 (x14_1+1)))=some (r1,r2):=by rw[if_pos rfl] at H;exact H);clear H;have H:=H1;clear H1;have H':=Jq.mk H;clear H;obtain⟨Ao16,co16,eo16⟩:=Kd.R_slice HO_6.out;subst eo16;(go_wp2_with (first|((with_reducible refine Gj (f:=99) rfl ?_);refine Kx (some 36) rfl rfl Try.func99 (by kernel_rfl) rfl #[.agg #[.slice A0 l0.length c0,.slice Ao16 x6_2.length co16]] rfl d2_ ?_;(with_reducible refine(Jk.calls k2 _ _ l0 _ _ x6_2 true _ ?side1 ?side2 ?side3 ?side4 A14.out).mono ?_);(case side1=>exact d49_);(case side2=>exact HC0.out);(case side3=>exact r4_ (Kd.R_reads' HO_6.out).2.2);(case side4=>exact(Kd.R_reads' HO_6.out).2.1);rintro e w17 ⟨rfl,hb⟩;refine⟨_,rfl,?_⟩;replace HO_6:=Jq.mk (Kd.R_below (r0_ HO_6.out) hb);replace HB:=Jq.mk (Yj d0_ hb);(try clear hb);(try clear hb2);(try clear hk);(try clear hi))));(go_roundg k2);(case measure=>exact d24_);(case rel=>exact⟨(wrap64 (x4_1+1)),(wrap64 (x14_1+1)),d7_,d7_,H',⟨d24_⟩,⟨d0_⟩⟩));(·replace c15:=Bool.eq_false_iff.mpr c15;subst c15;(have H1:(Xx.l0 k2 l0 x4_1 ji4 (wrap64 (x14_1+1)))=some (r1,r2):=by rw[if_neg (show ¬ (false=true) by decide)] at H;exact H);clear H;have H:=H1;clear H1;have H':=Jq.mk H;clear H;obtain⟨Ao18,co18,eo18⟩:=Kd.R_slice HO_6.out;subst eo18;(go_wp2_with (first|((with_reducible refine Gj (f:=99) rfl ?_);refine Kx (some 36) rfl rfl Try.func99 (by kernel_rfl) rfl #[.agg #[.slice A0 l0.length c0,.slice Ao18 x6_2.length co18]] rfl d2_ ?_;(with_reducible refine(Jk.calls k2 _ _ l0 _ _ x6_2 false _ ?side1 ?side2 ?side3 ?side4 A14.out).mono ?_);(case side1=>exact d49_);(case side2=>exact HC0.out);(case side3=>exact r4_ (Kd.R_reads' HO_6.out).2.2);(case side4=>exact(Kd.R_reads' HO_6.out).2.1);rintro e w19 ⟨rfl,hb⟩;refine⟨_,rfl,?_⟩;replace HO_6:=Jq.mk (Kd.R_below (r0_ HO_6.out) hb);replace HB:=Jq.mk (Yj d0_ hb);(try clear hb);(try clear hb2);(try clear hk);(try clear hi))));(go_roundg k2);(case measure=>exact d24_);(case rel=>exact⟨(x4_1),(wrap64 (x14_1+1)),d7_,d7_,H',⟨d24_⟩,⟨d0_⟩⟩)))
    ·rw[if_neg c6] at H;have c6b0:decide (x14_1<ji4)=false:=decide_eq_false c6;clear c6;(simp only[Option.some.injEq,Prod.mk.injEq] at H);obtain⟨rfl,rfl⟩:=H;(go_wp2);(go_ret2);exact⟨d103_,d0_⟩
 ·replace c3:=Bool.eq_false_iff.mpr c3;subst c3;(have H1:(some (0,false))=some (r1,r2):=by rw[if_neg (show ¬ (false=true) by decide)] at H;exact H);clear H;have H:=H1;clear H1;(simp only[Option.some.injEq,Prod.mk.injEq] at H);obtain⟨rfl,rfl⟩:=H;(go_enter Try.func39,Try.ntmps39);(go_wp2_with (first|((with_reducible refine Gj (f:=88) rfl ?_);refine Kx (some 9) rfl rfl Try.func88 (by kernel_rfl) rfl #[.slice A0 l0.length c0] rfl d2_ ?_;(with_reducible refine(Vk.calls k _ _ l0 false _ ?side1 ?side2 A2.out).mono ?_);(case side1=>exact d105_);(case side2=>exact HC0.out);rintro e w20 ⟨rfl,hb⟩;refine⟨_,rfl,?_⟩;replace HB:=Jq.mk (Yj d0_ hb);(try clear hb);(try clear hb2);(try clear hk);(try clear hi))));(go_ret2);exact⟨d9_,d0_⟩
def laws_rBig.f (l0:List Int):Option (Bool):=some (decide ((l0.length:Int) > 65536))
set_option maxHeartbeats 8000000 in
set_option maxRecDepth 100000 in
theorem laws_rBig.calls (A0:Option Addr) (c0:Nat) (l0:List Int) (r:Bool) (w:World) (hr0:Kd.C (Kd.int .u8) w A0 l0.length l0) (hc0:l0.length≤c0) (h:laws_rBig.f l0=some r) :
  Calls Try.prog 46 #[.slice A0 l0.length c0] w fun e w'=>e=.returned (.bool r)∧Drawn0 w w':=by
 have HR0:=Jq.mk hr0;have HC0:=Jq.mk hc0;clear hr0 hc0;have H:(some (decide ((l0.length:Int) > 65536)))=some r:=h;clear h;obtain rfl:=Option.some.inj H;(go_enter Try.func46,Try.ntmps46);(go_wp2);(go_ret);exact⟨d7_,d12_⟩
end Go.Proofs.Ytdjclffkidoohaa.QFnPartings
