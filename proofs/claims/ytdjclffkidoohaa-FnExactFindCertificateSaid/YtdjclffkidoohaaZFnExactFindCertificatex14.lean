/- Some of the functions that the law reaches, and what they tell; no condition. -/
import Derived.Test.YtdjclffkidoohaaVFnExactFindCertificate
import Derived.Test.YtdjclffkidoohaaZFnExactFindCertificateH
import Derived.Test.YtdjclffkidoohaaZFnExactFindCertificatex0
import Derived.Test.YtdjclffkidoohaaZFnExactFindCertificatex11
import Derived.Test.YtdjclffkidoohaaZFnExactFindCertificatex13
namespace Go.Proofs.Ytdjclffkidoohaa.QFnExactFindCertificate
open Go.RowKit Go.Proofs.YtdjclffkidoohaaW.PrintWords Go.Proofs.YtdjclffkidoohaaW.PrintLast Go.Proofs.YtdjclffkidoohaaW.PrintMore
attribute [local go_sem] max2_int min2_int max_two min_two max_three min_three max_four min_four   -- for this text's walks alone
set_option linter.unusedVariables false
set_option linter.unusedSimpArgs false
open Go.Proofs.Ytdjclffkidoohaa.Hof
open Go.Proofs.Ytdjclffkidoohaa.Clos
mutual
def impl_choices.g {σ : Type} (V : Nat → σ → List Int → Option (Bool × σ)) (n kk : Int) : Nat → σ → List Int → Int → Option (Bool × σ)
|0,_,_,_=>none
|k + 1,s,set,i=>if (set.length : Int) = kk then V k s set else impl_choices.l V n kk k s set i
def impl_choices.l {σ : Type} (V : Nat → σ → List Int → Option (Bool × σ)) (n kk : Int) : Nat → σ → List Int → Int → Option (Bool × σ)
|0,_,_,_=>none
|k + 1,s,set,i=>if i < n then (if set.length < 17592186044416 then ((impl_choices.g V n kk k s (set ++ [i]) (wrap64 (i + 1))).bind fun t=>if t.1 = true then some (true,t.2) else impl_choices.l V n kk k t.2 set (wrap64 (i + 1))) else none) else some (false,s)
end
def impl_choices.f {σ : Type} (V : Nat → σ → List Int → Option (Bool × σ)) (k : Nat) (s : σ) (n kk : Int) : Option (Bool × σ):=impl_choices.g V n kk k s [] 0
def impl_choices.J (G : FuncId) (C : Array Value) (n kk : Int) (bk bv bn bg : Nat) (w : World) : Prop :=
 w.heap[bk]? = some (.cells #[.int .i64 kk] 3 (0,0)) ∧ w.heap[bv]? = some (.cells #[.func (.func G) #[] C] 93 (0,0)) ∧ w.heap[bn]? = some (.cells #[.int .i64 n] 3 (0,0)) ∧ w.heap[bg]? = some (.cells #[.func (.func 132) #[] #[.pointer (some ⟨bk,0,none⟩),.pointer (some ⟨bv,0,none⟩),.pointer (some ⟨bn,0,none⟩),.pointer (some ⟨bg,0,none⟩)]] 66 (0,0))
theorem hI_drew {σ : Type} {I : σ → World → Prop} (hI : ∀ s w w',I s w → Below w.heap.size w w' → I s w') {s : σ} {w : World} (h : I s w) : I s w.drew:=hI s w w.drew h (below_drew1 (Below.refl _ _))
theorem impl_choices.J_kept {G : FuncId} {C : Array Value} {n kk : Int} {bk bv bn bg : Nat} {w w' : World} {S : Nat → Prop} (h : impl_choices.J G C n kk bk bv bn bg w) (hk : Kept w w' S) (hS : ¬ S bk ∧ ¬ S bv ∧ ¬ S bn ∧ ¬ S bg) : impl_choices.J G C n kk bk bv bn bg w' :=
 ⟨blk_kept h.1 hk hS.1,blk_kept h.2.1 hk hS.2.1,blk_kept h.2.2.1 hk hS.2.2.1,blk_kept h.2.2.2 hk hS.2.2.2⟩
set_option maxHeartbeats 8000000 in
set_option maxRecDepth 100000 in
theorem impl_choices.gcalls {σ : Type} (V : Nat → σ → List Int → Option (Bool × σ)) (G : FuncId) (C : Array Value) (hent : Ent Try.prog G) (I : σ → World → Prop) (S : Nat → Prop) (hI : ∀ s w w',I s w → Below w.heap.size w w' → I s w')
  (hat : ∀ k s set b s' A c w,I s w → (∀ W',Kept w W' S → (Kd.int .i64).C W' A set.length set) → set.length ≤ c → V k s set = some (b,s') → Calls Try.prog G (#[.slice A set.length c] ++ C) w fun e w'=>e = .returned (.bool b) ∧ I s' w' ∧ Kept w w' S)
  (n kk : Int) (bk bv bn bg base : Nat) (hS : ¬ S bk ∧ ¬ S bv ∧ ¬ S bn ∧ ¬ S bg) (hSb : ∀ k,S k → k < base) (k : Nat) :
  ∀ (s : σ) (set : List Int) (i : Int) (b : Bool) (s' : σ) (A : Option Addr) (c : Nat) (w : World) (_ : base ≤ w.heap.size) (_ : I s w) (_ : impl_choices.J G C n kk bk bv bn bg w) (_ : ∀ W',Kept w W' S → (Kd.int .i64).C W' A set.length set) (_ : set.length ≤ c) (_ : impl_choices.g V n kk k s set i = some (b,s')),
  Calls Try.prog 132 #[.slice A set.length c,.int .i64 i,.pointer (some ⟨bk,0,none⟩),.pointer (some ⟨bv,0,none⟩),.pointer (some ⟨bn,0,none⟩),.pointer (some ⟨bg,0,none⟩)] w fun e w'=>e = .returned (.bool b) ∧ I s' w' ∧ Kept w w' S:=by
 (have HI:=Aside0.mk hI);(have HAT:=Aside0.mk hat);(have HE:=Aside0.mk hent);(have HS:=Aside0.mk hS);(have HSB:=Aside0.mk hSb);(clear hI hat hent hS hSb)
 induction k using Nat.strongRecOn with
|_ k ih =>
 intro s set i b s' A c w hbase hi hj hset hc h
 have IH:=Aside0.mk ih
 clear ih
 cases k with
|zero=>exact absurd h (by simp [impl_choices.g])
|succ k =>
 simp only [impl_choices.g] at h
 have HW:=Aside0.mk hi
 have HJ:=Aside0.mk hj
 have HC:=Aside0.mk hset
 have HL:=Aside0.mk hc
 have HBA:=Aside0.mk hbase
 have hck : w.cell? ⟨bk,0,none⟩ = some (.int .i64 kk):=(blk_cell hj.1 0).trans rfl
 clear hi hset hc hbase
 by_cases c1 : (set.length : Int) = kk
 ·rw [if_pos c1] at h
  have c1b : ((set.length : Int) == kk) = true:=beq_iff_eq.mpr c1
  have hcv : w.cell? ⟨bv,0,none⟩ = some (.func (.func G) #[] C):=(blk_cell hj.2.1 0).trans rfl
  have A1:=Aside0.mk (HAT.out k s set b s' A c w HW.out HC.out HL.out h)
  clear h hj c1
  go_enter Try.func132,Try.ntmps132
  go_wp2_with (first|(refine goesC_ (some 16) rfl rfl HE.out #[.slice A set.length c] rfl rfl (by (try simp only [List.map_toArray,List.map_cons,List.map_nil]);first|done|rfl) ?_;(with_reducible refine A1.out.mono ?_);rintro e w9 ⟨rfl,hi9,hk9⟩;refine ⟨_,rfl,?_⟩;have n0_:=Aside0.mk hi9;have n1_:=Aside0.mk hk9;clear hi9 hk9))
  go_ret
  exact ⟨rfl,n0_.out,n1_.out⟩
 ·rw [if_neg c1] at h
  have c1b : ((set.length : Int) == kk) = false:=beq_eq_false_iff_ne.mpr c1
  have H':=Aside0.mk h
  have HK0:=Aside0.mk (Kept.refl w S)
  clear h hj c1
  go_enter Try.func132,Try.ntmps132
  go_wp2
  go_loopg [9] k (fun kq v9 w'=>∃ (s1 : σ) (i1 : Int),v9 = .int .i64 i1 ∧ Aside0 (impl_choices.l V n kk kq s1 set i1 = some (b,s')) ∧ Aside0 (kq ≤ k) ∧ Aside0 (I s1 w') ∧ Aside0 (impl_choices.J G C n kk bk bv bn bg w') ∧ Aside0 (Kept w w' S))
  case atStart=>exact ⟨s,i,rfl,H',⟨Nat.le_refl _⟩,HW,HJ,HK0⟩
  case round =>
   clear H' HW HJ HK0 hck
   obtain ⟨s1,i1,rfl,HA,HK1,HW,HJ,HK⟩:=hrel
   cases gk with
  |zero=>exact absurd HA.out (by simp [impl_choices.l])
  |succ k1 =>
    have H:=HA.out
    clear HA
    simp only [impl_choices.l] at H
    have hcn : wr.cell? ⟨bn,0,none⟩ = some (.int .i64 n):=(blk_cell HJ.out.2.2.1 0).trans rfl
    by_cases c5 : i1 < n
    ·rw [if_pos c5] at H
     have c5b0 : decide (i1 < n) = true:=decide_eq_true c5
     clear c5
     by_cases c6 : set.length < 17592186044416
     ·rw [if_pos c6] at H
      have L6:=Aside0.mk c6
      clear c6
      obtain ⟨⟨b1,s2⟩,A70,H⟩:=Option.bind_eq_some_iff.mp H
      have A7:=Aside0.mk A70
      have H':=Aside0.mk H
      clear H A70
      go_wp2
      refine start_ (n:=13) (S:=fun w'=>w'.cell? ⟨bg,0,none⟩ = some (.func (.func 132) #[] #[.pointer (some ⟨bk,0,none⟩),.pointer (some ⟨bv,0,none⟩),.pointer (some ⟨bn,0,none⟩),.pointer (some ⟨bg,0,none⟩)])) (ds:=[12]) #[F_,F_,F_,F_,F_,F_,F_,F_,F_,F_,F_,F_,F_] (by kernel_rfl) rfl rfl ((blk_cell HJ.out.2.2.2 0).trans rfl) (fun hHeld=>?_)
      have n1_:=Aside0.mk (hI_drew HI.out HW.out)
      have n2_ : Aside0 (impl_choices.J G C n kk bk bv bn bg wr.drew):=⟨HJ.out⟩
      have n3_:=Aside0.mk (Kept.drew HK.out)
      clear HW HJ HK hcn
      generalize wr.drew = wd at n1_ n2_ n3_ hHeld ⊢
      refine take_ (i:=0) (N:=some 23) (v:=?_) (a':=?_) #[T_,F_,F_,F_,F_,F_,F_,F_,F_,F_,F_,F_,F_] rfl rfl (by kernel_rfl) (fun _ _ _ h=>h) (Or.inl ⟨by rfl,?_⟩) hHeld ?_ ?_
      rotate_left
      ·intro w' s0
       go_simp
       with_reducible rfl
      rotate_left
      ·simp only [Z_]
       rfl
      refine pure_ (i:=1) (N:=some 24) (v:=?_) (a':=?_) #[T_,T_,F_,F_,F_,F_,F_,F_,F_,F_,F_,F_,F_] rfl rfl (by kernel_rfl) (fun _ _ _ h=>h) (Or.inl ⟨by rfl,?_⟩) ?_ ?_
      rotate_left
      ·intro w'
       go_simp
       with_reducible rfl
      rotate_left
      ·simp only [Z_]
       rfl
      refine pure_ (i:=2) (N:=some 25) (v:=?_) (a':=?_) #[T_,T_,T_,F_,F_,F_,F_,F_,F_,F_,F_,F_,F_] rfl rfl (by kernel_rfl) (fun _ _ _ h=>h) (Or.inl ⟨by rfl,?_⟩) ?_ ?_
      rotate_left
      ·intro w'
       go_simp
       with_reducible rfl
      rotate_left
      ·simp only [Z_]
       rfl
      refine pure_ (i:=3) (N:=some 26) (v:=?_) (a':=?_) #[T_,T_,T_,T_,F_,F_,F_,F_,F_,F_,F_,F_,F_] rfl rfl (by kernel_rfl) (fun _ _ _ h=>h) (Or.inl ⟨by rfl,?_⟩) ?_ ?_
      rotate_left
      ·intro w'
       go_simp
       with_reducible rfl
      rotate_left
      ·simp only [Z_]
       rfl
      refine pure_ (i:=4) (N:=some 27) (v:=?_) (a':=?_) #[T_,T_,T_,T_,T_,F_,F_,F_,F_,F_,F_,F_,F_] rfl rfl (by kernel_rfl) (fun _ _ _ h=>h) (Or.inl ⟨by rfl,?_⟩) ?_ ?_
      rotate_left
      ·intro w'
       go_simp
       with_reducible rfl
      rotate_left
      ·simp only [Z_]
       rfl
      refine pure_ (i:=5) (N:=some 28) (v:=?_) (a':=?_) #[T_,T_,T_,T_,T_,T_,F_,F_,F_,F_,F_,F_,F_] rfl rfl (by kernel_rfl) (fun _ _ _ h=>h) (Or.inl ⟨by rfl,?_⟩) ?_ ?_
      rotate_left
      ·intro w'
       go_simp
       with_reducible rfl
      rotate_left
      ·simp only [Z_]
       rfl
      refine pure_ (i:=6) (N:=some 29) (v:=?_) (a':=?_) #[T_,T_,T_,T_,T_,T_,T_,F_,F_,F_,F_,F_,F_] rfl rfl (by kernel_rfl) (fun _ _ _ h=>h) (Or.inl ⟨by rfl,?_⟩) ?_ ?_
      rotate_left
      ·intro w'
       have hfs:=full_slice (P:=Try.prog) (w:=w') 26 3 Try.underlying26 (by kernel_rfl) A set.length c HL.out
       go_simp
       with_reducible rfl
      rotate_left
      ·simp only [Z_]
       rfl
      refine pure_ (i:=7) (N:=some 30) (v:=?_) (a':=?_) #[T_,T_,T_,T_,T_,T_,T_,T_,F_,F_,F_,F_,F_] rfl rfl (by kernel_rfl) (fun _ _ _ h=>h) (Or.inl ⟨by rfl,?_⟩) ?_ ?_
      rotate_left
      ·intro w'
       go_simp
       with_reducible rfl
      rotate_left
      ·simp only [Z_]
       rfl
      refine pure_ (i:=10) (N:=some 33) (v:=?_) (a':=?_) #[T_,T_,T_,T_,T_,T_,T_,T_,F_,F_,T_,F_,F_] rfl rfl (by kernel_rfl) (fun _ _ _ h=>h) (Or.inl ⟨by rfl,?_⟩) ?_ ?_
      rotate_left
      ·intro w'
       go_simp
       with_reducible rfl
      rotate_left
      ·simp only [Z_]
       rfl
      refine pure_ (i:=11) (N:=some 34) (v:=?_) (a':=?_) #[T_,T_,T_,T_,T_,T_,T_,T_,F_,F_,T_,T_,F_] rfl rfl (by kernel_rfl) (fun _ _ _ h=>h) (Or.inl ⟨by rfl,?_⟩) ?_ ?_
      rotate_left
      ·intro w'
       go_simp
       with_reducible rfl
      rotate_left
      ·simp only [Z_]
       rfl
      refine one_ (i:=8) (N:=some 31) #[T_,T_,T_,T_,T_,T_,T_,T_,T_,F_,T_,T_,F_] rfl rfl (by kernel_rfl) (by decide) (fun K hK=>?_)
      refine value_ (w1:=?_) (v:=?_) (by rfl) rfl ?_ ?_
      rotate_left 2
      ·go_simp
       constructor
       ·rfl
       ·rfl
      refine hK.out _ _ ((blk_cell (blk_alloc n2_.out.2.2.2 _) 0).trans rfl) (fun hHeld=>?_)
      clear hK K
      refine norm_ (a':=?_) ?_ ?_
      rotate_left
      ·show Act.put _ (some 31) _ = _
       simp only [Z_]
       rfl
      refine one_ (i:=9) (N:=some 32) #[T_,T_,T_,T_,T_,T_,T_,T_,T_,T_,T_,T_,F_] rfl rfl (by kernel_rfl) (by decide) (fun K hK=>?_)
      refine grow_step (by rfl) (.tmp 29) (.tmp 31) 26 3 rfl Try.underlying26 info3 A set i1 rfl rfl (HC.out wd n3_.out) L6.out ?_
      intro v1 w1 hr hb
      have m1_:=Aside0.mk (HI.out _ _ _ n1_.out hb)
      have m2_:=Aside0.mk (impl_choices.J_kept n2_.out (Kept.of_below hb S) HS.out)
      have m3_:=Aside0.mk (n3_.out.below hb)
      have m4_:=Aside0.mk hr
      have hle:=Aside0.mk (Nat.le_trans HBA.out n3_.out.1)
      clear n1_ n2_ n3_ hHeld
      obtain ⟨Ao,co,rfl⟩:=Kd.R_slice hr
      clear hr
      refine hK.out _ _ ((blk_cell m2_.out.2.2.2 0).trans rfl) (fun hHeld=>?_)
      clear hK K
      refine norm_ (a':=?_) ?_ ?_
      rotate_left
      ·show Act.put _ (some 32) _ = _
       simp only [Z_]
       rfl
      refine last_ (i:=12) (N:=some 35) #[T_,T_,T_,T_,T_,T_,T_,T_,T_,T_,T_,T_,T_] rfl rfl (by kernel_rfl) (by decide) (fun K hK=>?_)
      have hcap:=Aside0.mk (Kd.R_reads' m4_.out).2.1
      refine goesV_ (ent_of Try.func132 (by kernel_rfl) rfl) #[.slice Ao (set ++ [i1]).length co,.int .i64 (wrap64 (i1 + 1))] (by rfl) rfl rfl rfl (by (try simp only [List.map_toArray,List.map_cons,List.map_nil]);first|done|rfl) ?_
      refine (IH.out k1 (by have:=HK1.out;omega) s1 (set ++ [i1]) (wrap64 (i1 + 1)) b1 s2 Ao co w1 (Nat.le_trans hle.out hb.size) m1_.out m2_.out (Kd.C_kept_own (Kd.R_mono (ok':=fun k_=>wd.heap.size ≤ k_) (Kd.R_bound m4_.out) (fun k_ hk=>hk.2.1)) (fun k_ hk hs=>by have:=HSB.out k_ hs;have:=hle.out;omega)) hcap.out A7.out).mono ?_
      rintro e w9 ⟨rfl,hi9,hk9⟩
      refine ⟨_,rfl,?_⟩
      refine hK.out _ _ ?_
      clear hK K
      refine norm_ (a':=?_) ?_ ?_
      rotate_left
      ·show Act.put _ (some 35) _ = _
       simp only [Z_]
       rfl
      refine done_ (by kernel_rfl) ?_
      have p1_:=Aside0.mk hi9
      have p2_:=Aside0.mk (impl_choices.J_kept m2_.out hk9 HS.out)
      have p3_:=Aside0.mk (m3_.out.then_ hk9 (fun _ h=>.inl h))
      clear hi9 hk9 m1_ m2_ m3_ m4_ hHeld hb
      cases b1 with
     |true =>
       have H:=H'.out
       simp only [if_true,Option.some.injEq,Prod.mk.injEq] at H
       obtain ⟨rfl,rfl⟩:=H
       go_wp2
       go_ret
       exact ⟨rfl,p1_.out,p3_.out⟩
     |false =>
       have H:=H'.out
       simp only [Bool.false_eq_true,if_false] at H
       have H2:=Aside0.mk H
       clear H
       go_wp2
       go_roundg k1
       case measure=>have:=HK1.out;omega
       case rel=>exact ⟨s2,wrap64 (i1 + 1),rfl,H2,⟨by have:=HK1.out;omega⟩,p1_,p2_,p3_⟩
     ·rw [if_neg c6] at H
      exact absurd H (by simp)
    ·rw [if_neg c5] at H
     have c5b0 : decide (i1 < n) = false:=decide_eq_false c5
     simp only [Option.some.injEq,Prod.mk.injEq] at H
     obtain ⟨rfl,rfl⟩:=H
     clear c5
     go_wp2
     go_ret
     exact ⟨rfl,HW.out,HK.out⟩
set_option maxHeartbeats 8000000 in
set_option maxRecDepth 100000 in
theorem impl_choices.calls {σ : Type} (V : Nat → σ → List Int → Option (Bool × σ)) (G : FuncId) (C : Array Value) (hent : Ent Try.prog G) (I : σ → World → Prop) (S : Nat → Prop) (hI : ∀ s w w',I s w → Below w.heap.size w w' → I s w')
  (hat : ∀ k s set b s' A c w,I s w → (∀ W',Kept w W' S → (Kd.int .i64).C W' A set.length set) → set.length ≤ c → V k s set = some (b,s') → Calls Try.prog G (#[.slice A set.length c] ++ C) w fun e w'=>e = .returned (.bool b) ∧ I s' w' ∧ Kept w w' S)
  (k : Nat) (s : σ) (n kk : Int) (b : Bool) (s' : σ) (w : World) (hi : I s w) (hSb : ∀ k,S k → k < w.heap.size) (h : impl_choices.f V k s n kk = some (b,s')) :
  Calls Try.prog 89 #[.int .i64 n,.int .i64 kk,.func (.func G) #[] C] w fun e w'=>e = .returned (.bool b) ∧ I s' w' ∧ Kept w w' S:=by
 (have HB:=Aside0.mk (Below.refl w.heap.size w));(have HAT:=Aside0.mk hat);(have HI:=Aside0.mk hI);(have HE:=Aside0.mk hent);(have HSB:=Aside0.mk hSb);(have HW:=Aside0.mk hi);(have H':=Aside0.mk h);(have hmf : ∀ (fn : Fn) (first cap : Array Value) (w : World),(Instr.makeFunc fn first cap).run Try.prog w = .ok (.func fn first cap) w:=fun _ _ _ _=>rfl);(clear hat hI hent hSb hi h);(go_enter Try.func89,Try.ntmps89)
 go_wp2_with (first
 |((with_reducible refine gate_dst (N:=3) rfl ?_);refine box_event ?hg (N:=3) ?hd (cs:=#[.int .i64 n]) (t:=3) ?hr ?_;(case hd=>rfl);(case hg=>rfl);(case hr=>go_simp;try rfl);intro bn hbn w1 hbx hb;have B1:=Aside0.mk (below_step HB.out hb);have K1:=Aside0.mk hbx;have Z1:=Aside0.mk (show w.heap.size ≤ bn by rw [hbn];exact HB.out.size);clear HB hbx hb hbn)
 |((with_reducible refine gate_dst (N:=4) rfl ?_);refine box_event ?hg (N:=4) ?hd (cs:=#[.int .i64 kk]) (t:=3) ?hr ?_;(case hd=>rfl);(case hg=>rfl);(case hr=>go_simp;try rfl);intro bk hbn w2 hbx hb;have B2:=Aside0.mk (below_step B1.out hb);have K12:=Aside0.mk (blk_below K1.out hb);have K2:=Aside0.mk hbx;have Z2:=Aside0.mk (show w.heap.size ≤ bk by rw [hbn];exact B1.out.size);clear B1 K1 hbx hb hbn)
 |((with_reducible refine gate_dst (N:=5) rfl ?_);refine box_event ?hg (N:=5) ?hd (cs:=#[.func (.func G) #[] C]) (t:=93) ?hr ?_;(case hd=>rfl);(case hg=>rfl);(case hr=>go_simp;try rfl);intro bv hbn w3 hbx hb;have B3:=Aside0.mk (below_step B2.out hb);have K13:=Aside0.mk (blk_below K12.out hb);have K23:=Aside0.mk (blk_below K2.out hb);have K3:=Aside0.mk hbx;have Z3:=Aside0.mk (show w.heap.size ≤ bv by rw [hbn];exact B2.out.size);clear B2 K12 K2 hbx hb hbn)
 |((with_reducible refine gate_dst (N:=7) rfl ?_);refine box_event ?hg (N:=7) ?hd (cs:=#[.nilFunc]) (t:=66) ?hr ?_;(case hd=>rfl);(case hg=>rfl);(case hr=>kernel_rfl);intro bg hbn w4 hbx hb;have B4:=Aside0.mk (below_step B3.out hb);have K14:=Aside0.mk (blk_below K13.out hb);have K24:=Aside0.mk (blk_below K23.out hb);have K34:=Aside0.mk (blk_below K3.out hb);have K4:=Aside0.mk hbx;have Z4:=Aside0.mk (show w.heap.size ≤ bg by rw [hbn];exact B3.out.size);have N4:=Aside0.mk (show bn ≠ bg ∧ bk ≠ bg ∧ bv ≠ bg by (have l1:=blk_lt K13.out;have l2:=blk_lt K23.out;have l3:=blk_lt K3.out;omega));have hc4 : w4.cell? ⟨bg,0,none⟩ = some .nilFunc:=(blk_cell hbx 0).trans rfl;have hf4:=blk_frozen hbx 0;clear B3 K13 K23 K3 hbx hb hbn)
 |fail)
 (have B5:=Aside0.mk (below_set (j:=0) (v:=(.func (.func 132) #[] #[.pointer (some ⟨bk,0,none⟩),.pointer (some ⟨bv,0,none⟩),.pointer (some ⟨bn,0,none⟩),.pointer (some ⟨bg,0,none⟩)])) B4.out Z4.out));(have J5 : Aside0 (impl_choices.J G C n kk bk bv bn bg (w4.setCell ⟨bg,0,none⟩ (.func (.func 132) #[] #[.pointer (some ⟨bk,0,none⟩),.pointer (some ⟨bv,0,none⟩),.pointer (some ⟨bn,0,none⟩),.pointer (some ⟨bg,0,none⟩)]))):=⟨(blk_far K24.out N4.out.2.1 _),(blk_far K34.out N4.out.2.2 _),(blk_far K14.out N4.out.1 _),(blk_put K4.out 0 _ rfl)⟩);(refine (impl_choices.gcalls V G C HE.out I S HI.out HAT.out n kk bk bv bn bg w.heap.size ⟨fun hs=>by have:=HSB.out _ hs;have:=Z2.out;omega,fun hs=>by have:=HSB.out _ hs;have:=Z3.out;omega,fun hs=>by have:=HSB.out _ hs;have:=Z1.out;omega,fun hs=>by have:=HSB.out _ hs;have:=Z4.out;omega⟩ HSB.out k s [] 0 b s' none 0 _ B5.out.size (HI.out s w _ HW.out B5.out) J5.out (fun W' _=>Kd.C_nil _ W') (Nat.le_refl _) H'.out).mono ?_);(rintro e w9 ⟨rfl,hi9,hk9⟩);(have n0_:=Aside0.mk hi9);(have n1_:=Aside0.mk ((Kept.of_below B5.out S).then_ hk9 (fun _ h=>.inl h)));(clear hi9 hk9 B5 J5 K14 K24 K34 K4 hc4 hf4);(go_wp2);(go_ret);(exact ⟨rfl,n0_.out,n1_.out⟩)
def impl_Sample_hard.v0 (l0_0 : List (List Int)) (l0_1 : List Int) (places : List Int) : Nat → List (List Int) → Int → Option (List (List Int))
|0,_,_=>none
|k + 1,acc,i=>if i < (places.length : Int) then (if 0 ≤ i then ((impl_Sample_signed.f k l0_0 l0_1 (rd places i)).bind fun t=>(if acc.length < 5864062014805 then impl_Sample_hard.v0 l0_0 l0_1 places k (acc ++ [t]) (wrap64 (i + 1)) else none)) else none) else some acc
def impl_Sample_hard.v (l0_0 : List (List Int)) (l0_1 : List Int) (k : Nat) (s : List Int × List Int) (places : List Int) : Option (Bool × (List Int × List Int)) :=
 (impl_Sample_hard.v0 l0_0 l0_1 places k [] 0).bind fun vs=>((impl_balance.f k vs).bind fun t=>(if t.2 = true then ((impl_copied.f places).bind fun c=>some (true,(c,t.1))) else some (false,s)))
def impl_Sample_hard.l0 (l0_0 : List (List Int)) (l0_1 : List Int) : Nat → (List Int × List Int) → Int → Option (List Int × List Int × Bool)
|0,_,_=>none
|k + 1,s,kk=>if 0 < (l0_0.length : Int) then (if kk ≤ mn (l0_0.length : Int) (wrap64 (((rd_L1 l0_0 0).length : Int) + 2)) then ((impl_choices.f (impl_Sample_hard.v l0_0 l0_1) k s (l0_0.length : Int) kk).bind fun t=>(if t.1 = true then some (t.2.1,t.2.2,true) else impl_Sample_hard.l0 l0_0 l0_1 k t.2 (wrap64 (kk + 1)))) else some ([],[],false)) else none
def impl_Sample_hard.f (k : Nat) (l0_0 : List (List Int)) (l0_1 : List Int) : Option (List Int × List Int × Bool):=if (l0_0.length : Int) = 0 then some ([],[],false) else impl_Sample_hard.l0 l0_0 l0_1 k ([],[]) 2
def impl_Sample_hard.I (w0 : World) (A0_0 : Option Addr) (c0_0 : Nat) (l0_0 : List (List Int)) (A0_1 : Option Addr) (c0_1 : Nat) (l0_1 : List Int) (bs b1 b2 : Nat) (s : List Int × List Int) (w : World) : Prop :=
 Below w0.heap.size w0 w ∧ w.heap[bs]? = some (.cells #[.slice A0_0 l0_0.length c0_0,.slice A0_1 l0_1.length c0_1] 32 (0,0)) ∧ ∃ v1 v2 : Value,w.heap[b1]? = some (.cells #[v1] 26 (0,0)) ∧ w.heap[b2]? = some (.cells #[v2] 26 (0,0)) ∧ Kd.R (Kd.int .i64) 3 w w0.heap.size (fun k_=>some k_ ≠ v2.ownBlock) v1 s.1 ∧ Kd.R (Kd.int .i64) 3 w w0.heap.size (fun _=>True) v2 s.2
theorem impl_Sample_hard.I_below {w0 : World} {A0_0 : Option Addr} {c0_0 : Nat} {l0_0 : List (List Int)} {A0_1 : Option Addr} {c0_1 : Nat} {l0_1 : List Int} {bs b1 b2 : Nat} {s : List Int × List Int} {w w' : World} (h : impl_Sample_hard.I w0 A0_0 c0_0 l0_0 A0_1 c0_1 l0_1 bs b1 b2 s w) (hb : Below w.heap.size w w') : impl_Sample_hard.I w0 A0_0 c0_0 l0_0 A0_1 c0_1 l0_1 bs b1 b2 s w':=by
 (obtain ⟨h1,h2,v1,v2,h3,h4,h5,h6⟩:=h);(exact ⟨below_step h1 hb,blk_below h2 hb,v1,v2,blk_below h3 hb,blk_below h4 hb,Kd.R_below h5 hb,Kd.R_below h6 hb⟩)
set_option maxHeartbeats 8000000 in
set_option maxRecDepth 100000 in
theorem impl_Sample_hard.vcalls (w0 : World) (A0_0 : Option Addr) (c0_0 : Nat) (l0_0 : List (List Int)) (A0_1 : Option Addr) (c0_1 : Nat) (l0_1 : List Int) (hr0_0 : Kd.C (Kd.slice 3 (Kd.int .i64)) w0 A0_0 l0_0.length l0_0) (hc0_0 : l0_0.length ≤ c0_0) (hr0_1 : Kd.C (Kd.int .i64) w0 A0_1 l0_1.length l0_1) (hc0_1 : l0_1.length ≤ c0_1)
  (bs b1 b2 : Nat) (hne : bs ≠ b1 ∧ bs ≠ b2 ∧ b1 ≠ b2) (hle : w0.heap.size ≤ b1 ∧ w0.heap.size ≤ b2)
  (k : Nat) (s : List Int × List Int) (set : List Int) (b : Bool) (s' : List Int × List Int) (A : Option Addr) (c : Nat) (w : World) (hi : impl_Sample_hard.I w0 A0_0 c0_0 l0_0 A0_1 c0_1 l0_1 bs b1 b2 s w) (hset : ∀ W',Kept w W' (fun k_=>k_ = b1 ∨ k_ = b2) → (Kd.int .i64).C W' A set.length set) (hc : set.length ≤ c) (h : impl_Sample_hard.v l0_0 l0_1 k s set = some (b,s')) :
  Calls Try.prog 139 (#[.slice A set.length c] ++ #[.pointer (some ⟨bs,0,none⟩),.pointer (some ⟨b1,0,none⟩),.pointer (some ⟨b2,0,none⟩)]) w fun e w'=>e = .returned (.bool b) ∧ impl_Sample_hard.I w0 A0_0 c0_0 l0_0 A0_1 c0_1 l0_1 bs b1 b2 s' w' ∧ Kept w w' (fun k_=>k_ = b1 ∨ k_ = b2):=by
 (have hu32:=Try.underlying32);(have HR0:=Aside0.mk hr0_0);(have HC0:=Aside0.mk hc0_0);(have HR1:=Aside0.mk hr0_1);(have HC1:=Aside0.mk hc0_1);(have HNE:=Aside0.mk hne);(have HLE:=Aside0.mk hle);(have HW:=Aside0.mk hi);(have HS:=Aside0.mk hset);(have HL:=Aside0.mk hc);(have HB:=Aside0.mk (Below.refl w.heap.size w));(unfold impl_Sample_hard.v at h);(obtain ⟨vs,A10,H⟩:=Option.bind_eq_some_iff.mp h);(obtain ⟨⟨nums_,ok_⟩,A20,H⟩:=Option.bind_eq_some_iff.mp H);(have A2:=Aside0.mk A20);(have HF:=Aside0.mk H);(clear hr0_0 hc0_0 hr0_1 hc0_1 hne hle hi hset hc h A20 H);(obtain ⟨y0,hy0⟩ : ∃ y_ : List (List Int),y_ = ([] : List (List Int)):=⟨_,rfl⟩);(rw [← hy0] at A10);(have NY:=Aside0.mk hy0);(have H':=Aside0.mk A10);(clear hy0 A10);(go_enter Try.func139,Try.ntmps139);(go_wp2_with (first|((with_reducible refine gate_dst (N:=11) rfl ?_);refine Kd.S_lit (Kd.slice 3 (Kd.int .i64)) _ 26 ?hg (N:=11) ?hd (xs:=([] : List (List Int))) (inner:=[]) (ok:=fun _=>True) (okp:=fun _=>True) ?hr ?hp (fun _ hk=>hk) trivial (Below.refl _ _) (Nat.le_refl _) (by simp) ?_;(case hd=>rfl);(case hg=>rfl);(case hr=>go_simp;try rfl);(case hp=>exact (Reps.none _ _));intro v11 w2 ho3 hb hg_ hnew_;clear hg_ hnew_;rw [← NY.out] at ho3;have n0_:=Aside0.mk (Kd.S_lower ho3 (below_size HB.out));have n1_:=Aside0.mk (below_step HB.out hb);clear HB;have HOv:=n0_;have HB:=n1_;clear n0_ n1_;clear hb ho3)));(go_loopg [6,14] k (fun kq v6 v14 w'=>∃ (acc : List (List Int)) (i : Int),v14 = .int .i64 i ∧ Aside0 (impl_Sample_hard.v0 l0_0 l0_1 set kq acc i = some vs) ∧ Aside0 (kq ≤ k) ∧ Aside0 (Kd.S (Kd.slice 3 (Kd.int .i64)) 26 w' w.heap.size (fun _=>True) v6 acc) ∧ Aside0 (Below w.heap.size w w')));(case atStart=>exact ⟨y0,0,rfl,H',⟨Nat.le_refl _⟩,HOv,HB⟩)
 case round =>
  (clear H' HOv NY HB);(obtain ⟨acc,i,rfl,HA,HK1,HOv,HB⟩:=hrel)
  cases gk with
 |zero=>exact absurd HA.out (by simp [impl_Sample_hard.v0])
 |succ k1 =>
   (have H:=HA.out);(clear HA);(simp only [impl_Sample_hard.v0] at H);(by_cases c1 : i < (set.length : Int))
   ·(rw [if_pos c1] at H);(have c1b : decide (i < (set.length : Int)) = true:=decide_eq_true c1);(by_cases c2 : 0 ≤ i)
    ·(rw [if_pos c2] at H);(obtain ⟨t,A30,H⟩:=Option.bind_eq_some_iff.mp H);(have A3:=Aside0.mk A30);(clear A30);(by_cases c3 : acc.length < 5864062014805)
     ·(rw [if_pos c3] at H);(have L3:=Aside0.mk c3);(clear c3);(obtain ⟨y1,hy1⟩ : ∃ y_ : List (List Int),y_ = acc ++ [t]:=⟨_,rfl⟩);(rw [← hy1] at H);(have NY:=Aside0.mk hy1);(have H':=Aside0.mk H);(clear H hy1);(obtain ⟨ad,ea,hx⟩:=Kd.at_int (HS.out wr (Kept.of_below HB.out _)) i c2 c1);(cases ea);(have p1:=eq_true c2);(have p2:=eq_true c1);(have HI:=Aside0.mk (impl_Sample_hard.I_below HW.out HB.out));(have hz0 : wr.cell? ⟨bs,0,none⟩ = some (.slice A0_0 l0_0.length c0_0):=(blk_cell HI.out.2.1 0).trans rfl);(have hz1 : wr.cell? ⟨bs,1,none⟩ = some (.slice A0_1 l0_1.length c0_1):=(blk_cell HI.out.2.1 1).trans rfl);(clear c1 c2)
      go_wp2_with (first
      |((with_reducible refine gate_callee (f:=140) rfl ?_);refine goesL_ (some 21) rfl rfl Try.func140 (by kernel_rfl) rfl #[.agg #[.slice A0_0 l0_0.length c0_0,.slice A0_1 l0_1.length c0_1],.int .i64 (rd set i)] rfl (by (try simp only [List.map_toArray,List.map_cons,List.map_nil]);first|done|rfl) ?_;(with_reducible refine (impl_Sample_signed.calls _ _ _ l0_0 _ _ l0_1 (rd set i) t _ ?s1 HC0.out ?s2 HC1.out A3.out).mono ?_);(case s1=>exact Kd.C_below HR0.out HI.out.1);(case s2=>exact Kd.C_below HR1.out HI.out.1);rintro e w19 ⟨v19,rfl,ho0,hb⟩;refine ⟨_,rfl,?_⟩;have n0_:=Aside0.mk (Kd.S_elder' HOv.out (Kd.R_base ho0) hb);have n2_:=Aside0.mk (Kd.R_lower ho0 (below_size HB.out));have n3_:=Aside0.mk (below_step HB.out hb);clear HOv HB hb ho0;have HOv:=n0_;have HOt:=n2_;have HB:=n3_;clear n0_ n2_ n3_;obtain ⟨Ao,co,eo⟩:=Kd.R_slice HOt.out;subst eo)
      |((with_reducible refine gate_builtin (b:=.append) (xs:=#[.tmp 18,.tmp 22]) rfl ?_);at_builtin;refine Kd.S_append (Kd.slice 3 (Kd.int .i64)) (w0:=w) w.heap.size rfl (.tmp 18) (.tmp 22) 25 26 (.slice none 0 0) 24 rfl Try.underlying25 info26 rfl (by decide) (by omega) u6 acc t [.slice Ao t.length co] (fun _=>True) (fun k_=>some k_ = (.slice Ao t.length co : Value).ownBlock) rfl rfl ?aP (fun k_ hk_=>((Kd.R_mono (ok':=fun k_=>((fun _=>True)) k_ ∧ some k_ ≠ (u6 : Value).ownBlock) (Kd.R_apart' (HOt.out) (Kd.S_typed HOv.out) (by decide)) (fun k_ hk=>⟨trivial,hk.2⟩))).1 k_ hk_.symm) ?aF ?aO ?aB ?aS ?aL ?_;(case aP=>exact Kd.M_row (Kd.R_mono (Kd.R_tight rfl (Kd.R_mono (ok':=fun k_=>((fun _=>True)) k_ ∧ some k_ ≠ (u6 : Value).ownBlock) (Kd.R_apart' (HOt.out) (Kd.S_typed HOv.out) (by decide)) (fun k_ hk=>⟨trivial,hk.2⟩))) (fun _ h_=>h_)));(case aB=>exact HB.out);(case aF=>exact (fun _ _=>trivial));(case aO=>exact Kd.S_mono HOv.out (fun k_ hk=>⟨trivial,fun e_=>hk.2 e_⟩));(case aS=>exact (below_size HB.out));(case aL=>have:=L3.out;omega);intro v23 w25 ho hb hg hat;rw [← NY.out] at ho;have n0_:=Aside0.mk (hb);have n1_:=Aside0.mk (ho);clear HB HOv HOt;have HB:=n0_;have HOv:=n1_;clear n0_ n1_;clear ho hb hg hat))
      (go_roundg k1);(case measure=>have:=HK1.out;omega);(case rel=>exact ⟨y1,wrap64 (i + 1),rfl,H',⟨by have:=HK1.out;omega⟩,HOv,HB⟩)
     ·(rw [if_neg c3] at H);(exact absurd H (by simp))
    ·(rw [if_neg c2] at H);(exact absurd H (by simp))
   ·(rw [if_neg c1] at H);(have c1b : decide (i < (set.length : Int)) = false:=decide_eq_false c1);(obtain rfl:=Option.some.inj H);(clear H c1);(obtain ⟨Av,cv,ev⟩:=Kd.S_slice HOv.out);(subst ev);(have HI:=Aside0.mk (impl_Sample_hard.I_below HW.out HB.out))
    cases ok_ with
   |false =>
     (have H:=HF.out);(simp only [Bool.false_eq_true,if_false,Option.some.injEq,Prod.mk.injEq] at H);(obtain ⟨rfl,rfl⟩:=H)
     go_wp2_with (first
     |((with_reducible refine gate_callee (f:=141) rfl ?_);refine goesL_ (some 27) rfl rfl Try.func141 (by kernel_rfl) rfl #[.slice Av acc.length cv] rfl (by (try simp only [List.map_toArray,List.map_cons,List.map_nil]);first|done|rfl) ?_;(with_reducible refine (impl_balance.calls _ _ _ acc nums_ false _ ?s1 ?s2 A2.out).mono ?_);(case s1=>exact (Kd.S_reads' HOv.out).2.2);(case s2=>exact (Kd.S_reads' HOv.out).2.1);rintro e w29 ⟨v29,rfl,ho0,hb⟩;refine ⟨_,rfl,?_⟩;have n0_:=Aside0.mk (impl_Sample_hard.I_below HI.out hb);have n3_:=Aside0.mk (below_step HB.out hb);clear HOv HB HI hb ho0;have HI:=n0_;have HB:=n3_;clear n0_ n3_))
     (go_ret);(exact ⟨rfl,HI.out,Kept.of_below HB.out _⟩)
   |true =>
     (have H:=HF.out);(rw [if_pos rfl] at H);(obtain ⟨cp,A40,H⟩:=Option.bind_eq_some_iff.mp H);(have A4:=Aside0.mk A40);(simp only [Option.some.injEq,Prod.mk.injEq] at H);(obtain ⟨rfl,rfl⟩:=H);(clear A40)
     go_wp2_with (first
     |((with_reducible refine gate_callee (f:=141) rfl ?_);refine goesL_ (some 27) rfl rfl Try.func141 (by kernel_rfl) rfl #[.slice Av acc.length cv] rfl (by (try simp only [List.map_toArray,List.map_cons,List.map_nil]);first|done|rfl) ?_;(with_reducible refine (impl_balance.calls _ _ _ acc nums_ true _ ?s1 ?s2 A2.out).mono ?_);(case s1=>exact (Kd.S_reads' HOv.out).2.2);(case s2=>exact (Kd.S_reads' HOv.out).2.1);rintro e w29 ⟨v29,rfl,ho0,hb⟩;refine ⟨_,rfl,?_⟩;have n0_:=Aside0.mk (impl_Sample_hard.I_below HI.out hb);have n3_:=Aside0.mk (below_step HB.out hb);have n4_:=Aside0.mk (Kd.R_lower ho0 (below_size HI.out.1));clear HOv HB HI hb ho0;have HI:=n0_;have HB:=n3_;have HOn:=n4_;clear n0_ n3_ n4_;obtain ⟨An,cn,en⟩:=Kd.R_slice HOn.out;subst en)
     |((with_reducible refine gate_callee (f:=82) rfl ?_);refine goesL_ (some 32) rfl rfl Try.func82 (by kernel_rfl) rfl #[.slice A set.length c] rfl (by (try simp only [List.map_toArray,List.map_cons,List.map_nil]);first|done|rfl) ?_;(with_reducible refine (impl_copied.calls _ _ set cp _ ?s1 HL.out A4.out).mono ?_);(case s1=>exact HS.out _ (Kept.of_below HB.out _));rintro e w39 ⟨v39,rfl,ho0,hb⟩;refine ⟨_,rfl,?_⟩;have n0_:=Aside0.mk (impl_Sample_hard.I_below HI.out hb);have n3_:=Aside0.mk (below_step HB.out hb);have n4_:=Aside0.mk (Kd.R_below HOn.out hb);have n5_:=Aside0.mk (Kd.R_lower (Kd.R_new' ho0 (Kd.R_lt HOn.out)) (below_size HI.out.1));clear HB HI HOn hb ho0;have HI:=n0_;have HB:=n3_;have HOn:=n4_;have HOc:=n5_;clear n0_ n3_ n4_ n5_;obtain ⟨Ac,cc,ec⟩:=Kd.R_slice HOc.out;subst ec;obtain ⟨J1,J2,x1,x2,J3,J4,J5,J6⟩:=HI.out;have hs1 : w39.cell? ⟨b1,0,none⟩ = some x1:=(blk_cell J3 0).trans rfl;have hf1:=blk_frozen J3 0;have hs2 : w39.cell? ⟨b2,0,none⟩ = some x2:=(blk_cell J4 0).trans rfl;have hf2:=blk_frozen J4 0;have hn1:=HNE.out.2.2;have hn2:=Ne.symm HNE.out.2.2;have HJ1:=Aside0.mk J1;have HJ2:=Aside0.mk J2;have HJ3:=Aside0.mk J3;have HJ4:=Aside0.mk J4;clear J1 J2 J3 J4 J5 J6))
     (go_ret);(refine ⟨rfl,⟨below_set (below_set HJ1.out HLE.out.1) HLE.out.2,blk_far (blk_far HJ2.out HNE.out.1 _) HNE.out.2.1 _,_,_,blk_far (blk_put HJ3.out 0 _ rfl) HNE.out.2.2 _,blk_put (blk_far HJ4.out (Ne.symm HNE.out.2.2) _) 0 _ rfl,?_,?_⟩,((Kept.of_below HB.out _).setCell (p:=⟨b1,0,none⟩) (.inl (.inl rfl)) _).setCell (p:=⟨b2,0,none⟩) (.inl (.inr rfl)) _⟩);(·exact Kd.R_mono (Kd.R_set (Kd.R_set HOc.out HJ3.out (by decide) 0 _) (blk_far HJ4.out (Ne.symm HNE.out.2.2) _) (by decide) 0 _) (fun _ hk=>hk.2));(·exact Kd.R_set (Kd.R_set HOn.out HJ3.out (by decide) 0 _) (blk_far HJ4.out (Ne.symm HNE.out.2.2) _) (by decide) 0 _)
set_option maxHeartbeats 8000000 in
set_option maxRecDepth 100000 in
theorem impl_Sample_hard.calls (k : Nat) (A0_0 : Option Addr) (c0_0 : Nat) (l0_0 : List (List Int)) (A0_1 : Option Addr) (c0_1 : Nat) (l0_1 : List Int) (r1 : List Int) (r2 : List Int) (r3 : Bool) (w : World) (hr0_0 : Kd.C (Kd.slice 3 (Kd.int .i64)) w A0_0 l0_0.length l0_0) (hc0_0 : l0_0.length ≤ c0_0) (hr0_1 : Kd.C (Kd.int .i64) w A0_1 l0_1.length l0_1) (hc0_1 : l0_1.length ≤ c0_1) (h : impl_Sample_hard.f k l0_0 l0_1 = some (r1,r2,r3)) :
  Calls Try.prog 101 #[.agg #[.slice A0_0 l0_0.length c0_0,.slice A0_1 l0_1.length c0_1]] w fun e w'=>∃ v0_ v1_ : Value,e = .returned (.tuple #[v0_,v1_,.bool r3]) ∧ Kd.R (Kd.int .i64) 3 w' w.heap.size (fun k_=>some k_ ≠ (v1_ : Value).ownBlock) v0_ r1 ∧ Kd.R (Kd.int .i64) 3 w' w.heap.size (fun _=>True) v1_ r2 ∧ Below w.heap.size w w':=by
 (have hu32:=Try.underlying32);(have hmf : ∀ (fn : Fn) (first cap : Array Value) (w : World),(Instr.makeFunc fn first cap).run Try.prog w = .ok (.func fn first cap) w:=fun _ _ _ _=>rfl);(have HR0:=Aside0.mk hr0_0);(have HC0:=Aside0.mk hc0_0);(have HR1:=Aside0.mk hr0_1);(have HC1:=Aside0.mk hc0_1);(have HB:=Aside0.mk (Below.refl w.heap.size w));(unfold impl_Sample_hard.f at h);(clear hr0_0 hc0_0 hr0_1 hc0_1);(by_cases c1 : (l0_0.length : Int) = 0);(·(rw [if_pos c1] at h);(have c1b : ((l0_0.length : Int) == 0) = true:=beq_iff_eq.mpr c1);(have c1e : l0_0 = []:=List.length_eq_zero_iff.mp (by omega));(simp only [Option.some.injEq,Prod.mk.injEq] at h);(obtain ⟨rfl,rfl,rfl⟩:=h);(clear c1);(go_enter Try.func101,Try.ntmps101);(go_wp2_with (first|((with_reducible refine gate_dst (N:=1) rfl ?_);refine box_event ?hg (N:=1) ?hd (cs:=#[.slice A0_0 l0_0.length c0_0,.slice A0_1 l0_1.length c0_1]) (t:=32) ?hr ?_;(case hd=>rfl);(case hg=>rfl);(case hr=>go_simp;try rfl);intro bs hg w9 hbox hb;have n0_:=Aside0.mk (below_step HB.out hb);have hz0 : w9.cell? ⟨bs,0,none⟩ = some (.slice A0_0 l0_0.length c0_0):=(blk_cell hbox 0).trans rfl;have hz1 : w9.cell? ⟨bs,1,none⟩ = some (.slice A0_1 l0_1.length c0_1):=(blk_cell hbox 1).trans rfl;clear HB hb hbox hg;have HB:=n0_;clear n0_)));(refine bodyPost_ret (v:=.tuple #[.slice none 0 0,.slice none 0 0,.bool false]) (by simp [results,Try.results101,go_sem]) rfl ?_);(exact ⟨_,_,rfl,Kd.R_nil _ _ _ _ _,Kd.R_nil _ _ _ _ _,HB.out⟩))
 ·(rw [if_neg c1] at h);(have c1b : ((l0_0.length : Int) == 0) = false:=beq_eq_false_iff_ne.mpr c1);(have c1n : ¬ (l0_0 = []):=fun h_=>c1 (by rw [h_];rfl));(have H':=Aside0.mk h);(clear h c1);(go_enter Try.func101,Try.ntmps101)
  go_wp2_with (first
  |((with_reducible refine gate_dst (N:=1) rfl ?_);refine box_event ?hg (N:=1) ?hd (cs:=#[.slice A0_0 l0_0.length c0_0,.slice A0_1 l0_1.length c0_1]) (t:=32) ?hr ?_;(case hd=>rfl);(case hg=>rfl);(case hr=>go_simp;try rfl);intro bs hg w9 hbox hb;have B1:=Aside0.mk (below_step HB.out hb);have K1:=Aside0.mk hbox;have hz0 : w9.cell? ⟨bs,0,none⟩ = some (.slice A0_0 l0_0.length c0_0):=(blk_cell hbox 0).trans rfl;have hz1 : w9.cell? ⟨bs,1,none⟩ = some (.slice A0_1 l0_1.length c0_1):=(blk_cell hbox 1).trans rfl;clear HB hb hbox hg)
  |((with_reducible refine gate_dst (N:=6) rfl ?_);refine box_event ?hg (N:=6) ?hd (cs:=#[.slice none 0 0]) (t:=26) ?hr ?_;(case hd=>rfl);(case hg=>rfl);(case hr=>first|(go_simp;done)|(go_simp;rfl)|kernel_rfl);intro b1 hg w10 hbox hb;have B2:=Aside0.mk (below_step B1.out hb);have K12:=Aside0.mk (blk_below K1.out hb);have K2:=Aside0.mk hbox;have Z2:=Aside0.mk (show w.heap.size ≤ b1 by rw [hg];exact B1.out.size);have N2:=Aside0.mk (show bs ≠ b1 by (have:=blk_lt K1.out;omega));clear B1 K1 hz0 hz1 hbox hb hg)
  |((with_reducible refine gate_dst (N:=7) rfl ?_);refine box_event ?hg (N:=7) ?hd (cs:=#[.slice none 0 0]) (t:=26) ?hr ?_;(case hd=>rfl);(case hg=>rfl);(case hr=>first|(go_simp;done)|(go_simp;rfl)|kernel_rfl);intro b2 hg w11 hbox hb;have B3:=Aside0.mk (below_step B2.out hb);have K13:=Aside0.mk (blk_below K12.out hb);have K23:=Aside0.mk (blk_below K2.out hb);have K3:=Aside0.mk hbox;have Z3:=Aside0.mk (show w.heap.size ≤ b2 by rw [hg];exact B2.out.size);have N3:=Aside0.mk (show bs ≠ b2 ∧ b1 ≠ b2 by (have l1:=blk_lt K12.out;have l2:=blk_lt K2.out;omega));have hs1 : w11.cell? ⟨b1,0,none⟩ = some (.slice none 0 0):=(blk_cell K23.out 0).trans rfl;have hf1:=blk_frozen K23.out 0;have hs2 : w11.cell? ⟨b2,0,none⟩ = some (.slice none 0 0):=(blk_cell K3.out 0).trans rfl;have hf2:=blk_frozen K3.out 0;have hn1:=N3.out.2;have hn2:=Ne.symm N3.out.2;clear B2 K12 K2 hbox hb hg))
  (have HNE : Aside0 (bs ≠ b1 ∧ bs ≠ b2 ∧ b1 ≠ b2):=⟨⟨N2.out,N3.out.1,N3.out.2⟩⟩);(have HLE : Aside0 (w.heap.size ≤ b1 ∧ w.heap.size ≤ b2):=⟨⟨Z2.out,Z3.out⟩⟩)
  have HI0 : Aside0 (impl_Sample_hard.I w A0_0 c0_0 l0_0 A0_1 c0_1 l0_1 bs b1 b2 ([],[]) ((w11.setCell ⟨b1,0,none⟩ (.slice none 0 0)).setCell ⟨b2,0,none⟩ (.slice none 0 0))) :=
   ⟨⟨below_set (below_set B3.out Z2.out) Z3.out,blk_far (blk_far K13.out N2.out _) N3.out.1 _,_,_,blk_far (blk_put K23.out 0 _ rfl) N3.out.2 _,blk_put (blk_far K3.out (Ne.symm N3.out.2) _) 0 _ rfl,Kd.R_nil _ _ _ _ _,Kd.R_nil _ _ _ _ _⟩⟩
  (clear hs1 hf1 hs2 hf2 hn1 hn2 N2 N3 Z2 Z3 B3 K13 K23 K3);(go_loopg [8] k (fun kq v8 w'=>∃ (s : List Int × List Int) (kk : Int),v8 = .int .i64 kk ∧ Aside0 (impl_Sample_hard.l0 l0_0 l0_1 kq s kk = some (r1,r2,r3)) ∧ Aside0 (kq ≤ k) ∧ Aside0 (impl_Sample_hard.I w A0_0 c0_0 l0_0 A0_1 c0_1 l0_1 bs b1 b2 s w')));(case atStart=>exact ⟨([],[]),2,rfl,H',⟨Nat.le_refl _⟩,HI0⟩)
  case round =>
   (clear H' HI0);(obtain ⟨s,kk,rfl,HA,HK1,HI⟩:=hrel)
   cases gk with
  |zero=>exact absurd HA.out (by simp [impl_Sample_hard.l0])
  |succ k1 =>
    (have H:=HA.out);(clear HA);(simp only [impl_Sample_hard.l0] at H);(by_cases c2 : 0 < (l0_0.length : Int))
    ·(rw [if_pos c2] at H);(have hz0 : wr.cell? ⟨bs,0,none⟩ = some (.slice A0_0 l0_0.length c0_0):=(blk_cell HI.out.2.1 0).trans rfl);(have hz1 : wr.cell? ⟨bs,1,none⟩ = some (.slice A0_1 l0_1.length c0_1):=(blk_cell HI.out.2.1 1).trans rfl);(have p1 : 0 ≤ (0 : Int):=by omega);(obtain ⟨ad,A1,c1,ea,hx,hl,hi⟩:=at_L1 HR0.out 0 p1 c2);(cases ea);(have qi : (0 < l0_0.length) = True:=eq_true (by omega));(try rw [show ((0 : Int)).toNat = 0 from rfl] at hx);(try rw [Addr.add_zero'] at hx);(replace hx:=(HI.out.1.cell (World.block_lt_of_cell? w _ hx)).trans hx);(have c2b : decide (0 < (l0_0.length : Int)) = true:=decide_eq_true c2);(have p1t:=eq_true p1);(have c2t:=eq_true c2);(clear hl hi p1 c2);(obtain ⟨M,hM⟩ : ∃ M : Int,(if wrap64 (((rd_L1 l0_0 0).length : Int) + 2) < (l0_0.length : Int) then wrap64 (((rd_L1 l0_0 0).length : Int) + 2) else (l0_0.length : Int)) = M:=⟨_,rfl⟩);(rw [show mn (l0_0.length : Int) (wrap64 (((rd_L1 l0_0 0).length : Int) + 2)) = M from hM] at H);(by_cases c3 : kk ≤ M)
     ·(rw [if_pos c3] at H);(have c3b : decide (kk ≤ M) = true:=decide_eq_true c3);(obtain ⟨⟨b,s2⟩,A40,H⟩:=Option.bind_eq_some_iff.mp H);(have A4:=Aside0.mk A40);(have H':=Aside0.mk H);(clear c3 A40 H);(have HM:=Aside0.mk hM);(go_wp2_with fail);(refine (impl_choices.calls (impl_Sample_hard.v l0_0 l0_1) 139 #[.pointer (some ⟨bs,0,none⟩),.pointer (some ⟨b1,0,none⟩),.pointer (some ⟨b2,0,none⟩)] (ent_of Try.func139 (by kernel_rfl) rfl) (impl_Sample_hard.I w (some ad) c0_0 l0_0 A0_1 c0_1 l0_1 bs b1 b2) (fun k_=>k_ = b1 ∨ k_ = b2) (fun s_ wa wb hi_ hb_=>impl_Sample_hard.I_below hi_ hb_) (impl_Sample_hard.vcalls w (some ad) c0_0 l0_0 A0_1 c0_1 l0_1 HR0.out HC0.out HR1.out HC1.out bs b1 b2 HNE.out HLE.out) k1 s (l0_0.length : Int) kk b s2 wr HI.out (fun k_ hk_=>by obtain ⟨_,_,x1,x2,J3,J4,_⟩:=HI.out;rcases hk_ with rfl|rfl;exact blk_lt J3;exact blk_lt J4) A4.out).mono ?_);(rintro e w9 ⟨rfl,hi9,hk9⟩);(have HI9:=Aside0.mk hi9);(clear hi9 hk9 HI hx hz0 hz1)
      cases b with
     |true =>
       (have H:=H'.out);(simp only [if_true,Option.some.injEq,Prod.mk.injEq] at H);(obtain ⟨rfl,rfl,rfl⟩:=H);(obtain ⟨J1,J2,x1,x2,J3,J4,J5,J6⟩:=HI9.out);(have hs1 : w9.cell? ⟨b1,0,none⟩ = some x1:=(blk_cell J3 0).trans rfl);(have hs2 : w9.cell? ⟨b2,0,none⟩ = some x2:=(blk_cell J4 0).trans rfl);(have Q1:=Aside0.mk J1);(have Q5:=Aside0.mk J5);(have Q6:=Aside0.mk J6);(clear J1 J2 J3 J4 J5 J6 HI9);(go_wp2);(go_quiet (fail));(go_wp2);(refine bodyPost_ret (v:=.tuple #[x1,x2,.bool true]) (by simp [results,Try.results101,go_sem]) rfl ?_);(exact ⟨_,_,rfl,by (with_reducible repeat (first|apply Kd.R_alloc|apply Kd.R_drewN|apply Kd.R_drew));exact Q5.out,by (with_reducible repeat (first|apply Kd.R_alloc|apply Kd.R_drewN|apply Kd.R_drew));exact Q6.out,by repeat (first|(with_reducible first|exact Q1.out|apply below_alloc|apply pw_below_drewN|apply below_drew1)|exact Q1.out)⟩)
     |false =>
       (have H:=H'.out);(simp only [Bool.false_eq_true,if_false] at H);(have H2:=Aside0.mk H);(clear H H');(go_wp2);(go_roundg k1);(case measure=>have:=HK1.out;omega);(case rel=>exact ⟨s2,wrap64 (kk + 1),rfl,H2,⟨by have:=HK1.out;omega⟩,HI9⟩)
     ·(rw [if_neg c3] at H);(have c3b : decide (kk ≤ M) = false:=decide_eq_false c3);(simp only [Option.some.injEq,Prod.mk.injEq] at H);(obtain ⟨rfl,rfl,rfl⟩:=H);(clear c3);(go_wp2);(refine bodyPost_ret (v:=.tuple #[.slice none 0 0,.slice none 0 0,.bool false]) (by simp [results,Try.results101,go_sem]) rfl ?_);(exact ⟨_,_,rfl,Kd.R_nil _ _ _ _ _,Kd.R_nil _ _ _ _ _,HI.out.1⟩)
    ·(rw [if_neg c2] at H);(exact absurd H (by simp))
def impl_FindCertificate.l0 : Nat → List Int → List Int → List Int → Int → Int → Option (List Int × Bool)
|0,_,_,_,_,_=>none
|k + 1,x5,x7,x25,x26,x27=>if x27 < x26 then (if 0 ≤ x27 then (if x27 < (x25.length : Int) then (if x27 < (x5.length : Int) then (if 0 ≤ (rd x25 x27) then (if (rd x25 x27) < (x7.length : Int) then (impl_FindCertificate.l0 k x5 (x7.set ((rd x25 x27) : Int).toNat (rd x5 x27)) x25 x26 (wrap64 (x27 + 1))) else (none)) else (none)) else (none)) else (none)) else (none)) else (some (x7,true))
def impl_FindCertificate.f (k : Nat) (l0_0 : List (List Int)) (l0_1 : List Int) : Option (List Int × Bool):=(impl_IsSample.f k l0_0 l0_1).bind fun t425=>(if t425 = true then ((impl_Sample_hard.f k l0_0 l0_1).bind fun bt426=>(if bt426.2.2 = true then (if 0 ≤ (l0_0.length : Int) then (if ((l0_0.length : Int) : Int).toNat ≤ 35184372088832 then (impl_FindCertificate.l0 k bt426.2.1 (List.replicate ((l0_0.length : Int) : Int).toNat 0) bt426.1 (bt426.1.length : Int) 0) else (none)) else (none)) else (some (([] : List Int),false)))) else (some (([] : List Int),false)))
set_option maxHeartbeats 8000000 in
set_option maxRecDepth 100000 in
theorem impl_FindCertificate.calls (k : Nat) (A0_0 : Option Addr) (c0_0 : Nat) (l0_0 : List (List Int)) (A0_1 : Option Addr) (c0_1 : Nat) (l0_1 : List Int) (r1 : List Int) (r2 : Bool) (w : World) (hr0_0 : Kd.C (Kd.slice 3 (Kd.int .i64)) w A0_0 l0_0.length l0_0) (hc0_0 : l0_0.length ≤ c0_0) (hr0_1 : Kd.C (Kd.int .i64) w A0_1 l0_1.length l0_1) (hc0_1 : l0_1.length ≤ c0_1) (h : impl_FindCertificate.f k l0_0 l0_1 = some (r1,r2)) :
  Calls Try.prog 43 #[.agg #[.slice A0_0 l0_0.length c0_0,.slice A0_1 l0_1.length c0_1]] w fun e w'=>∃ v0_ : Value,e = .returned (.tuple #[v0_,.bool r2]) ∧ Kd.R (Kd.int .i64) 3 w' w.heap.size (fun _=>True) v0_ r1 ∧ Below w.heap.size w w':=by
 (have hu32:=Try.underlying32);(have HR0_0:=Aside0.mk hr0_0);(have HC0_0:=Aside0.mk hc0_0);(clear hr0_0 hc0_0);(have HR0_1:=Aside0.mk hr0_1);(have HC0_1:=Aside0.mk hc0_1);(clear hr0_1 hc0_1);(have HB:=Aside0.mk (Below.refl w.heap.size w));(have H : ((impl_IsSample.f k l0_0 l0_1).bind fun t425=>(if t425 = true then ((impl_Sample_hard.f k l0_0 l0_1).bind fun bt426=>(if bt426.2.2 = true then (if 0 ≤ (l0_0.length : Int) then (if ((l0_0.length : Int) : Int).toNat ≤ 35184372088832 then (impl_FindCertificate.l0 k bt426.2.1 (List.replicate ((l0_0.length : Int) : Int).toNat 0) bt426.1 (bt426.1.length : Int) 0) else (none)) else (none)) else (some (([] : List Int),false)))) else (some (([] : List Int),false)))) = some (r1,r2):=h);(clear h);(replace H:=Option.bind_eq_some_iff.mp H);(obtain ⟨t425,A20,H⟩:=H);(replace H : (if t425 = true then ((impl_Sample_hard.f k l0_0 l0_1).bind fun bt426=>(if bt426.2.2 = true then (if 0 ≤ (l0_0.length : Int) then (if ((l0_0.length : Int) : Int).toNat ≤ 35184372088832 then (impl_FindCertificate.l0 k bt426.2.1 (List.replicate ((l0_0.length : Int) : Int).toNat 0) bt426.1 (bt426.1.length : Int) 0) else (none)) else (none)) else (some (([] : List Int),false)))) else (some (([] : List Int),false))) = some (r1,r2):=H);(have A2:=Aside0.mk A20);(clear A20);(by_cases c3 : t425 = true)
 ·(subst c3);(have H1 : ((impl_Sample_hard.f k l0_0 l0_1).bind fun bt426=>(if bt426.2.2 = true then (if 0 ≤ (l0_0.length : Int) then (if ((l0_0.length : Int) : Int).toNat ≤ 35184372088832 then (impl_FindCertificate.l0 k bt426.2.1 (List.replicate ((l0_0.length : Int) : Int).toNat 0) bt426.1 (bt426.1.length : Int) 0) else (none)) else (none)) else (some (([] : List Int),false)))) = some (r1,r2):=by rw [if_pos rfl] at H;exact H);(clear H);(have H:=H1);(clear H1);(replace H:=Option.bind_eq_some_iff.mp H);(obtain ⟨⟨t426,t429,t432⟩,A40,H⟩:=H);(replace H : (if t432 = true then (if 0 ≤ (l0_0.length : Int) then (if ((l0_0.length : Int) : Int).toNat ≤ 35184372088832 then (impl_FindCertificate.l0 k t429 (List.replicate ((l0_0.length : Int) : Int).toNat 0) t426 (t426.length : Int) 0) else (none)) else (none)) else (some (([] : List Int),false))) = some (r1,r2):=H);(have A4:=Aside0.mk A40);(clear A40);(by_cases c5 : t432 = true)
  ·(subst c5);(have H1 : (if 0 ≤ (l0_0.length : Int) then (if ((l0_0.length : Int) : Int).toNat ≤ 35184372088832 then (impl_FindCertificate.l0 k t429 (List.replicate ((l0_0.length : Int) : Int).toNat 0) t426 (t426.length : Int) 0) else (none)) else (none)) = some (r1,r2):=by rw [if_pos rfl] at H;exact H);(clear H);(have H:=H1);(clear H1);(by_cases c6 : 0 ≤ (l0_0.length : Int))
   ·(rw [if_pos c6] at H);(have c6b0:=eq_true c6);(have c6b1 : decide (0 ≤ (l0_0.length : Int)) = true:=decide_eq_true c6);(clear c6);(by_cases c7 : ((l0_0.length : Int) : Int).toNat ≤ 35184372088832)
    ·(rw [if_pos c7] at H);(have c7b0:=eq_true c7);(have c7b1 : decide (((l0_0.length : Int) : Int).toNat ≤ 35184372088832) = true:=decide_eq_true c7);(clear c7);(obtain ⟨y433,hy433⟩ : ∃ y_ : List Int,y_ = (List.replicate ((l0_0.length : Int) : Int).toNat 0):=⟨_,rfl⟩);(rw [← hy433] at H);(have Ny433:=Aside0.mk hy433);(clear hy433);(have H':=Aside0.mk H);(clear H);(go_enter Try.func43,Try.ntmps43);(go_wp2_with (first|((with_reducible refine gate_dst (N:=1) rfl ?_);refine box_event ?hg (N:=1) ?hd (cs:=#[.slice A0_0 l0_0.length c0_0,.slice A0_1 l0_1.length c0_1]) (t:=32) ?hr ?_;(case hd=>rfl);(case hg=>rfl);(case hr=>first|(go_simp;done)|(go_simp;rfl));intro gb424 hg w8 hbox hb;have n0_:=Aside0.mk (below_step (by repeat (first|(with_reducible first|exact HB.out|apply below_alloc|apply pw_below_drewN|apply below_drew1)|exact HB.out|exact Below.refl _ _)) hb);have n1_:=Aside0.mk (hbox);have n2_:=Aside0.mk ((by rw [hg];exact (below_size (by repeat (first|(with_reducible first|exact HB.out|apply below_alloc|apply pw_below_drewN|apply below_drew1)|exact HB.out|exact Below.refl _ _))) : w.heap.size ≤ gb424));have n3_:=Aside0.mk ((by rw [hg];exact (below_size (by repeat (first|(with_reducible first|exact HB.out|apply below_alloc|apply pw_below_drewN|apply below_drew1)|exact HB.out|exact Below.refl _ _))) : w.heap.size ≤ gb424));clear HB;have HB:=n0_;have BK424:=n1_;have GW424:=n2_;have GE424:=n3_;clear n0_ n1_ n2_ n3_;clear hb hbox hg;have hcz9_0 : w8.cell? ⟨gb424,0,none⟩ = some (.slice A0_0 l0_0.length c0_0):=(blk_cell BK424.out 0).trans rfl;have hcz9_1 : w8.cell? ⟨gb424,1,none⟩ = some (.slice A0_1 l0_1.length c0_1):=(blk_cell BK424.out 1).trans rfl;have hfz9_0:=blk_frozen BK424.out 0;have hfz9_1:=blk_frozen BK424.out 1)|((with_reducible refine gate_callee (f:=49) rfl ?_);refine goesL_ (some 11) rfl rfl Try.func49 (by kernel_rfl) rfl #[.agg #[.slice A0_0 l0_0.length c0_0,.slice A0_1 l0_1.length c0_1]] rfl (by (try simp only [List.map_toArray,List.map_cons,List.map_nil]);first|done|rfl|(simp only [List.length_drop,List.length_take];rfl)) ?_;(with_reducible refine (impl_IsSample.calls k _ _ l0_0 _ _ l0_1 true _ ?side1 ?side2 ?side3 ?side4 A2.out).mono ?_);(case side1=>repeat (first|exact (Kd.C_below HR0_0.out HB.out)|(with_reducible refine Kd.C_alloc ?_ _)|(with_reducible refine Kd.C_drewN ?_ _)|(with_reducible refine Kd.C_drew ?_)));(case side2=>exact HC0_0.out);(case side3=>repeat (first|exact (Kd.C_below HR0_1.out HB.out)|(with_reducible refine Kd.C_alloc ?_ _)|(with_reducible refine Kd.C_drewN ?_ _)|(with_reducible refine Kd.C_drew ?_)));(case side4=>exact HC0_1.out);rintro e w10 ⟨rfl,hb⟩;refine ⟨_,rfl,?_⟩;have n0_:=Aside0.mk (blk_below (g:=gb424) (o:=.cells #[.slice A0_0 l0_0.length c0_0,.slice A0_1 l0_1.length c0_1] 32 (0,0)) BK424.out hb);have n1_:=Aside0.mk (below_step (by repeat (first|(with_reducible first|exact HB.out|apply below_alloc|apply pw_below_drewN|apply below_drew1|refine below_set ?_ GE424.out)|exact HB.out)) hb);clear BK424;clear HB;have BK424:=n0_;have HB:=n1_;clear n0_ n1_;(try clear hb);(try clear hb2);(try clear hk);(try clear hi);have hcz11_0 : w10.cell? ⟨gb424,0,none⟩ = some (.slice A0_0 l0_0.length c0_0):=(blk_cell BK424.out 0).trans rfl;have hcz11_1 : w10.cell? ⟨gb424,1,none⟩ = some (.slice A0_1 l0_1.length c0_1):=(blk_cell BK424.out 1).trans rfl;have hfz11_0:=blk_frozen BK424.out 0;have hfz11_1:=blk_frozen BK424.out 1)|((with_reducible refine gate_callee (f:=101) rfl ?_);refine goesL_ (some 15) rfl rfl Try.func101 (by kernel_rfl) rfl #[.agg #[.slice A0_0 l0_0.length c0_0,.slice A0_1 l0_1.length c0_1]] rfl (by (try simp only [List.map_toArray,List.map_cons,List.map_nil]);first|done|rfl|(simp only [List.length_drop,List.length_take];rfl)) ?_;(with_reducible refine (impl_Sample_hard.calls k _ _ l0_0 _ _ l0_1 t426 t429 true _ ?side1 ?side2 ?side3 ?side4 A4.out).mono ?_);(case side1=>repeat (first|exact (Kd.C_below HR0_0.out HB.out)|(with_reducible refine Kd.C_alloc ?_ _)|(with_reducible refine Kd.C_drewN ?_ _)|(with_reducible refine Kd.C_drew ?_)));(case side2=>exact HC0_0.out);(case side3=>repeat (first|exact (Kd.C_below HR0_1.out HB.out)|(with_reducible refine Kd.C_alloc ?_ _)|(with_reducible refine Kd.C_drewN ?_ _)|(with_reducible refine Kd.C_drew ?_)));(case side4=>exact HC0_1.out);rintro e w12 ⟨v427,v430,rfl,ho0,ho1,hb⟩;refine ⟨_,rfl,?_⟩;have n0_:=Aside0.mk (Kd.R_lower ho0 (below_size (by repeat (first|(with_reducible first|exact HB.out|apply below_alloc|apply pw_below_drewN|apply below_drew1|refine below_set ?_ GE424.out)|exact HB.out))));have n1_:=Aside0.mk (Kd.R_lower ho1 (below_size (by repeat (first|(with_reducible first|exact HB.out|apply below_alloc|apply pw_below_drewN|apply below_drew1|refine below_set ?_ GE424.out)|exact HB.out))));have n2_:=Aside0.mk (blk_below (g:=gb424) (o:=.cells #[.slice A0_0 l0_0.length c0_0,.slice A0_1 l0_1.length c0_1] 32 (0,0)) BK424.out hb);have n3_:=Aside0.mk (below_step (by repeat (first|(with_reducible first|exact HB.out|apply below_alloc|apply pw_below_drewN|apply below_drew1|refine below_set ?_ GE424.out)|exact HB.out)) hb);clear BK424;clear HB;have HO428:=n0_;have HO431:=n1_;have BK424:=n2_;have HB:=n3_;clear n0_ n1_ n2_ n3_;(try clear hb);(try clear hb2);(try clear hk);(try clear hi);(try clear ho0);(try clear ho1);have hcz13_0 : w12.cell? ⟨gb424,0,none⟩ = some (.slice A0_0 l0_0.length c0_0):=(blk_cell BK424.out 0).trans rfl;have hcz13_1 : w12.cell? ⟨gb424,1,none⟩ = some (.slice A0_1 l0_1.length c0_1):=(blk_cell BK424.out 1).trans rfl;have hfz13_0:=blk_frozen BK424.out 0;have hfz13_1:=blk_frozen BK424.out 1)|((with_reducible refine gate_dst (N:=24) rfl ?_);refine Kd.R_make (Kd.int .i64) _ 3 rfl (N:=24) rfl 26 _ _ rfl (l0_0.length : Int) rfl rfl Try.underlying26 (.int .i64 0) 8 info3 rfl (by decide) (by omega) 0 (ok:=fun _=>True) (okp:=fun _=>True) rfl (fun _ hk=>hk) trivial (of_decide_eq_true ‹_›) (Nat.le_trans (Nat.mul_le_mul_right _ (of_decide_eq_true ‹_› : (l0_0.length : Int).toNat ≤ 35184372088832)) (by omega)) (Below.refl _ _) (Nat.le_refl _) ?_;intro v434 w14 ho15 hb hg_ hnew_;clear hg_ hnew_;(first|rw [← Ny433.out] at ho15|(simp only [Int.reduceToNat] at ho15;rw [← Ny433.out] at ho15));have n0_:=Aside0.mk (Kd.R_elder' HO428.out (Kd.R_base ho15) hb);have n1_:=Aside0.mk (Kd.R_elder' HO431.out (Kd.R_base ho15) hb);have n2_:=Aside0.mk (Kd.R_lower (Kd.R_new' (Kd.R_new' ho15 (Kd.R_lt HO428.out)) (Kd.R_lt HO431.out)) (below_size (by repeat (first|(with_reducible first|exact HB.out|apply below_alloc|apply pw_below_drewN|apply below_drew1|refine below_set ?_ GE424.out)|exact HB.out))));have n3_:=Aside0.mk (blk_below (g:=gb424) (o:=.cells #[.slice A0_0 l0_0.length c0_0,.slice A0_1 l0_1.length c0_1] 32 (0,0)) BK424.out hb);have n4_:=Aside0.mk (below_step (by repeat (first|(with_reducible first|exact HB.out|apply below_alloc|apply pw_below_drewN|apply below_drew1|refine below_set ?_ GE424.out)|exact HB.out)) hb);clear HO428;clear HO431;clear BK424;clear HB;have HO428:=n0_;have HO431:=n1_;have HO435:=n2_;have BK424:=n3_;have HB:=n4_;clear n0_ n1_ n2_ n3_ n4_;clear hb ho15;obtain ⟨Ao16,co16,eo16⟩:=Kd.R_slice HO428.out;subst eo16)));(go_loopg [27] k (fun kq v27 w'=>∃ (x7_1 : List Int) (x27_1 : Int),v27 = .int .i64 x27_1 ∧ Aside0 (impl_FindCertificate.l0 kq t429 x7_1 t426 (t426.length : Int) x27_1 = some (r1,r2)) ∧ Aside0 (kq ≤ k) ∧ Aside0 (Kd.R (Kd.int .i64) 3 w' w.heap.size (fun k_=>some k_ ≠ (v434 : Value).ownBlock ∧ some k_ ≠ ((.slice Ao16 t426.length co16) : Value).ownBlock) v430 t429) ∧ Aside0 (Kd.R (Kd.int .i64) 3 w' w.heap.size (fun k_=>some k_ ≠ (v430 : Value).ownBlock ∧ some k_ ≠ ((.slice Ao16 t426.length co16) : Value).ownBlock) v434 x7_1) ∧ Aside0 (Kd.R (Kd.int .i64) 3 w' w.heap.size (fun k_=>some k_ ≠ (v430 : Value).ownBlock ∧ some k_ ≠ (v434 : Value).ownBlock) (.slice Ao16 t426.length co16) t426) ∧ Aside0 (w'.heap[gb424]? = some (.cells #[(.slice A0_0 l0_0.length c0_0),(.slice A0_1 l0_1.length c0_1)] 32 (0,0))) ∧ Aside0 (Below w.heap.size w w')));(case atStart=>exact ⟨(y433),(0),rfl,H',⟨Nat.le_refl _⟩,⟨by (with_reducible repeat (first|apply Kd.R_alloc|apply Kd.R_drewN|apply Kd.R_drew));first|(exact Kd.R_mono HO431.out (fun _ hk=>⟨hk.2,hk.1⟩))|(exact Kd.R_mono (Kd.R_tight2 rfl HO431.out) (fun k_ hk=>⟨hk.2.2,fun e_=>(HO428.out.1 k_ e_.symm).1 hk.1⟩))⟩,⟨by (with_reducible repeat (first|apply Kd.R_alloc|apply Kd.R_drewN|apply Kd.R_drew));exact Kd.R_mono HO435.out (fun _ hk=>by first|exact ⟨hk.2,hk.1.2⟩|grind)⟩,⟨by (with_reducible repeat (first|apply Kd.R_alloc|apply Kd.R_drewN|apply Kd.R_drew));exact HO428.out⟩,⟨by (with_reducible repeat (first|refine blk_drewN ?_ _|refine blk_drew ?_|refine blk_alloc ?_ _));exact BK424.out⟩,⟨HB.out⟩⟩)
     case round =>
      (clear H');(try clear c1);(try clear p2);(try clear c3);(try clear c4);(try clear c5);(try clear c6);(try clear c6b0);(try clear c6b1);(try clear c7);(try clear c7b0);(try clear c7b1);(try clear c10);(try clear hcz11_0);(try clear hcz11_1);(try clear hcz13_0);(try clear hcz13_1);(try clear hcz9_0);(try clear hcz9_1);(try clear hfz11_0);(try clear hfz11_1);(try clear hfz13_0);(try clear hfz13_1);(try clear hfz9_0);(try clear hfz9_1);(obtain ⟨x7_1,x27_1,rfl,HA,HK1,HO_5,HO_7,HO_25,BK424,HB⟩:=hrel)
      cases gk with
     |zero=>exact absurd HA.out (by simp [impl_FindCertificate.l0])
     |succ k1 =>
       (have H:=HA.out);(clear HA);(simp only [impl_FindCertificate.l0] at H);(by_cases c17 : x27_1 < (t426.length : Int));(·(rw [if_pos c17] at H);(have c17b0 : decide (x27_1 < (t426.length : Int)) = true:=decide_eq_true c17);(clear c17);(by_cases c18 : 0 ≤ x27_1);(·(rw [if_pos c18] at H);(have c18b0 : decide (0 ≤ x27_1) = true:=decide_eq_true c18);(clear c18);(by_cases c19 : x27_1 < (t426.length : Int));(·(rw [if_pos c19] at H);(have c19b0 : decide (x27_1 < (t426.length : Int)) = true:=decide_eq_true c19);(clear c19);(by_cases c20 : x27_1 < (t429.length : Int));(·(rw [if_pos c20] at H);(have c20b0 : decide (x27_1 < (t429.length : Int)) = true:=decide_eq_true c20);(clear c20);(by_cases c21 : 0 ≤ (rd t426 x27_1));(·(rw [if_pos c21] at H);(have c21b0 : decide (0 ≤ (rd t426 x27_1)) = true:=decide_eq_true c21);(clear c21);(by_cases c22 : (rd t426 x27_1) < (x7_1.length : Int));(·(rw [if_pos c22] at H);(have c22b0 : decide ((rd t426 x27_1) < (x7_1.length : Int)) = true:=decide_eq_true c22);(clear c22);(obtain ⟨y438,hy438⟩ : ∃ y_ : List Int,y_ = (x7_1.set ((rd t426 x27_1) : Int).toNat (rd t429 x27_1)):=⟨_,rfl⟩);(rw [← hy438] at H);(have Ny438:=Aside0.mk hy438);(clear hy438);(have H':=Aside0.mk H);(clear H);(have p436 : 0 ≤ (x27_1 : Int):=of_decide_eq_true ‹_›);(have q436 : x27_1 < (t426.length : Int):=of_decide_eq_true ‹_›);(obtain ⟨ad436,e436,hx436_0⟩:=Kd.at_int (Kd.R_reads' HO_25.out).2.2 x27_1 p436 q436);(cases e436);(replace p436:=eq_true p436);(replace q436:=eq_true q436);(obtain ⟨Ao24,co24,eo24⟩:=Kd.R_slice HO_5.out);(subst eo24);(have p437 : 0 ≤ (x27_1 : Int):=of_decide_eq_true ‹_›);(have q437 : x27_1 < (t429.length : Int):=of_decide_eq_true ‹_›);(obtain ⟨ad437,e437,hx437_0⟩:=Kd.at_int (Kd.R_reads' HO_5.out).2.2 x27_1 p437 q437);(cases e437);(replace p437:=eq_true p437);(replace q437:=eq_true q437);(have p23 : 0 ≤ ((rd t426 x27_1) : Int):=of_decide_eq_true ‹_›);(have q23 : ((rd t426 x27_1) : Int) < ((x7_1.length : Int) : Int):=of_decide_eq_true ‹_›);(obtain ⟨go23,co23,eo23,gb23,gl23,cl23,HG23⟩:=Kd.R_form HO_7.out (by omega));(first|cases eo23|(injection eo23 with ea_ en_ ec_;(first|subst ea_|(injection ea_ with ea_;subst ea_));subst ec_;clear en_));(have GB23:=Aside0.mk gb23);(have GG23:=Aside0.mk HG23);(clear gb23 gl23 HG23);(obtain ⟨hx23_0,hf23_0⟩:=Kd.R_celln 0 HO_7.out ((rd t426 x27_1) : Int) p23 q23);(replace p23:=eq_true p23);(replace q23:=eq_true q23);(have HP25:=Kd.R_putg HO_7.out ((rd t426 x27_1) : Int) (rd t429 x27_1));(go_wp2_with (first|((with_reducible refine gate_store (t:=3) (p:=38) rfl ?_);refine store_event (t:=3) (p:=38) (v:=?vo_w26) (w1:=(wr.setCell ⟨go23,((rd t426 x27_1) : Int).toNat,none⟩ (.int .i64 (rd t429 x27_1)))) ?hg ?ho ?hn ?hr ?_;(case ho=>rfl);(case hg=>rfl);(case hn=>rfl);(case hr=>go_simp;try rfl);intro w26 hw;have hg : wr.grownBy w26 (some go23):=(by rw [hw];exact HP25.2);have hp_ : Kd.R (Kd.int .i64) 3 w26 w.heap.size (fun k_=>some k_ ≠ (.slice (some ad437) t429.length co24 : Value).ownBlock ∧ some k_ ≠ (.slice (some ad436) t426.length co16 : Value).ownBlock) (.slice (some ⟨go23,0,none⟩) x7_1.length co23) y438:=(by rw [hw,Ny438.out];exact HP25.1);clear HP25;have n0_:=Aside0.mk (Kd.R_after (v:=(.slice (some ⟨go23,0,none⟩) x7_1.length co23)) (v1:=(.slice (some ⟨go23,0,none⟩) x7_1.length co23)) (ok:=(fun k_=>some k_ ≠ (.slice (some ad436) t426.length co16 : Value).ownBlock)) (by (with_reducible repeat (first|apply Kd.R_alloc|apply Kd.R_drewN|apply Kd.R_drew));exact Kd.R_mono HO_5.out (fun _ hk=>by first|exact ⟨hk.2,hk.1⟩|grind)) hg (.inl rfl));have n1_:=Aside0.mk (hp_);have n2_:=Aside0.mk (Kd.R_after (v:=(.slice (some ⟨go23,0,none⟩) x7_1.length co23)) (v1:=(.slice (some ⟨go23,0,none⟩) x7_1.length co23)) (ok:=(fun k_=>some k_ ≠ (.slice (some ad437) t429.length co24 : Value).ownBlock)) HO_25.out hg (.inl rfl));have n3_:=Aside0.mk (blk_grown (g:=gb424) (o:=.cells #[.slice A0_0 l0_0.length c0_0,.slice A0_1 l0_1.length c0_1] 32 (0,0)) BK424.out hg (Kd.R_ne HO_7.out BK424.out (by decide)));have n4_:=Aside0.mk ((by rw [hw];exact below_set (HB.out) GB23.out : Below w.heap.size w w26));clear HO_5;clear HO_7;clear HO_25;clear BK424;clear HB;have HO_5:=n0_;have HO_7:=n1_;have HO_25:=n2_;have BK424:=n3_;have HB:=n4_;clear n0_ n1_ n2_ n3_ n4_;clear hg hw hp_)));(go_roundg k1);(case measure=>have:=HK1.out;omega);(case rel=>exact ⟨(y438),(wrap64 (x27_1 + 1)),rfl,H',⟨by have:=HK1.out;omega⟩,⟨by (with_reducible repeat (first|apply Kd.R_alloc|apply Kd.R_drewN|apply Kd.R_drew));exact Kd.R_mono HO_5.out (fun _ hk=>by first|exact ⟨hk.2,hk.1⟩|grind)⟩,⟨by (with_reducible repeat (first|apply Kd.R_alloc|apply Kd.R_drewN|apply Kd.R_drew));exact HO_7.out⟩,⟨by (with_reducible repeat (first|apply Kd.R_alloc|apply Kd.R_drewN|apply Kd.R_drew));exact HO_25.out⟩,⟨by (with_reducible repeat (first|refine blk_drewN ?_ _|refine blk_drew ?_|refine blk_alloc ?_ _));exact BK424.out⟩,⟨HB.out⟩⟩));(·(rw [if_neg c22] at H);(exact absurd H (by simp))));(·(rw [if_neg c21] at H);(exact absurd H (by simp))));(·(rw [if_neg c20] at H);(exact absurd H (by simp))));(·(rw [if_neg c19] at H);(exact absurd H (by simp))));(·(rw [if_neg c18] at H);(exact absurd H (by simp))));(·(rw [if_neg c17] at H);(have c17b0 : decide (x27_1 < (t426.length : Int)) = false:=decide_eq_false c17);(clear c17);(simp only [Option.some.injEq,Prod.mk.injEq] at H);(obtain ⟨rfl,rfl⟩:=H);(go_wp2);(go_ret2);(exact ⟨_,by first|rfl|(simp [errW_none,errW_some] <;> rfl)|(simp [*,errW_none,errW_some] <;> rfl),by (with_reducible repeat (first|apply Kd.R_alloc|apply Kd.R_drewN|apply Kd.R_drew));exact Kd.R_mono HO_7.out (fun _ hk=>trivial),HB.out⟩))
    ·(rw [if_neg c7] at H);(exact absurd H (by simp))
   ·(rw [if_neg c6] at H);(exact absurd H (by simp))
  ·(replace c5:=Bool.eq_false_iff.mpr c5);(subst c5);(have H1 : (some (([] : List Int),false)) = some (r1,r2):=by rw [if_neg (show ¬ (false = true) by decide)] at H;exact H);(clear H);(have H:=H1);(clear H1);(simp only [Option.some.injEq,Prod.mk.injEq] at H);(obtain ⟨rfl,rfl⟩:=H);(go_enter Try.func43,Try.ntmps43);(go_wp2_with (first|((with_reducible refine gate_dst (N:=1) rfl ?_);refine box_event ?hg (N:=1) ?hd (cs:=#[.slice A0_0 l0_0.length c0_0,.slice A0_1 l0_1.length c0_1]) (t:=32) ?hr ?_;(case hd=>rfl);(case hg=>rfl);(case hr=>first|(go_simp;done)|(go_simp;rfl));intro gb424 hg w27 hbox hb;have n0_:=Aside0.mk (below_step (by repeat (first|(with_reducible first|exact HB.out|apply below_alloc|apply pw_below_drewN|apply below_drew1)|exact HB.out|exact Below.refl _ _)) hb);have n1_:=Aside0.mk (hbox);have n2_:=Aside0.mk ((by rw [hg];exact (below_size (by repeat (first|(with_reducible first|exact HB.out|apply below_alloc|apply pw_below_drewN|apply below_drew1)|exact HB.out|exact Below.refl _ _))) : w.heap.size ≤ gb424));have n3_:=Aside0.mk ((by rw [hg];exact (below_size (by repeat (first|(with_reducible first|exact HB.out|apply below_alloc|apply pw_below_drewN|apply below_drew1)|exact HB.out|exact Below.refl _ _))) : w.heap.size ≤ gb424));clear HB;have HB:=n0_;have BK424:=n1_;have GW424:=n2_;have GE424:=n3_;clear n0_ n1_ n2_ n3_;clear hb hbox hg;have hcz28_0 : w27.cell? ⟨gb424,0,none⟩ = some (.slice A0_0 l0_0.length c0_0):=(blk_cell BK424.out 0).trans rfl;have hcz28_1 : w27.cell? ⟨gb424,1,none⟩ = some (.slice A0_1 l0_1.length c0_1):=(blk_cell BK424.out 1).trans rfl;have hfz28_0:=blk_frozen BK424.out 0;have hfz28_1:=blk_frozen BK424.out 1)|((with_reducible refine gate_callee (f:=49) rfl ?_);refine goesL_ (some 11) rfl rfl Try.func49 (by kernel_rfl) rfl #[.agg #[.slice A0_0 l0_0.length c0_0,.slice A0_1 l0_1.length c0_1]] rfl (by (try simp only [List.map_toArray,List.map_cons,List.map_nil]);first|done|rfl|(simp only [List.length_drop,List.length_take];rfl)) ?_;(with_reducible refine (impl_IsSample.calls k _ _ l0_0 _ _ l0_1 true _ ?side1 ?side2 ?side3 ?side4 A2.out).mono ?_);(case side1=>repeat (first|exact (Kd.C_below HR0_0.out HB.out)|(with_reducible refine Kd.C_alloc ?_ _)|(with_reducible refine Kd.C_drewN ?_ _)|(with_reducible refine Kd.C_drew ?_)));(case side2=>exact HC0_0.out);(case side3=>repeat (first|exact (Kd.C_below HR0_1.out HB.out)|(with_reducible refine Kd.C_alloc ?_ _)|(with_reducible refine Kd.C_drewN ?_ _)|(with_reducible refine Kd.C_drew ?_)));(case side4=>exact HC0_1.out);rintro e w29 ⟨rfl,hb⟩;refine ⟨_,rfl,?_⟩;have n0_:=Aside0.mk (blk_below (g:=gb424) (o:=.cells #[.slice A0_0 l0_0.length c0_0,.slice A0_1 l0_1.length c0_1] 32 (0,0)) BK424.out hb);have n1_:=Aside0.mk (below_step (by repeat (first|(with_reducible first|exact HB.out|apply below_alloc|apply pw_below_drewN|apply below_drew1|refine below_set ?_ GE424.out)|exact HB.out)) hb);clear BK424;clear HB;have BK424:=n0_;have HB:=n1_;clear n0_ n1_;(try clear hb);(try clear hb2);(try clear hk);(try clear hi);have hcz30_0 : w29.cell? ⟨gb424,0,none⟩ = some (.slice A0_0 l0_0.length c0_0):=(blk_cell BK424.out 0).trans rfl;have hcz30_1 : w29.cell? ⟨gb424,1,none⟩ = some (.slice A0_1 l0_1.length c0_1):=(blk_cell BK424.out 1).trans rfl;have hfz30_0:=blk_frozen BK424.out 0;have hfz30_1:=blk_frozen BK424.out 1)|((with_reducible refine gate_callee (f:=101) rfl ?_);refine goesL_ (some 15) rfl rfl Try.func101 (by kernel_rfl) rfl #[.agg #[.slice A0_0 l0_0.length c0_0,.slice A0_1 l0_1.length c0_1]] rfl (by (try simp only [List.map_toArray,List.map_cons,List.map_nil]);first|done|rfl|(simp only [List.length_drop,List.length_take];rfl)) ?_;(with_reducible refine (impl_Sample_hard.calls k _ _ l0_0 _ _ l0_1 t426 t429 false _ ?side1 ?side2 ?side3 ?side4 A4.out).mono ?_);(case side1=>repeat (first|exact (Kd.C_below HR0_0.out HB.out)|(with_reducible refine Kd.C_alloc ?_ _)|(with_reducible refine Kd.C_drewN ?_ _)|(with_reducible refine Kd.C_drew ?_)));(case side2=>exact HC0_0.out);(case side3=>repeat (first|exact (Kd.C_below HR0_1.out HB.out)|(with_reducible refine Kd.C_alloc ?_ _)|(with_reducible refine Kd.C_drewN ?_ _)|(with_reducible refine Kd.C_drew ?_)));(case side4=>exact HC0_1.out);rintro e w31 ⟨v427,v430,rfl,ho0,ho1,hb⟩;refine ⟨_,rfl,?_⟩;have n0_:=Aside0.mk (Kd.R_lower ho0 (below_size (by repeat (first|(with_reducible first|exact HB.out|apply below_alloc|apply pw_below_drewN|apply below_drew1|refine below_set ?_ GE424.out)|exact HB.out))));have n1_:=Aside0.mk (Kd.R_lower ho1 (below_size (by repeat (first|(with_reducible first|exact HB.out|apply below_alloc|apply pw_below_drewN|apply below_drew1|refine below_set ?_ GE424.out)|exact HB.out))));have n2_:=Aside0.mk (blk_below (g:=gb424) (o:=.cells #[.slice A0_0 l0_0.length c0_0,.slice A0_1 l0_1.length c0_1] 32 (0,0)) BK424.out hb);have n3_:=Aside0.mk (below_step (by repeat (first|(with_reducible first|exact HB.out|apply below_alloc|apply pw_below_drewN|apply below_drew1|refine below_set ?_ GE424.out)|exact HB.out)) hb);clear BK424;clear HB;have HO428:=n0_;have HO431:=n1_;have BK424:=n2_;have HB:=n3_;clear n0_ n1_ n2_ n3_;(try clear hb);(try clear hb2);(try clear hk);(try clear hi);(try clear ho0);(try clear ho1))));(go_ret2);(exact ⟨_,by first|rfl|(simp [errW_none,errW_some] <;> rfl)|(simp [*,errW_none,errW_some] <;> rfl),by first|exact Kd.R_nil _ _ _ _ _|exact Kd.N_nil _ _ _ _ _|exact Kd.V_nil _ _ _ _ _|exact Kd.Q_nil _ _ _ _ _|exact Kd.S_nil _ _ _ _ _,HB.out⟩)
 ·(replace c3:=Bool.eq_false_iff.mpr c3);(subst c3);(have H1 : (some (([] : List Int),false)) = some (r1,r2):=by rw [if_neg (show ¬ (false = true) by decide)] at H;exact H);(clear H);(have H:=H1);(clear H1);(simp only [Option.some.injEq,Prod.mk.injEq] at H);(obtain ⟨rfl,rfl⟩:=H);(go_enter Try.func43,Try.ntmps43);(go_wp2_with (first|((with_reducible refine gate_dst (N:=1) rfl ?_);refine box_event ?hg (N:=1) ?hd (cs:=#[.slice A0_0 l0_0.length c0_0,.slice A0_1 l0_1.length c0_1]) (t:=32) ?hr ?_;(case hd=>rfl);(case hg=>rfl);(case hr=>first|(go_simp;done)|(go_simp;rfl));intro gb424 hg w32 hbox hb;have n0_:=Aside0.mk (below_step (by repeat (first|(with_reducible first|exact HB.out|apply below_alloc|apply pw_below_drewN|apply below_drew1)|exact HB.out|exact Below.refl _ _)) hb);have n1_:=Aside0.mk (hbox);have n2_:=Aside0.mk ((by rw [hg];exact (below_size (by repeat (first|(with_reducible first|exact HB.out|apply below_alloc|apply pw_below_drewN|apply below_drew1)|exact HB.out|exact Below.refl _ _))) : w.heap.size ≤ gb424));have n3_:=Aside0.mk ((by rw [hg];exact (below_size (by repeat (first|(with_reducible first|exact HB.out|apply below_alloc|apply pw_below_drewN|apply below_drew1)|exact HB.out|exact Below.refl _ _))) : w.heap.size ≤ gb424));clear HB;have HB:=n0_;have BK424:=n1_;have GW424:=n2_;have GE424:=n3_;clear n0_ n1_ n2_ n3_;clear hb hbox hg;have hcz33_0 : w32.cell? ⟨gb424,0,none⟩ = some (.slice A0_0 l0_0.length c0_0):=(blk_cell BK424.out 0).trans rfl;have hcz33_1 : w32.cell? ⟨gb424,1,none⟩ = some (.slice A0_1 l0_1.length c0_1):=(blk_cell BK424.out 1).trans rfl;have hfz33_0:=blk_frozen BK424.out 0;have hfz33_1:=blk_frozen BK424.out 1)|((with_reducible refine gate_callee (f:=49) rfl ?_);refine goesL_ (some 11) rfl rfl Try.func49 (by kernel_rfl) rfl #[.agg #[.slice A0_0 l0_0.length c0_0,.slice A0_1 l0_1.length c0_1]] rfl (by (try simp only [List.map_toArray,List.map_cons,List.map_nil]);first|done|rfl|(simp only [List.length_drop,List.length_take];rfl)) ?_;(with_reducible refine (impl_IsSample.calls k _ _ l0_0 _ _ l0_1 false _ ?side1 ?side2 ?side3 ?side4 A2.out).mono ?_);(case side1=>repeat (first|exact (Kd.C_below HR0_0.out HB.out)|(with_reducible refine Kd.C_alloc ?_ _)|(with_reducible refine Kd.C_drewN ?_ _)|(with_reducible refine Kd.C_drew ?_)));(case side2=>exact HC0_0.out);(case side3=>repeat (first|exact (Kd.C_below HR0_1.out HB.out)|(with_reducible refine Kd.C_alloc ?_ _)|(with_reducible refine Kd.C_drewN ?_ _)|(with_reducible refine Kd.C_drew ?_)));(case side4=>exact HC0_1.out);rintro e w34 ⟨rfl,hb⟩;refine ⟨_,rfl,?_⟩;have n0_:=Aside0.mk (blk_below (g:=gb424) (o:=.cells #[.slice A0_0 l0_0.length c0_0,.slice A0_1 l0_1.length c0_1] 32 (0,0)) BK424.out hb);have n1_:=Aside0.mk (below_step (by repeat (first|(with_reducible first|exact HB.out|apply below_alloc|apply pw_below_drewN|apply below_drew1|refine below_set ?_ GE424.out)|exact HB.out)) hb);clear BK424;clear HB;have BK424:=n0_;have HB:=n1_;clear n0_ n1_;(try clear hb);(try clear hb2);(try clear hk);(try clear hi))));(go_ret2);(exact ⟨_,by first|rfl|(simp [errW_none,errW_some] <;> rfl)|(simp [*,errW_none,errW_some] <;> rfl),by first|exact Kd.R_nil _ _ _ _ _|exact Kd.N_nil _ _ _ _ _|exact Kd.V_nil _ _ _ _ _|exact Kd.Q_nil _ _ _ _ _|exact Kd.S_nil _ _ _ _ _,HB.out⟩)
end Go.Proofs.Ytdjclffkidoohaa.QFnExactFindCertificate
