/- Some of the functions that the law reaches, and what they tell; no condition. -/
import Derived.BigRegion
import Derived.Outline
import Derived.StillTailTactics
import Derived.Test.YtdjclffkidoohaaVFnExactInGeneralPosition
import Derived.Test.YtdjclffkidoohaaZFnExactInGeneralPositionH
import Derived.Test.YtdjclffkidoohaaZFnExactInGeneralPositionx0
import Derived.Test.YtdjclffkidoohaaZFnExactInGeneralPositionx6
import Derived.Test.YtdjclffkidoohaaZFnExactInGeneralPositionx7
namespace Go.Proofs.Ytdjclffkidoohaa.QFnExactInGeneralPosition
open Go.RowKit Go.Proofs.YtdjclffkidoohaaW.PrintWords Go.Proofs.YtdjclffkidoohaaW.PrintLast Go.Proofs.YtdjclffkidoohaaW.PrintMore
attribute [local go_sem] max2_int min2_int max_two min_two max_three min_three max_four min_four   -- for this text's walks alone
set_option linter.unusedVariables false
set_option linter.unusedSimpArgs false
open Go.Proofs.Ytdjclffkidoohaa.Hof
open Go.Proofs.Ytdjclffkidoohaa.Clos
mutual
def impl_choices.g {σ : Type} (V : Nat → σ → List Int → Option (Bool × σ)) (n kk : Int) : Nat → σ → List Int → Int → Option (Bool × σ)
|0,_,_,_=>none
|k + 1,s,set,i=>if (set.length : Int) = kk then V k s set else impl_choices.l V n kk k s set i
def impl_choices.l {σ : Type} (V : Nat → σ → List Int → Option (Bool × σ)) (n kk : Int) : Nat → σ → List Int → Int → Option (Bool × σ)
|0,_,_,_=>none
|k + 1,s,set,i=>if i < n then (if set.length < 17592186044416 then ((impl_choices.g V n kk k s (set ++ [i]) (wrap64 (i + 1))).bind fun t=>if t.1 = true then some (true,t.2) else impl_choices.l V n kk k t.2 set (wrap64 (i + 1))) else none) else some (false,s)
end
def impl_choices.f {σ : Type} (V : Nat → σ → List Int → Option (Bool × σ)) (k : Nat) (s : σ) (n kk : Int) : Option (Bool × σ):=impl_choices.g V n kk k s [] 0
def impl_choices.J (G : FuncId) (C : Array Value) (n kk : Int) (bk bv bn bg : Nat) (w : World) : Prop :=
 w.heap[bk]? = some (.cells #[.int .i64 kk] 3 (0,0)) ∧ w.heap[bv]? = some (.cells #[.func (.func G) #[] C] 93 (0,0)) ∧ w.heap[bn]? = some (.cells #[.int .i64 n] 3 (0,0)) ∧ w.heap[bg]? = some (.cells #[.func (.func 132) #[] #[.pointer (some ⟨bk,0,none⟩),.pointer (some ⟨bv,0,none⟩),.pointer (some ⟨bn,0,none⟩),.pointer (some ⟨bg,0,none⟩)]] 66 (0,0))
theorem hI_drew {σ : Type} {I : σ → World → Prop} (hI : ∀ s w w',I s w → Below w.heap.size w w' → I s w') {s : σ} {w : World} (h : I s w) : I s w.drew:=hI s w w.drew h (below_drew1 (Below.refl _ _))
theorem impl_choices.J_kept {G : FuncId} {C : Array Value} {n kk : Int} {bk bv bn bg : Nat} {w w' : World} {S : Nat → Prop} (h : impl_choices.J G C n kk bk bv bn bg w) (hk : Kept w w' S) (hS : ¬ S bk ∧ ¬ S bv ∧ ¬ S bn ∧ ¬ S bg) : impl_choices.J G C n kk bk bv bn bg w' :=
 ⟨blk_kept h.1 hk hS.1,blk_kept h.2.1 hk hS.2.1,blk_kept h.2.2.1 hk hS.2.2.1,blk_kept h.2.2.2 hk hS.2.2.2⟩
set_option maxHeartbeats 8000000 in
set_option maxRecDepth 100000 in
theorem impl_choices.gcalls {σ : Type} (V : Nat → σ → List Int → Option (Bool × σ)) (G : FuncId) (C : Array Value) (hent : Ent Try.prog G) (I : σ → World → Prop) (S : Nat → Prop) (hI : ∀ s w w',I s w → Below w.heap.size w w' → I s w')
  (hat : ∀ k s set b s' A c w,I s w → (∀ W',Kept w W' S → (Kd.int .i64).C W' A set.length set) → set.length ≤ c → V k s set = some (b,s') → Calls Try.prog G (#[.slice A set.length c] ++ C) w fun e w'=>e = .returned (.bool b) ∧ I s' w' ∧ Kept w w' S)
  (n kk : Int) (bk bv bn bg base : Nat) (hS : ¬ S bk ∧ ¬ S bv ∧ ¬ S bn ∧ ¬ S bg) (hSb : ∀ k,S k → k < base) (k : Nat) :
  ∀ (s : σ) (set : List Int) (i : Int) (b : Bool) (s' : σ) (A : Option Addr) (c : Nat) (w : World) (_ : base ≤ w.heap.size) (_ : I s w) (_ : impl_choices.J G C n kk bk bv bn bg w) (_ : ∀ W',Kept w W' S → (Kd.int .i64).C W' A set.length set) (_ : set.length ≤ c) (_ : impl_choices.g V n kk k s set i = some (b,s')),
  Calls Try.prog 132 #[.slice A set.length c,.int .i64 i,.pointer (some ⟨bk,0,none⟩),.pointer (some ⟨bv,0,none⟩),.pointer (some ⟨bn,0,none⟩),.pointer (some ⟨bg,0,none⟩)] w fun e w'=>e = .returned (.bool b) ∧ I s' w' ∧ Kept w w' S:=by
 (have HI:=Aside0.mk hI);(have HAT:=Aside0.mk hat);(have HE:=Aside0.mk hent);(have HS:=Aside0.mk hS);(have HSB:=Aside0.mk hSb);(clear hI hat hent hS hSb)
 induction k using Nat.strongRecOn with
|_ k ih =>
 intro s set i b s' A c w hbase hi hj hset hc h
 have IH:=Aside0.mk ih
 clear ih
 cases k with
|zero=>exact absurd h (by simp [impl_choices.g])
|succ k =>
 simp only [impl_choices.g] at h
 have HW:=Aside0.mk hi
 have HJ:=Aside0.mk hj
 have HC:=Aside0.mk hset
 have HL:=Aside0.mk hc
 have HBA:=Aside0.mk hbase
 have hck : w.cell? ⟨bk,0,none⟩ = some (.int .i64 kk):=(blk_cell hj.1 0).trans rfl
 clear hi hset hc hbase
 by_cases c1 : (set.length : Int) = kk
 ·rw [if_pos c1] at h
  have c1b : ((set.length : Int) == kk) = true:=beq_iff_eq.mpr c1
  have hcv : w.cell? ⟨bv,0,none⟩ = some (.func (.func G) #[] C):=(blk_cell hj.2.1 0).trans rfl
  have A1:=Aside0.mk (HAT.out k s set b s' A c w HW.out HC.out HL.out h)
  clear h hj c1
  go_enter Try.func132,Try.ntmps132
  go_wp2_with (first|(refine goesC_ (some 16) rfl rfl HE.out #[.slice A set.length c] rfl rfl (by (try simp only [List.map_toArray,List.map_cons,List.map_nil]);first|done|rfl) ?_;(with_reducible refine A1.out.mono ?_);rintro e w9 ⟨rfl,hi9,hk9⟩;refine ⟨_,rfl,?_⟩;have n0_:=Aside0.mk hi9;have n1_:=Aside0.mk hk9;clear hi9 hk9))
  go_ret
  exact ⟨rfl,n0_.out,n1_.out⟩
 ·rw [if_neg c1] at h
  have c1b : ((set.length : Int) == kk) = false:=beq_eq_false_iff_ne.mpr c1
  have H':=Aside0.mk h
  have HK0:=Aside0.mk (Kept.refl w S)
  clear h hj c1
  go_enter Try.func132,Try.ntmps132
  go_wp2
  go_loopg [9] k (fun kq v9 w'=>∃ (s1 : σ) (i1 : Int),v9 = .int .i64 i1 ∧ Aside0 (impl_choices.l V n kk kq s1 set i1 = some (b,s')) ∧ Aside0 (kq ≤ k) ∧ Aside0 (I s1 w') ∧ Aside0 (impl_choices.J G C n kk bk bv bn bg w') ∧ Aside0 (Kept w w' S))
  case atStart=>exact ⟨s,i,rfl,H',⟨Nat.le_refl _⟩,HW,HJ,HK0⟩
  case round =>
   clear H' HW HJ HK0 hck
   obtain ⟨s1,i1,rfl,HA,HK1,HW,HJ,HK⟩:=hrel
   cases gk with
  |zero=>exact absurd HA.out (by simp [impl_choices.l])
  |succ k1 =>
    have H:=HA.out
    clear HA
    simp only [impl_choices.l] at H
    have hcn : wr.cell? ⟨bn,0,none⟩ = some (.int .i64 n):=(blk_cell HJ.out.2.2.1 0).trans rfl
    by_cases c5 : i1 < n
    ·rw [if_pos c5] at H
     have c5b0 : decide (i1 < n) = true:=decide_eq_true c5
     clear c5
     by_cases c6 : set.length < 17592186044416
     ·rw [if_pos c6] at H
      have L6:=Aside0.mk c6
      clear c6
      obtain ⟨⟨b1,s2⟩,A70,H⟩:=Option.bind_eq_some_iff.mp H
      have A7:=Aside0.mk A70
      have H':=Aside0.mk H
      clear H A70
      go_wp2
      refine start_ (n:=13) (S:=fun w'=>w'.cell? ⟨bg,0,none⟩ = some (.func (.func 132) #[] #[.pointer (some ⟨bk,0,none⟩),.pointer (some ⟨bv,0,none⟩),.pointer (some ⟨bn,0,none⟩),.pointer (some ⟨bg,0,none⟩)])) (ds:=[12]) #[F_,F_,F_,F_,F_,F_,F_,F_,F_,F_,F_,F_,F_] (by kernel_rfl) rfl rfl ((blk_cell HJ.out.2.2.2 0).trans rfl) (fun hHeld=>?_)
      have n1_:=Aside0.mk (hI_drew HI.out HW.out)
      have n2_ : Aside0 (impl_choices.J G C n kk bk bv bn bg wr.drew):=⟨HJ.out⟩
      have n3_:=Aside0.mk (Kept.drew HK.out)
      clear HW HJ HK hcn
      generalize wr.drew = wd at n1_ n2_ n3_ hHeld ⊢
      refine take_ (i:=0) (N:=some 23) (v:=?_) (a':=?_) #[T_,F_,F_,F_,F_,F_,F_,F_,F_,F_,F_,F_,F_] rfl rfl (by kernel_rfl) (fun _ _ _ h=>h) (Or.inl ⟨by rfl,?_⟩) hHeld ?_ ?_
      rotate_left
      ·intro w' s0
       go_simp
       with_reducible rfl
      rotate_left
      ·simp only [Z_]
       rfl
      refine pure_ (i:=1) (N:=some 24) (v:=?_) (a':=?_) #[T_,T_,F_,F_,F_,F_,F_,F_,F_,F_,F_,F_,F_] rfl rfl (by kernel_rfl) (fun _ _ _ h=>h) (Or.inl ⟨by rfl,?_⟩) ?_ ?_
      rotate_left
      ·intro w'
       go_simp
       with_reducible rfl
      rotate_left
      ·simp only [Z_]
       rfl
      refine pure_ (i:=2) (N:=some 25) (v:=?_) (a':=?_) #[T_,T_,T_,F_,F_,F_,F_,F_,F_,F_,F_,F_,F_] rfl rfl (by kernel_rfl) (fun _ _ _ h=>h) (Or.inl ⟨by rfl,?_⟩) ?_ ?_
      rotate_left
      ·intro w'
       go_simp
       with_reducible rfl
      rotate_left
      ·simp only [Z_]
       rfl
      refine pure_ (i:=3) (N:=some 26) (v:=?_) (a':=?_) #[T_,T_,T_,T_,F_,F_,F_,F_,F_,F_,F_,F_,F_] rfl rfl (by kernel_rfl) (fun _ _ _ h=>h) (Or.inl ⟨by rfl,?_⟩) ?_ ?_
      rotate_left
      ·intro w'
       go_simp
       with_reducible rfl
      rotate_left
      ·simp only [Z_]
       rfl
      refine pure_ (i:=4) (N:=some 27) (v:=?_) (a':=?_) #[T_,T_,T_,T_,T_,F_,F_,F_,F_,F_,F_,F_,F_] rfl rfl (by kernel_rfl) (fun _ _ _ h=>h) (Or.inl ⟨by rfl,?_⟩) ?_ ?_
      rotate_left
      ·intro w'
       go_simp
       with_reducible rfl
      rotate_left
      ·simp only [Z_]
       rfl
      refine pure_ (i:=5) (N:=some 28) (v:=?_) (a':=?_) #[T_,T_,T_,T_,T_,T_,F_,F_,F_,F_,F_,F_,F_] rfl rfl (by kernel_rfl) (fun _ _ _ h=>h) (Or.inl ⟨by rfl,?_⟩) ?_ ?_
      rotate_left
      ·intro w'
       go_simp
       with_reducible rfl
      rotate_left
      ·simp only [Z_]
       rfl
      refine pure_ (i:=6) (N:=some 29) (v:=?_) (a':=?_) #[T_,T_,T_,T_,T_,T_,T_,F_,F_,F_,F_,F_,F_] rfl rfl (by kernel_rfl) (fun _ _ _ h=>h) (Or.inl ⟨by rfl,?_⟩) ?_ ?_
      rotate_left
      ·intro w'
       have hfs:=full_slice (P:=Try.prog) (w:=w') 26 3 Try.underlying26 (by kernel_rfl) A set.length c HL.out
       go_simp
       with_reducible rfl
      rotate_left
      ·simp only [Z_]
       rfl
      refine pure_ (i:=7) (N:=some 30) (v:=?_) (a':=?_) #[T_,T_,T_,T_,T_,T_,T_,T_,F_,F_,F_,F_,F_] rfl rfl (by kernel_rfl) (fun _ _ _ h=>h) (Or.inl ⟨by rfl,?_⟩) ?_ ?_
      rotate_left
      ·intro w'
       go_simp
       with_reducible rfl
      rotate_left
      ·simp only [Z_]
       rfl
      refine pure_ (i:=10) (N:=some 33) (v:=?_) (a':=?_) #[T_,T_,T_,T_,T_,T_,T_,T_,F_,F_,T_,F_,F_] rfl rfl (by kernel_rfl) (fun _ _ _ h=>h) (Or.inl ⟨by rfl,?_⟩) ?_ ?_
      rotate_left
      ·intro w'
       go_simp
       with_reducible rfl
      rotate_left
      ·simp only [Z_]
       rfl
      refine pure_ (i:=11) (N:=some 34) (v:=?_) (a':=?_) #[T_,T_,T_,T_,T_,T_,T_,T_,F_,F_,T_,T_,F_] rfl rfl (by kernel_rfl) (fun _ _ _ h=>h) (Or.inl ⟨by rfl,?_⟩) ?_ ?_
      rotate_left
      ·intro w'
       go_simp
       with_reducible rfl
      rotate_left
      ·simp only [Z_]
       rfl
      refine one_ (i:=8) (N:=some 31) #[T_,T_,T_,T_,T_,T_,T_,T_,T_,F_,T_,T_,F_] rfl rfl (by kernel_rfl) (by decide) (fun K hK=>?_)
      refine value_ (w1:=?_) (v:=?_) (by rfl) rfl ?_ ?_
      rotate_left 2
      ·go_simp
       constructor
       ·rfl
       ·rfl
      refine hK.out _ _ ((blk_cell (blk_alloc n2_.out.2.2.2 _) 0).trans rfl) (fun hHeld=>?_)
      clear hK K
      refine norm_ (a':=?_) ?_ ?_
      rotate_left
      ·show Act.put _ (some 31) _ = _
       simp only [Z_]
       rfl
      refine one_ (i:=9) (N:=some 32) #[T_,T_,T_,T_,T_,T_,T_,T_,T_,T_,T_,T_,F_] rfl rfl (by kernel_rfl) (by decide) (fun K hK=>?_)
      refine grow_step (by rfl) (.tmp 29) (.tmp 31) 26 3 rfl Try.underlying26 info3 A set i1 rfl rfl (HC.out wd n3_.out) L6.out ?_
      intro v1 w1 hr hb
      have m1_:=Aside0.mk (HI.out _ _ _ n1_.out hb)
      have m2_:=Aside0.mk (impl_choices.J_kept n2_.out (Kept.of_below hb S) HS.out)
      have m3_:=Aside0.mk (n3_.out.below hb)
      have m4_:=Aside0.mk hr
      have hle:=Aside0.mk (Nat.le_trans HBA.out n3_.out.1)
      clear n1_ n2_ n3_ hHeld
      obtain ⟨Ao,co,rfl⟩:=Kd.R_slice hr
      clear hr
      refine hK.out _ _ ((blk_cell m2_.out.2.2.2 0).trans rfl) (fun hHeld=>?_)
      clear hK K
      refine norm_ (a':=?_) ?_ ?_
      rotate_left
      ·show Act.put _ (some 32) _ = _
       simp only [Z_]
       rfl
      refine last_ (i:=12) (N:=some 35) #[T_,T_,T_,T_,T_,T_,T_,T_,T_,T_,T_,T_,T_] rfl rfl (by kernel_rfl) (by decide) (fun K hK=>?_)
      have hcap:=Aside0.mk (Kd.R_reads' m4_.out).2.1
      refine goesV_ (ent_of Try.func132 (by kernel_rfl) rfl) #[.slice Ao (set ++ [i1]).length co,.int .i64 (wrap64 (i1 + 1))] (by rfl) rfl rfl rfl (by (try simp only [List.map_toArray,List.map_cons,List.map_nil]);first|done|rfl) ?_
      refine (IH.out k1 (by have:=HK1.out;omega) s1 (set ++ [i1]) (wrap64 (i1 + 1)) b1 s2 Ao co w1 (Nat.le_trans hle.out hb.size) m1_.out m2_.out (Kd.C_kept_own (Kd.R_mono (ok':=fun k_=>wd.heap.size ≤ k_) (Kd.R_bound m4_.out) (fun k_ hk=>hk.2.1)) (fun k_ hk hs=>by have:=HSB.out k_ hs;have:=hle.out;omega)) hcap.out A7.out).mono ?_
      rintro e w9 ⟨rfl,hi9,hk9⟩
      refine ⟨_,rfl,?_⟩
      refine hK.out _ _ ?_
      clear hK K
      refine norm_ (a':=?_) ?_ ?_
      rotate_left
      ·show Act.put _ (some 35) _ = _
       simp only [Z_]
       rfl
      refine done_ (by kernel_rfl) ?_
      have p1_:=Aside0.mk hi9
      have p2_:=Aside0.mk (impl_choices.J_kept m2_.out hk9 HS.out)
      have p3_:=Aside0.mk (m3_.out.then_ hk9 (fun _ h=>.inl h))
      clear hi9 hk9 m1_ m2_ m3_ m4_ hHeld hb
      cases b1 with
     |true =>
       have H:=H'.out
       simp only [if_true,Option.some.injEq,Prod.mk.injEq] at H
       obtain ⟨rfl,rfl⟩:=H
       go_wp2
       go_ret
       exact ⟨rfl,p1_.out,p3_.out⟩
     |false =>
       have H:=H'.out
       simp only [Bool.false_eq_true,if_false] at H
       have H2:=Aside0.mk H
       clear H
       go_wp2
       go_roundg k1
       case measure=>have:=HK1.out;omega
       case rel=>exact ⟨s2,wrap64 (i1 + 1),rfl,H2,⟨by have:=HK1.out;omega⟩,p1_,p2_,p3_⟩
     ·rw [if_neg c6] at H
      exact absurd H (by simp)
    ·rw [if_neg c5] at H
     have c5b0 : decide (i1 < n) = false:=decide_eq_false c5
     simp only [Option.some.injEq,Prod.mk.injEq] at H
     obtain ⟨rfl,rfl⟩:=H
     clear c5
     go_wp2
     go_ret
     exact ⟨rfl,HW.out,HK.out⟩
set_option maxHeartbeats 8000000 in
set_option maxRecDepth 100000 in
theorem impl_choices.calls {σ : Type} (V : Nat → σ → List Int → Option (Bool × σ)) (G : FuncId) (C : Array Value) (hent : Ent Try.prog G) (I : σ → World → Prop) (S : Nat → Prop) (hI : ∀ s w w',I s w → Below w.heap.size w w' → I s w')
  (hat : ∀ k s set b s' A c w,I s w → (∀ W',Kept w W' S → (Kd.int .i64).C W' A set.length set) → set.length ≤ c → V k s set = some (b,s') → Calls Try.prog G (#[.slice A set.length c] ++ C) w fun e w'=>e = .returned (.bool b) ∧ I s' w' ∧ Kept w w' S)
  (k : Nat) (s : σ) (n kk : Int) (b : Bool) (s' : σ) (w : World) (hi : I s w) (hSb : ∀ k,S k → k < w.heap.size) (h : impl_choices.f V k s n kk = some (b,s')) :
  Calls Try.prog 89 #[.int .i64 n,.int .i64 kk,.func (.func G) #[] C] w fun e w'=>e = .returned (.bool b) ∧ I s' w' ∧ Kept w w' S:=by
 (have HB:=Aside0.mk (Below.refl w.heap.size w));(have HAT:=Aside0.mk hat);(have HI:=Aside0.mk hI);(have HE:=Aside0.mk hent);(have HSB:=Aside0.mk hSb);(have HW:=Aside0.mk hi);(have H':=Aside0.mk h);(have hmf : ∀ (fn : Fn) (first cap : Array Value) (w : World),(Instr.makeFunc fn first cap).run Try.prog w = .ok (.func fn first cap) w:=fun _ _ _ _=>rfl);(clear hat hI hent hSb hi h);(go_enter Try.func89,Try.ntmps89)
 go_wp2_with (first
 |((with_reducible refine gate_dst (N:=3) rfl ?_);refine box_event ?hg (N:=3) ?hd (cs:=#[.int .i64 n]) (t:=3) ?hr ?_;(case hd=>rfl);(case hg=>rfl);(case hr=>first|(go_simp;done)|(go_simp;rfl));intro bn hbn w1 hbx hb;have B1:=Aside0.mk (below_step HB.out hb);have K1:=Aside0.mk hbx;have Z1:=Aside0.mk (show w.heap.size ≤ bn by rw [hbn];exact HB.out.size);clear HB hbx hb hbn)
 |((with_reducible refine gate_dst (N:=4) rfl ?_);refine box_event ?hg (N:=4) ?hd (cs:=#[.int .i64 kk]) (t:=3) ?hr ?_;(case hd=>rfl);(case hg=>rfl);(case hr=>first|(go_simp;done)|(go_simp;rfl));intro bk hbn w2 hbx hb;have B2:=Aside0.mk (below_step B1.out hb);have K12:=Aside0.mk (blk_below K1.out hb);have K2:=Aside0.mk hbx;have Z2:=Aside0.mk (show w.heap.size ≤ bk by rw [hbn];exact B1.out.size);clear B1 K1 hbx hb hbn)
 |((with_reducible refine gate_dst (N:=5) rfl ?_);refine box_event ?hg (N:=5) ?hd (cs:=#[.func (.func G) #[] C]) (t:=93) ?hr ?_;(case hd=>rfl);(case hg=>rfl);(case hr=>first|(go_simp;done)|(go_simp;rfl));intro bv hbn w3 hbx hb;have B3:=Aside0.mk (below_step B2.out hb);have K13:=Aside0.mk (blk_below K12.out hb);have K23:=Aside0.mk (blk_below K2.out hb);have K3:=Aside0.mk hbx;have Z3:=Aside0.mk (show w.heap.size ≤ bv by rw [hbn];exact B2.out.size);clear B2 K12 K2 hbx hb hbn)
 |((with_reducible refine gate_dst (N:=7) rfl ?_);refine box_event ?hg (N:=7) ?hd (cs:=#[.nilFunc]) (t:=66) ?hr ?_;(case hd=>rfl);(case hg=>rfl);(case hr=>kernel_rfl);intro bg hbn w4 hbx hb;have B4:=Aside0.mk (below_step B3.out hb);have K14:=Aside0.mk (blk_below K13.out hb);have K24:=Aside0.mk (blk_below K23.out hb);have K34:=Aside0.mk (blk_below K3.out hb);have K4:=Aside0.mk hbx;have Z4:=Aside0.mk (show w.heap.size ≤ bg by rw [hbn];exact B3.out.size);have N4:=Aside0.mk (show bn ≠ bg ∧ bk ≠ bg ∧ bv ≠ bg by (have l1:=blk_lt K13.out;have l2:=blk_lt K23.out;have l3:=blk_lt K3.out;omega));have hc4 : w4.cell? ⟨bg,0,none⟩ = some .nilFunc:=(blk_cell hbx 0).trans rfl;have hf4:=blk_frozen hbx 0;clear B3 K13 K23 K3 hbx hb hbn)
 |fail)
 (have B5:=Aside0.mk (below_set (j:=0) (v:=(.func (.func 132) #[] #[.pointer (some ⟨bk,0,none⟩),.pointer (some ⟨bv,0,none⟩),.pointer (some ⟨bn,0,none⟩),.pointer (some ⟨bg,0,none⟩)])) B4.out Z4.out));(have J5 : Aside0 (impl_choices.J G C n kk bk bv bn bg (w4.setCell ⟨bg,0,none⟩ (.func (.func 132) #[] #[.pointer (some ⟨bk,0,none⟩),.pointer (some ⟨bv,0,none⟩),.pointer (some ⟨bn,0,none⟩),.pointer (some ⟨bg,0,none⟩)]))):=⟨(blk_far K24.out N4.out.2.1 _),(blk_far K34.out N4.out.2.2 _),(blk_far K14.out N4.out.1 _),(blk_put K4.out 0 _ rfl)⟩);(refine (impl_choices.gcalls V G C HE.out I S HI.out HAT.out n kk bk bv bn bg w.heap.size ⟨fun hs=>by have:=HSB.out _ hs;have:=Z2.out;omega,fun hs=>by have:=HSB.out _ hs;have:=Z3.out;omega,fun hs=>by have:=HSB.out _ hs;have:=Z1.out;omega,fun hs=>by have:=HSB.out _ hs;have:=Z4.out;omega⟩ HSB.out k s [] 0 b s' none 0 _ B5.out.size (HI.out s w _ HW.out B5.out) J5.out (fun W' _=>Kd.C_nil _ W') (Nat.le_refl _) H'.out).mono ?_);(rintro e w9 ⟨rfl,hi9,hk9⟩);(have n0_:=Aside0.mk hi9);(have n1_:=Aside0.mk ((Kept.of_below B5.out S).then_ hk9 (fun _ h=>.inl h)));(clear hi9 hk9 B5 J5 K14 K24 K34 K4 hc4 hf4);(go_wp2);(go_ret);(exact ⟨rfl,n0_.out,n1_.out⟩)
def impl_InGeneralPosition.v0 (l0 : List (List Int)) (set : List Int) : Nat → List (List Int) → Int → Option (List (List Int))
|0,_,_=>none
|k + 1,acc,i=>if i < (set.length : Int) then (if 0 ≤ i then (if 0 ≤ rd set i then (if rd set i < (l0.length : Int) then (if (rd_L1 l0 (rd set i)).length < 17592186044415 then (if acc.length < 5864062014805 then impl_InGeneralPosition.v0 l0 set k (acc ++ [[1] ++ rd_L1 l0 (rd set i)]) (wrap64 (i + 1)) else none) else none) else none) else none) else none) else some acc
def impl_InGeneralPosition.v (l0 : List (List Int)) (kk : Int) (k : Nat) (s : Unit) (set : List Int) : Option (Bool × Unit) :=
 (impl_InGeneralPosition.v0 l0 set k [] 0).bind fun vs=>(if 0 < (vs.length : Int) then ((impl_reduced.f k vs ((rd_L1 vs 0).length : Int)).bind fun bt=>some (decide ((bt.1.length : Int) < kk),s)) else none)
def impl_InGeneralPosition.I (w0 : World) (A0 : Option Addr) (c0 : Nat) (l0 : List (List Int)) (kk : Int) (bp bk : Nat) (_ : Unit) (w : World) : Prop :=
 Below w0.heap.size w0 w ∧ w.heap[bp]? = some (.cells #[.slice A0 l0.length c0] 25 (0,0)) ∧ w.heap[bk]? = some (.cells #[.int .i64 kk] 3 (0,0))
theorem impl_InGeneralPosition.I_below {w0 : World} {A0 : Option Addr} {c0 : Nat} {l0 : List (List Int)} {kk : Int} {bp bk : Nat} {s : Unit} {w w' : World} (h : impl_InGeneralPosition.I w0 A0 c0 l0 kk bp bk s w) (hb : Below w.heap.size w w') : impl_InGeneralPosition.I w0 A0 c0 l0 kk bp bk s w' :=
 ⟨below_step h.1 hb,blk_below h.2.1 hb,blk_below h.2.2 hb⟩
set_option maxHeartbeats 8000000 in
set_option maxRecDepth 100000 in
theorem impl_InGeneralPosition.vcalls (w0 : World) (A0 : Option Addr) (c0 : Nat) (l0 : List (List Int)) (hr0 : Kd.C (Kd.slice 3 (Kd.int .i64)) w0 A0 l0.length l0) (kk : Int) (bp bk : Nat)
  (k : Nat) (s : Unit) (set : List Int) (b : Bool) (s' : Unit) (A : Option Addr) (c : Nat) (w : World) (hi : impl_InGeneralPosition.I w0 A0 c0 l0 kk bp bk s w) (hset : ∀ W',Kept w W' (fun _=>False) → (Kd.int .i64).C W' A set.length set) (hc : set.length ≤ c) (h : impl_InGeneralPosition.v l0 kk k s set = some (b,s')) :
  Calls Try.prog 90 (#[.slice A set.length c] ++ #[.pointer (some ⟨bp,0,none⟩),.pointer (some ⟨bk,0,none⟩)]) w fun e w'=>e = .returned (.bool b) ∧ impl_InGeneralPosition.I w0 A0 c0 l0 kk bp bk s' w' ∧ Kept w w' (fun _=>False):=by
 (have HR0:=Aside0.mk hr0);(have HW:=Aside0.mk hi);(have HS:=Aside0.mk hset);(have HB:=Aside0.mk (Below.refl w.heap.size w));(unfold impl_InGeneralPosition.v at h);(obtain ⟨vs,A10,H⟩:=Option.bind_eq_some_iff.mp h);(have HF:=Aside0.mk H);(clear hr0 hi hset hc h H);(obtain ⟨y0,hy0⟩ : ∃ y_ : List (List Int),y_ = ([] : List (List Int)):=⟨_,rfl⟩);(rw [← hy0] at A10);(have NY:=Aside0.mk hy0);(have H':=Aside0.mk A10);(clear hy0 A10);(go_enter Try.func90,Try.ntmps90);(go_wp2_with (first|((with_reducible refine gate_dst (N:=8) rfl ?_);refine Kd.S_lit (Kd.slice 3 (Kd.int .i64)) _ 26 ?hg (N:=8) ?hd (xs:=([] : List (List Int))) (inner:=[]) (ok:=fun _=>True) (okp:=fun _=>True) ?hr ?hp (fun _ hk=>hk) trivial (Below.refl _ _) (Nat.le_refl _) (by simp) ?_;(case hd=>rfl);(case hg=>rfl);(case hr=>first|(go_simp;done)|(go_simp;rfl));(case hp=>exact (Reps.none _ _));intro v11 w2 ho3 hb hg_ hnew_;clear hg_ hnew_;rw [← NY.out] at ho3;have n0_:=Aside0.mk (Kd.S_lower ho3 (below_size HB.out));have n1_:=Aside0.mk (below_step HB.out hb);clear HB;have HOv:=n0_;have HB:=n1_;clear n0_ n1_;clear hb ho3)));(go_loopg [5,11] k (fun kq v5 v11 w'=>∃ (acc : List (List Int)) (i : Int),v11 = .int .i64 i ∧ Aside0 (impl_InGeneralPosition.v0 l0 set kq acc i = some vs) ∧ Aside0 (kq ≤ k) ∧ Aside0 (Kd.S (Kd.slice 3 (Kd.int .i64)) 26 w' w.heap.size (fun _=>True) v5 acc) ∧ Aside0 (Below w.heap.size w w')));(case atStart=>exact ⟨y0,0,rfl,H',⟨Nat.le_refl _⟩,HOv,HB⟩)
 case round =>
  (clear H' HOv NY HB);(obtain ⟨acc,i,rfl,HA,HK1,HOv,HB⟩:=hrel)
  cases gk with
 |zero=>exact absurd HA.out (by simp [impl_InGeneralPosition.v0])
 |succ k1 =>
   (have H:=HA.out);(clear HA);(simp only [impl_InGeneralPosition.v0] at H);(by_cases c1 : i < (set.length : Int))
   ·(rw [if_pos c1] at H);(have c1b : decide (i < (set.length : Int)) = true:=decide_eq_true c1);(by_cases c2 : 0 ≤ i)
    ·(rw [if_pos c2] at H);(by_cases c3 : 0 ≤ rd set i)
     ·(rw [if_pos c3] at H);(by_cases c4 : rd set i < (l0.length : Int))
      ·(rw [if_pos c4] at H);(by_cases c5 : (rd_L1 l0 (rd set i)).length < 17592186044415)
       ·(rw [if_pos c5] at H);(by_cases c6 : acc.length < 5864062014805)
        ·(rw [if_pos c6] at H);(have L5:=Aside0.mk c5);(have L6:=Aside0.mk c6);(clear c5 c6);(obtain ⟨yr,hyr⟩ : ∃ y_ : List Int,y_ = [1] ++ rd_L1 l0 (rd set i):=⟨_,rfl⟩);(rw [← hyr] at H);(obtain ⟨y1,hy1⟩ : ∃ y_ : List (List Int),y_ = acc ++ [yr]:=⟨_,rfl⟩);(rw [← hy1] at H);(have NY:=Aside0.mk hy1);(have NR:=Aside0.mk hyr);(have H':=Aside0.mk H);(clear H hy1 hyr);(obtain ⟨ad,ea,hx⟩:=Kd.at_int (HS.out wr (Kept.of_below HB.out _)) i c2 c1);(cases ea);(have HI:=Aside0.mk (impl_InGeneralPosition.I_below HW.out HB.out));(have hz0 : wr.cell? ⟨bp,0,none⟩ = some (.slice A0 l0.length c0):=(blk_cell HI.out.2.1 0).trans rfl);(obtain ⟨ad2,A2,cc2,ea2,hx2,hl2,hi2⟩:=at_L1 HR0.out (rd set i) c3 c4);(cases ea2);(replace hx2:=(HI.out.1.cell (World.block_lt_of_cell? w0 _ hx2)).trans hx2);(have HR2:=Aside0.mk (Kd.C_below hi2 HI.out.1));(have p1:=eq_true c2);(have p2:=eq_true c1);(have p3:=eq_true c3);(have p4:=eq_true c4);(clear c1 c2 c3 c4 hl2 hi2)
         go_wp2_with (first
         |((with_reducible refine gate_dst (N:=16) rfl ?_);refine Kd.R_lit (Kd.int .i64) _ 3 ?hg (N:=16) ?hd (xs:=([1] : List Int)) (inner:=[.int .i64 1]) (ok:=fun _=>True) (okp:=fun _=>True) ?hr ?hp (fun _ hk=>hk) trivial (Below.refl _ _) (Nat.le_refl _) (by simp) ?_;(case hd=>rfl);(case hg=>rfl);(case hr=>first|(go_simp;done)|(go_simp;rfl));(case hp=>exact (Reps.one (show Kd.M (Kd.int .i64) _ _ _ 1 [.int .i64 1] from rfl) (Reps.none _ _)));intro v16 w16 ho9 hb hg_ hnew_;clear hg_ hnew_;have n0_:=Aside0.mk (Kd.S_elder' HOv.out (Kd.R_base ho9) hb);have n2_:=Aside0.mk (Kd.R_lower ho9 (below_size HB.out));have n3_:=Aside0.mk (below_step HB.out hb);have n4_:=Aside0.mk (Kd.C_below HR2.out hb);have n5_:=Aside0.mk (impl_InGeneralPosition.I_below HI.out hb);have hz0' : w16.cell? ⟨bp,0,none⟩ = some (.slice (some ad2) l0.length c0):=(blk_cell n5_.out.2.1 0).trans rfl;have hx2':=(hb.cell (World.block_lt_of_cell? wr _ hx2)).trans hx2;clear HOv HB HR2 HI hb ho9 hz0 hx2;have HOv:=n0_;have HOt:=n2_;have HB:=n3_;have HR2:=n4_;have HI:=n5_;clear n0_ n2_ n3_ n4_ n5_)
         |((with_reducible refine gate_builtin (b:=.append) (xs:=#[.tmp 16,.tmp 20]) rfl ?_);at_builtin;refine Kd.R_append_rows (Kd.int .i64) (w0:=w) w.heap.size rfl (.tmp 16) (.tmp 20) 26 3 (.int .i64 0) 8 rfl Try.underlying26 info3 rfl (by decide) (by omega) v16 ([1] : List Int) (rd_L1 l0 (rd set i)) _ _ _ (fun k_=>True ∧ some k_ ≠ (u5 : Value).ownBlock) (fun _=>False) rfl rfl ?aO ?aR (fun _ _ h=>h) (fun _ h=>h.elim) ?aF ?aB ?aS ?aL ?_;(case aR=>exact HR2.out);(case aB=>exact HB.out);(case aF=>exact (fun k_ hk=>⟨trivial,Kd.fresh' (Kd.S_lt HOv.out) k_ hk⟩));(case aO=>exact Kd.R_apart' HOt.out (Kd.S_typed HOv.out) (by decide));(case aS=>exact (below_size HB.out));(case aL=>have:=L5.out;simp only [List.length_singleton];omega);intro v21 w21 ho hb hg hat;rw [← NR.out] at ho;have n0_:=Aside0.mk hb;have n1_:=Aside0.mk ho;have n2_:=Aside0.mk (Kd.S_after (ok:=fun _=>True) HOv.out hg hat);clear HB HOt HOv;have HB:=n0_;have HOt:=n1_;have HOv:=n2_;clear n0_ n1_ n2_;clear ho hb hg hat;obtain ⟨Ao,co,eo⟩:=Kd.R_slice HOt.out;subst eo)
         |((with_reducible refine gate_builtin (b:=.append) (xs:=#[.tmp 15,.tmp 22]) rfl ?_);at_builtin;refine Kd.S_append (Kd.slice 3 (Kd.int .i64)) (w0:=w) w.heap.size rfl (.tmp 15) (.tmp 22) 25 26 (.slice none 0 0) 24 rfl Try.underlying25 info26 rfl (by decide) (by omega) u5 acc yr [.slice Ao yr.length co] (fun _=>True) (fun k_=>some k_ = (.slice Ao yr.length co : Value).ownBlock) rfl rfl ?aP (fun k_ hk_=>(Kd.R_apart' (HOt.out) (Kd.S_typed HOv.out) (by decide)).1 k_ hk_.symm |>.imp_left fun _=>trivial) ?aF ?aO ?aB ?aS ?aL ?_;(case aP=>exact Kd.M_row (Kd.R_mono (Kd.R_tight rfl HOt.out) (fun _ h_=>h_)));(case aB=>exact HB.out);(case aF=>exact (fun _ _=>trivial));(case aO=>exact Kd.S_mono HOv.out (fun k_ hk=>⟨trivial,fun e_=>hk.2 e_⟩));(case aS=>exact (below_size HB.out));(case aL=>have:=L6.out;omega);intro v23 w25 ho hb hg hat;rw [← NY.out] at ho;have n0_:=Aside0.mk (hb);have n1_:=Aside0.mk (ho);clear HB HOv HOt;have HB:=n0_;have HOv:=n1_;clear n0_ n1_;clear ho hb hg hat))
         (go_roundg k1);(case measure=>have:=HK1.out;omega);(case rel=>exact ⟨y1,wrap64 (i + 1),rfl,H',⟨by have:=HK1.out;omega⟩,HOv,HB⟩)
        ·(rw [if_neg c6] at H);(exact absurd H (by simp))
       ·(rw [if_neg c5] at H);(exact absurd H (by simp))
      ·(rw [if_neg c4] at H);(exact absurd H (by simp))
     ·(rw [if_neg c3] at H);(exact absurd H (by simp))
    ·(rw [if_neg c2] at H);(exact absurd H (by simp))
   ·(rw [if_neg c1] at H);(have c1b : decide (i < (set.length : Int)) = false:=decide_eq_false c1);(obtain rfl:=Option.some.inj H);(clear H c1);(have H:=HF.out);(by_cases c2 : 0 < (acc.length : Int));(·(rw [if_pos c2] at H);(obtain ⟨⟨pv,rr⟩,A20,H⟩:=Option.bind_eq_some_iff.mp H);(have A2:=Aside0.mk A20);(have hbv2 : decide ((pv.length : Int) < kk) = b:=congrArg Prod.fst (Option.some.inj H));(have HBV:=Aside0.mk hbv2);(clear A20 hbv2 H);(obtain ⟨Av,cv,ev⟩:=Kd.S_slice HOv.out);(subst ev);(have HI:=Aside0.mk (impl_InGeneralPosition.I_below HW.out HB.out));(have hzk : wr.cell? ⟨bk,0,none⟩ = some (.int .i64 kk):=(blk_cell HI.out.2.2 0).trans rfl);(obtain ⟨ad,A1,c1_,ea,hx,hl,hi⟩:=at_L1 (Kd.S_reads' HOv.out).2.2 0 (by omega) c2);(cases ea);(have qi : (0 < acc.length) = True:=eq_true (by omega));(try rw [show ((0 : Int)).toNat = 0 from rfl] at hx);(try rw [Addr.add_zero'] at hx);(have c2t:=eq_true c2);(have c2b : decide (0 < (acc.length : Int)) = true:=decide_eq_true c2);(clear hl hi c2);(go_wp2);(refine start_ (n:=10) (S:=fun w'=>w'.cell? ad = some (.slice A1 (rd_L1 acc 0).length c1_) ∧ w'.cell? ⟨bk,0,none⟩ = some (.int .i64 kk)) (ds:=[5]) #[F_,F_,F_,F_,F_,F_,F_,F_,F_,F_] (by kernel_rfl) rfl rfl ⟨hx,hzk⟩ (fun hHeld=>?_));(have n1_:=Aside0.mk (Kd.S_drewN HOv.out 1));(have n2_:=Aside0.mk (pw_below_drewN HB.out 1));(have n3_:=Aside0.mk (impl_InGeneralPosition.I_below HI.out (pw_below_drewN (Below.refl _ _) 1)));(clear HOv HB HI hx hzk);(obtain ⟨wd,hwd⟩ : ∃ wd : World,wr.drew = wd:=⟨_,rfl⟩);(have hwe : wr.drewN 1 = wd:=hwd);(rw [hwe] at n1_ n2_ n3_);(rw [hwd] at hHeld ⊢);(clear hwe hwd);(have HOv:=n1_);(have HB:=n2_);(have HI:=n3_);(clear n1_ n2_ n3_);(obtain ⟨hx,hzk⟩:=hHeld);(have hHeld:=And.intro hx hzk);(refine pure_ (i:=0) (N:=some 25) (v:=?_) (a':=?_) #[T_,F_,F_,F_,F_,F_,F_,F_,F_,F_] rfl rfl (by kernel_rfl) (fun _ _ _ h=>h) (Or.inl ⟨by rfl,?_⟩) ?_ ?_);(rotate_left);(·(intro w');(go_simp);(with_reducible rfl));(rotate_left);(·(simp only [Z_]);(rfl));(refine pure_ (i:=1) (N:=some 26) (v:=?_) (a':=?_) #[T_,T_,F_,F_,F_,F_,F_,F_,F_,F_] rfl rfl (by kernel_rfl) (fun _ _ _ h=>h) (Or.inl ⟨by rfl,?_⟩) ?_ ?_);(rotate_left);(·(intro w');(go_simp);(with_reducible rfl));(rotate_left);(·(simp only [Z_]);(rfl));(refine pure_ (i:=2) (N:=some 27) (v:=?_) (a':=?_) #[T_,T_,T_,F_,F_,F_,F_,F_,F_,F_] rfl rfl (by kernel_rfl) (fun _ _ _ h=>h) (Or.inl ⟨by rfl,?_⟩) ?_ ?_);(rotate_left);(·(intro w');(go_simp);(with_reducible rfl));(rotate_left);(·(simp only [Z_]);(rfl));(refine take_ (i:=3) (N:=some 28) (v:=?_) (a':=?_) #[T_,T_,T_,T_,F_,F_,F_,F_,F_,F_] rfl rfl (by kernel_rfl) (fun _ _ _ h=>h) (Or.inl ⟨by rfl,?_⟩) hHeld ?_ ?_);(rotate_left);(·(rintro w' ⟨s0,s1⟩);(go_simp);(with_reducible rfl));(rotate_left);(·(simp only [Z_]);(rfl));(refine pure_ (i:=4) (N:=some 29) (v:=?_) (a':=?_) #[T_,T_,T_,T_,T_,F_,F_,F_,F_,F_] rfl rfl (by kernel_rfl) (fun _ _ _ h=>h) (Or.inl ⟨by rfl,?_⟩) ?_ ?_);(rotate_left);(·(intro w');(go_simp);(with_reducible rfl));(rotate_left);(·(simp only [Z_]);(rfl));(refine split_ (i:=5) (j:=7) (Ni:=some 30) (Nj:=some 32) (v:=?_) #[T_,T_,T_,T_,T_,T_,F_,F_,F_,F_] #[T_,T_,T_,T_,T_,F_,F_,T_,F_,F_] rfl rfl rfl rfl (by kernel_rfl) (by decide) (fun K hK=>?_) (by rfl) ?_ ?_);(rotate_left);(·(have HO2:=Aside0.mk (Kd.S_mono (ok':=fun k_=>w.heap.size ≤ k_) (Kd.S_bound HOv.out) (fun k_ hk=>hk.2.1)));(refine goes_ Try.func91 (by kernel_rfl) rfl #[.slice (some ad) acc.length cv,.int .i64 ((rd_L1 acc 0).length : Int)] (by rfl) rfl rfl (by (try simp only [List.map_toArray,List.map_cons,List.map_nil]);first|done|rfl) ?_);(with_reducible refine (impl_reduced.calls k (fun k_=>w.heap.size ≤ k_) _ acc _ pv rr w _ HB.out HO2.out A2.out).mono ?_);(rintro e w9 ⟨v9,rfl,hr9,_,hb9,_⟩);(refine ⟨_,rfl,?_⟩);(have HB9:=Aside0.mk hb9);(have HI9:=Aside0.mk (impl_InGeneralPosition.I_below HW.out hb9));(have hzk9 : w9.cell? ⟨bk,0,none⟩ = some (.int .i64 kk):=(blk_cell HI9.out.2.2 0).trans rfl);(obtain ⟨Ap,cp,rfl⟩:=Kd.R_slice hr9);(clear hr9 hb9 hHeld hx hzk);(refine hK _ _ ?_);(clear hK K);(refine norm_ (a':=?_) ?_ ?_);(rotate_left);(·(show Act.put _ (some 30) _ = _);(simp only [Z_]);(rfl));(refine pure_ (i:=6) (N:=some 31) (v:=?_) (a':=?_) #[T_,T_,T_,T_,T_,T_,T_,F_,F_,F_] rfl rfl (by kernel_rfl) (fun _ _ _ h=>h) (Or.inl ⟨by rfl,?_⟩) ?_ ?_);(rotate_left);(·(intro w');(go_simp);(with_reducible rfl));(rotate_left);(·(simp only [Z_]);(rfl));(refine here_ (i:=7) (N:=some 32) (v:=?_) #[T_,T_,T_,T_,T_,T_,T_,T_,F_,F_] rfl rfl (by kernel_rfl) (by rfl) ?_ ?_);(rotate_left);(·(go_simp);(rfl));(refine norm_ (a':=?_) ?_ ?_);(rotate_left);(·(simp only [Z_]);(rfl));(refine pure_ (i:=8) (N:=some 33) (v:=?_) (a':=?_) #[T_,T_,T_,T_,T_,T_,T_,T_,T_,F_] rfl rfl (by kernel_rfl) (fun _ _ _ h=>h) (Or.inl ⟨by rfl,?_⟩) ?_ ?_);(rotate_left);(·(intro w');(go_simp);(with_reducible rfl));(rotate_left);(·(simp only [Z_]);(rfl));(refine pure_ (i:=9) (N:=some 4) (v:=?_) (a':=?_) #[T_,T_,T_,T_,T_,T_,T_,T_,T_,T_] rfl rfl (by kernel_rfl) (fun _ _ _ h=>h) (Or.inl ⟨by rfl,?_⟩) ?_ ?_);(rotate_left);(·(intro w');(go_simp);(with_reducible rfl));(rotate_left);(·(simp only [Z_]);(rfl));(refine done_ (by kernel_rfl) ?_);(have hbt:=HBV.out);(try rw [hbt]);(go_wp2);(go_ret);(exact ⟨by first|rfl|(rw [HBV.out]),HI9.out,Kept.of_below HB9.out _⟩));(·(go_simp);(rfl));(·(refine norm_ (a':=?_) ?_ ?_);(rotate_left);(·(simp only [Z_]);(rfl));(refine last_ (i:=5) (N:=some 30) #[T_,T_,T_,T_,T_,T_,F_,T_,F_,F_] rfl rfl (by kernel_rfl) (by decide) (fun K hK=>?_));(have HO2:=Aside0.mk (Kd.S_mono (ok':=fun k_=>w.heap.size ≤ k_) (Kd.S_bound HOv.out) (fun k_ hk=>hk.2.1)));(refine goes_ Try.func91 (by kernel_rfl) rfl #[.slice (some ad) acc.length cv,.int .i64 ((rd_L1 acc 0).length : Int)] (by rfl) rfl rfl (by (try simp only [List.map_toArray,List.map_cons,List.map_nil]);first|done|rfl) ?_);(with_reducible refine (impl_reduced.calls k (fun k_=>w.heap.size ≤ k_) _ acc _ pv rr w _ HB.out HO2.out A2.out).mono ?_);(rintro e w9 ⟨v9,rfl,hr9,_,hb9,_⟩);(refine ⟨_,rfl,?_⟩);(have HB9:=Aside0.mk hb9);(have HI9:=Aside0.mk (impl_InGeneralPosition.I_below HW.out hb9));(have hzk9 : w9.cell? ⟨bk,0,none⟩ = some (.int .i64 kk):=(blk_cell HI9.out.2.2 0).trans rfl);(obtain ⟨Ap,cp,rfl⟩:=Kd.R_slice hr9);(clear hr9 hb9 hHeld hx hzk);(refine hK _ _ ?_);(clear hK K);(refine norm_ (a':=?_) ?_ ?_);(rotate_left);(·(show Act.put _ (some 30) _ = _);(simp only [Z_]);(rfl));(refine pure_ (i:=6) (N:=some 31) (v:=?_) (a':=?_) #[T_,T_,T_,T_,T_,T_,T_,T_,F_,F_] rfl rfl (by kernel_rfl) (fun _ _ _ h=>h) (Or.inl ⟨by rfl,?_⟩) ?_ ?_);(rotate_left);(·(intro w');(go_simp);(with_reducible rfl));(rotate_left);(·(simp only [Z_]);(rfl));(refine pure_ (i:=8) (N:=some 33) (v:=?_) (a':=?_) #[T_,T_,T_,T_,T_,T_,T_,T_,T_,F_] rfl rfl (by kernel_rfl) (fun _ _ _ h=>h) (Or.inl ⟨by rfl,?_⟩) ?_ ?_);(rotate_left);(·(intro w');(go_simp);(with_reducible rfl));(rotate_left);(·(simp only [Z_]);(rfl));(refine pure_ (i:=9) (N:=some 4) (v:=?_) (a':=?_) #[T_,T_,T_,T_,T_,T_,T_,T_,T_,T_] rfl rfl (by kernel_rfl) (fun _ _ _ h=>h) (Or.inl ⟨by rfl,?_⟩) ?_ ?_);(rotate_left);(·(intro w');(go_simp);(with_reducible rfl));(rotate_left);(·(simp only [Z_]);(rfl));(refine done_ (by kernel_rfl) ?_);(have hbt:=HBV.out);(try rw [hbt]);(go_wp2);(go_ret);(exact ⟨by first|rfl|(rw [HBV.out]),HI9.out,Kept.of_below HB9.out _⟩)));(·(rw [if_neg c2] at H);(exact absurd H (by simp)))
def impl_InGeneralPosition.f (k : Nat) (l0 : List (List Int)) : Option (Bool × Bool):=(impl_areFew.f k l0).bind fun t=>(if t = true then (if (l0.length : Int) = 0 then some (true,true) else (if 0 < (l0.length : Int) then ((impl_choices.f (impl_InGeneralPosition.v l0 (mn (l0.length : Int) (wrap64 (((rd_L1 l0 0).length : Int) + 1)))) k () (l0.length : Int) (mn (l0.length : Int) (wrap64 (((rd_L1 l0 0).length : Int) + 1)))).bind fun t2=>some (!t2.1,true)) else none)) else some (false,false))
set_option maxHeartbeats 8000000 in
set_option maxRecDepth 100000 in
theorem impl_InGeneralPosition.calls (k : Nat) (A0 : Option Addr) (c0 : Nat) (l0 : List (List Int)) (r1 : Bool) (r2 : Bool) (w : World) (hr0 : Kd.C (Kd.slice 3 (Kd.int .i64)) w A0 l0.length l0) (hc0 : l0.length ≤ c0) (h : impl_InGeneralPosition.f k l0 = some (r1,r2)) :
  Calls Try.prog 29 #[.slice A0 l0.length c0] w fun e w'=>e = .returned (.tuple #[.bool r1,.bool r2]) ∧ Below w.heap.size w w':=by
 (have hmf : ∀ (fn : Fn) (first cap : Array Value) (w : World),(Instr.makeFunc fn first cap).run Try.prog w = .ok (.func fn first cap) w:=fun _ _ _ _=>rfl);(have HR0:=Aside0.mk hr0);(have HC0:=Aside0.mk hc0);(have HB:=Aside0.mk (Below.refl w.heap.size w));(unfold impl_InGeneralPosition.f at h);(obtain ⟨t,A10,H⟩:=Option.bind_eq_some_iff.mp h);(clear hr0 hc0 h)
 cases t with
|false =>
  have A1:=Aside0.mk A10
  simp only [Bool.false_eq_true,if_false,Option.some.injEq,Prod.mk.injEq] at H
  obtain ⟨rfl,rfl⟩:=H
  clear A10
  go_enter Try.func29,Try.ntmps29
  go_wp2_with (first
  |((with_reducible refine gate_dst (N:=1) rfl ?_);refine box_event ?hg (N:=1) ?hd (cs:=#[.slice A0 l0.length c0]) (t:=25) ?hr ?_;(case hd=>rfl);(case hg=>rfl);(case hr=>first|(go_simp;done)|(go_simp;rfl));intro bp hg w9 hbox hb;have B1:=Aside0.mk (below_step HB.out hb);have K1:=Aside0.mk hbox;have hz0 : w9.cell? ⟨bp,0,none⟩ = some (.slice A0 l0.length c0):=(blk_cell hbox 0).trans rfl;clear HB hb hbox hg)
  |((with_reducible refine gate_callee (f:=88) rfl ?_);refine goesL_ (some 6) rfl rfl Try.func88 (by kernel_rfl) rfl #[.slice A0 l0.length c0] rfl (by (try simp only [List.map_toArray,List.map_cons,List.map_nil]);first|done|rfl) ?_;(with_reducible refine (impl_areFew.calls _ _ _ l0 false _ ?s1 HC0.out A1.out).mono ?_);(case s1=>exact Kd.C_below HR0.out B1.out);rintro e w10 ⟨rfl,hb⟩;refine ⟨_,rfl,?_⟩;have B2:=Aside0.mk (below_step B1.out hb);have K2:=Aside0.mk (blk_below K1.out hb);have hz1 : w10.cell? ⟨bp,0,none⟩ = some (.slice A0 l0.length c0):=(blk_cell K2.out 0).trans rfl;clear B1 K1 hz0 hb)
  |fail)
  refine bodyPost_ret (v:=.tuple #[.bool false,.bool false]) (by simp [results,Try.results29,go_sem]) rfl ?_
  exact ⟨rfl,B2.out⟩
|true =>
  have A1:=Aside0.mk A10
  simp only [if_true] at H
  clear A10
  by_cases c1 : (l0.length : Int) = 0
  ·rw [if_pos c1] at H
   obtain ⟨rfl,rfl⟩ : true = r1 ∧ true = r2:=by simpa using H
   have hl0 : l0.length = 0:=by omega
   have c1b : (l0.length == 0) = true:=by simp [hl0]
   have c1d : ((l0.length : Int) == 0) = true:=by simp [hl0]
   have c1e : decide ((l0.length : Int) = 0) = true:=by simp [hl0]
   clear c1 H hl0
   go_enter Try.func29,Try.ntmps29
   go_wp2_with (first
   |((with_reducible refine gate_dst (N:=1) rfl ?_);refine box_event ?hg (N:=1) ?hd (cs:=#[.slice A0 l0.length c0]) (t:=25) ?hr ?_;(case hd=>rfl);(case hg=>rfl);(case hr=>first|(go_simp;done)|(go_simp;rfl));intro bp hg w9 hbox hb;have B1:=Aside0.mk (below_step HB.out hb);have K1:=Aside0.mk hbox;have hz0 : w9.cell? ⟨bp,0,none⟩ = some (.slice A0 l0.length c0):=(blk_cell hbox 0).trans rfl;clear HB hb hbox hg)
   |((with_reducible refine gate_callee (f:=88) rfl ?_);refine goesL_ (some 6) rfl rfl Try.func88 (by kernel_rfl) rfl #[.slice A0 l0.length c0] rfl (by (try simp only [List.map_toArray,List.map_cons,List.map_nil]);first|done|rfl) ?_;(with_reducible refine (impl_areFew.calls _ _ _ l0 true _ ?s1 HC0.out A1.out).mono ?_);(case s1=>exact Kd.C_below HR0.out B1.out);rintro e w10 ⟨rfl,hb⟩;refine ⟨_,rfl,?_⟩;have B2:=Aside0.mk (below_step B1.out hb);have K2:=Aside0.mk (blk_below K1.out hb);have hz1 : w10.cell? ⟨bp,0,none⟩ = some (.slice A0 l0.length c0):=(blk_cell K2.out 0).trans rfl;clear B1 K1 hz0 hb)
   |fail)
   refine bodyPost_ret (v:=.tuple #[.bool true,.bool true]) (by simp [results,Try.results29,go_sem]) rfl ?_
   exact ⟨rfl,B2.out⟩
  ·rw [if_neg c1] at H
   by_cases c2 : 0 < (l0.length : Int)
   ·rw [if_pos c2] at H
    obtain ⟨M,hM⟩ : ∃ M : Int,(if wrap64 (((rd_L1 l0 0).length : Int) + 1) < (l0.length : Int) then wrap64 (((rd_L1 l0 0).length : Int) + 1) else (l0.length : Int)) = M:=⟨_,rfl⟩
    rw [show mn (l0.length : Int) (wrap64 (((rd_L1 l0 0).length : Int) + 1)) = M from hM] at H
    have HM:=Aside0.mk hM
    obtain ⟨⟨b,s2⟩,A40,H⟩:=Option.bind_eq_some_iff.mp H
    have A4:=Aside0.mk A40
    obtain ⟨rfl,rfl⟩ : (!b) = r1 ∧ true = r2:=by simpa using H
    have c1b : (l0.length == 0) = false:=beq_eq_false_iff_ne.mpr (by omega)
    have c1c : ¬ l0 = []:=by rintro rfl;simp at c2
    have c1d : ((l0.length : Int) == 0) = false:=beq_eq_false_iff_ne.mpr c1
    have c1e : decide ((l0.length : Int) = 0) = false:=decide_eq_false c1
    obtain ⟨ad,A1_,c1_,ea,hx,hl,hi⟩:=at_L1 HR0.out 0 (by omega) c2
    cases ea
    have qi : (0 < l0.length) = True:=eq_true (by omega)
    (try rw [show ((0 : Int)).toNat = 0 from rfl] at hx)
    (try rw [Addr.add_zero'] at hx)
    have c2t:=eq_true c2
    have c2b : decide (0 < (l0.length : Int)) = true:=decide_eq_true c2
    have hAd:=Aside0.mk (World.block_lt_of_cell? w _ hx)
    have hX:=Aside0.mk hx
    clear hl hi c1 c2 A40 H hx hM
    go_enter Try.func29,Try.ntmps29
    go_wp2_with (first
    |((with_reducible refine gate_dst (N:=1) rfl ?_);refine box_event ?hg (N:=1) ?hd (cs:=#[.slice (some ad) l0.length c0]) (t:=25) ?hr ?_;(case hd=>rfl);(case hg=>rfl);(case hr=>first|(go_simp;done)|(go_simp;rfl));intro bp hg w9 hbox hb;have B1:=Aside0.mk (below_step HB.out hb);have K1:=Aside0.mk hbox;have hz0 : w9.cell? ⟨bp,0,none⟩ = some (.slice (some ad) l0.length c0):=(blk_cell hbox 0).trans rfl;clear HB hb hbox hg)
    |((with_reducible refine gate_callee (f:=88) rfl ?_);refine goesL_ (some 6) rfl rfl Try.func88 (by kernel_rfl) rfl #[.slice (some ad) l0.length c0] rfl (by (try simp only [List.map_toArray,List.map_cons,List.map_nil]);first|done|rfl) ?_;(with_reducible refine (impl_areFew.calls _ _ _ l0 true _ ?s1 HC0.out A1.out).mono ?_);(case s1=>exact Kd.C_below HR0.out B1.out);rintro e w10 ⟨rfl,hb⟩;refine ⟨_,rfl,?_⟩;have B2:=Aside0.mk (below_step B1.out hb);have K2:=Aside0.mk (blk_below K1.out hb);have hz1 : w10.cell? ⟨bp,0,none⟩ = some (.slice (some ad) l0.length c0):=(blk_cell K2.out 0).trans rfl;clear B1 K1 hz0 hb)
    |fail)
    have hx : w10.cell? ad = some (.slice A1_ (rd_L1 l0 0).length c1_):=(B2.out.cell hAd.out).trans hX.out
    refine start_ (n:=10) (S:=fun w'=>w'.cell? ad = some (.slice A1_ (rd_L1 l0 0).length c1_) ∧ w'.cell? ⟨bp,0,none⟩ = some (.slice (some ad) l0.length c0)) (ds:=[9]) #[F_,F_,F_,F_,F_,F_,F_,F_,F_,F_] (by kernel_rfl) rfl rfl ⟨hx,hz1⟩ (fun hHeld=>?_)
    have n2_:=Aside0.mk (pw_below_drewN B2.out 1)
    have n3_:=Aside0.mk (blk_below K2.out (pw_below_drewN (Below.refl _ _) 1))
    clear B2 K2 hx hz1
    obtain ⟨wd,hwd⟩ : ∃ wd : World,w10.drew = wd:=⟨_,rfl⟩
    have hwe : w10.drewN 1 = wd:=hwd
    rw [hwe] at n2_ n3_
    rw [hwd] at hHeld ⊢
    clear hwe hwd
    have B2:=n2_
    have K2:=n3_
    clear n2_ n3_
    obtain ⟨hx,hz1⟩:=hHeld
    have hHeld:=And.intro hx hz1
    refine take_ (i:=0) (N:=some 11) (v:=?_) (a':=?_) #[T_,F_,F_,F_,F_,F_,F_,F_,F_,F_] rfl rfl (by kernel_rfl) (fun _ _ _ h=>h) (Or.inl ⟨by rfl,?_⟩) hHeld ?_ ?_
    rotate_left
    ·rintro w' ⟨s0,s1⟩
     go_simp
     with_reducible rfl
    rotate_left
    ·simp only [Z_]
     rfl
    refine pure_ (i:=1) (N:=some 12) (v:=?_) (a':=?_) #[T_,T_,F_,F_,F_,F_,F_,F_,F_,F_] rfl rfl (by kernel_rfl) (fun _ _ _ h=>h) (Or.inl ⟨by rfl,?_⟩) ?_ ?_
    rotate_left
    ·intro w'
     go_simp
     with_reducible rfl
    rotate_left
    ·simp only [Z_]
     rfl
    refine take_ (i:=2) (N:=some 13) (v:=?_) (a':=?_) #[T_,T_,T_,F_,F_,F_,F_,F_,F_,F_] rfl rfl (by kernel_rfl) (fun _ _ _ h=>h) (Or.inl ⟨by rfl,?_⟩) hHeld ?_ ?_
    rotate_left
    ·rintro w' ⟨s0,s1⟩
     go_simp
     with_reducible rfl
    rotate_left
    ·simp only [Z_]
     rfl
    refine pure_ (i:=3) (N:=some 14) (v:=?_) (a':=?_) #[T_,T_,T_,T_,F_,F_,F_,F_,F_,F_] rfl rfl (by kernel_rfl) (fun _ _ _ h=>h) (Or.inl ⟨by rfl,?_⟩) ?_ ?_
    rotate_left
    ·intro w'
     go_simp
     with_reducible rfl
    rotate_left
    ·simp only [Z_]
     rfl
    refine take_ (i:=4) (N:=some 15) (v:=?_) (a':=?_) #[T_,T_,T_,T_,T_,F_,F_,F_,F_,F_] rfl rfl (by kernel_rfl) (fun _ _ _ h=>h) (Or.inl ⟨by rfl,?_⟩) hHeld ?_ ?_
    rotate_left
    ·rintro w' ⟨s0,s1⟩
     go_simp
     with_reducible rfl
    rotate_left
    ·simp only [Z_]
     rfl
    refine pure_ (i:=5) (N:=some 16) (v:=?_) (a':=?_) #[T_,T_,T_,T_,T_,T_,F_,F_,F_,F_] rfl rfl (by kernel_rfl) (fun _ _ _ h=>h) (Or.inl ⟨by rfl,?_⟩) ?_ ?_
    rotate_left
    ·intro w'
     go_simp
     with_reducible rfl
    rotate_left
    ·simp only [Z_]
     rfl
    refine pure_ (i:=6) (N:=some 17) (v:=?_) (a':=?_) #[T_,T_,T_,T_,T_,T_,T_,F_,F_,F_] rfl rfl (by kernel_rfl) (fun _ _ _ h=>h) (Or.inl ⟨by rfl,?_⟩) ?_ ?_
    rotate_left
    ·intro w'
     go_simp
     with_reducible rfl
    rotate_left
    ·simp only [Z_]
     rfl
    refine pure_ (i:=7) (N:=some 18) (v:=?_) (a':=?_) #[T_,T_,T_,T_,T_,T_,T_,T_,F_,F_] rfl rfl (by kernel_rfl) (fun _ _ _ h=>h) (Or.inl ⟨by rfl,?_⟩) ?_ ?_
    rotate_left
    ·intro w'
     go_simp
     with_reducible rfl
    rotate_left
    ·simp only [Z_]
     rfl
    refine one_ (i:=8) (N:=some 4) #[T_,T_,T_,T_,T_,T_,T_,T_,T_,F_] rfl rfl (by kernel_rfl) (by decide) (fun K hK=>?_)
    refine value_ (w1:=?_) (v:=?_) (by rfl) rfl ?_ ?_
    rotate_left 2
    ·go_simp
     constructor
     ·rfl
     ·rfl
    refine hK.out _ _ ⟨((below_alloc B2.out _).cell hAd.out).trans hX.out,(blk_cell (blk_alloc K2.out _) 0).trans rfl⟩ (fun hHeld=>?_)
    clear hK K
    refine norm_ (a':=?_) ?_ ?_
    rotate_left
    ·show Act.put _ (some 4) _ = _
     simp only [Z_]
     rfl
    refine last_ (i:=9) (N:=none) #[T_,T_,T_,T_,T_,T_,T_,T_,T_,T_] rfl rfl (by kernel_rfl) (by decide) (fun K hK=>?_)
    have N9:=Aside0.mk (blk_new wd (.cells #[.int .i64 0] 3 (0,0)))
    have hn9 : (wd.alloc (.cells #[.int .i64 0] 3 (0,0))).cell? ⟨wd.heap.size,0,none⟩ = some (.int .i64 0):=(blk_cell N9.out 0).trans rfl
    refine skip_ (w1:=?_) (by rfl) rfl ?_ ?_
    rotate_left
    ·go_simp
     rfl
    rw [HM.out]
    refine hK.out _ _ ?_
    clear hK K
    refine done_ (by kernel_rfl) ?_
    have HI : Aside0 (impl_InGeneralPosition.I w (some ad) c0 l0 M bp wd.heap.size () (wd.alloc (.cells #[.int .i64 M] 3 (0,0)))) :=
     ⟨⟨below_alloc B2.out _,blk_alloc K2.out _,blk_new wd _⟩⟩
    clear hHeld hx hz1 hn9 N9 B2 K2
    obtain ⟨W9,hW9⟩ : ∃ W9 : World,wd.alloc (.cells #[.int .i64 M] 3 (0,0)) = W9:=⟨_,rfl⟩
    obtain ⟨bk,hbk⟩ : ∃ bk : Nat,wd.heap.size = bk:=⟨_,rfl⟩
    rw [hW9] at HI ⊢
    rw [hbk] at HI ⊢
    clear hW9 hbk
    have hz1 : W9.cell? ⟨bp,0,none⟩ = some (.slice (some ad) l0.length c0):=(blk_cell HI.out.2.1 0).trans rfl
    have hzk : W9.cell? ⟨bk,0,none⟩ = some (.int .i64 M):=(blk_cell HI.out.2.2 0).trans rfl
    go_wp2_with fail
    refine (impl_choices.calls (impl_InGeneralPosition.v l0 M) 90 #[.pointer (some ⟨bp,0,none⟩),.pointer (some ⟨bk,0,none⟩)] (ent_of Try.func90 (by kernel_rfl) rfl) (impl_InGeneralPosition.I w (some ad) c0 l0 M bp bk) (fun _=>False) (fun s_ wa wb hi_ hb_=>impl_InGeneralPosition.I_below hi_ hb_) (impl_InGeneralPosition.vcalls w (some ad) c0 l0 HR0.out M bp bk) k () (l0.length : Int) M b s2 W9 HI.out (fun k_ hk_=>hk_.elim) A4.out).mono ?_
    rintro e w9 ⟨rfl,hi9,hk9⟩
    have Q1:=Aside0.mk hi9.1
    clear hi9 hk9 HI hz1 hzk
    go_wp2
    refine bodyPost_ret (v:=.tuple #[.bool (!b),.bool true]) (by simp [results,Try.results29,go_sem]) rfl ?_
    exact ⟨rfl,Q1.out⟩
   ·rw [if_neg c2] at H
    exact absurd H (by simp)
end Go.Proofs.Ytdjclffkidoohaa.QFnExactInGeneralPosition
