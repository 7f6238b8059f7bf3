/- Some of the functions that the law reaches, and what they tell; no condition. -/
import Derived.StillTailTactics
import Derived.Test.YtdjclffkidoohaaVFnExactCanPart
import Derived.Test.YtdjclffkidoohaaZFnExactCanPartH
import Derived.Test.YtdjclffkidoohaaZFnExactCanPartx0
import Derived.Test.YtdjclffkidoohaaZFnExactCanPartx10
namespace Go.Proofs.Ytdjclffkidoohaa.QFnExactCanPart
open Go.RowKit Go.Proofs.YtdjclffkidoohaaW.PrintWords Go.Proofs.YtdjclffkidoohaaW.PrintLast Go.Proofs.YtdjclffkidoohaaW.PrintMore
attribute [local go_sem] max2_int min2_int max_two min_two max_three min_three max_four min_four   -- for this text's walks alone
set_option linter.unusedVariables false
set_option linter.unusedSimpArgs false
open Go.Proofs.Ytdjclffkidoohaa.Mat
open Go.Proofs.Ytdjclffkidoohaa.Clos
mutual
def impl_reduced.l0 : Nat → Nat → List (List Int) → List Int → Int → Int → Option (List Int × List (List Int))
|0,_,_,_,_,_=>none
|k + 1,m,o,p,n,c=>if c < n then impl_reduced.l1 k m o p n c (p.length : Int) else some (p,o)
def impl_reduced.l1 : Nat → Nat → List (List Int) → List Int → Int → Int → Int → Option (List Int × List (List Int))
|0,_,_,_,_,_,_=>none
|k + 1,m,o,p,n,c,a=>if a < (m : Int) then (if 0 ≤ a then (if 0 ≤ c then (if c < ((rd_L1 o a).length : Int) then (if rd (rd_L1 o a) c = 0 then impl_reduced.l1 k m o p n c (wrap64 (a + 1)) else (if (p.length : Int) < (m : Int) then ((impl_shortened.f k (rd_L1 o a)).bind fun t=>impl_reduced.l2 k m (((o.set p.length (rd_L1 o a)).set a.toNat (rd_L1 o (p.length : Int))).set p.length t) p n c 0) else none)) else none) else none) else none) else (if a = (m : Int) then impl_reduced.l0 k m o p n (wrap64 (c + 1)) else none)
def impl_reduced.l2 : Nat → Nat → List (List Int) → List Int → Int → Int → Int → Option (List Int × List (List Int))
|0,_,_,_,_,_,_=>none
|k + 1,m,o,p,n,c,i=>if i < (m : Int) then (if 0 ≤ i then (if i = (p.length : Int) then impl_reduced.l2 k m o p n c (wrap64 (i + 1)) else (if 0 ≤ c then (if c < ((rd_L1 o i).length : Int) then (if rd (rd_L1 o i) c = 0 then impl_reduced.l2 k m o p n c (wrap64 (i + 1)) else (if (p.length : Int) < (m : Int) then (if c < ((rd_L1 o (p.length : Int)).length : Int) then impl_reduced.l3 k m o p n c i (rd (rd_L1 o (p.length : Int)) c) (rd (rd_L1 o i) c) (rd_L1 o i).length 0 else none) else none)) else none) else none)) else none) else (if p.length < 17592186044416 then impl_reduced.l0 k m o (p ++ [c]) n (wrap64 (c + 1)) else none)
def impl_reduced.l3 : Nat → Nat → List (List Int) → List Int → Int → Int → Int → Int → Int → Nat → Int → Option (List Int × List (List Int))
|0,_,_,_,_,_,_,_,_,_,_=>none
|k + 1,m,o,p,n,c,i,a,b,q,j=>if j < (q : Int) then (if 0 ≤ j then (if j < ((rd_L1 o i).length : Int) then (if j < ((rd_L1 o (p.length : Int)).length : Int) then impl_reduced.l3 k m (o.set i.toNat ((rd_L1 o i).set j.toNat (wrap64 (wrap64 (a * rd (rd_L1 o i) j) - wrap64 (b * rd (rd_L1 o (p.length : Int)) j))))) p n c i a b q (wrap64 (j + 1)) else none) else none) else none) else ((impl_shortened.f k (rd_L1 o i)).bind fun t=>impl_reduced.l2 k m (o.set i.toNat t) p n c (wrap64 (i + 1)))
end
def impl_reduced.f (k : Nat) (l0 : List (List Int)) (a1 : Int) : Option (List Int × List (List Int)):=impl_reduced.l0 k l0.length l0 [] a1 0
set_option maxHeartbeats 8000000 in
set_option maxRecDepth 100000 in
theorem impl_reduced.calls (k : Nat) (P0_ : Nat → Prop) (u9000_ : Value) (l0 : List (List Int)) (a1 : Int) (r1 : List Int) (r2 : List (List Int)) (w0 w : World) (hB : Below w0.heap.size w0 w) (hs : Kd.S (Kd.slice 3 (Kd.int .i64)) 26 w w0.heap.size P0_ u9000_ l0) (h : impl_reduced.f k l0 a1 = some (r1,r2)) :
  Calls Try.prog 91 #[u9000_,.int .i64 a1] w fun e w'=>∃ v0_ : Value,e = .returned v0_ ∧ Kd.R (Kd.int .i64) 3 w' w0.heap.size (fun k_=>(P0_ k_ ∨ w.heap.size ≤ k_)) v0_ r1 ∧ Kd.S (Kd.slice 3 (Kd.int .i64)) 26 w' w0.heap.size (fun k_=>(P0_ k_ ∨ w.heap.size ≤ k_) ∧ some k_ ≠ (v0_ : Value).ownBlock) u9000_ r2 ∧ Below w0.heap.size w0 w' ∧ Kept w w' (fun k_=>P0_ k_):=by
 have H':=Aside0.mk h
 have HO:=Aside0.mk hs
 have HB:=Aside0.mk hB
 clear h hs hB
 obtain ⟨A6,c6,e6⟩:=Kd.S_slice HO.out
 obtain ⟨m,hm⟩ : ∃ m : Nat,m = l0.length:=⟨_,rfl⟩
 obtain ⟨y0,hy0⟩ : ∃ y_ : List Int,y_ = ([] : List Int):=⟨_,rfl⟩
 simp only [impl_reduced.f] at H'
 rw [← hy0,← hm] at H'
 rw [← hm] at e6
 have NY:=Aside0.mk hy0
 clear hy0
 subst e6
 clear hm
 go_enter Try.func91,Try.ntmps91
 go_wp2_with (first|((with_reducible refine gate_dst (N:=14) rfl ?_);refine Kd.R_lit (Kd.int .i64) _ 3 ?hg (N:=14) ?hd (xs:=([] : List Int)) (inner:=[]) (ok:=fun _=>True) (okp:=fun _=>True) ?hr ?hp (fun _ hk=>hk) trivial (Below.refl _ _) (Nat.le_refl _) (by simp) ?_;(case hd=>rfl);(case hg=>rfl);(case hr=>first|(go_simp;done)|(go_simp;rfl));(case hp=>exact (Reps.none _ _));intro v7 w3 ho4 hb hg_ hnew_;clear hg_ hnew_;have HP:=Aside0.mk (Kd.R_lower (Kd.R_mono (ok':=fun k_=>w.heap.size ≤ k_) (Kd.R_bound ho4) (fun k_ hk=>hk.2.1)) HB.out.size);have HK:=Aside0.mk (Kept.of_below hb (fun k_=>P0_ k_));have HO2:=Aside0.mk (Kd.S_elder' HO.out (Kd.R_base ho4) hb);have HB2:=Aside0.mk (below_step HB.out hb);clear HB HO hb ho4;have HB:=HB2;have HO:=HO2;clear HB2 HO2;rw [← NY.out] at HP))
 have HO2:=Aside0.mk (Kd.S_mono (ok':=fun k_=>(P0_ k_ ∨ w.heap.size ≤ k_) ∧ some k_ ≠ v7.ownBlock) HO.out (fun k_ hk=>⟨.inl hk.1,hk.2⟩))
 clear HO NY
 have HO:=HO2
 clear HO2
 go_loopg [5,16] k (fun kq v7 v8 w'=>∃ (o : List (List Int)) (p : List Int) (c : Int),v8 = .int .i64 c ∧ Aside0 (impl_reduced.l0 kq m o p a1 c = some (r1,r2)) ∧ Aside0 (kq ≤ k) ∧ Aside0 (Kd.S (Kd.slice 3 (Kd.int .i64)) 26 w' w0.heap.size (fun k_=>(P0_ k_ ∨ w.heap.size ≤ k_) ∧ some k_ ≠ (v7 : Value).ownBlock) (.slice A6 m c6) o) ∧ Aside0 (Kd.R (Kd.int .i64) 3 w' w0.heap.size (fun k_=>w.heap.size ≤ k_) v7 p) ∧ Aside0 (Below w0.heap.size w0 w') ∧ Aside0 (Kept w w' (fun k_=>P0_ k_)))
 case atStart=>exact ⟨l0,y0,0,rfl,H',⟨Nat.le_refl _⟩,HO,HP,HB,HK⟩
 case round =>
  clear H' HO HP HB HK
  obtain ⟨o,p,c,rfl,HA,HK1,HO,HP,HB,HK⟩:=hrel
  cases gk with
 |zero=>exact absurd HA.out (by simp [impl_reduced.l0])
 |succ k1 =>
   have H:=HA.out
   clear HA
   simp only [impl_reduced.l0] at H
   obtain ⟨A7,c7,e7⟩:=Kd.R_slice HP.out
   subst e7
   have PO:=Aside0.mk HP.out.1
   by_cases b1 : c < a1
   ·rw [if_pos b1] at H
    have b1b:=decide_eq_true b1
    have H':=Aside0.mk H
    clear H b1
    go_wp2
    obtain ⟨wo,rfl⟩ : ∃ wo : World,wo = wr:=⟨_,rfl⟩
    go_loopg [8] k1 (fun kq v10 wx=>wx = wo ∧ ∃ a : Int,v10 = .int .i64 a ∧ Aside0 (impl_reduced.l1 kq m o p a1 c a = some (r1,r2)) ∧ Aside0 (kq ≤ k1))
    case atStart=>exact ⟨rfl,(p.length : Int),rfl,H',⟨Nat.le_refl _⟩⟩
    case round =>
     clear H'
     obtain ⟨rfl,a,rfl,HA,HK2⟩:=hrel
     cases gk with
    |zero=>exact absurd HA.out (by simp [impl_reduced.l1])
    |succ k2 =>
      have H:=HA.out
      clear HA
      simp only [impl_reduced.l1] at H
      have HN:=Aside0.mk (Kd.S_reads' HO.out).1
      by_cases b2 : a < (m : Int)
      ·rw [if_pos b2] at H
       by_cases b3 : 0 ≤ a
       ·rw [if_pos b3] at H
        by_cases b4 : 0 ≤ c
        ·rw [if_pos b4] at H
         by_cases b5 : c < ((rd_L1 o a).length : Int)
         ·rw [if_pos b5] at H
          obtain ⟨g,cap,e,gB,gL,_⟩:=Kd.S_form HO.out (by have:=HN.out;omega)
          have eA : A6 = some ⟨g,0,none⟩:=by injection e
          clear e gL
          subst eA
          have GB:=Aside0.mk gB
          clear gB
          obtain ⟨ad,Ar,cr,e1,hx,hl,hi⟩:=at_L1 (Kd.S_reads' HO.out).2.2 a b3 (by have:=HN.out;omega)
          injection e1 with e1
          subst e1
          obtain ⟨ad2,e2,hx2⟩:=Kd.at_int hi c b4 b5
          subst e2
          have HI:=Aside0.mk hi
          (try simp only [add_plain] at hx)
          clear hi hl
          have b2b:=decide_eq_true b2
          have b3b:=eq_true b3
          have b4b:=eq_true b4
          have b5b:=decide_eq_true b5
          have b2t:=eq_true b2
          have b5t:=eq_true b5
          by_cases z : rd (rd_L1 o a) c = 0
          ·rw [if_pos z] at H
           have H':=Aside0.mk H
           have zb : (rd (rd_L1 o a) c == 0) = true:=beq_iff_eq.mpr z
           clear H z b2 b3 b4 b5
           go_wp2
           go_roundg k2
           case measure=>have:=HK2.out;omega
           case rel=>exact ⟨rfl,wrap64 (a + 1),rfl,H',⟨by have:=HK2.out;omega⟩⟩
          ·rw [if_neg z] at H
           have zb : (rd (rd_L1 o a) c == 0) = false:=beq_eq_false_iff_ne.mpr z
           by_cases b6 : (p.length : Int) < (m : Int)
           ·rw [if_pos b6] at H
            obtain ⟨t4,A40,H0⟩:=Option.bind_eq_some_iff.mp H
            have A4:=Aside0.mk A40
            have H':=Aside0.mk H0
            clear A40 H0
            have b6b:=decide_eq_true b6
            have b6t:=eq_true b6
            have b6n : p.length < m:=by omega
            have b7b : (a == (m : Int)) = false:=beq_eq_false_iff_ne.mpr (by omega)
            clear H z
            obtain ⟨ad3,Af,cf,e1,hxf,_,_⟩:=at_L1 (Kd.S_reads' HO.out).2.2 (p.length : Int) (by omega) (by have:=HN.out;omega)
            injection e1 with e1
            subst e1
            clear hxf
            go_wp2
            clear hx hx2
            obtain ⟨ad4,Ar4,cr4,e4,hx,_,_⟩:=at_L1 (Kd.S_reads' HO.out).2.2 a (of_eq_true b3b) (by have:=HN.out;have h_ : a < (m : Int):=of_eq_true b2t;omega)
            injection e4 with e4
            subst e4
            (try simp only [add_plain] at hx)
            obtain ⟨ad5,Af5,cf5,e5,hxf,_,_⟩:=at_L1 (Kd.S_reads' HO.out).2.2 (p.length : Int) (by omega) (by have:=HN.out;omega)
            injection e5 with e5
            subst e5
            (try simp only [add_plain] at hxf)
            have hxg:=hxf
            simp only [Int.toNat_natCast] at hxg
            have t1_ : (0 ≤ (p.length : Int)) = True:=eq_true (by omega)
            refine start_ (n:=16) (S:=fun w'=>w'.cell? ⟨g,a.toNat,none⟩ = some (.slice Ar4 (rd_L1 o a).length cr4) ∧ w'.cell? ⟨g,(p.length : Int).toNat,none⟩ = some (.slice Af5 (rd_L1 o (p.length : Int)).length cf5) ∧ w'.cell? ⟨g,p.length,none⟩ = some (.slice Af5 (rd_L1 o (p.length : Int)).length cf5)) (ds:=[13,15]) #[false,false,false,false,false,false,false,false,false,false,false,false,false,false,false,false] (by kernel_rfl) rfl rfl ⟨hx,hxf,hxg⟩ (fun hHeld=>?_)
            have HO2:=Aside0.mk (Kd.S_drewN HO.out 1)
            have HP2:=Aside0.mk (Kd.R_drewN HP.out 1)
            have HB2:=Aside0.mk (pw_below_drewN HB.out 1)
            have HK2_:=Aside0.mk (Kept.drewN HK.out 1)
            obtain ⟨wd,hwd⟩ : ∃ wd : World,wr.drew = wd:=⟨_,rfl⟩
            have hwe : wr.drewN 1 = wd:=hwd
            rw [hwe] at HO2 HP2 HB2 HK2_
            rw [hwd] at hHeld ⊢
            clear HO HP HB HK hx hxf hxg
            have HK:=HK2_
            have HO:=HO2
            have HP:=HP2
            have HB:=HB2
            clear HO2 HP2 HB2 HK2_ hwe hwd
            obtain ⟨hx,hxf,hxg⟩:=hHeld
            have hHeld:=And.intro hx (And.intro hxf hxg)
            obtain ⟨inner,ho⟩:=Kd.S_own HO.out
            have hfz : ∀ j,wd.frozen? ⟨g,j,none⟩ = false:=fun j=>by have:=HN.out;exact (this ▸ ho).frozenAt j
            obtain ⟨vq,hq⟩:=cell?_setCell_some (w:=wd) (p:=⟨g,p.length,none⟩) (x:=.slice Ar4 (rd_L1 o a).length cr4) (q:=⟨g,a.toNat,none⟩) (v:=.slice Ar4 (rd_L1 o a).length cr4) hx
            have hS:=S_swap (d:=Kd.slice 3 (Kd.int .i64)) rfl HO.out p.length a.toNat (by have:=HN.out;omega) (by have:=HN.out;have h1_ : a < (m : Int):=of_eq_true b2t;have h2_ : 0 ≤ a:=of_eq_true b3b;omega) hxg hx
            have eo1 : o[p.length]'(by have:=HN.out;omega) = rd_L1 o (p.length : Int):=by have:=HN.out;simp [rd_L1,show p.length < o.length by omega]
            have eo2 : o[a.toNat]'(by have:=HN.out;have h1_ : a < (m : Int):=of_eq_true b2t;have h2_ : 0 ≤ a:=of_eq_true b3b;omega) = rd_L1 o a:=by have:=HN.out;have h1_ : a < (m : Int):=of_eq_true b2t;have h2_ : 0 ≤ a:=of_eq_true b3b;simp [rd_L1,show a.toNat < o.length by omega]
            rw [eo1,eo2] at hS
            have HS:=Aside0.mk hS
            clear ho hS eo1 eo2
            refine pure_ (i:=0) (N:=some 42) (v:=?_) (a':=?_) #[true,false,false,false,false,false,false,false,false,false,false,false,false,false,false,false] rfl rfl (by kernel_rfl) (fun _ _ _ h=>h) (Or.inl ⟨by rfl,?_⟩) ?_ ?_
            rotate_left
            ·intro w'
             go_simp
             with_reducible rfl
            rotate_left
            ·simp only [Act.put,List.setIfInBounds_toArray,List.set_cons_zero,List.set_cons_succ,i64_w,i32_w]
             rfl
            refine pure_ (i:=1) (N:=some 43) (v:=?_) (a':=?_) #[true,true,false,false,false,false,false,false,false,false,false,false,false,false,false,false] rfl rfl (by kernel_rfl) (fun _ _ _ h=>h) (Or.inl ⟨by rfl,?_⟩) ?_ ?_
            rotate_left
            ·intro w'
             go_simp
             with_reducible rfl
            rotate_left
            ·simp only [Act.put,List.setIfInBounds_toArray,List.set_cons_zero,List.set_cons_succ,i64_w,i32_w]
             rfl
            refine pure_ (i:=2) (N:=some 44) (v:=?_) (a':=?_) #[true,true,true,false,false,false,false,false,false,false,false,false,false,false,false,false] rfl rfl (by kernel_rfl) (fun _ _ _ h=>h) (Or.inl ⟨by rfl,?_⟩) ?_ ?_
            rotate_left
            ·intro w'
             go_simp
             with_reducible rfl
            rotate_left
            ·simp only [Act.put,List.setIfInBounds_toArray,List.set_cons_zero,List.set_cons_succ,i64_w,i32_w]
             rfl
            refine pure_ (i:=3) (N:=some 45) (v:=?_) (a':=?_) #[true,true,true,true,false,false,false,false,false,false,false,false,false,false,false,false] rfl rfl (by kernel_rfl) (fun _ _ _ h=>h) (Or.inl ⟨by rfl,?_⟩) ?_ ?_
            rotate_left
            ·intro w'
             go_simp
             with_reducible rfl
            rotate_left
            ·simp only [Act.put,List.setIfInBounds_toArray,List.set_cons_zero,List.set_cons_succ,i64_w,i32_w]
             rfl
            refine pure_ (i:=4) (N:=some 46) (v:=?_) (a':=?_) #[true,true,true,true,true,false,false,false,false,false,false,false,false,false,false,false] rfl rfl (by kernel_rfl) (fun _ _ _ h=>h) (Or.inl ⟨by rfl,?_⟩) ?_ ?_
            rotate_left
            ·intro w'
             go_simp
             with_reducible rfl
            rotate_left
            ·simp only [Act.put,List.setIfInBounds_toArray,List.set_cons_zero,List.set_cons_succ,i64_w,i32_w]
             rfl
            refine pure_ (i:=5) (N:=some 47) (v:=?_) (a':=?_) #[true,true,true,true,true,true,false,false,false,false,false,false,false,false,false,false] rfl rfl (by kernel_rfl) (fun _ _ _ h=>h) (Or.inl ⟨by rfl,?_⟩) ?_ ?_
            rotate_left
            ·intro w'
             go_simp
             with_reducible rfl
            rotate_left
            ·simp only [Act.put,List.setIfInBounds_toArray,List.set_cons_zero,List.set_cons_succ,i64_w,i32_w]
             rfl
            refine pure_ (i:=6) (N:=some 48) (v:=?_) (a':=?_) #[true,true,true,true,true,true,true,false,false,false,false,false,false,false,false,false] rfl rfl (by kernel_rfl) (fun _ _ _ h=>h) (Or.inl ⟨by rfl,?_⟩) ?_ ?_
            rotate_left
            ·intro w'
             go_simp
             with_reducible rfl
            rotate_left
            ·simp only [Act.put,List.setIfInBounds_toArray,List.set_cons_zero,List.set_cons_succ,i64_w,i32_w]
             rfl
            refine pure_ (i:=8) (N:=some 50) (v:=?_) (a':=?_) #[true,true,true,true,true,true,true,false,true,false,false,false,false,false,false,false] rfl rfl (by kernel_rfl) (fun _ _ _ h=>h) (Or.inl ⟨by rfl,?_⟩) ?_ ?_
            rotate_left
            ·intro w'
             go_simp
             with_reducible rfl
            rotate_left
            ·simp only [Act.put,List.setIfInBounds_toArray,List.set_cons_zero,List.set_cons_succ,i64_w,i32_w]
             rfl
            refine pure_ (i:=9) (N:=some 51) (v:=?_) (a':=?_) #[true,true,true,true,true,true,true,false,true,true,false,false,false,false,false,false] rfl rfl (by kernel_rfl) (fun _ _ _ h=>h) (Or.inl ⟨by rfl,?_⟩) ?_ ?_
            rotate_left
            ·intro w'
             go_simp
             with_reducible rfl
            rotate_left
            ·simp only [Act.put,List.setIfInBounds_toArray,List.set_cons_zero,List.set_cons_succ,i64_w,i32_w]
             rfl
            refine pure_ (i:=10) (N:=some 52) (v:=?_) (a':=?_) #[true,true,true,true,true,true,true,false,true,true,true,false,false,false,false,false] rfl rfl (by kernel_rfl) (fun _ _ _ h=>h) (Or.inl ⟨by rfl,?_⟩) ?_ ?_
            rotate_left
            ·intro w'
             go_simp
             with_reducible rfl
            rotate_left
            ·simp only [Act.put,List.setIfInBounds_toArray,List.set_cons_zero,List.set_cons_succ,i64_w,i32_w]
             rfl
            refine take_ (i:=7) (N:=some 49) (v:=?_) (a':=?_) #[true,true,true,true,true,true,true,true,true,true,true,false,false,false,false,false] rfl rfl (by kernel_rfl) (fun _ _ _ h=>h) (Or.inl ⟨by rfl,?_⟩) hHeld ?_ ?_
            rotate_left
            ·rintro w' ⟨s0,s1,s2⟩
             go_simp
             with_reducible rfl
            rotate_left
            ·simp only [Act.put,List.setIfInBounds_toArray,List.set_cons_zero,List.set_cons_succ,i64_w,i32_w]
             rfl
            refine take_ (i:=11) (N:=some 53) (v:=?_) (a':=?_) #[true,true,true,true,true,true,true,true,true,true,true,true,false,false,false,false] rfl rfl (by kernel_rfl) (fun _ _ _ h=>h) (Or.inl ⟨by rfl,?_⟩) hHeld ?_ ?_
            rotate_left
            ·rintro w' ⟨s0,s1,s2⟩
             go_simp
             with_reducible rfl
            rotate_left
            ·simp only [Act.put,List.setIfInBounds_toArray,List.set_cons_zero,List.set_cons_succ,i64_w,i32_w]
             rfl
            refine pure_ (i:=12) (N:=some 54) (v:=?_) (a':=?_) #[true,true,true,true,true,true,true,true,true,true,true,true,true,false,false,false] rfl rfl (by kernel_rfl) (fun _ _ _ h=>h) (Or.inl ⟨by rfl,?_⟩) ?_ ?_
            rotate_left
            ·intro w'
             go_simp
             with_reducible rfl
            rotate_left
            ·simp only [Act.put,List.setIfInBounds_toArray,List.set_cons_zero,List.set_cons_succ,i64_w,i32_w]
             rfl
            refine last_ (i:=13) (N:=none) #[true,true,true,true,true,true,true,true,true,true,true,true,true,true,false,false] rfl rfl (by kernel_rfl) (by decide) (fun K hK=>?_)
            refine skip_ (w1:=?_) (by rfl) rfl ?_ ?_
            rotate_left
            ·go_simp
             rfl
            refine hK.out _ _ ?_
            clear hK K
            refine pure_ (i:=14) (N:=some 55) (v:=?_) (a':=?_) #[true,true,true,true,true,true,true,true,true,true,true,true,true,true,true,false] rfl rfl (by kernel_rfl) (fun _ _ _ h=>h) (Or.inl ⟨by rfl,?_⟩) ?_ ?_
            rotate_left
            ·intro w'
             go_simp
             with_reducible rfl
            rotate_left
            ·simp only [Act.put,List.setIfInBounds_toArray,List.set_cons_zero,List.set_cons_succ,i64_w,i32_w]
             rfl
            refine last_ (i:=15) (N:=none) #[true,true,true,true,true,true,true,true,true,true,true,true,true,true,true,true] rfl rfl (by kernel_rfl) (by decide) (fun K hK=>?_)
            refine skip_ (w1:=?_) (by rfl) rfl ?_ ?_
            rotate_left
            ·go_simp
             rfl
            refine hK.out _ _ ?_
            clear hK K
            refine done_ (by kernel_rfl) ?_
            clear hHeld hx hxf hxg hfz hq
            have BS:=Aside0.mk ((HB.out.setCell (p:=⟨g,p.length,none⟩) GB.out (.slice Ar4 (rd_L1 o a).length cr4)).setCell (p:=⟨g,a.toNat,none⟩) GB.out (.slice Af5 (rd_L1 o (p.length : Int)).length cf5))
            have PS:=Aside0.mk (Kd.R_far (Kd.R_far (p:=⟨g,p.length,none⟩) (Kd.R_tight rfl HP.out) (fun k_ hk he=>((Kd.S_R HO.out).1 g (by simp [Value.ownBlock])).2 (by have h2 : k_ = g:=he;rw [h2] at hk;exact hk)) (.slice Ar4 (rd_L1 o a).length cr4)) (p:=⟨g,a.toNat,none⟩) (fun k_ hk he=>((Kd.S_R HO.out).1 g (by simp [Value.ownBlock])).2 (by have h2 : k_ = g:=he;rw [h2] at hk;exact hk)) (.slice Af5 (rd_L1 o (p.length : Int)).length cf5))
            have KS:=Aside0.mk ((HK.out.setCell (p:=⟨g,p.length,none⟩) ((Kd.S_R HO.out).1 g (by simp [Value.ownBlock])).1 (.slice Ar4 (rd_L1 o a).length cr4)).setCell (p:=⟨g,a.toNat,none⟩) ((Kd.S_R HO.out).1 g (by simp [Value.ownBlock])).1 (.slice Af5 (rd_L1 o (p.length : Int)).length cf5))
            obtain ⟨o2,ho2⟩ : ∃ o2 : List (List Int),o2 = (o.set p.length (rd_L1 o a)).set a.toNat (rd_L1 o (p.length : Int)):=⟨_,rfl⟩
            have he2 : o2.getD p.length [] = rd_L1 o a:=by
             have hn:=HN.out
             rw [ho2]
             by_cases hh : a.toNat = p.length
             ·simp [rd_L1,hh,show p.length < o.length by omega]
             ·simp only [List.getD_eq_getElem?_getD];rw [List.getElem?_set_ne hh,List.getElem?_set_self (by omega)];simp
            rw [← ho2] at HS H'
            clear HO HP HB HK ho2 HN
            generalize hW : (wd.setCell ⟨g,p.length,none⟩ (.slice Ar4 (rd_L1 o a).length cr4)).setCell ⟨g,a.toNat,none⟩ (.slice Af5 (rd_L1 o (p.length : Int)).length cf5) = w2 at HS BS PS KS ⊢
            clear hW
            obtain ⟨oki,cs,hcl,hM,hcc,hok,hH⟩:=Kd.S_lend HS.out [] (p.length : Int) (by omega) (by omega)
            obtain ⟨ve,rfl,hR⟩:=hM
            have hx:=hcc 0 ve rfl
            simp only [show (Kd.slice 3 (Kd.int .i64)).sz = 1 from rfl,Nat.mul_one,Nat.add_zero] at hx
            rw [Int.toNat_natCast,he2] at hR
            have hxg:=hx
            simp only [Int.toNat_natCast] at hxg
            obtain ⟨Ae,ce,ee⟩:=Kd.R_slice hR
            subst ee
            have HC:=Aside0.mk hR
            have HH:=Aside0.mk hH
            have HX:=Aside0.mk hok
            clear hcl hcc hR hH hok he2 b5b b2b b5t b2t b7b b3b b4b
            go_wp2_with (first|((with_reducible refine gate_callee (f:=133) rfl ?_);refine goesL_ (some 60) rfl rfl Try.func133 (by kernel_rfl) rfl #[.slice Ae (rd_L1 o a).length ce] rfl (by (try simp only [List.map_toArray,List.map_cons,List.map_nil]);first|done|rfl) ?_;(with_reducible refine (impl_shortened.calls k2 oki (.slice Ae (rd_L1 o a).length ce) (rd_L1 o a) t4 w0 w2 BS.out HC.out A4.out).mono ?_);rintro e w1 ⟨rfl,hr,hb,hk⟩;refine ⟨_,rfl,?_⟩;have HQ:=Aside0.mk hr;have HD:=Aside0.mk hb;have HKs:=Aside0.mk hk;clear hr hb hk hx hxg))
            have HS2:=Aside0.mk (Kd.H_back (Kd.H_kept (Kd.H_widen HH.out) HKs.out (fun k_ _ hn hs=>hn (.inl hs))) (x':=t4) ⟨_,rfl,HQ.out⟩ (fun k_ hk=>hk.elim .inl (fun hle=>.inr ⟨⟨.inr (Nat.le_trans KS.out.1 hle),fun he=>by have:=Kd.R_lt PS.out k_ he.symm;omega⟩,hle⟩)))
            have HP:=Aside0.mk (Kd.R_mono (Kd.R_kept PS.out HKs.out (fun k_ hk hs=>(HX.out k_ hs).1.2 hk)) (fun k_ hk=>PO.out k_ hk.symm))
            have HK:=Aside0.mk (KS.out.then_ HKs.out (fun k_ hs=>(HX.out k_ hs).1.1))
            rw [Int.toNat_natCast] at HS2
            obtain ⟨o5,ho5⟩ : ∃ o5 : List (List Int),o5 = o2.set p.length t4:=⟨_,rfl⟩
            rw [← ho5] at HS2 H'
            clear ho5 HS PS BS KS HC HH HX HQ HKs A4
            have HK3 : k2 ≤ k ∧ k2 < k1:=by have:=HK1.out;have:=HK2.out;omega
            clear HK1 HK2
            go_loopg [63] k2 (fun kq v12 wx=>∃ (o : List (List Int)) (i : Int),v12 = .int .i64 i ∧ Aside0 (impl_reduced.l2 kq m o p a1 c i = some (r1,r2)) ∧ Aside0 (kq ≤ k2) ∧ Aside0 (Kd.S (Kd.slice 3 (Kd.int .i64)) 26 wx w0.heap.size (fun k_=>(P0_ k_ ∨ w.heap.size ≤ k_) ∧ some k_ ≠ (Value.slice A7 p.length c7).ownBlock) (.slice (some ⟨g,0,none⟩) m c6) o) ∧ Aside0 (Kd.R (Kd.int .i64) 3 wx w0.heap.size (fun k_=>w.heap.size ≤ k_) (.slice A7 p.length c7) p) ∧ Aside0 (Below w0.heap.size w0 wx) ∧ Aside0 (Kept w wx (fun k_=>P0_ k_)))
            case atStart=>exact ⟨o5,0,rfl,H',⟨Nat.le_refl _⟩,HS2,HP,HD,HK⟩
            case round =>
             clear H' HS2 HP HD HK
             obtain ⟨o,i,rfl,HA,HK4,HO,HP,HB,HK⟩:=hrel
             cases gk with
            |zero=>exact absurd HA.out (by simp [impl_reduced.l2])
            |succ k3 =>
              have H:=HA.out
              clear HA
              simp only [impl_reduced.l2] at H
              have HN:=Aside0.mk (Kd.S_reads' HO.out).1
              by_cases b2 : i < (m : Int)
              ·rw [if_pos b2] at H
               by_cases b3 : 0 ≤ i
               ·rw [if_pos b3] at H
                have b2b:=decide_eq_true b2
                have b2t:=eq_true b2
                have b3b:=eq_true b3
                obtain ⟨ad,Ar,cr,e1,hx,hl,hi⟩:=at_L1 (Kd.S_reads' HO.out).2.2 i b3 (by have:=HN.out;omega)
                injection e1 with e1
                subst e1
                (try simp only [add_plain] at hx)
                by_cases b5 : i = (p.length : Int)
                ·rw [if_pos b5] at H
                 have H':=Aside0.mk H
                 have b5b : (i == (p.length : Int)) = true:=beq_iff_eq.mpr b5
                 clear H b2 b3 b5 hl hi
                 go_wp2
                 go_roundg k3
                 case measure=>have:=HK4.out;omega
                 case rel=>exact ⟨o,wrap64 (i + 1),rfl,H',⟨by have:=HK4.out;omega⟩,HO,HP,HB,HK⟩
                ·rw [if_neg b5] at H
                 have b5b : (i == (p.length : Int)) = false:=beq_eq_false_iff_ne.mpr b5
                 by_cases b4 : 0 ≤ c
                 ·rw [if_pos b4] at H
                  by_cases b6 : c < ((rd_L1 o i).length : Int)
                  ·rw [if_pos b6] at H
                   obtain ⟨ad2,e2,hx2⟩:=Kd.at_int hi c b4 b6
                   subst e2
                   obtain ⟨_,cs0,_,hM0,hcc0,_,_⟩:=Kd.S_lend HO.out [] i b3 (by omega)
                   obtain ⟨ve0,rfl,hR0⟩:=hM0
                   have hx0:=hcc0 0 ve0 rfl
                   simp only [show (Kd.slice 3 (Kd.int .i64)).sz = 1 from rfl,Nat.mul_one,Nat.add_zero] at hx0
                   rw [hx] at hx0
                   obtain rfl:=Option.some.inj hx0
                   clear hx0 hcc0
                   obtain ⟨g3,_,er0,_,_,_,_⟩:=Kd.R_form hR0 (by have he : (o.getD i.toNat []) = rd_L1 o i:=rfl;rw [he];omega)
                   have ead : ad2 = ⟨g3,0,none⟩:=by injection er0 with e_;injection e_
                   subst ead
                   clear er0 hR0
                   simp only [add_plain] at hx2
                   clear hl hi
                   have b4b:=eq_true b4
                   have b6b:=decide_eq_true b6
                   have b6t:=eq_true b6
                   by_cases z : rd (rd_L1 o i) c = 0
                   ·rw [if_pos z] at H
                    have H':=Aside0.mk H
                    have zb : (rd (rd_L1 o i) c == 0) = true:=beq_iff_eq.mpr z
                    clear H z b2 b3 b4 b5 b6
                    go_wp2
                    go_roundg k3
                    case measure=>have:=HK4.out;omega
                    case rel=>exact ⟨o,wrap64 (i + 1),rfl,H',⟨by have:=HK4.out;omega⟩,HO,HP,HB,HK⟩
                   ·rw [if_neg z] at H
                    have zb : (rd (rd_L1 o i) c == 0) = false:=beq_eq_false_iff_ne.mpr z
                    by_cases b7 : (p.length : Int) < (m : Int)
                    ·rw [if_pos b7] at H
                     by_cases b8 : c < ((rd_L1 o (p.length : Int)).length : Int)
                     ·rw [if_pos b8] at H
                      have H':=Aside0.mk H
                      have b7b:=decide_eq_true b7
                      have b7t:=eq_true b7
                      have b8t:=eq_true b8
                      have b7n : p.length < m:=by omega
                      have b7z : (0 ≤ (p.length : Int)) = True:=eq_true (by omega)
                      obtain ⟨adf,Af,cf,e1,hxf,_,hif⟩:=at_L1 (Kd.S_reads' HO.out).2.2 (p.length : Int) (by omega) (by have:=HN.out;omega)
                      injection e1 with e1
                      subst e1
                      (try simp only [add_plain] at hxf)
                      have hxg:=hxf
                      simp only [Int.toNat_natCast] at hxg
                      obtain ⟨adf2,e2,hxf2⟩:=Kd.at_int hif c b4 b8
                      subst e2
                      obtain ⟨xa,hxa⟩ : ∃ xa : Int,xa = rd (rd_L1 o (p.length : Int)) c:=⟨_,rfl⟩
                      obtain ⟨xb,hxb⟩ : ∃ xb : Int,xb = rd (rd_L1 o i) c:=⟨_,rfl⟩
                      obtain ⟨q,hqn⟩ : ∃ q : Nat,q = (rd_L1 o i).length:=⟨_,rfl⟩
                      rw [← hxa,← hxb,← hqn] at H'
                      rw [← hxa] at hxf2
                      rw [← hxb] at hx2 zb
                      rw [← hqn] at hx b6t
                      have HZ:=Aside0.mk hqn.symm
                      clear hif H z b2 b3 b4 b5 b6 b7 b8 b6b hxa hxb hqn
                      go_wp2
                      go_quiet (fail)
                      go_wp2
                      have BI:=Aside0.mk (And.intro (of_eq_true b3b) (of_eq_true b2t))
                      have HX:=Aside0.mk hx
                      clear hx hxf hxg hx2 hxf2 b2t b3b b5b b4b b6t zb b7b b8t b2b HN
                      have HK5 : k3 ≤ k2:=by have:=HK4.out;omega
                      clear HK4
                      go_loopg [91] k3 (fun kq v15 wx=>∃ (o3 : List (List Int)) (j : Int),v15 = .int .i64 j ∧ Aside0 (impl_reduced.l3 kq m o3 p a1 c i xa xb q j = some (r1,r2)) ∧ Aside0 (kq ≤ k3) ∧ Aside0 (Kd.S (Kd.slice 3 (Kd.int .i64)) 26 wx w0.heap.size (fun k_=>(P0_ k_ ∨ w.heap.size ≤ k_) ∧ some k_ ≠ (Value.slice A7 p.length c7).ownBlock) (.slice (some ⟨g,0,none⟩) m c6) o3) ∧ Aside0 (Kd.R (Kd.int .i64) 3 wx w0.heap.size (fun k_=>w.heap.size ≤ k_) (.slice A7 p.length c7) p) ∧ Aside0 (Below w0.heap.size w0 wx) ∧ Aside0 (Kept w wx (fun k_=>P0_ k_)) ∧ Aside0 (wx.cell? ⟨g,i.toNat,none⟩ = some (.slice (some ⟨g3,0,none⟩) q cr)) ∧ Aside0 ((rd_L1 o3 i).length = q))
                      case atStart=>exact ⟨o,0,rfl,H',⟨Nat.le_refl _⟩,⟨Kd.S_drewN HO.out _⟩,⟨Kd.R_drewN HP.out _⟩,⟨pw_below_drewN HB.out _⟩,⟨Kept.drewN HK.out _⟩,⟨HX.out⟩,HZ⟩
                      case round =>
                       clear H' HO HP HB HK HX HZ
                       obtain ⟨o,j,rfl,HA,HK6,HO,HP,HB,HK,HX,HZ⟩:=hrel
                       cases gk with
                      |zero=>exact absurd HA.out (by simp [impl_reduced.l3])
                      |succ k4 =>
                        have H:=HA.out
                        clear HA
                        simp only [impl_reduced.l3] at H
                        have HN:=Aside0.mk (Kd.S_reads' HO.out).1
                        by_cases b2 : j < (q : Int)
                        ·rw [if_pos b2] at H
                         by_cases b3 : 0 ≤ j
                         ·rw [if_pos b3] at H
                          by_cases b4 : j < ((rd_L1 o i).length : Int)
                          ·rw [if_pos b4] at H
                           by_cases b5 : j < ((rd_L1 o (p.length : Int)).length : Int)
                           ·rw [if_pos b5] at H
                            have H':=Aside0.mk H
                            have b2b:=decide_eq_true b2
                            clear H
                            go_wp2
                            refine wp_region_still_tail 19 rfl (by kernel_rfl) ?_
                            obtain ⟨wd,hwd⟩ : ∃ wd : World,{ wr with drawn:=wr.drawn + 1 } = wd:=⟨_,rfl⟩
                            rw [hwd]
                            have hq : wr.drewN 1 = wd:=hwd
                            have HO2:=Aside0.mk (Kd.S_at hq HO.out)
                            have HP2:=Aside0.mk (Kd.R_at hq HP.out)
                            have HB2:=Aside0.mk (below_at hq HB.out)
                            have HX2:=Aside0.mk (cell_at hq HX.out)
                            have HKq:=Aside0.mk (kept_at hq HK.out)
                            clear HO HP HB HX hq hwd
                            have HO:=HO2
                            have HP:=HP2
                            have HB:=HB2
                            clear HO2 HP2 HB2
                            obtain ⟨oki,cs,hcl,hM,hcc,hok,hH⟩:=Kd.S_lend HO.out [] i BI.out.1 BI.out.2
                            obtain ⟨ve,rfl,hR⟩:=hM
                            have hx:=hcc 0 ve rfl
                            simp only [show (Kd.slice 3 (Kd.int .i64)).sz = 1 from rfl,Nat.mul_one,Nat.add_zero] at hx
                            rw [HX2.out] at hx
                            obtain rfl:=Option.some.inj hx
                            clear hx
                            obtain ⟨gr,capr,er,hgr,_,cellsr,_⟩:=Kd.R_form hR (by have he : (o.getD i.toNat []) = rd_L1 o i:=rfl;rw [he];omega)
                            have ead : gr = g3:=by injection er with e_;injection e_ with e_;injection e_ with e_;exact e_.symm
                            subst ead
                            clear er
                            have hR2 : Kd.R (Kd.int .i64) 3 wd w0.heap.size oki (.slice (some ⟨gr,0,none⟩) q cr) (rd_L1 o i):=hR
                            obtain ⟨hy,hfy⟩:=Kd.R_celln 0 hR2 j b3 b2
                            have hR3:=Kd.R_putg hR2 j (wrap64 (wrap64 (xa * rd (rd_L1 o i) j) - wrap64 (xb * rd (rd_L1 o (p.length : Int)) j)))
                            have hS:=Aside0.mk (Kd.H_back (Kd.H_grown hH hR3.2 (fun k hk=>hR2.1 k (by simpa [Value.ownBlock] using hk))) (x':=(rd_L1 o i).set j.toNat (wrap64 (wrap64 (xa * rd (rd_L1 o i) j) - wrap64 (xb * rd (rd_L1 o (p.length : Int)) j)))) ⟨_,rfl,hR3.1⟩ (fun _ hk=>hk))
                            obtain ⟨adf,Af,cf,e1,hxf,_,hif⟩:=at_L1 (Kd.S_reads' HO.out).2.2 (p.length : Int) (by omega) (by have:=HN.out;omega)
                            injection e1 with e1
                            subst e1
                            (try simp only [add_plain] at hxf)
                            obtain ⟨adf2,e2,hxf2⟩:=Kd.at_int hif j b3 b5
                            subst e2
                            have hxg:=hxf
                            simp only [Int.toNat_natCast] at hxg
                            have t1_:=eq_true BI.out.1
                            have t2_:=eq_true BI.out.2
                            have t3_ : ((p.length : Int) < (m : Int)) = True:=eq_true (by omega)
                            have t4_:=eq_true b3
                            have t5_:=eq_true b2
                            have t6_:=eq_true b5
                            have t7_ : (0 ≤ (p.length : Int)) = True:=eq_true (by omega)
                            have hgo : oki gr:=hR2.1 gr (by simp [Value.ownBlock])
                            have PS:=Aside0.mk (Kd.R_mono (Kd.R_far (p:=⟨gr,j.toNat,none⟩) (Kd.R_tight rfl HP.out) (fun k_ hk he=>(hok gr hgo).1.2 (by have h2 : k_ = gr:=he;rw [h2] at hk;exact hk)) (.int .i64 (wrap64 (wrap64 (xa * rd (rd_L1 o i) j) - wrap64 (xb * rd (rd_L1 o (p.length : Int)) j))))) (fun k_ hk=>PO.out k_ hk.symm))
                            have KS:=Aside0.mk (HKq.out.setCell (p:=⟨gr,j.toNat,none⟩) (hok gr hgo).1.1 (.int .i64 (wrap64 (wrap64 (xa * rd (rd_L1 o i) j) - wrap64 (xb * rd (rd_L1 o (p.length : Int)) j)))))
                            have BS:=Aside0.mk (HB.out.setCell (p:=⟨gr,j.toNat,none⟩) hgr (.int .i64 (wrap64 (wrap64 (xa * rd (rd_L1 o i) j) - wrap64 (xb * rd (rd_L1 o (p.length : Int)) j)))))
                            have XS:=Aside0.mk (cell_kept HX2.out ((Kept.refl wd (fun k_=>k_ = gr)).setCell (p:=⟨gr,j.toNat,none⟩) (.inl rfl) (.int .i64 (wrap64 (wrap64 (xa * rd (rd_L1 o i) j) - wrap64 (xb * rd (rd_L1 o (p.length : Int)) j))))) (fun he=>(hok gr hgo).2 he.symm))
                            have ZS : (rd_L1 (o.set i.toNat ((rd_L1 o i).set j.toNat (wrap64 (wrap64 (xa * rd (rd_L1 o i) j) - wrap64 (xb * rd (rd_L1 o (p.length : Int)) j))))) i).length = q:=by
                             have hn:=HN.out
                             have hb:=BI.out
                             have hz:=HZ.out
                             have hlt : i.toNat < o.length:=by omega
                             simp only [rd_L1,List.getD_eq_getElem?_getD,List.getElem?_set_self hlt,Option.getD_some,List.length_set] at hz ⊢
                             exact hz
                            have hy0 : wd.cell? ⟨gr,j.toNat,none⟩ = some (.int .i64 (rd (rd_L1 o i) j)):=hy
                            clear hy hcl hcc hok hH hR hR2 hR3 HO HP HB b2 b3 b4 b5
                            simp only [List.take_succ_cons,List.take_zero,List.drop_succ_cons,List.drop_zero]
                            repeat still_step
                            try refine wpStill_nil ?_
                            go_wp2
                            go_roundg k4
                            case measure=>have:=HK6.out;omega
                            case rel=>exact ⟨_,wrap64 (j + 1),rfl,H',⟨by have:=HK6.out;omega⟩,hS,PS,BS,KS,XS,⟨ZS⟩⟩
                           ·rw [if_neg b5] at H
                            exact absurd H (by simp)
                          ·rw [if_neg b4] at H
                           exact absurd H (by simp)
                         ·rw [if_neg b3] at H
                          exact absurd H (by simp)
                        ·rw [if_neg b2] at H
                         obtain ⟨t5,A50,H0⟩:=Option.bind_eq_some_iff.mp H
                         have A5:=Aside0.mk A50
                         have H':=Aside0.mk H0
                         have b2b:=decide_eq_false b2
                         clear H A50 H0 b2
                         obtain ⟨oki,cs,hcl,hM,hcc,hok,hH⟩:=Kd.S_lend HO.out [] i BI.out.1 BI.out.2
                         obtain ⟨ve,rfl,hR⟩:=hM
                         have hx:=hcc 0 ve rfl
                         simp only [show (Kd.slice 3 (Kd.int .i64)).sz = 1 from rfl,Nat.mul_one,Nat.add_zero] at hx
                         rw [HX.out] at hx
                         obtain rfl:=Option.some.inj hx
                         clear hx
                         have hR2 : Kd.R (Kd.int .i64) 3 wr w0.heap.size oki (.slice (some ⟨g3,0,none⟩) q cr) (rd_L1 o i):=hR
                         have HC:=Aside0.mk hR2
                         have HH:=Aside0.mk hH
                         have HY:=Aside0.mk hok
                         clear hcl hcc hR hR2 hH hok
                         go_wp2_with (first|((with_reducible refine gate_callee (f:=133) rfl ?_);refine goesL_ (some 115) rfl rfl Try.func133 (by kernel_rfl) rfl #[.slice (some ⟨g3,0,none⟩) q cr] rfl (by (try simp only [List.map_toArray,List.map_cons,List.map_nil]);first|done|rfl) ?_;(with_reducible refine (impl_shortened.calls k4 oki (.slice (some ⟨g3,0,none⟩) q cr) (rd_L1 o i) t5 w0 _ HB.out HC.out A5.out).mono ?_);rintro e w1 ⟨rfl,hr,hb,hk⟩;refine ⟨_,rfl,?_⟩;have HQ:=Aside0.mk hr;have HD:=Aside0.mk hb;have HKs:=Aside0.mk hk;clear hr hb hk))
                         have HS2:=Aside0.mk (Kd.H_back (Kd.H_kept (Kd.H_widen HH.out) HKs.out (fun k_ _ hn hs=>hn (.inl hs))) (x':=t5) ⟨_,rfl,HQ.out⟩ (fun k_ hk=>hk.elim .inl (fun hle=>.inr ⟨⟨.inr (Nat.le_trans HK.out.1 hle),fun he=>by have:=Kd.R_lt HP.out k_ he.symm;omega⟩,hle⟩)))
                         have HP2:=Aside0.mk (Kd.R_mono (Kd.R_kept (Kd.R_tight rfl HP.out) HKs.out (fun k_ hk hs=>(HY.out k_ hs).1.2 hk)) (fun k_ hk=>PO.out k_ hk.symm))
                         have HKt:=Aside0.mk (HK.out.then_ HKs.out (fun k_ hs=>(HY.out k_ hs).1.1))
                         go_roundg k4
                         case measure=>have:=HK6.out;omega
                         case rel=>exact ⟨o.set i.toNat t5,wrap64 (i + 1),rfl,H',⟨by have:=HK6.out;omega⟩,HS2,HP2,HD,HKt⟩
                     ·rw [if_neg b8] at H
                      exact absurd H (by simp)
                    ·rw [if_neg b7] at H
                     exact absurd H (by simp)
                  ·rw [if_neg b6] at H
                   exact absurd H (by simp)
                 ·rw [if_neg b4] at H
                  exact absurd H (by simp)
               ·rw [if_neg b3] at H
                exact absurd H (by simp)
              ·rw [if_neg b2] at H
               by_cases b3 : p.length < 17592186044416
               ·rw [if_pos b3] at H
                have H':=Aside0.mk H
                have b2b:=decide_eq_false b2
                have B3:=Aside0.mk b3
                clear H b2 b3
                obtain ⟨y1,hy1⟩ : ∃ y_ : List Int,y_ = p ++ [c]:=⟨_,rfl⟩
                rw [← hy1] at H'
                have NY:=Aside0.mk hy1
                clear hy1 HN
                go_wp2_with (first|((with_reducible refine gate_builtin (b:=.append) (xs:=#[.tmp 117,.tmp 119]) rfl ?_);at_builtin;refine Kd.R_append (Kd.int .i64) (w0:=w0) w0.heap.size rfl (.tmp 117) (.tmp 119) 26 3 (.int .i64 0) 8 rfl (by first|rfl|decide) (by first|rfl|decide) rfl (by decide) (by omega) (.slice A7 p.length c7) p c [.int .i64 c] (fun k_=>w.heap.size ≤ k_) (fun _=>False) rfl rfl ?aP (fun _ hk=>hk.elim) ?aF ?aO ?aB ?aS ?aL ?_;(case aP=>exact rfl);(case aB=>exact (by repeat (first|(with_reducible first|exact HB.out|apply below_alloc|apply pw_below_drewN|apply below_drew1)|exact HB.out|exact Below.refl _ _)));(case aF=>exact (fun k_ hk=>Nat.le_trans HK.out.1 hk));(case aO=>exact (by (with_reducible repeat (first|apply Kd.R_alloc|apply Kd.R_drewN|apply Kd.R_drew));exact HP.out));(case aS=>exact (below_size (by repeat (first|(with_reducible first|exact HB.out|apply below_alloc|apply pw_below_drewN|apply below_drew1)|exact HB.out|exact Below.refl _ _))));(case aL=>have:=B3.out;omega);intro v151 w17 ho hb hg hat;rw [← NY.out] at ho;have n2_:=Aside0.mk (hb);have n3_:=Aside0.mk (ho);have n4_:=Aside0.mk (Kd.S_after (ok:=fun k_=>(P0_ k_ ∨ w.heap.size ≤ k_)) (by (with_reducible repeat (first|apply Kd.S_alloc|apply Kd.S_drewN|apply Kd.S_drew));exact HO.out) hg hat);have n5_:=Aside0.mk (Kept.of_grown hg HK.out (fun k_ hk=>.inr (PO.out k_ hk)));clear HO HB HP HK ho hb hg hat;have HO:=n4_;have HB:=n2_;have HP:=n3_;have HK:=n5_;clear n4_ n2_ n3_ n5_))
                go_roundg k3
                case measure=>have:=HK4.out;omega
                case rel=>exact ⟨o,y1,wrap64 (c + 1),rfl,H',⟨by have:=HK4.out;omega⟩,HO,HP,HB,HK⟩
               ·rw [if_neg b3] at H
                exact absurd H (by simp)
           ·rw [if_neg b6] at H
            exact absurd H (by simp)
         ·rw [if_neg b5] at H
          exact absurd H (by simp)
        ·rw [if_neg b4] at H
         exact absurd H (by simp)
       ·rw [if_neg b3] at H
        exact absurd H (by simp)
      ·rw [if_neg b2] at H
       by_cases b3 : a = (m : Int)
       ·rw [if_pos b3] at H
        have H':=Aside0.mk H
        have b2b:=decide_eq_false b2
        have b3b : (a == (m : Int)) = true:=beq_iff_eq.mpr b3
        clear H b2 b3
        go_wp2
        go_roundg k2
        case measure=>have:=HK2.out;have:=HK1.out;omega
        case rel=>exact ⟨o,p,wrap64 (c + 1),rfl,H',⟨by have:=HK2.out;have:=HK1.out;omega⟩,HO,HP,HB,HK⟩
       ·rw [if_neg b3] at H
        exact absurd H (by simp)
   ·rw [if_neg b1] at H
    have b1b:=decide_eq_false b1
    obtain ⟨rfl,rfl⟩:=Prod.mk.inj (Option.some.inj H)
    clear H b1
    go_wp2
    go_ret
    exact ⟨_,rfl,Kd.R_mono HP.out (fun _ hk=>.inr hk),HO.out,HB.out,HK.out⟩
end Go.Proofs.Ytdjclffkidoohaa.QFnExactCanPart
