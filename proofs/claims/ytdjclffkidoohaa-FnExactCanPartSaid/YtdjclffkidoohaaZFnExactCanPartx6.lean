/- Some of the functions that the law reaches, and what they tell; no condition. -/
import Derived.Test.YtdjclffkidoohaaVFnExactCanPart
import Derived.Test.YtdjclffkidoohaaZFnExactCanPartx0
import Derived.Test.YtdjclffkidoohaaZFnExactCanPartx4
import Derived.Test.YtdjclffkidoohaaZFnExactCanPartx5
namespace Go.Proofs.Ytdjclffkidoohaa.QFnExactCanPart
open Go.RowKit Go.Proofs.YtdjclffkidoohaaW.PrintWords Go.Proofs.YtdjclffkidoohaaW.PrintLast Go.Proofs.YtdjclffkidoohaaW.PrintMore
attribute [local go_sem] max2_int min2_int max_two min_two max_three min_three max_four min_four   -- for this text's walks alone
set_option linter.unusedVariables false
set_option linter.unusedSimpArgs false
mutual
def spec_l4Relation.l0 : Nat → Int → List (List Int) → List Int → Int → Int → Option (List Int × Bool)
|0,_,_,_,_,_=>none
|k + 1,x1,x6,x7,x8,x9=>(spec_l1Has.f k x7 x8).bind fun t250=>(if t250 = true then (spec_l4Relation.l0 k x1 x6 x7 (wrap64 (x8 + 1)) x9) else (spec_l4Relation.l1 k x1 x6 x7 x8 x9 0))
def spec_l4Relation.l1 : Nat → Int → List (List Int) → List Int → Int → Int → Int → Option (List Int × Bool)
|0,_,_,_,_,_,_=>none
|k + 1,x1,x6,x7,x8,x9,x10=>if x10 < (x7.length : Int) then (if 0 ≤ x10 then (if x10 < (x6.length : Int) then (if 0 ≤ (rd x7 x10) then (if (rd x7 x10) < ((rd_L1 x6 x10).length : Int) then ((spec_l1Most.f (rd (rd_L1 x6 x10) (rd x7 x10)) (wrap64 (-(rd (rd_L1 x6 x10) (rd x7 x10))))).bind fun t257=>((spec_l2Gcd.f k x9 t257).bind fun t258=>(if t258 = 0 then (none) else (spec_l4Relation.l1 k x1 x6 x7 x8 (wrap64 ((wrap64 (Int.tdiv x9 t258)) * t257)) (wrap64 (x10 + 1)))))) else (none)) else (none)) else (none)) else (none)) else (if 0 ≤ x1 then (if (x1 : Int).toNat ≤ 35184372088832 then ((some (List.replicate (x1 : Int).toNat 0 : List Int)).bind fun y259=>(if 0 ≤ x8 then (if x8 < (y259.length : Int) then (spec_l4Relation.l2 k x6 x7 x8 x9 (y259.set (x8 : Int).toNat x9) 0) else (none)) else (none))) else (none)) else (none))
def spec_l4Relation.l2 : Nat → List (List Int) → List Int → Int → Int → List Int → Int → Option (List Int × Bool)
|0,_,_,_,_,_,_=>none
|k + 1,x6,x7,x8,x9,x12,x13=>if x13 < (x7.length : Int) then (if 0 ≤ x13 then (if x13 < (x6.length : Int) then (if 0 ≤ x8 then (if x8 < ((rd_L1 x6 x13).length : Int) then (if 0 ≤ (rd x7 x13) then (if (rd x7 x13) < ((rd_L1 x6 x13).length : Int) then (if (rd (rd_L1 x6 x13) (rd x7 x13)) = 0 then (none) else (if (rd x7 x13) < (x12.length : Int) then (spec_l4Relation.l2 k x6 x7 x8 x9 (x12.set ((rd x7 x13) : Int).toNat (wrap64 ((wrap64 (-(rd (rd_L1 x6 x13) x8))) * (wrap64 (Int.tdiv x9 (rd (rd_L1 x6 x13) (rd x7 x13))))))) (wrap64 (x13 + 1))) else (none))) else (none)) else (none)) else (none)) else (none)) else (none)) else (none)) else ((spec_l4Divided.f k x12).bind fun t270=>(some (t270,true)))
end
def spec_l4Relation.f (k : Nat) (l0 : List (List Int)) (a1 : Int) : Option (List Int × Bool):=(spec_l4Reduced.f k l0 a1).bind fun bt241=>(if (bt241.2.length : Int) = (wrap64 (a1 - 1)) then (spec_l4Relation.l0 k a1 bt241.1 bt241.2 0 1) else (some ((([] : List Int)),false)))
def spec_l4Relation.T10 : Bool × List (List Nat × List Nat):=(true,[([],[]),([],[]),([0,1],[0,1]),([2],[2]),([],[]),([],[]),([4,5],[4,5]),([6],[6]),([3,7],[3,7]),([8],[8]),([],[]),([],[]),([10,11],[10,11]),([12],[12]),([],[]),([],[]),([14,15],[14,15]),([16],[16]),([13,17],[13,17]),([18],[18]),([19],[19]),([9,20],[9,20]),([21,21,0,1,2,3,4,5,6,7,8,9,10,11,12,13,14,15,16,17,18,19,20,21],[21])])
def spec_l4Relation.B10 : List Nat:=[0,0,3,7,0,0,48,112,255,511,0,0,3072,7168,0,0,49152,114688,261120,523264,1047552,2097151,4194303]
theorem spec_l4Relation.tab10 : rtab .any (opsOf Try.f137 10) = spec_l4Relation.T10:=by kernel_rfl
theorem spec_l4Relation.bits10 : waitsOk spec_l4Relation.T10.2 spec_l4Relation.B10 = true:=by kernel_rfl
def spec_l4Relation.T17 : Bool × List (List Nat × List Nat):=(true,[([],[]),([],[]),([],[]),([1,2],[1,2]),([3],[3]),([],[]),([],[]),([5,6],[5,6]),([7],[7]),([],[]),([8,9],[8,9]),([10],[10]),([11],[11]),([],[]),([],[]),([],[]),([14,15],[14,15]),([16],[16]),([],[]),([],[]),([18,19],[18,19]),([20],[20]),([17,21],[17,21]),([22],[22]),([13,23],[13,23]),([12,24],[12,24]),([0,4,0,1,2,3,4,5,6,7,8,9,10,11,12,13,14,15,16,17,18,19,20,21,22,23,24,25],[0,4]),([26,25,0,1,2,3,4,5,6,7,8,9,10,11,12,13,14,15,16,17,18,19,20,21,22,23,24,25],[25,26])])
def spec_l4Relation.B17 : List Nat:=[0,0,0,6,14,0,0,96,224,0,992,2016,4064,0,0,0,49152,114688,0,0,786432,1835008,4177920,8372224,16769024,33554400,67108863,134217727]
theorem spec_l4Relation.tab17 : rtab .any (opsOf Try.f137 17) = spec_l4Relation.T17:=by kernel_rfl
theorem spec_l4Relation.bits17 : waitsOk spec_l4Relation.T17.2 spec_l4Relation.B17 = true:=by kernel_rfl
set_option maxHeartbeats 8000000 in
set_option maxRecDepth 100000 in
theorem spec_l4Relation.calls (k : Nat) (A0 : Option Addr) (c0 : Nat) (l0 : List (List Int)) (a1 : Int) (r1 : List Int) (r2 : Bool) (w : World) (hr0 : Kd.C (Kd.slice 3 (Kd.int .i64)) w A0 l0.length l0) (hc0 : l0.length ≤ c0) (h : spec_l4Relation.f k l0 a1 = some (r1,r2)) :
  Calls Try.prog 137 #[.slice A0 l0.length c0,.int .i64 a1] w fun e w'=>∃ v0_ : Value,e = .returned (.tuple #[v0_,.bool r2]) ∧ Kd.R (Kd.int .i64) 3 w' w.heap.size (fun _=>True) v0_ r1 ∧ Below w.heap.size w w':=by
 have HR0:=Aside0.mk hr0
 have HC0:=Aside0.mk hc0
 clear hr0 hc0
 have HB:=Aside0.mk (Below.refl w.heap.size w)
 have H : ((spec_l4Reduced.f k l0 a1).bind fun bt241=>(if (bt241.2.length : Int) = (wrap64 (a1 - 1)) then (spec_l4Relation.l0 k a1 bt241.1 bt241.2 0 1) else (some ((([] : List Int)),false)))) = some (r1,r2):=h
 clear h
 replace H:=Option.bind_eq_some_iff.mp H
 obtain ⟨⟨t241,t242⟩,A30,H⟩:=H
 replace H : (if (t242.length : Int) = (wrap64 (a1 - 1)) then (spec_l4Relation.l0 k a1 t241 t242 0 1) else (some ((([] : List Int)),false))) = some (r1,r2):=H
 have A3:=Aside0.mk A30
 clear A30
 by_cases c4 : (t242.length : Int) = (wrap64 (a1 - 1))
 ·rw [if_pos c4] at H
  have c4b0 : ((t242.length : Int) == (wrap64 (a1 - 1))) = true:=beq_iff_eq.mpr c4
  have c4b1 : ((t242.length : Int) != (wrap64 (a1 - 1))) = false:=bne_eq_false_iff_eq.mpr c4
  clear c4
  have H':=Aside0.mk H
  clear H
  go_enter Try.func137,Try.ntmps137
  go_wp2_with (first|((with_reducible refine gate_callee (f:=86) rfl ?_);refine goesL_ (some 17) rfl rfl Try.func86 (by kernel_rfl) rfl #[.slice A0 l0.length c0,.int .i64 a1] rfl (by (try simp only [List.map_toArray,List.map_cons,List.map_nil]);first|done|rfl|(simp only [List.length_drop,List.length_take];rfl)) ?_;(with_reducible refine (spec_l4Reduced.calls k _ _ l0 a1 t241 t242 _ ?side1 ?side2 A3.out).mono ?_);(case side1=>repeat (first|exact HR0.out|(with_reducible refine Kd.C_alloc ?_ _)|(with_reducible refine Kd.C_drewN ?_ _)|(with_reducible refine Kd.C_drew ?_)));(case side2=>exact HC0.out);rintro e w5 ⟨v243,v245,rfl,ho0,ho1,hb⟩;refine ⟨_,rfl,?_⟩;have n0_:=Aside0.mk (Kd.S_lower ho0 (below_size (by repeat (first|(with_reducible first|exact HB.out|apply below_alloc|apply pw_below_drewN|apply below_drew1)|exact HB.out|exact Below.refl _ _))));have n1_:=Aside0.mk (Kd.R_lower ho1 (below_size (by repeat (first|(with_reducible first|exact HB.out|apply below_alloc|apply pw_below_drewN|apply below_drew1)|exact HB.out|exact Below.refl _ _))));have n2_:=Aside0.mk (below_step (by repeat (first|(with_reducible first|exact HB.out|apply below_alloc|apply pw_below_drewN|apply below_drew1)|exact HB.out|exact Below.refl _ _)) hb);clear HB;have HO244:=n0_;have HO246:=n1_;have HB:=n2_;clear n0_ n1_ n2_;(try clear hb);(try clear hb2);(try clear hk);(try clear hi);(try clear ho0);(try clear ho1);obtain ⟨Ao6,co6,eo6⟩:=Kd.R_slice HO246.out;subst eo6))
  go_loopg [8] k (fun kq v8 w'=>∃ (x8_1 : Int),v8 = .int .i64 x8_1 ∧ Aside0 (spec_l4Relation.l0 kq a1 t241 t242 x8_1 1 = some (r1,r2)) ∧ Aside0 (kq ≤ k) ∧ Aside0 (Kd.S (Kd.slice 3 (Kd.int .i64)) 26 w' w.heap.size (fun k_=>some k_ ≠ ((.slice Ao6 t242.length co6) : Value).ownBlock) v243 t241) ∧ Aside0 (Kd.R (Kd.int .i64) 3 w' w.heap.size (fun _=>True) (.slice Ao6 t242.length co6) t242) ∧ Aside0 (Below w.heap.size w w'))
  case atStart=>exact ⟨(0),(by first|rfl|(simp;done)|(simp [*];done)),H',⟨Nat.le_refl _⟩,⟨by (with_reducible repeat (first|apply Kd.S_alloc|apply Kd.S_drewN|apply Kd.S_drew));exact HO244.out⟩,⟨by (with_reducible repeat (first|apply Kd.R_alloc|apply Kd.R_drewN|apply Kd.R_drew));exact HO246.out⟩,⟨by repeat (first|(with_reducible first|exact HB.out|apply below_alloc|apply pw_below_drewN|apply below_drew1)|exact HB.out|exact Below.refl _ _)⟩⟩
  case round =>
   clear H'
   try clear c1
   try clear p2
   try clear c4
   try clear c4b0
   try clear c4b1
   try clear p6
   obtain ⟨x8_1,rfl,HA,HK1,HO_6,HO_7,HB⟩:=hrel
   cases gk with
  |zero=>exact absurd HA.out (by simp [spec_l4Relation.l0])
  |succ k1 =>
    have H:=HA.out
    clear HA
    simp only [spec_l4Relation.l0] at H
    replace H:=Option.bind_eq_some_iff.mp H
    obtain ⟨t250,A70,H⟩:=H
    replace H : (if t250 = true then (spec_l4Relation.l0 k1 a1 t241 t242 (wrap64 (x8_1 + 1)) 1) else (spec_l4Relation.l1 k1 a1 t241 t242 x8_1 1 0)) = some (r1,r2):=H
    have A7:=Aside0.mk A70
    clear A70
    by_cases c8 : t250 = true
    ·subst c8
     have H1 : (spec_l4Relation.l0 k1 a1 t241 t242 (wrap64 (x8_1 + 1)) 1) = some (r1,r2):=by rw [if_pos rfl] at H;exact H
     clear H
     have H:=H1
     clear H1
     have H':=Aside0.mk H
     clear H
     go_wp2_with (first|((with_reducible refine gate_callee (f:=128) rfl ?_);refine goesL_ (some 28) rfl rfl Try.func128 (by kernel_rfl) rfl #[.slice Ao6 t242.length co6,.int .i64 x8_1] rfl (by (try simp only [List.map_toArray,List.map_cons,List.map_nil]);first|done|rfl|(simp only [List.length_drop,List.length_take];rfl)) ?_;(with_reducible refine (spec_l1Has.calls k1 _ _ t242 x8_1 true _ ?side1 ?side2 A7.out).mono ?_);(case side1=>repeat (first|exact (Kd.R_reads' HO_7.out).2.2|(with_reducible refine Kd.C_alloc ?_ _)|(with_reducible refine Kd.C_drewN ?_ _)|(with_reducible refine Kd.C_drew ?_)));(case side2=>exact (Kd.R_reads' HO_7.out).2.1);rintro e w' ⟨rfl,⟨nd,rfl⟩⟩;refine ⟨_,rfl,?_⟩))
     go_roundg k1
     case measure=>have:=HK1.out;omega
     case rel=>exact ⟨(wrap64 (x8_1 + 1)),(by first|rfl|(simp;done)|(simp [*];done)),H',⟨by have:=HK1.out;omega⟩,⟨by (with_reducible repeat (first|apply Kd.S_alloc|apply Kd.S_drewN|apply Kd.S_drew));exact HO_6.out⟩,⟨by (with_reducible repeat (first|apply Kd.R_alloc|apply Kd.R_drewN|apply Kd.R_drew));exact HO_7.out⟩,⟨by repeat (first|(with_reducible first|exact HB.out|apply below_alloc|apply pw_below_drewN|apply below_drew1)|exact HB.out|exact Below.refl _ _)⟩⟩
    ·replace c8:=Bool.eq_false_iff.mpr c8
     subst c8
     have H1 : (spec_l4Relation.l1 k1 a1 t241 t242 x8_1 1 0) = some (r1,r2):=by rw [if_neg (show ¬ (false = true) by decide)] at H;exact H
     clear H
     have H:=H1
     clear H1
     have H':=Aside0.mk H
     clear H
     go_wp2_with (first|((with_reducible refine gate_callee (f:=128) rfl ?_);refine goesL_ (some 28) rfl rfl Try.func128 (by kernel_rfl) rfl #[.slice Ao6 t242.length co6,.int .i64 x8_1] rfl (by (try simp only [List.map_toArray,List.map_cons,List.map_nil]);first|done|rfl|(simp only [List.length_drop,List.length_take];rfl)) ?_;(with_reducible refine (spec_l1Has.calls k1 _ _ t242 x8_1 false _ ?side1 ?side2 A7.out).mono ?_);(case side1=>repeat (first|exact (Kd.R_reads' HO_7.out).2.2|(with_reducible refine Kd.C_alloc ?_ _)|(with_reducible refine Kd.C_drewN ?_ _)|(with_reducible refine Kd.C_drew ?_)));(case side2=>exact (Kd.R_reads' HO_7.out).2.1);rintro e w' ⟨rfl,⟨nd,rfl⟩⟩;refine ⟨_,rfl,?_⟩))
     go_loopg [9,10] k1 (fun kq v9 v10 w'=>∃ (x9_2 : Int) (x10_2 : Int),v9 = .int .i64 x9_2 ∧ v10 = .int .i64 x10_2 ∧ Aside0 (spec_l4Relation.l1 kq a1 t241 t242 x8_1 x9_2 x10_2 = some (r1,r2)) ∧ Aside0 (kq ≤ k1) ∧ Aside0 (Kd.S (Kd.slice 3 (Kd.int .i64)) 26 w' w.heap.size (fun k_=>some k_ ≠ ((.slice Ao6 t242.length co6) : Value).ownBlock) v243 t241) ∧ Aside0 (Kd.R (Kd.int .i64) 3 w' w.heap.size (fun _=>True) (.slice Ao6 t242.length co6) t242) ∧ Aside0 (Below w.heap.size w w'))
     case atStart=>exact ⟨(1),(0),(by first|rfl|(simp;done)|(simp [*];done)),(by first|rfl|(simp;done)|(simp [*];done)),H',⟨Nat.le_refl _⟩,⟨by (with_reducible repeat (first|apply Kd.S_alloc|apply Kd.S_drewN|apply Kd.S_drew));exact HO_6.out⟩,⟨by (with_reducible repeat (first|apply Kd.R_alloc|apply Kd.R_drewN|apply Kd.R_drew));exact HO_7.out⟩,⟨by repeat (first|(with_reducible first|exact HB.out|apply below_alloc|apply pw_below_drewN|apply below_drew1)|exact HB.out|exact Below.refl _ _)⟩⟩
     case round =>
      clear H'
      try clear c1
      try clear p2
      try clear c4
      try clear c4b0
      try clear c4b1
      try clear p6
      try clear c8
      try clear p2
      try clear p6
      obtain ⟨x9_2,x10_2,rfl,rfl,HA,HK2,HO_6,HO_7,HB⟩:=hrel
      cases gk with
     |zero=>exact absurd HA.out (by simp [spec_l4Relation.l1])
     |succ k2 =>
       have H:=HA.out
       clear HA
       simp only [spec_l4Relation.l1] at H
       by_cases c9 : x10_2 < (t242.length : Int)
       ·rw [if_pos c9] at H
        have c9b0 : decide (x10_2 < (t242.length : Int)) = true:=decide_eq_true c9
        clear c9
        by_cases c10 : 0 ≤ x10_2
        ·rw [if_pos c10] at H
         have c10b0 : decide (0 ≤ x10_2) = true:=decide_eq_true c10
         clear c10
         by_cases c11 : x10_2 < (t241.length : Int)
         ·rw [if_pos c11] at H
          have c11b0 : decide (x10_2 < (t241.length : Int)) = true:=decide_eq_true c11
          clear c11
          by_cases c12 : 0 ≤ (rd t242 x10_2)
          ·rw [if_pos c12] at H
           have c12b0 : decide (0 ≤ (rd t242 x10_2)) = true:=decide_eq_true c12
           clear c12
           by_cases c13 : (rd t242 x10_2) < ((rd_L1 t241 x10_2).length : Int)
           ·rw [if_pos c13] at H
            have c13b0 : decide ((rd t242 x10_2) < ((rd_L1 t241 x10_2).length : Int)) = true:=decide_eq_true c13
            clear c13
            replace H:=Option.bind_eq_some_iff.mp H
            obtain ⟨t257,A140,H⟩:=H
            replace H : ((spec_l2Gcd.f k2 x9_2 t257).bind fun t258=>(if t258 = 0 then (none) else (spec_l4Relation.l1 k2 a1 t241 t242 x8_1 (wrap64 ((wrap64 (Int.tdiv x9_2 t258)) * t257)) (wrap64 (x10_2 + 1))))) = some (r1,r2):=H
            have A14:=Aside0.mk A140
            clear A140
            replace H:=Option.bind_eq_some_iff.mp H
            obtain ⟨t258,A150,H⟩:=H
            replace H : (if t258 = 0 then (none) else (spec_l4Relation.l1 k2 a1 t241 t242 x8_1 (wrap64 ((wrap64 (Int.tdiv x9_2 t258)) * t257)) (wrap64 (x10_2 + 1)))) = some (r1,r2):=H
            have A15:=Aside0.mk A150
            clear A150
            by_cases c16 : t258 = 0
            ·rw [if_pos c16] at H
             exact absurd H (by simp)
            ·rw [if_neg c16] at H
             have c16b0 : (t258 == 0) = false:=beq_eq_false_iff_ne.mpr c16
             have c16b1 : (t258 != 0) = true:=bne_iff_ne.mpr c16
             have H':=Aside0.mk H
             clear H
             try go_wp2
             have n0_:=Aside0.mk (Kd.S_drew HO_6.out)
             have n1_:=Aside0.mk (Kd.R_drew HO_7.out)
             have n2_:=Aside0.mk (below_drew1 HB.out)
             clear HO_6
             clear HO_7
             clear HB
             have HO_6:=n0_
             have HO_7:=n1_
             have HB:=n2_
             clear n0_ n1_ n2_
             obtain ⟨Ao18,co18,eo18⟩:=Kd.S_slice HO_6.out
             (first|subst eo18|(injection eo18 with f1_ f2_ f3_;have f4_:=f1_.symm;have f5_:=f3_.symm;clear f1_ f2_ f3_;subst f4_;subst f5_))
             have p251 : 0 ≤ (x10_2 : Int):=of_decide_eq_true (by first|(with_reducible assumption)|assumption)
             have q251 : x10_2 < (t241.length : Int):=of_decide_eq_true (by first|(with_reducible assumption)|assumption)
             obtain ⟨ad251,A251_0,c251_0,e251,hx251_0,hl251_0,hi251_0⟩:=at_L1 (Kd.S_reads' HO_6.out).2.2 x10_2 p251 q251
             cases e251
             obtain ⟨ce251,hce251,hMe251,hcc251⟩:=Kd.S_get HO_6.out [] x10_2 p251 (by first|exact q251|exact of_decide_eq_true (by first|(with_reducible assumption)|assumption)|(have e_:=(Kd.S_reads' HO_6.out).1;omega))
             obtain ⟨ve251_0,rfl,ge251_0⟩:=hMe251
             have hv251_0:=hcc251 0 _ rfl
             rw [Nat.add_zero,show ((Kd.slice 3 (Kd.int .i64))).sz = 1 from rfl,Nat.mul_one] at hv251_0
             replace hv251_0:=Option.some.inj (hv251_0.symm.trans hx251_0)
             rw [hv251_0] at ge251_0
             have HL251_0:=Aside0.mk (show Kd.R (Kd.int .i64) 3 _ _ _ _ (rd_L1 t241 x10_2) from ge251_0)
             clear hv251_0 ge251_0
             clear hcc251 hce251
             have HR251_0:=Aside0.mk hi251_0
             have HC251_0:=Aside0.mk hl251_0
             clear hi251_0 hl251_0
             replace p251:=eq_true p251
             replace q251:=eq_true q251
             have p252 : 0 ≤ (x10_2 : Int):=of_decide_eq_true (by first|(with_reducible assumption)|assumption)
             have q252 : x10_2 < (t242.length : Int):=of_decide_eq_true (by first|(with_reducible assumption)|assumption)
             obtain ⟨ad252,e252,hx252_0⟩:=Kd.at_int (Kd.R_reads' HO_7.out).2.2 x10_2 p252 q252
             cases e252
             replace p252:=eq_true p252
             replace q252:=eq_true q252
             have p253 : 0 ≤ ((rd t242 x10_2) : Int):=of_decide_eq_true (by first|(with_reducible assumption)|assumption)
             have q253 : (rd t242 x10_2) < ((rd_L1 t241 x10_2).length : Int):=of_decide_eq_true (by first|(with_reducible assumption)|assumption)
             obtain ⟨ad253,e253,hx253_0⟩:=Kd.at_int (by repeat (first|(with_reducible exact HR251_0.out)|(with_reducible refine Kd.C_alloc ?_ _)|(with_reducible refine Kd.C_drewN ?_ _)|(with_reducible refine Kd.C_drew ?_)|exact HR251_0.out)) (rd t242 x10_2) p253 q253
             cases e253
             replace p253:=eq_true p253
             replace q253:=eq_true q253
             have p254 : 0 ≤ (x10_2 : Int):=of_decide_eq_true (by first|(with_reducible assumption)|assumption)
             have q254 : x10_2 < (t241.length : Int):=of_decide_eq_true (by first|(with_reducible assumption)|assumption)
             obtain ⟨ad254,A254_0,c254_0,e254,hx254_0,hl254_0,hi254_0⟩:=at_L1 (Kd.S_reads' HO_6.out).2.2 x10_2 p254 q254
             obtain rfl : ad251 = ad254:=(by injection e254)
             obtain ⟨ce254,hce254,hMe254,hcc254⟩:=Kd.S_get HO_6.out [] x10_2 p254 (by first|exact q254|exact of_decide_eq_true (by first|(with_reducible assumption)|assumption)|(have e_:=(Kd.S_reads' HO_6.out).1;omega))
             obtain ⟨ve254_0,rfl,ge254_0⟩:=hMe254
             have hv254_0:=hcc254 0 _ rfl
             rw [Nat.add_zero,show ((Kd.slice 3 (Kd.int .i64))).sz = 1 from rfl,Nat.mul_one] at hv254_0
             replace hv254_0:=Option.some.inj (hv254_0.symm.trans hx254_0)
             rw [hv254_0] at ge254_0
             have HL254_0:=Aside0.mk (show Kd.R (Kd.int .i64) 3 _ _ _ _ (rd_L1 t241 x10_2) from ge254_0)
             clear hv254_0 ge254_0
             clear hcc254 hce254
             have HR254_0:=Aside0.mk hi254_0
             have HC254_0:=Aside0.mk hl254_0
             clear hi254_0 hl254_0
             replace p254:=eq_true p254
             replace q254:=eq_true q254
             have ea_:=Option.some.inj (hx251_0.symm.trans hx254_0)
             injection ea_ with ea_ en_ ec_
             subst ea_
             subst ec_
             clear en_
             have p255 : 0 ≤ (x10_2 : Int):=of_decide_eq_true (by first|(with_reducible assumption)|assumption)
             have q255 : x10_2 < (t242.length : Int):=of_decide_eq_true (by first|(with_reducible assumption)|assumption)
             obtain ⟨ad255,e255,hx255_0⟩:=Kd.at_int (Kd.R_reads' HO_7.out).2.2 x10_2 p255 q255
             obtain rfl : ad252 = ad255:=(by injection e255)
             replace p255:=eq_true p255
             replace q255:=eq_true q255
             have p256 : 0 ≤ ((rd t242 x10_2) : Int):=of_decide_eq_true (by first|(with_reducible assumption)|assumption)
             have q256 : (rd t242 x10_2) < ((rd_L1 t241 x10_2).length : Int):=of_decide_eq_true (by first|(with_reducible assumption)|assumption)
             obtain ⟨ad256,e256,hx256_0⟩:=Kd.at_int (by repeat (first|(with_reducible exact HR254_0.out)|(with_reducible refine Kd.C_alloc ?_ _)|(with_reducible refine Kd.C_drewN ?_ _)|(with_reducible refine Kd.C_drew ?_)|exact HR254_0.out)) (rd t242 x10_2) p256 q256
             cases e256
             replace p256:=eq_true p256
             replace q256:=eq_true q256
             refine start_ (n:=23) (S:=fun w'=>w'.cell? (ad251.add (x10_2).toNat) = some (.slice (some ad253) (rd_L1 t241 x10_2).length c251_0) ∧ w'.cell? (ad252.add (x10_2).toNat) = some (.int .i64 (rd t242 x10_2)) ∧ w'.cell? (ad253.add ((rd t242 x10_2)).toNat) = some (.int .i64 (rd (rd_L1 t241 x10_2) (rd t242 x10_2))) ∧ w'.cell? (ad251.add (x10_2).toNat) = some (.slice (some ad253) (rd_L1 t241 x10_2).length c251_0) ∧ w'.cell? (ad252.add (x10_2).toNat) = some (.int .i64 (rd t242 x10_2)) ∧ w'.cell? (ad253.add ((rd t242 x10_2)).toNat) = some (.int .i64 (rd (rd_L1 t241 x10_2) (rd t242 x10_2)))) (ds:=[]) #[false,false,false,false,false,false,false,false,false,false,false,false,false,false,false,false,false,false,false,false,false,false,false] (by kernel_rfl) rfl rfl ⟨hx251_0,hx252_0,hx253_0,hx254_0,hx255_0,hx256_0⟩ (fun hHeld=>?_);refine with_tabW spec_l4Relation.tab10 spec_l4Relation.bits10 (fun HT_ HW_=>?_)
             generalize wr.drew = w17 at HO_6 HO_7 HB HL251_0 HL254_0 HR251_0 HR254_0 hx251_0 hx252_0 hx253_0 hx254_0 hx255_0 hx256_0 hHeld ⊢
             refine pure_ (i:=0) (N:=some 37) (v:=?_) (a':=?_) #[true,false,false,false,false,false,false,false,false,false,false,false,false,false,false,false,false,false,false,false,false,false,false] rfl rfl (any_of HT_.out (by kernel_rfl)) (fun _ _ _ h=>h) (Or.inl ⟨by rfl,?_⟩) ?_ ?_
             rotate_left
             ·intro w'
              go_simp
              with_reducible rfl
             rotate_left
             ·simp only [Act.put,List.setIfInBounds_toArray,List.set_cons_zero,List.set_cons_succ,i64_w,i32_w]
              rfl
             refine pure_ (i:=1) (N:=some 38) (v:=?_) (a':=?_) #[true,true,false,false,false,false,false,false,false,false,false,false,false,false,false,false,false,false,false,false,false,false,false] rfl rfl (any_of HT_.out (by kernel_rfl)) (fun _ _ _ h=>h) (Or.inl ⟨by rfl,?_⟩) ?_ ?_
             rotate_left
             ·intro w'
              go_simp
              with_reducible rfl
             rotate_left
             ·simp only [Act.put,List.setIfInBounds_toArray,List.set_cons_zero,List.set_cons_succ,i64_w,i32_w]
              rfl
             refine pure_ (i:=2) (N:=some 39) (v:=?_) (a':=?_) #[true,true,true,false,false,false,false,false,false,false,false,false,false,false,false,false,false,false,false,false,false,false,false] rfl rfl (any_of HT_.out (by kernel_rfl)) (fun _ _ _ h=>h) (Or.inl ⟨by rfl,?_⟩) ?_ ?_
             rotate_left
             ·intro w'
              go_simp
              with_reducible rfl
             rotate_left
             ·simp only [Act.put,List.setIfInBounds_toArray,List.set_cons_zero,List.set_cons_succ,i64_w,i32_w]
              rfl
             refine pure_ (i:=4) (N:=some 41) (v:=?_) (a':=?_) #[true,true,true,false,true,false,false,false,false,false,false,false,false,false,false,false,false,false,false,false,false,false,false] rfl rfl (any_of HT_.out (by kernel_rfl)) (fun _ _ _ h=>h) (Or.inl ⟨by rfl,?_⟩) ?_ ?_
             rotate_left
             ·intro w'
              go_simp
              with_reducible rfl
             rotate_left
             ·simp only [Act.put,List.setIfInBounds_toArray,List.set_cons_zero,List.set_cons_succ,i64_w,i32_w]
              rfl
             refine pure_ (i:=5) (N:=some 42) (v:=?_) (a':=?_) #[true,true,true,false,true,true,false,false,false,false,false,false,false,false,false,false,false,false,false,false,false,false,false] rfl rfl (any_of HT_.out (by kernel_rfl)) (fun _ _ _ h=>h) (Or.inl ⟨by rfl,?_⟩) ?_ ?_
             rotate_left
             ·intro w'
              go_simp
              with_reducible rfl
             rotate_left
             ·simp only [Act.put,List.setIfInBounds_toArray,List.set_cons_zero,List.set_cons_succ,i64_w,i32_w]
              rfl
             refine pure_ (i:=6) (N:=some 43) (v:=?_) (a':=?_) #[true,true,true,false,true,true,true,false,false,false,false,false,false,false,false,false,false,false,false,false,false,false,false] rfl rfl (any_of HT_.out (by kernel_rfl)) (fun _ _ _ h=>h) (Or.inl ⟨by rfl,?_⟩) ?_ ?_
             rotate_left
             ·intro w'
              go_simp
              with_reducible rfl
             rotate_left
             ·simp only [Act.put,List.setIfInBounds_toArray,List.set_cons_zero,List.set_cons_succ,i64_w,i32_w]
              rfl
             refine pure_ (i:=10) (N:=some 47) (v:=?_) (a':=?_) #[true,true,true,false,true,true,true,false,false,false,true,false,false,false,false,false,false,false,false,false,false,false,false] rfl rfl (any_of HT_.out (by kernel_rfl)) (fun _ _ _ h=>h) (Or.inl ⟨by rfl,?_⟩) ?_ ?_
             rotate_left
             ·intro w'
              go_simp
              with_reducible rfl
             rotate_left
             ·simp only [Act.put,List.setIfInBounds_toArray,List.set_cons_zero,List.set_cons_succ,i64_w,i32_w]
              rfl
             refine pure_ (i:=11) (N:=some 48) (v:=?_) (a':=?_) #[true,true,true,false,true,true,true,false,false,false,true,true,false,false,false,false,false,false,false,false,false,false,false] rfl rfl (any_of HT_.out (by kernel_rfl)) (fun _ _ _ h=>h) (Or.inl ⟨by rfl,?_⟩) ?_ ?_
             rotate_left
             ·intro w'
              go_simp
              with_reducible rfl
             rotate_left
             ·simp only [Act.put,List.setIfInBounds_toArray,List.set_cons_zero,List.set_cons_succ,i64_w,i32_w]
              rfl
             refine pure_ (i:=12) (N:=some 49) (v:=?_) (a':=?_) #[true,true,true,false,true,true,true,false,false,false,true,true,true,false,false,false,false,false,false,false,false,false,false] rfl rfl (any_of HT_.out (by kernel_rfl)) (fun _ _ _ h=>h) (Or.inl ⟨by rfl,?_⟩) ?_ ?_
             rotate_left
             ·intro w'
              go_simp
              with_reducible rfl
             rotate_left
             ·simp only [Act.put,List.setIfInBounds_toArray,List.set_cons_zero,List.set_cons_succ,i64_w,i32_w]
              rfl
             refine pure_ (i:=14) (N:=some 51) (v:=?_) (a':=?_) #[true,true,true,false,true,true,true,false,false,false,true,true,true,false,true,false,false,false,false,false,false,false,false] rfl rfl (any_of HT_.out (by kernel_rfl)) (fun _ _ _ h=>h) (Or.inl ⟨by rfl,?_⟩) ?_ ?_
             rotate_left
             ·intro w'
              go_simp
              with_reducible rfl
             rotate_left
             ·simp only [Act.put,List.setIfInBounds_toArray,List.set_cons_zero,List.set_cons_succ,i64_w,i32_w]
              rfl
             refine pure_ (i:=15) (N:=some 52) (v:=?_) (a':=?_) #[true,true,true,false,true,true,true,false,false,false,true,true,true,false,true,true,false,false,false,false,false,false,false] rfl rfl (any_of HT_.out (by kernel_rfl)) (fun _ _ _ h=>h) (Or.inl ⟨by rfl,?_⟩) ?_ ?_
             rotate_left
             ·intro w'
              go_simp
              with_reducible rfl
             rotate_left
             ·simp only [Act.put,List.setIfInBounds_toArray,List.set_cons_zero,List.set_cons_succ,i64_w,i32_w]
              rfl
             refine pure_ (i:=16) (N:=some 53) (v:=?_) (a':=?_) #[true,true,true,false,true,true,true,false,false,false,true,true,true,false,true,true,true,false,false,false,false,false,false] rfl rfl (any_of HT_.out (by kernel_rfl)) (fun _ _ _ h=>h) (Or.inl ⟨by rfl,?_⟩) ?_ ?_
             rotate_left
             ·intro w'
              go_simp
              with_reducible rfl
             rotate_left
             ·simp only [Act.put,List.setIfInBounds_toArray,List.set_cons_zero,List.set_cons_succ,i64_w,i32_w]
              rfl
             refine take_ (i:=3) (N:=some 40) (v:=?_) (a':=?_) #[true,true,true,true,true,true,true,false,false,false,true,true,true,false,true,true,true,false,false,false,false,false,false] rfl rfl (take_ofW HT_.out HW_.out (by kernel_rfl)) (fun _ _ _ h=>h) (Or.inl ⟨by rfl,?_⟩) hHeld ?_ ?_
             rotate_left
             ·rintro w' ⟨s0,s1,s2,s3,s4,s5⟩
              go_simp
              with_reducible rfl
             rotate_left
             ·simp only [Act.put,List.setIfInBounds_toArray,List.set_cons_zero,List.set_cons_succ,i64_w,i32_w]
              rfl
             refine take_ (i:=7) (N:=some 44) (v:=?_) (a':=?_) #[true,true,true,true,true,true,true,true,false,false,true,true,true,false,true,true,true,false,false,false,false,false,false] rfl rfl (take_ofW HT_.out HW_.out (by kernel_rfl)) (fun _ _ _ h=>h) (Or.inl ⟨by rfl,?_⟩) hHeld ?_ ?_
             rotate_left
             ·rintro w' ⟨s0,s1,s2,s3,s4,s5⟩
              go_simp
              with_reducible rfl
             rotate_left
             ·simp only [Act.put,List.setIfInBounds_toArray,List.set_cons_zero,List.set_cons_succ,i64_w,i32_w]
              rfl
             refine pure_ (i:=8) (N:=some 45) (v:=?_) (a':=?_) #[true,true,true,true,true,true,true,true,true,false,true,true,true,false,true,true,true,false,false,false,false,false,false] rfl rfl (any_of HT_.out (by kernel_rfl)) (fun _ _ _ h=>h) (Or.inl ⟨by rfl,?_⟩) ?_ ?_
             rotate_left
             ·intro w'
              go_simp
              with_reducible rfl
             rotate_left
             ·simp only [Act.put,List.setIfInBounds_toArray,List.set_cons_zero,List.set_cons_succ,i64_w,i32_w]
              rfl
             refine take_ (i:=9) (N:=some 46) (v:=?_) (a':=?_) #[true,true,true,true,true,true,true,true,true,true,true,true,true,false,true,true,true,false,false,false,false,false,false] rfl rfl (take_ofW HT_.out HW_.out (by kernel_rfl)) (fun _ _ _ h=>h) (Or.inl ⟨by rfl,?_⟩) hHeld ?_ ?_
             rotate_left
             ·rintro w' ⟨s0,s1,s2,s3,s4,s5⟩
              go_simp
              with_reducible rfl
             rotate_left
             ·simp only [Act.put,List.setIfInBounds_toArray,List.set_cons_zero,List.set_cons_succ,i64_w,i32_w]
              rfl
             refine take_ (i:=13) (N:=some 50) (v:=?_) (a':=?_) #[true,true,true,true,true,true,true,true,true,true,true,true,true,true,true,true,true,false,false,false,false,false,false] rfl rfl (take_ofW HT_.out HW_.out (by kernel_rfl)) (fun _ _ _ h=>h) (Or.inl ⟨by rfl,?_⟩) hHeld ?_ ?_
             rotate_left
             ·rintro w' ⟨s0,s1,s2,s3,s4,s5⟩
              go_simp
              with_reducible rfl
             rotate_left
             ·simp only [Act.put,List.setIfInBounds_toArray,List.set_cons_zero,List.set_cons_succ,i64_w,i32_w]
              rfl
             refine take_ (i:=17) (N:=some 54) (v:=?_) (a':=?_) #[true,true,true,true,true,true,true,true,true,true,true,true,true,true,true,true,true,true,false,false,false,false,false] rfl rfl (take_ofW HT_.out HW_.out (by kernel_rfl)) (fun _ _ _ h=>h) (Or.inl ⟨by rfl,?_⟩) hHeld ?_ ?_
             rotate_left
             ·rintro w' ⟨s0,s1,s2,s3,s4,s5⟩
              go_simp
              with_reducible rfl
             rotate_left
             ·simp only [Act.put,List.setIfInBounds_toArray,List.set_cons_zero,List.set_cons_succ,i64_w,i32_w]
              rfl
             refine pure_ (i:=18) (N:=some 55) (v:=?_) (a':=?_) #[true,true,true,true,true,true,true,true,true,true,true,true,true,true,true,true,true,true,true,false,false,false,false] rfl rfl (any_of HT_.out (by kernel_rfl)) (fun _ _ _ h=>h) (Or.inl ⟨by rfl,?_⟩) ?_ ?_
             rotate_left
             ·intro w'
              go_simp
              with_reducible rfl
             rotate_left
             ·simp only [Act.put,List.setIfInBounds_toArray,List.set_cons_zero,List.set_cons_succ,i64_w,i32_w]
              rfl
             refine take_ (i:=19) (N:=some 56) (v:=?_) (a':=?_) #[true,true,true,true,true,true,true,true,true,true,true,true,true,true,true,true,true,true,true,true,false,false,false] rfl rfl (take_ofW HT_.out HW_.out (by kernel_rfl)) (fun _ _ _ h=>h) (Or.inl ⟨by rfl,?_⟩) hHeld ?_ ?_
             rotate_left
             ·rintro w' ⟨s0,s1,s2,s3,s4,s5⟩
              go_simp
              with_reducible rfl
             rotate_left
             ·simp only [Act.put,List.setIfInBounds_toArray,List.set_cons_zero,List.set_cons_succ,i64_w,i32_w]
              rfl
             refine pure_ (i:=20) (N:=some 57) (v:=?_) (a':=?_) #[true,true,true,true,true,true,true,true,true,true,true,true,true,true,true,true,true,true,true,true,true,false,false] rfl rfl (any_of HT_.out (by kernel_rfl)) (fun _ _ _ h=>h) (Or.inl ⟨by rfl,?_⟩) ?_ ?_
             rotate_left
             ·intro w'
              go_simp
              with_reducible rfl
             rotate_left
             ·simp only [Act.put,List.setIfInBounds_toArray,List.set_cons_zero,List.set_cons_succ,i64_w,i32_w]
              rfl
             refine one_ (i:=21) (N:=some 58) #[true,true,true,true,true,true,true,true,true,true,true,true,true,true,true,true,true,true,true,true,true,true,false] rfl rfl (one_of HT_.out (by kernel_rfl)) (by decide) (fun K hK=>?_)
             refine goes_ Try.func93 (by kernel_rfl) rfl #[.int .i64 (rd (rd_L1 t241 x10_2) (rd t242 x10_2)),.int .i64 (wrap64 (-(rd (rd_L1 t241 x10_2) (rd t242 x10_2))))] (by rfl) rfl rfl (by (try simp only [List.map_toArray,List.map_cons,List.map_nil]);first|done|rfl|(simp only [List.length_drop,List.length_take];rfl)) ?_
             with_reducible refine (spec_l1Most.calls (rd (rd_L1 t241 x10_2) (rd t242 x10_2)) (wrap64 (-(rd (rd_L1 t241 x10_2) (rd t242 x10_2)))) t257 _ A14.out).mono ?_
             rintro e w' ⟨rfl,⟨nd,rfl⟩⟩
             refine ⟨_,rfl,?_⟩
             refine hK.out _ _ ⟨hHeld.1,hHeld.2.1,hHeld.2.2.1,hHeld.2.2.2.1,hHeld.2.2.2.2.1,hHeld.2.2.2.2.2⟩ (fun hHeld=>?_)
             clear hK K
             refine norm_ (a':=?_) ?_ ?_
             rotate_left
             ·show Act.put _ (some 58) _ = _
              simp only [Act.put,List.setIfInBounds_toArray,List.set_cons_zero,List.set_cons_succ,i64_w,i32_w]
              rfl
             refine pure_ (i:=22) (N:=some 11) (v:=?_) (a':=?_) #[true,true,true,true,true,true,true,true,true,true,true,true,true,true,true,true,true,true,true,true,true,true,true] rfl rfl (any_of HT_.out (by kernel_rfl)) (fun _ _ _ h=>h) (Or.inl ⟨by rfl,?_⟩) ?_ ?_
             rotate_left
             ·intro w'
              go_simp
              with_reducible rfl
             rotate_left
             ·simp only [Act.put,List.setIfInBounds_toArray,List.set_cons_zero,List.set_cons_succ,i64_w,i32_w]
              rfl
             refine done_ (done_of HT_.out (by kernel_rfl)) ?_
             (try clear hHeld)
             (try clear hHeld)
             try go_wp2_with (first|((with_reducible refine gate_callee (f:=148) rfl ?_);refine goesL_ (some 62) rfl rfl Try.func148 (by kernel_rfl) rfl #[.int .i64 x9_2,.int .i64 t257] rfl (by (try simp only [List.map_toArray,List.map_cons,List.map_nil]);first|done|rfl|(simp only [List.length_drop,List.length_take];rfl)) ?_;(with_reducible refine (spec_l2Gcd.calls k2 x9_2 t257 t258 _ A15.out).mono ?_);rintro e w' ⟨rfl,⟨nd,rfl⟩⟩;refine ⟨_,rfl,?_⟩))
             go_roundg k2
             case measure=>have:=HK1.out;have:=HK2.out;omega
             case rel=>exact ⟨(wrap64 ((wrap64 (Int.tdiv x9_2 t258)) * t257)),(wrap64 (x10_2 + 1)),(by first|rfl|(simp;done)|(simp [*];done)),(by first|rfl|(simp;done)|(simp [*];done)),H',⟨by have:=HK1.out;have:=HK2.out;omega⟩,⟨by (with_reducible repeat (first|apply Kd.S_alloc|apply Kd.S_drewN|apply Kd.S_drew));exact HO_6.out⟩,⟨by (with_reducible repeat (first|apply Kd.R_alloc|apply Kd.R_drewN|apply Kd.R_drew));exact HO_7.out⟩,⟨by repeat (first|(with_reducible first|exact HB.out|apply below_alloc|apply pw_below_drewN|apply below_drew1)|exact HB.out|exact Below.refl _ _)⟩⟩
           ·rw [if_neg c13] at H
            exact absurd H (by simp)
          ·rw [if_neg c12] at H
           exact absurd H (by simp)
         ·rw [if_neg c11] at H
          exact absurd H (by simp)
        ·rw [if_neg c10] at H
         exact absurd H (by simp)
       ·rw [if_neg c9] at H
        have c9b0 : decide (x10_2 < (t242.length : Int)) = false:=decide_eq_false c9
        clear c9
        by_cases c19 : 0 ≤ a1
        ·rw [if_pos c19] at H
         have c19b0:=eq_true c19
         have c19b1 : decide (0 ≤ a1) = true:=decide_eq_true c19
         clear c19
         by_cases c20 : (a1 : Int).toNat ≤ 35184372088832
         ·rw [if_pos c20] at H
          have c20b0:=eq_true c20
          have c20b1 : decide ((a1 : Int).toNat ≤ 35184372088832) = true:=decide_eq_true c20
          clear c20
          obtain ⟨y259,hy259⟩ : ∃ y_ : List Int,y_ = (List.replicate (a1 : Int).toNat 0):=⟨_,rfl⟩
          replace H : (if 0 ≤ x8_1 then (if x8_1 < (y259.length : Int) then (spec_l4Relation.l2 k2 t241 t242 x8_1 x9_2 (y259.set (x8_1 : Int).toNat x9_2) 0) else (none)) else (none)) = some (r1,r2):=by first|(rw [hy259];with_reducible exact H)|(have H2_:=(Option.bind_some _ _).symm.trans H;rw [hy259];with_reducible exact H2_)|(have H2_:=(Option.bind_some _ _).symm.trans H;with_reducible exact H2_)|with_reducible exact H|(rw [hy259];exact H)|exact H
          have Ny259:=Aside0.mk hy259
          clear hy259
          by_cases c21 : 0 ≤ x8_1
          ·rw [if_pos c21] at H
           have c21b0 : decide (0 ≤ x8_1) = true:=decide_eq_true c21
           clear c21
           by_cases c22 : x8_1 < (y259.length : Int)
           ·rw [if_pos c22] at H
            have c22b0 : decide (x8_1 < (y259.length : Int)) = true:=decide_eq_true c22
            clear c22
            obtain ⟨y262,hy262⟩ : ∃ y_ : List Int,y_ = (y259.set (x8_1 : Int).toNat x9_2):=⟨_,rfl⟩
            replace H : (spec_l4Relation.l2 k2 t241 t242 x8_1 x9_2 y262 0) = some (r1,r2):=by first|(rw [hy262];with_reducible exact H)|(have H2_:=(Option.bind_some _ _).symm.trans H;rw [hy262];with_reducible exact H2_)|(have H2_:=(Option.bind_some _ _).symm.trans H;with_reducible exact H2_)|with_reducible exact H|(rw [hy262];exact H)|exact H
            have Ny262:=Aside0.mk hy262
            clear hy262
            have H':=Aside0.mk H
            clear H
            go_wp2_with (first|((with_reducible refine gate_dst (N:=67) rfl ?_);refine Kd.R_make (Kd.int .i64) _ 3 rfl (N:=67) rfl 26 _ _ rfl a1 rfl rfl Try.underlying26 (.int .i64 0) 8 info3 rfl (by decide) (by omega) 0 (ok:=fun _=>True) (okp:=fun _=>True) rfl (fun _ hk=>hk) trivial (of_decide_eq_true (by first|(with_reducible assumption)|assumption)) (Nat.le_trans (Nat.mul_le_mul_right _ (of_decide_eq_true (by first|(with_reducible assumption)|assumption) : a1.toNat ≤ 35184372088832)) (by omega)) (Below.refl _ _) (Nat.le_refl _) ?_;intro v260 w24 ho25 hb hg_ hnew_;clear hg_ hnew_;(first|rw [← Ny259.out] at ho25|(simp only [Int.reduceToNat] at ho25;rw [← Ny259.out] at ho25));have n0_:=Aside0.mk (Kd.S_elder' (by (with_reducible repeat (first|apply Kd.S_alloc|apply Kd.S_drewN|apply Kd.S_drew));exact HO_6.out) (Kd.R_base ho25) hb);have n1_:=Aside0.mk (Kd.R_elder' (by (with_reducible repeat (first|apply Kd.R_alloc|apply Kd.R_drewN|apply Kd.R_drew));exact HO_7.out) (Kd.R_base ho25) hb);have n2_:=Aside0.mk (Kd.R_lower (Kd.R_new' ho25 (Kd.R_lt (by (with_reducible repeat (first|apply Kd.R_alloc|apply Kd.R_drewN|apply Kd.R_drew));exact HO_7.out))) (below_size (by repeat (first|(with_reducible first|exact HB.out|apply below_alloc|apply pw_below_drewN|apply below_drew1)|exact HB.out|exact Below.refl _ _))));have n3_:=Aside0.mk (below_step (by repeat (first|(with_reducible first|exact HB.out|apply below_alloc|apply pw_below_drewN|apply below_drew1)|exact HB.out|exact Below.refl _ _)) hb);clear HO_6;clear HO_7;clear HB;have HO_6:=n0_;have HO_7:=n1_;have HO261:=n2_;have HB:=n3_;clear n0_ n1_ n2_ n3_;clear hb ho25;have p23 : 0 ≤ (x8_1 : Int):=of_decide_eq_true (by first|(with_reducible assumption)|assumption);have q23 : (x8_1 : Int) < ((y259.length : Int) : Int):=of_decide_eq_true (by first|(with_reducible assumption)|assumption);obtain ⟨go23,co23,eo23,gb23,gl23,cl23,HG23⟩:=Kd.R_form HO261.out (by omega);(first|cases eo23|(injection eo23 with ea_ en_ ec_;(first|subst ea_|(injection ea_ with ea_;subst ea_));subst ec_;clear en_));have GB23:=Aside0.mk gb23;have GG23:=Aside0.mk HG23;clear gb23 gl23 HG23;obtain ⟨hx23_0,hf23_0⟩:=Kd.R_celln 0 HO261.out (x8_1 : Int) p23 q23;replace p23:=eq_true p23;replace q23:=eq_true q23;have n_:=Aside0.mk (Kd.R_mono (ok':=(fun k_=>some k_ ≠ (.slice Ao6 t242.length co6 : Value).ownBlock)) HO261.out (fun k_ hk=>hk.2));clear HO261;have HO261:=n_;clear n_;obtain ⟨hy26_,hz26_⟩:=Kd.R_celln 0 HO261.out (x8_1 : Int) (of_decide_eq_true (by first|(with_reducible assumption)|assumption)) (of_decide_eq_true (by first|(with_reducible assumption)|assumption));have HP26:=Kd.R_putg HO261.out (x8_1 : Int) x9_2)|((with_reducible refine gate_store (t:=3) (p:=71) rfl ?_);refine store_event (t:=3) (p:=71) (v:=?vo_w27) (w1:=(w24.setCell ⟨go23,(x8_1 : Int).toNat,none⟩ (.int .i64 x9_2))) ?hg ?ho ?hn ?hr ?_;(case ho=>rfl);(case hg=>rfl);(case hn=>rfl);(case hr=>first|(go_simp;done)|(go_simp;rfl));intro w27 hw;have hg : w24.grownBy w27 (some go23):=(by rw [hw];exact HP26.2);have hp_ : Kd.R (Kd.int .i64) 3 w27 w.heap.size (fun k_=>some k_ ≠ (.slice Ao6 t242.length co6 : Value).ownBlock) (.slice (some ⟨go23,0,none⟩) y259.length co23) y262:=(by rw [hw,Ny262.out];exact HP26.1);clear HP26;have n0_:=Aside0.mk (Kd.S_after (v:=(.slice (some ⟨go23,0,none⟩) y259.length co23)) (v1:=(.slice (some ⟨go23,0,none⟩) y259.length co23)) (ok:=(fun k_=>some k_ ≠ (.slice Ao6 t242.length co6 : Value).ownBlock)) (by (with_reducible repeat (first|apply Kd.S_alloc|apply Kd.S_drewN|apply Kd.S_drew));exact HO_6.out) hg (.inl rfl));have n1_:=Aside0.mk (Kd.R_after (v:=(.slice (some ⟨go23,0,none⟩) y259.length co23)) (v1:=(.slice (some ⟨go23,0,none⟩) y259.length co23)) (ok:=(fun _=>True)) (by (with_reducible repeat (first|apply Kd.R_alloc|apply Kd.R_drewN|apply Kd.R_drew));exact HO_7.out) hg (.inl rfl));have n2_:=Aside0.mk (hp_);have n3_:=Aside0.mk ((by rw [hw];exact below_set (HB.out) GB23.out : Below w.heap.size w w27));clear HO_6;clear HO_7;clear HO261;clear HB;have HO_6:=n0_;have HO_7:=n1_;have HO261:=n2_;have HB:=n3_;clear n0_ n1_ n2_ n3_;clear hg hw hp_))
            go_loopg [13] k2 (fun kq v13 w'=>∃ (x12_3 : List Int) (x13_3 : Int),v13 = .int .i64 x13_3 ∧ Aside0 (spec_l4Relation.l2 kq t241 t242 x8_1 x9_2 x12_3 x13_3 = some (r1,r2)) ∧ Aside0 (kq ≤ k2) ∧ Aside0 (Kd.S (Kd.slice 3 (Kd.int .i64)) 26 w' w.heap.size (fun k_=>some k_ ≠ ((.slice Ao6 t242.length co6) : Value).ownBlock ∧ some k_ ≠ ((.slice (some ⟨go23,0,none⟩) y259.length co23) : Value).ownBlock) v243 t241) ∧ Aside0 (Kd.R (Kd.int .i64) 3 w' w.heap.size (fun k_=>some k_ ≠ ((.slice (some ⟨go23,0,none⟩) y259.length co23) : Value).ownBlock) (.slice Ao6 t242.length co6) t242) ∧ Aside0 (Kd.R (Kd.int .i64) 3 w' w.heap.size (fun k_=>some k_ ≠ ((.slice Ao6 t242.length co6) : Value).ownBlock) (.slice (some ⟨go23,0,none⟩) y259.length co23) x12_3) ∧ Aside0 (Below w.heap.size w w'))
            case atStart=>exact ⟨(y262),(0),(by first|rfl|(simp;done)|(simp [*];done)),H',⟨Nat.le_refl _⟩,⟨by (with_reducible repeat (first|apply Kd.S_alloc|apply Kd.S_drewN|apply Kd.S_drew));exact HO_6.out⟩,⟨by (with_reducible repeat (first|apply Kd.R_alloc|apply Kd.R_drewN|apply Kd.R_drew));exact Kd.R_mono HO_7.out (fun _ hk=>hk.2)⟩,⟨by (with_reducible repeat (first|apply Kd.R_alloc|apply Kd.R_drewN|apply Kd.R_drew));exact HO261.out⟩,⟨by repeat (first|(with_reducible first|exact HB.out|apply below_alloc|apply pw_below_drewN|apply below_drew1)|exact HB.out|exact Below.refl _ _)⟩⟩
            case round =>
             clear H'
             try clear c1
             try clear c2
             try clear p2
             try clear q2
             try clear hx2
             try clear hf2
             try clear c4
             try clear c4b0
             try clear c4b1
             try clear p6
             try clear c8
             try clear c9
             try clear c9b0
             try clear c10
             try clear c10b0
             try clear c11
             try clear c11b0
             try clear c12
             try clear c12b0
             try clear c13
             try clear c13b0
             try clear c14
             try clear c16
             try clear c16b0
             try clear c16b1
             try clear c19
             try clear c19b0
             try clear c19b1
             try clear c20
             try clear c20b0
             try clear c20b1
             try clear c21
             try clear c21b0
             try clear c22
             try clear c22b0
             try clear p23
             try clear q23
             try clear hx23
             try clear hf23
             try clear c25
             try clear p25
             try clear q25
             try clear hx25
             try clear hx23_0
             try clear hx251_0
             try clear hx252_0
             try clear hx253_0
             try clear hx254_0
             try clear hx255_0
             try clear hx256_0
             try clear p2
             try clear p23
             try clear p251
             try clear p252
             try clear p253
             try clear p254
             try clear p255
             try clear p256
             try clear p6
             try clear q23
             try clear q251
             try clear q252
             try clear q253
             try clear q254
             try clear q255
             try clear q256
             obtain ⟨x12_3,x13_3,rfl,HA,HK3,HO_6,HO_7,HO_12,HB⟩:=hrel
             have hl12_3:=(Kd.R_reads' HO_12.out).1
             rw [hl12_3] at HO_12
             (try simp only [hl12_3])
             (try simp only [hl12_3] at HO_6)
             (try simp only [hl12_3] at HO_7)
             cases gk with
            |zero=>exact absurd HA.out (by simp [spec_l4Relation.l2])
            |succ k3 =>
              have H:=HA.out
              clear HA
              simp only [spec_l4Relation.l2] at H
              by_cases c28 : x13_3 < (t242.length : Int)
              ·rw [if_pos c28] at H
               have c28b0 : decide (x13_3 < (t242.length : Int)) = true:=decide_eq_true c28
               clear c28
               by_cases c29 : 0 ≤ x13_3
               ·rw [if_pos c29] at H
                have c29b0 : decide (0 ≤ x13_3) = true:=decide_eq_true c29
                clear c29
                by_cases c30 : x13_3 < (t241.length : Int)
                ·rw [if_pos c30] at H
                 have c30b0 : decide (x13_3 < (t241.length : Int)) = true:=decide_eq_true c30
                 clear c30
                 by_cases c31 : 0 ≤ x8_1
                 ·rw [if_pos c31] at H
                  have c31b0 : decide (0 ≤ x8_1) = true:=decide_eq_true c31
                  clear c31
                  by_cases c32 : x8_1 < ((rd_L1 t241 x13_3).length : Int)
                  ·rw [if_pos c32] at H
                   have c32b0 : decide (x8_1 < ((rd_L1 t241 x13_3).length : Int)) = true:=decide_eq_true c32
                   clear c32
                   by_cases c33 : 0 ≤ (rd t242 x13_3)
                   ·rw [if_pos c33] at H
                    have c33b0 : decide (0 ≤ (rd t242 x13_3)) = true:=decide_eq_true c33
                    clear c33
                    by_cases c34 : (rd t242 x13_3) < ((rd_L1 t241 x13_3).length : Int)
                    ·rw [if_pos c34] at H
                     have c34b0 : decide ((rd t242 x13_3) < ((rd_L1 t241 x13_3).length : Int)) = true:=decide_eq_true c34
                     clear c34
                     by_cases c35 : (rd (rd_L1 t241 x13_3) (rd t242 x13_3)) = 0
                     ·rw [if_pos c35] at H
                      exact absurd H (by simp)
                     ·rw [if_neg c35] at H
                      have c35b0 : ((rd (rd_L1 t241 x13_3) (rd t242 x13_3)) == 0) = false:=beq_eq_false_iff_ne.mpr c35
                      have c35b1 : ((rd (rd_L1 t241 x13_3) (rd t242 x13_3)) != 0) = true:=bne_iff_ne.mpr c35
                      by_cases c36 : (rd t242 x13_3) < (x12_3.length : Int)
                      ·rw [if_pos c36] at H
                       have c36b0 : decide ((rd t242 x13_3) < (x12_3.length : Int)) = true:=decide_eq_true c36
                       clear c36
                       obtain ⟨y269,hy269⟩ : ∃ y_ : List Int,y_ = (x12_3.set ((rd t242 x13_3) : Int).toNat (wrap64 ((wrap64 (-(rd (rd_L1 t241 x13_3) x8_1))) * (wrap64 (Int.tdiv x9_2 (rd (rd_L1 t241 x13_3) (rd t242 x13_3))))))):=⟨_,rfl⟩
                       replace H : (spec_l4Relation.l2 k3 t241 t242 x8_1 x9_2 y269 (wrap64 (x13_3 + 1))) = some (r1,r2):=by first|(rw [hy269];with_reducible exact H)|(have H2_:=(Option.bind_some _ _).symm.trans H;rw [hy269];with_reducible exact H2_)|(have H2_:=(Option.bind_some _ _).symm.trans H;with_reducible exact H2_)|with_reducible exact H|(rw [hy269];exact H)|exact H
                       have Ny269:=Aside0.mk hy269
                       clear hy269
                       have H':=Aside0.mk H
                       clear H
                       try go_wp2
                       have n0_:=Aside0.mk (Kd.S_drew HO_6.out)
                       have n1_:=Aside0.mk (Kd.R_drew HO_7.out)
                       have n2_:=Aside0.mk (Kd.R_drew HO_12.out)
                       have n3_:=Aside0.mk (below_drew1 HB.out)
                       clear HO_6
                       clear HO_7
                       clear HO_12
                       clear HB
                       have HO_6:=n0_
                       have HO_7:=n1_
                       have HO_12:=n2_
                       have HB:=n3_
                       clear n0_ n1_ n2_ n3_
                       have p263 : 0 ≤ (x13_3 : Int):=of_decide_eq_true (by first|(with_reducible assumption)|assumption)
                       have q263 : x13_3 < (t242.length : Int):=of_decide_eq_true (by first|(with_reducible assumption)|assumption)
                       obtain ⟨ad263,e263,hx263_0⟩:=Kd.at_int (Kd.R_reads' HO_7.out).2.2 x13_3 p263 q263
                       cases e263
                       replace p263:=eq_true p263
                       replace q263:=eq_true q263
                       obtain ⟨Ao39,co39,eo39⟩:=Kd.S_slice HO_6.out
                       (first|subst eo39|(injection eo39 with f1_ f2_ f3_;have f4_:=f1_.symm;have f5_:=f3_.symm;clear f1_ f2_ f3_;subst f4_;subst f5_))
                       have p264 : 0 ≤ (x13_3 : Int):=of_decide_eq_true (by first|(with_reducible assumption)|assumption)
                       have q264 : x13_3 < (t241.length : Int):=of_decide_eq_true (by first|(with_reducible assumption)|assumption)
                       obtain ⟨ad264,A264_0,c264_0,e264,hx264_0,hl264_0,hi264_0⟩:=at_L1 (Kd.S_reads' HO_6.out).2.2 x13_3 p264 q264
                       cases e264
                       obtain ⟨ce264,hce264,hMe264,hcc264⟩:=Kd.S_get HO_6.out [] x13_3 p264 (by first|exact q264|exact of_decide_eq_true (by first|(with_reducible assumption)|assumption)|(have e_:=(Kd.S_reads' HO_6.out).1;omega))
                       obtain ⟨ve264_0,rfl,ge264_0⟩:=hMe264
                       have hv264_0:=hcc264 0 _ rfl
                       rw [Nat.add_zero,show ((Kd.slice 3 (Kd.int .i64))).sz = 1 from rfl,Nat.mul_one] at hv264_0
                       replace hv264_0:=Option.some.inj (hv264_0.symm.trans hx264_0)
                       rw [hv264_0] at ge264_0
                       have HL264_0:=Aside0.mk (show Kd.R (Kd.int .i64) 3 _ _ _ _ (rd_L1 t241 x13_3) from ge264_0)
                       clear hv264_0 ge264_0
                       clear hcc264 hce264
                       have HR264_0:=Aside0.mk hi264_0
                       have HC264_0:=Aside0.mk hl264_0
                       clear hi264_0 hl264_0
                       replace p264:=eq_true p264
                       replace q264:=eq_true q264
                       have p265 : 0 ≤ (x8_1 : Int):=of_decide_eq_true (by first|(with_reducible assumption)|assumption)
                       have q265 : x8_1 < ((rd_L1 t241 x13_3).length : Int):=of_decide_eq_true (by first|(with_reducible assumption)|assumption)
                       obtain ⟨ad265,e265,hx265_0⟩:=Kd.at_int (by repeat (first|(with_reducible exact HR264_0.out)|(with_reducible refine Kd.C_alloc ?_ _)|(with_reducible refine Kd.C_drewN ?_ _)|(with_reducible refine Kd.C_drew ?_)|exact HR264_0.out)) x8_1 p265 q265
                       cases e265
                       replace p265:=eq_true p265
                       replace q265:=eq_true q265
                       have p266 : 0 ≤ (x13_3 : Int):=of_decide_eq_true (by first|(with_reducible assumption)|assumption)
                       have q266 : x13_3 < (t241.length : Int):=of_decide_eq_true (by first|(with_reducible assumption)|assumption)
                       obtain ⟨ad266,A266_0,c266_0,e266,hx266_0,hl266_0,hi266_0⟩:=at_L1 (Kd.S_reads' HO_6.out).2.2 x13_3 p266 q266
                       obtain rfl : ad264 = ad266:=(by injection e266)
                       obtain ⟨ce266,hce266,hMe266,hcc266⟩:=Kd.S_get HO_6.out [] x13_3 p266 (by first|exact q266|exact of_decide_eq_true (by first|(with_reducible assumption)|assumption)|(have e_:=(Kd.S_reads' HO_6.out).1;omega))
                       obtain ⟨ve266_0,rfl,ge266_0⟩:=hMe266
                       have hv266_0:=hcc266 0 _ rfl
                       rw [Nat.add_zero,show ((Kd.slice 3 (Kd.int .i64))).sz = 1 from rfl,Nat.mul_one] at hv266_0
                       replace hv266_0:=Option.some.inj (hv266_0.symm.trans hx266_0)
                       rw [hv266_0] at ge266_0
                       have HL266_0:=Aside0.mk (show Kd.R (Kd.int .i64) 3 _ _ _ _ (rd_L1 t241 x13_3) from ge266_0)
                       clear hv266_0 ge266_0
                       clear hcc266 hce266
                       have HR266_0:=Aside0.mk hi266_0
                       have HC266_0:=Aside0.mk hl266_0
                       clear hi266_0 hl266_0
                       replace p266:=eq_true p266
                       replace q266:=eq_true q266
                       have ea_:=Option.some.inj (hx264_0.symm.trans hx266_0)
                       injection ea_ with ea_ en_ ec_
                       subst ea_
                       subst ec_
                       clear en_
                       have p267 : 0 ≤ (x13_3 : Int):=of_decide_eq_true (by first|(with_reducible assumption)|assumption)
                       have q267 : x13_3 < (t242.length : Int):=of_decide_eq_true (by first|(with_reducible assumption)|assumption)
                       obtain ⟨ad267,e267,hx267_0⟩:=Kd.at_int (Kd.R_reads' HO_7.out).2.2 x13_3 p267 q267
                       obtain rfl : ad263 = ad267:=(by injection e267)
                       replace p267:=eq_true p267
                       replace q267:=eq_true q267
                       have p268 : 0 ≤ ((rd t242 x13_3) : Int):=of_decide_eq_true (by first|(with_reducible assumption)|assumption)
                       have q268 : (rd t242 x13_3) < ((rd_L1 t241 x13_3).length : Int):=of_decide_eq_true (by first|(with_reducible assumption)|assumption)
                       obtain ⟨ad268,e268,hx268_0⟩:=Kd.at_int (by repeat (first|(with_reducible exact HR266_0.out)|(with_reducible refine Kd.C_alloc ?_ _)|(with_reducible refine Kd.C_drewN ?_ _)|(with_reducible refine Kd.C_drew ?_)|exact HR266_0.out)) (rd t242 x13_3) p268 q268
                       cases e268
                       replace p268:=eq_true p268
                       replace q268:=eq_true q268
                       have p37 : 0 ≤ ((rd t242 x13_3) : Int):=of_decide_eq_true (by first|(with_reducible assumption)|assumption)
                       have q37 : ((rd t242 x13_3) : Int) < ((x12_3.length : Int) : Int):=of_decide_eq_true (by first|(with_reducible assumption)|assumption)
                       obtain ⟨hx37_0,hf37_0⟩:=Kd.R_celln 0 HO_12.out ((rd t242 x13_3) : Int) p37 q37
                       replace p37:=eq_true p37
                       replace q37:=eq_true q37
                       have HP40:=Kd.R_putn HO_12.out ((rd t242 x13_3) : Int) (wrap64 ((wrap64 (-(rd (rd_L1 t241 x13_3) x8_1))) * (wrap64 (Int.tdiv x9_2 (rd (rd_L1 t241 x13_3) (rd t242 x13_3))))))
                       rw [← Ny269.out] at HP40
                       have HQ40:=Aside0.mk HP40
                       clear HP40
                       refine start_ (n:=28) (S:=fun w'=>w'.cell? (ad263.add (x13_3).toNat) = some (.int .i64 (rd t242 x13_3)) ∧ w'.cell? (ad264.add (x13_3).toNat) = some (.slice (some ad265) (rd_L1 t241 x13_3).length c264_0) ∧ w'.cell? (ad265.add (x8_1).toNat) = some (.int .i64 (rd (rd_L1 t241 x13_3) x8_1)) ∧ w'.cell? (ad264.add (x13_3).toNat) = some (.slice (some ad265) (rd_L1 t241 x13_3).length c264_0) ∧ w'.cell? (ad263.add (x13_3).toNat) = some (.int .i64 (rd t242 x13_3)) ∧ w'.cell? (ad265.add ((rd t242 x13_3)).toNat) = some (.int .i64 (rd (rd_L1 t241 x13_3) (rd t242 x13_3)))) (ds:=[27]) #[false,false,false,false,false,false,false,false,false,false,false,false,false,false,false,false,false,false,false,false,false,false,false,false,false,false,false,false] (by kernel_rfl) rfl rfl ⟨hx263_0,hx264_0,hx265_0,hx266_0,hx267_0,hx268_0⟩ (fun hHeld=>?_);refine with_tabW spec_l4Relation.tab17 spec_l4Relation.bits17 (fun HT_ HW_=>?_)
                       generalize wr.drew = w38 at HO_6 HO_7 HO_12 HB HL264_0 HL266_0 HQ40 HR264_0 HR266_0 hf37_0 hx263_0 hx264_0 hx265_0 hx266_0 hx267_0 hx268_0 hx37_0 hHeld ⊢
                       refine pure_ (i:=0) (N:=some 78) (v:=?_) (a':=?_) #[true,false,false,false,false,false,false,false,false,false,false,false,false,false,false,false,false,false,false,false,false,false,false,false,false,false,false,false] rfl rfl (any_of HT_.out (by kernel_rfl)) (fun _ _ _ h=>h) (Or.inl ⟨by rfl,?_⟩) ?_ ?_
                       rotate_left
                       ·intro w'
                        go_simp
                        with_reducible rfl
                       rotate_left
                       ·simp only [Act.put,List.setIfInBounds_toArray,List.set_cons_zero,List.set_cons_succ,i64_w,i32_w]
                        rfl
                       refine pure_ (i:=1) (N:=some 79) (v:=?_) (a':=?_) #[true,true,false,false,false,false,false,false,false,false,false,false,false,false,false,false,false,false,false,false,false,false,false,false,false,false,false,false] rfl rfl (any_of HT_.out (by kernel_rfl)) (fun _ _ _ h=>h) (Or.inl ⟨by rfl,?_⟩) ?_ ?_
                       rotate_left
                       ·intro w'
                        go_simp
                        with_reducible rfl
                       rotate_left
                       ·simp only [Act.put,List.setIfInBounds_toArray,List.set_cons_zero,List.set_cons_succ,i64_w,i32_w]
                        rfl
                       refine pure_ (i:=2) (N:=some 80) (v:=?_) (a':=?_) #[true,true,true,false,false,false,false,false,false,false,false,false,false,false,false,false,false,false,false,false,false,false,false,false,false,false,false,false] rfl rfl (any_of HT_.out (by kernel_rfl)) (fun _ _ _ h=>h) (Or.inl ⟨by rfl,?_⟩) ?_ ?_
                       rotate_left
                       ·intro w'
                        go_simp
                        with_reducible rfl
                       rotate_left
                       ·simp only [Act.put,List.setIfInBounds_toArray,List.set_cons_zero,List.set_cons_succ,i64_w,i32_w]
                        rfl
                       refine pure_ (i:=3) (N:=some 81) (v:=?_) (a':=?_) #[true,true,true,true,false,false,false,false,false,false,false,false,false,false,false,false,false,false,false,false,false,false,false,false,false,false,false,false] rfl rfl (any_of HT_.out (by kernel_rfl)) (fun _ _ _ h=>h) (Or.inl ⟨by rfl,?_⟩) ?_ ?_
                       rotate_left
                       ·intro w'
                        go_simp
                        with_reducible rfl
                       rotate_left
                       ·simp only [Act.put,List.setIfInBounds_toArray,List.set_cons_zero,List.set_cons_succ,i64_w,i32_w]
                        rfl
                       refine pure_ (i:=5) (N:=some 83) (v:=?_) (a':=?_) #[true,true,true,true,false,true,false,false,false,false,false,false,false,false,false,false,false,false,false,false,false,false,false,false,false,false,false,false] rfl rfl (any_of HT_.out (by kernel_rfl)) (fun _ _ _ h=>h) (Or.inl ⟨by rfl,?_⟩) ?_ ?_
                       rotate_left
                       ·intro w'
                        go_simp
                        with_reducible rfl
                       rotate_left
                       ·simp only [Act.put,List.setIfInBounds_toArray,List.set_cons_zero,List.set_cons_succ,i64_w,i32_w]
                        rfl
                       refine pure_ (i:=6) (N:=some 84) (v:=?_) (a':=?_) #[true,true,true,true,false,true,true,false,false,false,false,false,false,false,false,false,false,false,false,false,false,false,false,false,false,false,false,false] rfl rfl (any_of HT_.out (by kernel_rfl)) (fun _ _ _ h=>h) (Or.inl ⟨by rfl,?_⟩) ?_ ?_
                       rotate_left
                       ·intro w'
                        go_simp
                        with_reducible rfl
                       rotate_left
                       ·simp only [Act.put,List.setIfInBounds_toArray,List.set_cons_zero,List.set_cons_succ,i64_w,i32_w]
                        rfl
                       refine pure_ (i:=7) (N:=some 85) (v:=?_) (a':=?_) #[true,true,true,true,false,true,true,true,false,false,false,false,false,false,false,false,false,false,false,false,false,false,false,false,false,false,false,false] rfl rfl (any_of HT_.out (by kernel_rfl)) (fun _ _ _ h=>h) (Or.inl ⟨by rfl,?_⟩) ?_ ?_
                       rotate_left
                       ·intro w'
                        go_simp
                        with_reducible rfl
                       rotate_left
                       ·simp only [Act.put,List.setIfInBounds_toArray,List.set_cons_zero,List.set_cons_succ,i64_w,i32_w]
                        rfl
                       refine pure_ (i:=9) (N:=some 87) (v:=?_) (a':=?_) #[true,true,true,true,false,true,true,true,false,true,false,false,false,false,false,false,false,false,false,false,false,false,false,false,false,false,false,false] rfl rfl (any_of HT_.out (by kernel_rfl)) (fun _ _ _ h=>h) (Or.inl ⟨by rfl,?_⟩) ?_ ?_
                       rotate_left
                       ·intro w'
                        go_simp
                        with_reducible rfl
                       rotate_left
                       ·simp only [Act.put,List.setIfInBounds_toArray,List.set_cons_zero,List.set_cons_succ,i64_w,i32_w]
                        rfl
                       refine pure_ (i:=13) (N:=some 91) (v:=?_) (a':=?_) #[true,true,true,true,false,true,true,true,false,true,false,false,false,true,false,false,false,false,false,false,false,false,false,false,false,false,false,false] rfl rfl (any_of HT_.out (by kernel_rfl)) (fun _ _ _ h=>h) (Or.inl ⟨by rfl,?_⟩) ?_ ?_
                       rotate_left
                       ·intro w'
                        go_simp
                        with_reducible rfl
                       rotate_left
                       ·simp only [Act.put,List.setIfInBounds_toArray,List.set_cons_zero,List.set_cons_succ,i64_w,i32_w]
                        rfl
                       refine pure_ (i:=14) (N:=some 92) (v:=?_) (a':=?_) #[true,true,true,true,false,true,true,true,false,true,false,false,false,true,true,false,false,false,false,false,false,false,false,false,false,false,false,false] rfl rfl (any_of HT_.out (by kernel_rfl)) (fun _ _ _ h=>h) (Or.inl ⟨by rfl,?_⟩) ?_ ?_
                       rotate_left
                       ·intro w'
                        go_simp
                        with_reducible rfl
                       rotate_left
                       ·simp only [Act.put,List.setIfInBounds_toArray,List.set_cons_zero,List.set_cons_succ,i64_w,i32_w]
                        rfl
                       refine pure_ (i:=15) (N:=some 93) (v:=?_) (a':=?_) #[true,true,true,true,false,true,true,true,false,true,false,false,false,true,true,true,false,false,false,false,false,false,false,false,false,false,false,false] rfl rfl (any_of HT_.out (by kernel_rfl)) (fun _ _ _ h=>h) (Or.inl ⟨by rfl,?_⟩) ?_ ?_
                       rotate_left
                       ·intro w'
                        go_simp
                        with_reducible rfl
                       rotate_left
                       ·simp only [Act.put,List.setIfInBounds_toArray,List.set_cons_zero,List.set_cons_succ,i64_w,i32_w]
                        rfl
                       refine pure_ (i:=16) (N:=some 94) (v:=?_) (a':=?_) #[true,true,true,true,false,true,true,true,false,true,false,false,false,true,true,true,true,false,false,false,false,false,false,false,false,false,false,false] rfl rfl (any_of HT_.out (by kernel_rfl)) (fun _ _ _ h=>h) (Or.inl ⟨by rfl,?_⟩) ?_ ?_
                       rotate_left
                       ·intro w'
                        go_simp
                        with_reducible rfl
                       rotate_left
                       ·simp only [Act.put,List.setIfInBounds_toArray,List.set_cons_zero,List.set_cons_succ,i64_w,i32_w]
                        rfl
                       refine pure_ (i:=18) (N:=some 96) (v:=?_) (a':=?_) #[true,true,true,true,false,true,true,true,false,true,false,false,false,true,true,true,true,false,true,false,false,false,false,false,false,false,false,false] rfl rfl (any_of HT_.out (by kernel_rfl)) (fun _ _ _ h=>h) (Or.inl ⟨by rfl,?_⟩) ?_ ?_
                       rotate_left
                       ·intro w'
                        go_simp
                        with_reducible rfl
                       rotate_left
                       ·simp only [Act.put,List.setIfInBounds_toArray,List.set_cons_zero,List.set_cons_succ,i64_w,i32_w]
                        rfl
                       refine pure_ (i:=19) (N:=some 97) (v:=?_) (a':=?_) #[true,true,true,true,false,true,true,true,false,true,false,false,false,true,true,true,true,false,true,true,false,false,false,false,false,false,false,false] rfl rfl (any_of HT_.out (by kernel_rfl)) (fun _ _ _ h=>h) (Or.inl ⟨by rfl,?_⟩) ?_ ?_
                       rotate_left
                       ·intro w'
                        go_simp
                        with_reducible rfl
                       rotate_left
                       ·simp only [Act.put,List.setIfInBounds_toArray,List.set_cons_zero,List.set_cons_succ,i64_w,i32_w]
                        rfl
                       refine pure_ (i:=20) (N:=some 98) (v:=?_) (a':=?_) #[true,true,true,true,false,true,true,true,false,true,false,false,false,true,true,true,true,false,true,true,true,false,false,false,false,false,false,false] rfl rfl (any_of HT_.out (by kernel_rfl)) (fun _ _ _ h=>h) (Or.inl ⟨by rfl,?_⟩) ?_ ?_
                       rotate_left
                       ·intro w'
                        go_simp
                        with_reducible rfl
                       rotate_left
                       ·simp only [Act.put,List.setIfInBounds_toArray,List.set_cons_zero,List.set_cons_succ,i64_w,i32_w]
                        rfl
                       refine take_ (i:=4) (N:=some 82) (v:=?_) (a':=?_) #[true,true,true,true,true,true,true,true,false,true,false,false,false,true,true,true,true,false,true,true,true,false,false,false,false,false,false,false] rfl rfl (take_ofW HT_.out HW_.out (by kernel_rfl)) (fun _ _ _ h=>h) (Or.inl ⟨by rfl,?_⟩) hHeld ?_ ?_
                       rotate_left
                       ·rintro w' ⟨s0,s1,s2,s3,s4,s5⟩
                        go_simp
                        with_reducible rfl
                       rotate_left
                       ·simp only [Act.put,List.setIfInBounds_toArray,List.set_cons_zero,List.set_cons_succ,i64_w,i32_w]
                        rfl
                       refine take_ (i:=8) (N:=some 86) (v:=?_) (a':=?_) #[true,true,true,true,true,true,true,true,true,true,false,false,false,true,true,true,true,false,true,true,true,false,false,false,false,false,false,false] rfl rfl (take_ofW HT_.out HW_.out (by kernel_rfl)) (fun _ _ _ h=>h) (Or.inl ⟨by rfl,?_⟩) hHeld ?_ ?_
                       rotate_left
                       ·rintro w' ⟨s0,s1,s2,s3,s4,s5⟩
                        go_simp
                        with_reducible rfl
                       rotate_left
                       ·simp only [Act.put,List.setIfInBounds_toArray,List.set_cons_zero,List.set_cons_succ,i64_w,i32_w]
                        rfl
                       refine pure_ (i:=10) (N:=some 88) (v:=?_) (a':=?_) #[true,true,true,true,true,true,true,true,true,true,true,false,false,true,true,true,true,false,true,true,true,false,false,false,false,false,false,false] rfl rfl (any_of HT_.out (by kernel_rfl)) (fun _ _ _ h=>h) (Or.inl ⟨by rfl,?_⟩) ?_ ?_
                       rotate_left
                       ·intro w'
                        go_simp
                        with_reducible rfl
                       rotate_left
                       ·simp only [Act.put,List.setIfInBounds_toArray,List.set_cons_zero,List.set_cons_succ,i64_w,i32_w]
                        rfl
                       refine take_ (i:=11) (N:=some 89) (v:=?_) (a':=?_) #[true,true,true,true,true,true,true,true,true,true,true,true,false,true,true,true,true,false,true,true,true,false,false,false,false,false,false,false] rfl rfl (take_ofW HT_.out HW_.out (by kernel_rfl)) (fun _ _ _ h=>h) (Or.inl ⟨by rfl,?_⟩) hHeld ?_ ?_
                       rotate_left
                       ·rintro w' ⟨s0,s1,s2,s3,s4,s5⟩
                        go_simp
                        with_reducible rfl
                       rotate_left
                       ·simp only [Act.put,List.setIfInBounds_toArray,List.set_cons_zero,List.set_cons_succ,i64_w,i32_w]
                        rfl
                       refine pure_ (i:=12) (N:=some 90) (v:=?_) (a':=?_) #[true,true,true,true,true,true,true,true,true,true,true,true,true,true,true,true,true,false,true,true,true,false,false,false,false,false,false,false] rfl rfl (any_of HT_.out (by kernel_rfl)) (fun _ _ _ h=>h) (Or.inl ⟨by rfl,?_⟩) ?_ ?_
                       rotate_left
                       ·intro w'
                        go_simp
                        with_reducible rfl
                       rotate_left
                       ·simp only [Act.put,List.setIfInBounds_toArray,List.set_cons_zero,List.set_cons_succ,i64_w,i32_w]
                        rfl
                       refine take_ (i:=17) (N:=some 95) (v:=?_) (a':=?_) #[true,true,true,true,true,true,true,true,true,true,true,true,true,true,true,true,true,true,true,true,true,false,false,false,false,false,false,false] rfl rfl (take_ofW HT_.out HW_.out (by kernel_rfl)) (fun _ _ _ h=>h) (Or.inl ⟨by rfl,?_⟩) hHeld ?_ ?_
                       rotate_left
                       ·rintro w' ⟨s0,s1,s2,s3,s4,s5⟩
                        go_simp
                        with_reducible rfl
                       rotate_left
                       ·simp only [Act.put,List.setIfInBounds_toArray,List.set_cons_zero,List.set_cons_succ,i64_w,i32_w]
                        rfl
                       refine take_ (i:=21) (N:=some 99) (v:=?_) (a':=?_) #[true,true,true,true,true,true,true,true,true,true,true,true,true,true,true,true,true,true,true,true,true,true,false,false,false,false,false,false] rfl rfl (take_ofW HT_.out HW_.out (by kernel_rfl)) (fun _ _ _ h=>h) (Or.inl ⟨by rfl,?_⟩) hHeld ?_ ?_
                       rotate_left
                       ·rintro w' ⟨s0,s1,s2,s3,s4,s5⟩
                        go_simp
                        with_reducible rfl
                       rotate_left
                       ·simp only [Act.put,List.setIfInBounds_toArray,List.set_cons_zero,List.set_cons_succ,i64_w,i32_w]
                        rfl
                       refine pure_ (i:=22) (N:=some 100) (v:=?_) (a':=?_) #[true,true,true,true,true,true,true,true,true,true,true,true,true,true,true,true,true,true,true,true,true,true,true,false,false,false,false,false] rfl rfl (any_of HT_.out (by kernel_rfl)) (fun _ _ _ h=>h) (Or.inl ⟨by rfl,?_⟩) ?_ ?_
                       rotate_left
                       ·intro w'
                        go_simp
                        with_reducible rfl
                       rotate_left
                       ·simp only [Act.put,List.setIfInBounds_toArray,List.set_cons_zero,List.set_cons_succ,i64_w,i32_w]
                        rfl
                       refine take_ (i:=23) (N:=some 101) (v:=?_) (a':=?_) #[true,true,true,true,true,true,true,true,true,true,true,true,true,true,true,true,true,true,true,true,true,true,true,true,false,false,false,false] rfl rfl (take_ofW HT_.out HW_.out (by kernel_rfl)) (fun _ _ _ h=>h) (Or.inl ⟨by rfl,?_⟩) hHeld ?_ ?_
                       rotate_left
                       ·rintro w' ⟨s0,s1,s2,s3,s4,s5⟩
                        go_simp
                        with_reducible rfl
                       rotate_left
                       ·simp only [Act.put,List.setIfInBounds_toArray,List.set_cons_zero,List.set_cons_succ,i64_w,i32_w]
                        rfl
                       refine pure_ (i:=24) (N:=some 102) (v:=?_) (a':=?_) #[true,true,true,true,true,true,true,true,true,true,true,true,true,true,true,true,true,true,true,true,true,true,true,true,true,false,false,false] rfl rfl (any_of HT_.out (by kernel_rfl)) (fun _ _ _ h=>h) (Or.inl ⟨by rfl,?_⟩) ?_ ?_
                       rotate_left
                       ·intro w'
                        go_simp
                        with_reducible rfl
                       rotate_left
                       ·simp only [Act.put,List.setIfInBounds_toArray,List.set_cons_zero,List.set_cons_succ,i64_w,i32_w]
                        rfl
                       refine pure_ (i:=25) (N:=some 103) (v:=?_) (a':=?_) #[true,true,true,true,true,true,true,true,true,true,true,true,true,true,true,true,true,true,true,true,true,true,true,true,true,true,false,false] rfl rfl (any_of HT_.out (by kernel_rfl)) (fun _ _ _ h=>h) (Or.inl ⟨by rfl,?_⟩) ?_ ?_
                       rotate_left
                       ·intro w'
                        go_simp
                        with_reducible rfl
                       rotate_left
                       ·simp only [Act.put,List.setIfInBounds_toArray,List.set_cons_zero,List.set_cons_succ,i64_w,i32_w]
                        rfl
                       refine pure_ (i:=26) (N:=some 104) (v:=?_) (a':=?_) #[true,true,true,true,true,true,true,true,true,true,true,true,true,true,true,true,true,true,true,true,true,true,true,true,true,true,true,false] rfl rfl (any_of HT_.out (by kernel_rfl)) (fun _ _ _ h=>h) (Or.inl ⟨by rfl,?_⟩) ?_ ?_
                       rotate_left
                       ·intro w'
                        go_simp
                        with_reducible rfl
                       rotate_left
                       ·simp only [Act.put,List.setIfInBounds_toArray,List.set_cons_zero,List.set_cons_succ,i64_w,i32_w]
                        rfl
                       refine last_ (i:=27) (N:=none) #[true,true,true,true,true,true,true,true,true,true,true,true,true,true,true,true,true,true,true,true,true,true,true,true,true,true,true,true] rfl rfl (one_of HT_.out (by kernel_rfl)) (by decide) (fun K hK=>?_)
                       refine skip_ (w1:=?_) (by rfl) rfl ?_ ?_
                       rotate_left
                       ·go_simp
                        rfl
                       refine hK.out _ _ ?_
                       clear hK K
                       refine done_ (done_of HT_.out (by kernel_rfl)) ?_
                       (try clear hHeld)
                       (try clear hHeld)
                       try go_wp2
                       (try simp only [← hl12_3])
                       go_roundg k3
                       case measure=>have:=HK1.out;have:=HK2.out;have:=HK3.out;omega
                       case rel=>exact ⟨(y269),(wrap64 (x13_3 + 1)),(by first|rfl|(simp;done)|(simp [*];done)),H',⟨by have:=HK1.out;have:=HK2.out;have:=HK3.out;omega⟩,⟨by (try simp only [hl12_3]);(with_reducible repeat (first|apply Kd.S_alloc|apply Kd.S_drewN|apply Kd.S_drew));exact Kd.S_mono (Kd.S_far (p:=⟨go23,((rd t242 x13_3) : Int).toNat,none⟩) (Kd.S_mono HO_6.out (fun k_ hk=>(⟨hk,fun e_=>hk.2 (by rw [e_];rfl)⟩ : _ ∧ k_ ≠ go23))) (fun _ hk=>hk.2) (.int .i64 (wrap64 ((wrap64 (-(rd (rd_L1 t241 x13_3) x8_1))) * (wrap64 (Int.tdiv x9_2 (rd (rd_L1 t241 x13_3) (rd t242 x13_3)))))))) (fun _ hk=>by first|exact ⟨hk.1.1,hk.1.2⟩|grind)⟩,⟨by (try simp only [hl12_3]);(with_reducible repeat (first|apply Kd.R_alloc|apply Kd.R_drewN|apply Kd.R_drew));exact Kd.R_mono (Kd.R_far (p:=⟨go23,((rd t242 x13_3) : Int).toNat,none⟩) (Kd.R_mono HO_7.out (fun k_ hk=>(⟨hk,fun e_=>hk (by rw [e_];rfl)⟩ : _ ∧ k_ ≠ go23))) (fun _ hk=>hk.2) (.int .i64 (wrap64 ((wrap64 (-(rd (rd_L1 t241 x13_3) x8_1))) * (wrap64 (Int.tdiv x9_2 (rd (rd_L1 t241 x13_3) (rd t242 x13_3)))))))) (fun _ hk=>hk.1)⟩,⟨by (try simp only [hl12_3]);(with_reducible repeat (first|apply Kd.R_alloc|apply Kd.R_drewN|apply Kd.R_drew));exact HQ40.out⟩,⟨by repeat (first|(with_reducible first|exact HB.out|apply below_alloc|apply pw_below_drewN|apply below_drew1|refine below_set ?_ GB23.out)|exact HB.out)⟩⟩
                      ·rw [if_neg c36] at H
                       exact absurd H (by simp)
                    ·rw [if_neg c34] at H
                     exact absurd H (by simp)
                   ·rw [if_neg c33] at H
                    exact absurd H (by simp)
                  ·rw [if_neg c32] at H
                   exact absurd H (by simp)
                 ·rw [if_neg c31] at H
                  exact absurd H (by simp)
                ·rw [if_neg c30] at H
                 exact absurd H (by simp)
               ·rw [if_neg c29] at H
                exact absurd H (by simp)
              ·rw [if_neg c28] at H
               have c28b0 : decide (x13_3 < (t242.length : Int)) = false:=decide_eq_false c28
               (try (have c28b9 : decide (x13_3 < (x12_3.length : Int)) = false:=by first|(rw [← hl12_3];exact c28b0)|(rw [hl12_3];exact c28b0)))
               (try (have c28b8_:=c28b0;rw [hl12_3] at c28b8_))
               clear c28
               replace H:=Option.bind_eq_some_iff.mp H
               obtain ⟨t270,A410,H⟩:=H
               replace H : (some (t270,true)) = some (r1,r2):=H
               have A41:=Aside0.mk A410
               clear A410
               simp only [Option.some.injEq,Prod.mk.injEq] at H
               obtain ⟨rfl,rfl⟩:=H
               go_wp2_with (first|((with_reducible refine gate_callee (f:=131) rfl ?_);refine goesL_ (some 106) rfl rfl Try.func131 (by kernel_rfl) rfl #[.slice (some ⟨go23,0,none⟩) x12_3.length co23] rfl (by (try simp only [List.map_toArray,List.map_cons,List.map_nil]);first|done|rfl|(simp only [List.length_drop,List.length_take];rfl)) ?_;(with_reducible refine (spec_l4Divided.calls k3 _ _ x12_3 t270 _ ?side1 ?side2 A41.out).mono ?_);(case side1=>repeat (first|exact (Kd.R_reads' HO_12.out).2.2|(with_reducible refine Kd.C_alloc ?_ _)|(with_reducible refine Kd.C_drewN ?_ _)|(with_reducible refine Kd.C_drew ?_)));(case side2=>exact (Kd.R_reads' HO_12.out).2.1);rintro e w42 ⟨v271,rfl,ho0,hb⟩;refine ⟨_,rfl,?_⟩;have n0_:=Aside0.mk (Kd.S_elder' (by (with_reducible repeat (first|apply Kd.S_alloc|apply Kd.S_drewN|apply Kd.S_drew));exact HO_6.out) (Kd.R_base ho0) hb);have n1_:=Aside0.mk (Kd.R_elder' (by (with_reducible repeat (first|apply Kd.R_alloc|apply Kd.R_drewN|apply Kd.R_drew));exact HO_7.out) (Kd.R_base ho0) hb);have n2_:=Aside0.mk (Kd.R_elder' (by (with_reducible repeat (first|apply Kd.R_alloc|apply Kd.R_drewN|apply Kd.R_drew));exact HO_12.out) (Kd.R_base ho0) hb);have n3_:=Aside0.mk (Kd.R_lower (Kd.R_new' (Kd.R_new' ho0 (Kd.R_lt (by (with_reducible repeat (first|apply Kd.R_alloc|apply Kd.R_drewN|apply Kd.R_drew));exact HO_7.out))) (Kd.R_lt (by (with_reducible repeat (first|apply Kd.R_alloc|apply Kd.R_drewN|apply Kd.R_drew));exact HO_12.out))) (below_size (by repeat (first|(with_reducible first|exact HB.out|apply below_alloc|apply pw_below_drewN|apply below_drew1)|exact HB.out|exact Below.refl _ _))));have n4_:=Aside0.mk (below_step (by repeat (first|(with_reducible first|exact HB.out|apply below_alloc|apply pw_below_drewN|apply below_drew1)|exact HB.out|exact Below.refl _ _)) hb);clear HO_6;clear HO_7;clear HO_12;clear HB;have HO_6:=n0_;have HO_7:=n1_;have HO_12:=n2_;have HO272:=n3_;have HB:=n4_;clear n0_ n1_ n2_ n3_ n4_;(try clear hb);(try clear hb2);(try clear hk);(try clear hi);(try clear ho0)))
               go_ret2
               exact ⟨_,by first|rfl|(simp [errW_none,errW_some] <;> rfl)|(simp [*,errW_none,errW_some] <;> rfl),by (with_reducible repeat (first|apply Kd.R_alloc|apply Kd.R_drewN|apply Kd.R_drew));exact Kd.R_mono HO272.out (fun _ hk=>trivial),by repeat (first|(with_reducible first|exact HB.out|apply below_alloc|apply pw_below_drewN|apply below_drew1)|exact HB.out|exact Below.refl _ _)⟩
           ·rw [if_neg c22] at H
            exact absurd H (by simp)
          ·rw [if_neg c21] at H
           exact absurd H (by simp)
         ·rw [if_neg c20] at H
          exact absurd H (by simp)
        ·rw [if_neg c19] at H
         exact absurd H (by simp)
 ·rw [if_neg c4] at H
  have c4b0 : ((t242.length : Int) == (wrap64 (a1 - 1))) = false:=beq_eq_false_iff_ne.mpr c4
  have c4b1 : ((t242.length : Int) != (wrap64 (a1 - 1))) = true:=bne_iff_ne.mpr c4
  obtain ⟨y247,hy247⟩ : ∃ y_ : List Int,y_ = (([] : List Int)):=⟨_,rfl⟩
  replace H : (some (y247,false)) = some (r1,r2):=by first|(rw [hy247];with_reducible exact H)|(have H2_:=(Option.bind_some _ _).symm.trans H;rw [hy247];with_reducible exact H2_)|(have H2_:=(Option.bind_some _ _).symm.trans H;with_reducible exact H2_)|with_reducible exact H|(rw [hy247];exact H)|exact H
  have Ny247:=Aside0.mk hy247
  clear hy247
  simp only [Option.some.injEq,Prod.mk.injEq] at H
  obtain ⟨rfl,rfl⟩:=H
  go_enter Try.func137,Try.ntmps137
  go_wp2_with (first|((with_reducible refine gate_callee (f:=86) rfl ?_);refine goesL_ (some 17) rfl rfl Try.func86 (by kernel_rfl) rfl #[.slice A0 l0.length c0,.int .i64 a1] rfl (by (try simp only [List.map_toArray,List.map_cons,List.map_nil]);first|done|rfl|(simp only [List.length_drop,List.length_take];rfl)) ?_;(with_reducible refine (spec_l4Reduced.calls k _ _ l0 a1 t241 t242 _ ?side1 ?side2 A3.out).mono ?_);(case side1=>repeat (first|exact HR0.out|(with_reducible refine Kd.C_alloc ?_ _)|(with_reducible refine Kd.C_drewN ?_ _)|(with_reducible refine Kd.C_drew ?_)));(case side2=>exact HC0.out);rintro e w43 ⟨v243,v245,rfl,ho0,ho1,hb⟩;refine ⟨_,rfl,?_⟩;have n0_:=Aside0.mk (Kd.S_lower ho0 (below_size (by repeat (first|(with_reducible first|exact HB.out|apply below_alloc|apply pw_below_drewN|apply below_drew1)|exact HB.out|exact Below.refl _ _))));have n1_:=Aside0.mk (Kd.R_lower ho1 (below_size (by repeat (first|(with_reducible first|exact HB.out|apply below_alloc|apply pw_below_drewN|apply below_drew1)|exact HB.out|exact Below.refl _ _))));have n2_:=Aside0.mk (below_step (by repeat (first|(with_reducible first|exact HB.out|apply below_alloc|apply pw_below_drewN|apply below_drew1)|exact HB.out|exact Below.refl _ _)) hb);clear HB;have HO244:=n0_;have HO246:=n1_;have HB:=n2_;clear n0_ n1_ n2_;(try clear hb);(try clear hb2);(try clear hk);(try clear hi);(try clear ho0);(try clear ho1);obtain ⟨Ao44,co44,eo44⟩:=Kd.R_slice HO246.out;subst eo44)|((with_reducible refine gate_dst (N:=25) rfl ?_);refine Kd.R_lit (Kd.int .i64) _ 3 ?hg (N:=25) ?hd (xs:=([] : List Int)) (inner:=[]) (ok:=fun _=>True) (okp:=fun _=>True) ?hr ?hp (fun _ hk=>hk) trivial (Below.refl _ _) (Nat.le_refl _) (by simp) ?_;(case hd=>rfl);(case hg=>rfl);(case hr=>first|(go_simp;done)|(go_simp;rfl));(case hp=>exact (Reps.none _ _));intro v248 w45 ho46 hb hg_ hnew_;clear hg_ hnew_;(first|rw [← Ny247.out] at ho46|(simp only [Int.reduceToNat] at ho46;rw [← Ny247.out] at ho46));have n0_:=Aside0.mk (Kd.S_elder' (by (with_reducible repeat (first|apply Kd.S_alloc|apply Kd.S_drewN|apply Kd.S_drew));exact HO244.out) (Kd.R_base ho46) hb);have n1_:=Aside0.mk (Kd.R_elder' (by (with_reducible repeat (first|apply Kd.R_alloc|apply Kd.R_drewN|apply Kd.R_drew));exact HO246.out) (Kd.R_base ho46) hb);have n2_:=Aside0.mk (Kd.R_lower (Kd.R_new' ho46 (Kd.R_lt (by (with_reducible repeat (first|apply Kd.R_alloc|apply Kd.R_drewN|apply Kd.R_drew));exact HO246.out))) (below_size (by repeat (first|(with_reducible first|exact HB.out|apply below_alloc|apply pw_below_drewN|apply below_drew1)|exact HB.out|exact Below.refl _ _))));have n3_:=Aside0.mk (below_step (by repeat (first|(with_reducible first|exact HB.out|apply below_alloc|apply pw_below_drewN|apply below_drew1)|exact HB.out|exact Below.refl _ _)) hb);clear HO244;clear HO246;clear HB;have HO244:=n0_;have HO246:=n1_;have HO249:=n2_;have HB:=n3_;clear n0_ n1_ n2_ n3_;clear hb ho46))
  go_ret2
  exact ⟨_,by first|rfl|(simp [errW_none,errW_some] <;> rfl)|(simp [*,errW_none,errW_some] <;> rfl),by (with_reducible repeat (first|apply Kd.R_alloc|apply Kd.R_drewN|apply Kd.R_drew));exact Kd.R_mono HO249.out (fun _ hk=>trivial),by repeat (first|(with_reducible first|exact HB.out|apply below_alloc|apply pw_below_drewN|apply below_drew1)|exact HB.out|exact Below.refl _ _)⟩
end Go.Proofs.Ytdjclffkidoohaa.QFnExactCanPart
