/- Some of the functions that the law reaches, and what they tell; no condition. -/
import Derived.StillTailTactics
import Derived.Test.YtdjclffkidoohaaVFnExactCanPart
import Derived.Test.YtdjclffkidoohaaZFnExactCanPartH
import Derived.Test.YtdjclffkidoohaaZFnExactCanPartx0
import Derived.Test.YtdjclffkidoohaaZFnExactCanPartx2
import Derived.Test.YtdjclffkidoohaaZFnExactCanPartx4
namespace Go.Proofs.Ytdjclffkidoohaa.QFnExactCanPart
open Go.RowKit Go.Proofs.YtdjclffkidoohaaW.PrintWords Go.Proofs.YtdjclffkidoohaaW.PrintLast Go.Proofs.YtdjclffkidoohaaW.PrintMore
attribute [local go_sem] max2_int min2_int max_two min_two max_three min_three max_four min_four   -- for this text's walks alone
set_option linter.unusedVariables false
set_option linter.unusedSimpArgs false
mutual
def spec_l4Divided.l0 : Nat → List Int → Int → Int → Option (List Int)
|0,_,_,_=>none
|k + 1,x0,x3,x4=>if x4 < (x0.length : Int) then (if 0 ≤ x4 then (if (rd x0 x4) = 0 then (spec_l4Divided.l0 k x0 x3 (wrap64 (x4 + 1))) else ((spec_l1Most.f (rd x0 x4) (wrap64 (-(rd x0 x4)))).bind fun t233=>((spec_l2Gcd.f k t233 x3).bind fun t234=>(spec_l4Divided.l0 k x0 t234 (wrap64 (x4 + 1)))))) else (none)) else ((spec_l1Own.f x0).bind fun t235=>(spec_l4Divided.l1 k x3 t235 0))
def spec_l4Divided.l1 : Nat → Int → List Int → Int → Option (List Int)
|0,_,_,_=>none
|k + 1,x3,x5,x6=>if x6 < (x5.length : Int) then (if x3 > 1 then (if 0 ≤ x6 then (if x3 = 0 then (none) else (spec_l4Divided.l1 k x3 (x5.set (x6 : Int).toNat (wrap64 (Int.tdiv (rd x5 x6) x3))) (wrap64 (x6 + 1)))) else (none)) else (some x5)) else (some x5)
end
def spec_l4Divided.f (k : Nat) (l0 : List Int) : Option (List Int):=spec_l4Divided.l0 k l0 0 0
set_option maxHeartbeats 8000000 in
set_option maxRecDepth 100000 in
theorem spec_l4Divided.calls (k : Nat) (A0 : Option Addr) (c0 : Nat) (l0 : List Int) (r : List Int) (w : World) (hr0 : Kd.C (Kd.int .i64) w A0 l0.length l0) (hc0 : l0.length ≤ c0) (h : spec_l4Divided.f k l0 = some r) :
  Calls Try.prog 131 #[.slice A0 l0.length c0] w fun e w'=>∃ v0_ : Value,e = .returned (v0_) ∧ Kd.R (Kd.int .i64) 3 w' w.heap.size (fun _=>True) v0_ r ∧ Below w.heap.size w w':=by
 have HR0:=Aside0.mk hr0
 have HC0:=Aside0.mk hc0
 clear hr0 hc0
 have HB:=Aside0.mk (Below.refl w.heap.size w)
 have H : (spec_l4Divided.l0 k l0 0 0) = some r:=h
 clear h
 have H':=Aside0.mk H
 clear H
 go_enter Try.func131,Try.ntmps131
 go_wp2
 repeat (go_quiet (fail);try go_wp2)
 go_loopg [3,4] k (fun kq v3 v4 w'=>∃ (x3_1 : Int) (x4_1 : Int),v3 = .int .i64 x3_1 ∧ v4 = .int .i64 x4_1 ∧ Aside0 (spec_l4Divided.l0 kq l0 x3_1 x4_1 = some r) ∧ Aside0 (kq ≤ k) ∧ Aside0 (Below w.heap.size w w'))
 case atStart=>exact ⟨(0),(0),(by first|rfl|(simp;done)|(simp [*];done)),(by first|rfl|(simp;done)|(simp [*];done)),H',⟨Nat.le_refl _⟩,⟨by repeat (first|(with_reducible first|exact HB.out|apply below_alloc|apply pw_below_drewN|apply below_drew1)|exact HB.out)⟩⟩
 case round =>
  clear H'
  try clear c1
  obtain ⟨x3_1,x4_1,rfl,rfl,HA,HK1,HB⟩:=hrel
  cases gk with
 |zero=>exact absurd HA.out (by simp [spec_l4Divided.l0])
 |succ k1 =>
   have H:=HA.out
   clear HA
   simp only [spec_l4Divided.l0] at H
   by_cases c2 : x4_1 < (l0.length : Int)
   ·rw [if_pos c2] at H
    have c2b0 : decide (x4_1 < (l0.length : Int)) = true:=decide_eq_true c2
    clear c2
    by_cases c3 : 0 ≤ x4_1
    ·rw [if_pos c3] at H
     have c3b0 : decide (0 ≤ x4_1) = true:=decide_eq_true c3
     clear c3
     by_cases c4 : (rd l0 x4_1) = 0
     ·rw [if_pos c4] at H
      have c4b0 : ((rd l0 x4_1) == 0) = true:=beq_iff_eq.mpr c4
      have c4b1 : ((rd l0 x4_1) != 0) = false:=bne_eq_false_iff_eq.mpr c4
      clear c4
      have H':=Aside0.mk H
      clear H
      have p230 : 0 ≤ (x4_1 : Int):=of_decide_eq_true (by first|(with_reducible assumption)|assumption)
      have q230 : x4_1 < (l0.length : Int):=of_decide_eq_true (by first|(with_reducible assumption)|assumption)
      obtain ⟨ad230,e230,hx230_0⟩:=Kd.at_int HR0.out x4_1 p230 q230
      cases e230
      replace hx230_0:=(HB.out.cell (World.block_lt_of_cell? w _ hx230_0)).trans hx230_0
      replace p230:=eq_true p230
      replace q230:=eq_true q230
      go_wp2
      repeat (go_quiet (fail);try go_wp2)
      go_roundg k1
      case measure=>have:=HK1.out;omega
      case rel=>exact ⟨(x3_1),(wrap64 (x4_1 + 1)),(by first|rfl|(simp;done)|(simp [*];done)),(by first|rfl|(simp;done)|(simp [*];done)),H',⟨by have:=HK1.out;omega⟩,⟨by repeat (first|(with_reducible first|exact HB.out|apply below_alloc|apply pw_below_drewN|apply below_drew1)|exact HB.out)⟩⟩
     ·rw [if_neg c4] at H
      have c4b0 : ((rd l0 x4_1) == 0) = false:=beq_eq_false_iff_ne.mpr c4
      have c4b1 : ((rd l0 x4_1) != 0) = true:=bne_iff_ne.mpr c4
      replace H:=Option.bind_eq_some_iff.mp H
      obtain ⟨t233,A50,H⟩:=H
      replace H : ((spec_l2Gcd.f k1 t233 x3_1).bind fun t234=>(spec_l4Divided.l0 k1 l0 t234 (wrap64 (x4_1 + 1)))) = some r:=H
      have A5:=Aside0.mk A50
      clear A50
      replace H:=Option.bind_eq_some_iff.mp H
      obtain ⟨t234,A60,H⟩:=H
      replace H : (spec_l4Divided.l0 k1 l0 t234 (wrap64 (x4_1 + 1))) = some r:=H
      have A6:=Aside0.mk A60
      clear A60
      have H':=Aside0.mk H
      clear H
      have p230 : 0 ≤ (x4_1 : Int):=of_decide_eq_true (by first|(with_reducible assumption)|assumption)
      have q230 : x4_1 < (l0.length : Int):=of_decide_eq_true (by first|(with_reducible assumption)|assumption)
      obtain ⟨ad230,e230,hx230_0⟩:=Kd.at_int HR0.out x4_1 p230 q230
      cases e230
      replace hx230_0:=(HB.out.cell (World.block_lt_of_cell? w _ hx230_0)).trans hx230_0
      replace p230:=eq_true p230
      replace q230:=eq_true q230
      have p231 : 0 ≤ (x4_1 : Int):=of_decide_eq_true (by first|(with_reducible assumption)|assumption)
      have q231 : x4_1 < (l0.length : Int):=of_decide_eq_true (by first|(with_reducible assumption)|assumption)
      obtain ⟨ad231,e231,hx231_0⟩:=Kd.at_int HR0.out x4_1 p231 q231
      obtain rfl : ad230 = ad231:=(by injection e231)
      replace hx231_0:=(HB.out.cell (World.block_lt_of_cell? w _ hx231_0)).trans hx231_0
      replace p231:=eq_true p231
      replace q231:=eq_true q231
      have p232 : 0 ≤ (x4_1 : Int):=of_decide_eq_true (by first|(with_reducible assumption)|assumption)
      have q232 : x4_1 < (l0.length : Int):=of_decide_eq_true (by first|(with_reducible assumption)|assumption)
      obtain ⟨ad232,e232,hx232_0⟩:=Kd.at_int HR0.out x4_1 p232 q232
      obtain rfl : ad230 = ad232:=(by injection e232)
      replace hx232_0:=(HB.out.cell (World.block_lt_of_cell? w _ hx232_0)).trans hx232_0
      replace p232:=eq_true p232
      replace q232:=eq_true q232
      go_wp2_with (first|(go_at_call 93;(with_reducible refine (spec_l1Most.calls (rd l0 x4_1) (wrap64 (-(rd l0 x4_1))) t233 _ A5.out).mono ?_);rintro e w' ⟨rfl,⟨nd,rfl⟩⟩;(try first|exact ⟨rfl,_,World.drewN_drewN _ _ _⟩|exact ⟨rfl,_,Eq.trans (World.drewN_drewN _ _ _) (congrArg (World.drewN _) (Nat.add_assoc _ _ _))⟩))|(go_at_call 148;(with_reducible refine (spec_l2Gcd.calls k1 t233 x3_1 t234 _ A6.out).mono ?_);rintro e w' ⟨rfl,⟨nd,rfl⟩⟩;(try first|exact ⟨rfl,_,World.drewN_drewN _ _ _⟩|exact ⟨rfl,_,Eq.trans (World.drewN_drewN _ _ _) (congrArg (World.drewN _) (Nat.add_assoc _ _ _))⟩)))
      repeat (go_quiet (first|(go_at_call 93;(with_reducible refine (spec_l1Most.calls (rd l0 x4_1) (wrap64 (-(rd l0 x4_1))) t233 _ A5.out).mono ?_);rintro e w' ⟨rfl,⟨nd,rfl⟩⟩;(try first|exact ⟨rfl,_,World.drewN_drewN _ _ _⟩|exact ⟨rfl,_,Eq.trans (World.drewN_drewN _ _ _) (congrArg (World.drewN _) (Nat.add_assoc _ _ _))⟩))|(go_at_call 148;(with_reducible refine (spec_l2Gcd.calls k1 t233 x3_1 t234 _ A6.out).mono ?_);rintro e w' ⟨rfl,⟨nd,rfl⟩⟩;(try first|exact ⟨rfl,_,World.drewN_drewN _ _ _⟩|exact ⟨rfl,_,Eq.trans (World.drewN_drewN _ _ _) (congrArg (World.drewN _) (Nat.add_assoc _ _ _))⟩)));try go_wp2_with (first|(go_at_call 93;(with_reducible refine (spec_l1Most.calls (rd l0 x4_1) (wrap64 (-(rd l0 x4_1))) t233 _ A5.out).mono ?_);rintro e w' ⟨rfl,⟨nd,rfl⟩⟩;(try first|exact ⟨rfl,_,World.drewN_drewN _ _ _⟩|exact ⟨rfl,_,Eq.trans (World.drewN_drewN _ _ _) (congrArg (World.drewN _) (Nat.add_assoc _ _ _))⟩))|(go_at_call 148;(with_reducible refine (spec_l2Gcd.calls k1 t233 x3_1 t234 _ A6.out).mono ?_);rintro e w' ⟨rfl,⟨nd,rfl⟩⟩;(try first|exact ⟨rfl,_,World.drewN_drewN _ _ _⟩|exact ⟨rfl,_,Eq.trans (World.drewN_drewN _ _ _) (congrArg (World.drewN _) (Nat.add_assoc _ _ _))⟩))))
      go_roundg k1
      case measure=>have:=HK1.out;omega
      case rel=>exact ⟨(t234),(wrap64 (x4_1 + 1)),(by first|rfl|(simp;done)|(simp [*];done)),(by first|rfl|(simp;done)|(simp [*];done)),H',⟨by have:=HK1.out;omega⟩,⟨by repeat (first|(with_reducible first|exact HB.out|apply below_alloc|apply pw_below_drewN|apply below_drew1)|exact HB.out)⟩⟩
    ·rw [if_neg c3] at H
     exact absurd H (by simp)
   ·rw [if_neg c2] at H
    have c2b0 : decide (x4_1 < (l0.length : Int)) = false:=decide_eq_false c2
    clear c2
    replace H:=Option.bind_eq_some_iff.mp H
    obtain ⟨t235,A70,H⟩:=H
    replace H : (spec_l4Divided.l1 k1 x3_1 t235 0) = some r:=H
    have A7:=Aside0.mk A70
    clear A70
    have H':=Aside0.mk H
    clear H
    go_wp2_with (first|(go_at_call 76;(with_reducible refine (spec_l1Own.calls _ _ l0 t235 _ ?side1 ?side2 A7.out).mono ?_);(case side1=>repeat (first|exact (Kd.C_below HR0.out HB.out)|(with_reducible refine Kd.C_alloc ?_ _)|(with_reducible refine Kd.C_drewN ?_ _)|(with_reducible refine Kd.C_drew ?_)));(case side2=>exact HC0.out);rintro e w8 ⟨v236,rfl,ho0,hb⟩;have n0_:=Aside0.mk (Kd.R_lower ho0 (below_size (by repeat (first|(with_reducible first|exact HB.out|apply below_alloc|apply pw_below_drewN|apply below_drew1)|exact HB.out))));have n1_:=Aside0.mk (below_step (by repeat (first|(with_reducible first|exact HB.out|apply below_alloc|apply pw_below_drewN|apply below_drew1)|exact HB.out)) hb);clear HB;have HO237:=n0_;have HB:=n1_;clear n0_ n1_;(try clear hb);(try clear hb2);(try clear hk);(try clear hi);(try clear ho0)))
    repeat (go_quiet (first|(go_at_call 76;(with_reducible refine (spec_l1Own.calls _ _ l0 t235 _ ?side1 ?side2 A7.out).mono ?_);(case side1=>repeat (first|exact (Kd.C_below HR0.out HB.out)|(with_reducible refine Kd.C_alloc ?_ _)|(with_reducible refine Kd.C_drewN ?_ _)|(with_reducible refine Kd.C_drew ?_)));(case side2=>exact HC0.out);rintro e w8 ⟨v236,rfl,ho0,hb⟩;have n0_:=Aside0.mk (Kd.R_lower ho0 (below_size (by repeat (first|(with_reducible first|exact HB.out|apply below_alloc|apply pw_below_drewN|apply below_drew1)|exact HB.out))));have n1_:=Aside0.mk (below_step (by repeat (first|(with_reducible first|exact HB.out|apply below_alloc|apply pw_below_drewN|apply below_drew1)|exact HB.out)) hb);clear HB;have HO237:=n0_;have HB:=n1_;clear n0_ n1_;(try clear hb);(try clear hb2);(try clear hk);(try clear hi);(try clear ho0)));try go_wp2_with (first|(go_at_call 76;(with_reducible refine (spec_l1Own.calls _ _ l0 t235 _ ?side1 ?side2 A7.out).mono ?_);(case side1=>repeat (first|exact (Kd.C_below HR0.out HB.out)|(with_reducible refine Kd.C_alloc ?_ _)|(with_reducible refine Kd.C_drewN ?_ _)|(with_reducible refine Kd.C_drew ?_)));(case side2=>exact HC0.out);rintro e w8 ⟨v236,rfl,ho0,hb⟩;have n0_:=Aside0.mk (Kd.R_lower ho0 (below_size (by repeat (first|(with_reducible first|exact HB.out|apply below_alloc|apply pw_below_drewN|apply below_drew1)|exact HB.out))));have n1_:=Aside0.mk (below_step (by repeat (first|(with_reducible first|exact HB.out|apply below_alloc|apply pw_below_drewN|apply below_drew1)|exact HB.out)) hb);clear HB;have HO237:=n0_;have HB:=n1_;clear n0_ n1_;(try clear hb);(try clear hb2);(try clear hk);(try clear hi);(try clear ho0))))
    go_loopg [6] k1 (fun kq v6 w'=>∃ (x5_2 : List Int) (x6_2 : Int),v6 = .int .i64 x6_2 ∧ Aside0 (spec_l4Divided.l1 kq x3_1 x5_2 x6_2 = some r) ∧ Aside0 (kq ≤ k1) ∧ Aside0 (Kd.R (Kd.int .i64) 3 w' w.heap.size (fun _=>True) v236 x5_2) ∧ Aside0 (Below w.heap.size w w'))
    case atStart=>exact ⟨(t235),(0),(by first|rfl|(simp;done)|(simp [*];done)),H',⟨Nat.le_refl _⟩,⟨by (with_reducible repeat (first|apply Kd.R_alloc|apply Kd.R_drewN|apply Kd.R_drew));exact HO237.out⟩,⟨by repeat (first|(with_reducible first|exact HB.out|apply below_alloc|apply pw_below_drewN|apply below_drew1)|exact HB.out)⟩⟩
    case round =>
     clear H'
     try clear c1
     try clear c2
     try clear c2b0
     try clear p2
     try clear q2
     try clear hx2
     try clear c3
     try clear c3b0
     try clear c4
     try clear c4b0
     try clear c4b1
     try clear p6
     try clear hx230_0
     try clear hx231_0
     try clear hx232_0
     try clear p230
     try clear p231
     try clear p232
     try clear q230
     try clear q231
     try clear q232
     obtain ⟨x5_2,x6_2,rfl,HA,HK2,HO_5,HB⟩:=hrel
     cases gk with
    |zero=>exact absurd HA.out (by simp [spec_l4Divided.l1])
    |succ k2 =>
      have H:=HA.out
      clear HA
      simp only [spec_l4Divided.l1] at H
      by_cases c9 : x6_2 < (x5_2.length : Int)
      ·rw [if_pos c9] at H
       have c9b0 : decide (x6_2 < (x5_2.length : Int)) = true:=decide_eq_true c9
       clear c9
       by_cases c10 : x3_1 > 1
       ·rw [if_pos c10] at H
        have c10b0 : decide (1 < x3_1) = true:=decide_eq_true c10
        clear c10
        by_cases c11 : 0 ≤ x6_2
        ·rw [if_pos c11] at H
         have c11b0 : decide (0 ≤ x6_2) = true:=decide_eq_true c11
         clear c11
         by_cases c12 : x3_1 = 0
         ·rw [if_pos c12] at H
          exact absurd H (by simp)
         ·rw [if_neg c12] at H
          have c12b0 : (x3_1 == 0) = false:=beq_eq_false_iff_ne.mpr c12
          have c12b1 : (x3_1 != 0) = true:=bne_iff_ne.mpr c12
          obtain ⟨y239,hy239⟩ : ∃ y_ : List Int,y_ = (x5_2.set (x6_2 : Int).toNat (wrap64 (Int.tdiv (rd x5_2 x6_2) x3_1))):=⟨_,rfl⟩
          replace H : (spec_l4Divided.l1 k2 x3_1 y239 (wrap64 (x6_2 + 1))) = some r:=by first|(rw [hy239];with_reducible exact H)|(have H2_:=(Option.bind_some _ _).symm.trans H;rw [hy239];with_reducible exact H2_)|(have H2_:=(Option.bind_some _ _).symm.trans H;with_reducible exact H2_)|with_reducible exact H|(rw [hy239];exact H)|exact H
          have Ny239:=Aside0.mk hy239
          clear hy239
          have H':=Aside0.mk H
          clear H
          obtain ⟨Ao14,co14,eo14⟩:=Kd.R_slice HO_5.out
          subst eo14
          have p238 : 0 ≤ (x6_2 : Int):=of_decide_eq_true (by first|(with_reducible assumption)|assumption)
          have q238 : x6_2 < (x5_2.length : Int):=of_decide_eq_true (by first|(with_reducible assumption)|assumption)
          obtain ⟨ad238,e238,hx238_0⟩:=Kd.at_int (Kd.R_reads' HO_5.out).2.2 x6_2 p238 q238
          cases e238
          replace p238:=eq_true p238
          replace q238:=eq_true q238
          have p13 : 0 ≤ (x6_2 : Int):=of_decide_eq_true (by first|(with_reducible assumption)|assumption)
          have q13 : (x6_2 : Int) < ((x5_2.length : Int) : Int):=of_decide_eq_true (by first|(with_reducible assumption)|assumption)
          obtain ⟨go13,co13,eo13,gb13,gl13,cl13,HG13⟩:=Kd.R_form HO_5.out (by omega)
          (first|cases eo13|(injection eo13 with ea_ en_ ec_;(first|subst ea_|(injection ea_ with ea_;subst ea_));subst ec_;clear en_))
          have GB13:=Aside0.mk gb13
          have GG13:=Aside0.mk HG13
          clear gb13 gl13 HG13
          (first|simp only [add_plain] at hx238_0|skip)
          obtain ⟨hx13_0,hf13_0⟩:=Kd.R_celln 0 HO_5.out (x6_2 : Int) p13 q13
          replace p13:=eq_true p13
          replace q13:=eq_true q13
          have HP15:=Kd.R_putg HO_5.out (x6_2 : Int) (wrap64 (Int.tdiv (rd x5_2 x6_2) x3_1))
          go_wp2_with (first|((with_reducible refine gate_store (t:=3) (p:=50) rfl ?_);(try (rw [drewN_self wr];generalize hq_ : World.drewN wr _ = wr;have n0_:=Aside0.mk (Kd.R_at hq_ HO_5.out);have n1_:=Aside0.mk (below_at hq_ HB.out);clear hq_ HO_5 HB;have HO_5:=n0_;have HB:=n1_;clear n0_ n1_;(try (have HP15:=Kd.R_putg HO_5.out (x6_2 : Int) (wrap64 (Int.tdiv (rd x5_2 x6_2) x3_1))))));refine store_event (t:=3) (p:=50) (v:=?vo_w16) (w1:=(wr.setCell ⟨go13,(x6_2 : Int).toNat,none⟩ (.int .i64 (wrap64 (Int.tdiv (rd x5_2 x6_2) x3_1))))) ?hg ?ho ?hn ?hr ?_;(case ho=>rfl);(case hg=>rfl);(case hn=>rfl);(case hr=>first|(go_simp;done)|(go_simp;rfl));intro w16 hw;have hg : wr.grownBy w16 (some go13):=(by rw [hw];exact HP15.2);have hp_ : Kd.R (Kd.int .i64) 3 w16 w.heap.size (fun _=>True) (.slice (some ⟨go13,0,none⟩) x5_2.length co14) y239:=(by rw [hw,Ny239.out];exact HP15.1);clear HP15;have n0_:=Aside0.mk (hp_);have n1_:=Aside0.mk ((by rw [hw];exact below_set (HB.out) GB13.out : Below w.heap.size w w16));clear HO_5;clear HB;have HO_5:=n0_;have HB:=n1_;clear n0_ n1_;clear hg hw hp_))
          repeat (go_quiet (first|((with_reducible refine gate_store (t:=3) (p:=50) rfl ?_);(try (rw [drewN_self wr];generalize hq_ : World.drewN wr _ = wr;have n0_:=Aside0.mk (Kd.R_at hq_ HO_5.out);have n1_:=Aside0.mk (below_at hq_ HB.out);clear hq_ HO_5 HB;have HO_5:=n0_;have HB:=n1_;clear n0_ n1_;(try (have HP15:=Kd.R_putg HO_5.out (x6_2 : Int) (wrap64 (Int.tdiv (rd x5_2 x6_2) x3_1))))));refine store_event (t:=3) (p:=50) (v:=?vo_w16) (w1:=(wr.setCell ⟨go13,(x6_2 : Int).toNat,none⟩ (.int .i64 (wrap64 (Int.tdiv (rd x5_2 x6_2) x3_1))))) ?hg ?ho ?hn ?hr ?_;(case ho=>rfl);(case hg=>rfl);(case hn=>rfl);(case hr=>first|(go_simp;done)|(go_simp;rfl));intro w16 hw;have hg : wr.grownBy w16 (some go13):=(by rw [hw];exact HP15.2);have hp_ : Kd.R (Kd.int .i64) 3 w16 w.heap.size (fun _=>True) (.slice (some ⟨go13,0,none⟩) x5_2.length co14) y239:=(by rw [hw,Ny239.out];exact HP15.1);clear HP15;have n0_:=Aside0.mk (hp_);have n1_:=Aside0.mk ((by rw [hw];exact below_set (HB.out) GB13.out : Below w.heap.size w w16));clear HO_5;clear HB;have HO_5:=n0_;have HB:=n1_;clear n0_ n1_;clear hg hw hp_));try go_wp2_with (first|((with_reducible refine gate_store (t:=3) (p:=50) rfl ?_);(try (rw [drewN_self wr];generalize hq_ : World.drewN wr _ = wr;have n0_:=Aside0.mk (Kd.R_at hq_ HO_5.out);have n1_:=Aside0.mk (below_at hq_ HB.out);clear hq_ HO_5 HB;have HO_5:=n0_;have HB:=n1_;clear n0_ n1_;(try (have HP15:=Kd.R_putg HO_5.out (x6_2 : Int) (wrap64 (Int.tdiv (rd x5_2 x6_2) x3_1))))));refine store_event (t:=3) (p:=50) (v:=?vo_w16) (w1:=(wr.setCell ⟨go13,(x6_2 : Int).toNat,none⟩ (.int .i64 (wrap64 (Int.tdiv (rd x5_2 x6_2) x3_1))))) ?hg ?ho ?hn ?hr ?_;(case ho=>rfl);(case hg=>rfl);(case hn=>rfl);(case hr=>first|(go_simp;done)|(go_simp;rfl));intro w16 hw;have hg : wr.grownBy w16 (some go13):=(by rw [hw];exact HP15.2);have hp_ : Kd.R (Kd.int .i64) 3 w16 w.heap.size (fun _=>True) (.slice (some ⟨go13,0,none⟩) x5_2.length co14) y239:=(by rw [hw,Ny239.out];exact HP15.1);clear HP15;have n0_:=Aside0.mk (hp_);have n1_:=Aside0.mk ((by rw [hw];exact below_set (HB.out) GB13.out : Below w.heap.size w w16));clear HO_5;clear HB;have HO_5:=n0_;have HB:=n1_;clear n0_ n1_;clear hg hw hp_)))
          go_roundg k2
          case measure=>have:=HK1.out;have:=HK2.out;omega
          case rel=>exact ⟨(y239),(wrap64 (x6_2 + 1)),(by first|rfl|(simp;done)|(simp [*];done)),H',⟨by have:=HK1.out;have:=HK2.out;omega⟩,⟨by (with_reducible repeat (first|apply Kd.R_alloc|apply Kd.R_drewN|apply Kd.R_drew));exact HO_5.out⟩,⟨by repeat (first|(with_reducible first|exact HB.out|apply below_alloc|apply pw_below_drewN|apply below_drew1)|exact HB.out)⟩⟩
        ·rw [if_neg c11] at H
         exact absurd H (by simp)
       ·rw [if_neg c10] at H
        have c10b0 : decide (1 < x3_1) = false:=decide_eq_false c10
        clear c10
        obtain rfl:=Option.some.inj H
        obtain ⟨Ao17,co17,eo17⟩:=Kd.R_slice HO_5.out
        subst eo17
        go_wp2
        repeat (go_quiet (fail);try go_wp2)
        go_ret
        exact ⟨_,by first|rfl|(simp [errW_none,errW_some] <;> rfl)|(simp [*,errW_none,errW_some] <;> rfl),by (with_reducible repeat (first|apply Kd.R_alloc|apply Kd.R_drewN|apply Kd.R_drew));exact HO_5.out,by repeat (first|(with_reducible first|exact HB.out|apply below_alloc|apply pw_below_drewN|apply below_drew1)|exact HB.out)⟩
      ·rw [if_neg c9] at H
       have c9b0 : decide (x6_2 < (x5_2.length : Int)) = false:=decide_eq_false c9
       clear c9
       obtain rfl:=Option.some.inj H
       obtain ⟨Ao18,co18,eo18⟩:=Kd.R_slice HO_5.out
       subst eo18
       go_wp2
       repeat (go_quiet (fail);try go_wp2)
       go_ret
       exact ⟨_,by first|rfl|(simp [errW_none,errW_some] <;> rfl)|(simp [*,errW_none,errW_some] <;> rfl),by (with_reducible repeat (first|apply Kd.R_alloc|apply Kd.R_drewN|apply Kd.R_drew));exact HO_5.out,by repeat (first|(with_reducible first|exact HB.out|apply below_alloc|apply pw_below_drewN|apply below_drew1)|exact HB.out)⟩
open Go.Proofs.Ytdjclffkidoohaa.Mat
open Go.Proofs.Ytdjclffkidoohaa.Clos
mutual
def spec_l4Reduced.l0 : Nat → Nat → List (List Int) → List Int → Int → Int → Option (List (List Int) × List Int)
|0,_,_,_,_,_=>none
|k + 1,m,o,p,n,c=>if c < n then spec_l4Reduced.l1 k m o p n c (p.length : Int) else some (o,p)
def spec_l4Reduced.l1 : Nat → Nat → List (List Int) → List Int → Int → Int → Int → Option (List (List Int) × List Int)
|0,_,_,_,_,_,_=>none
|k + 1,m,o,p,n,c,a=>if a < (m : Int) then (if 0 ≤ a then (if 0 ≤ c then (if c < ((rd_L1 o a).length : Int) then (if rd (rd_L1 o a) c = 0 then spec_l4Reduced.l1 k m o p n c (wrap64 (a + 1)) else (if (p.length : Int) < (m : Int) then spec_l4Reduced.l2 k m ((o.set a.toNat (rd_L1 o (p.length : Int))).set p.length (rd_L1 o a)) p n c 0 else none)) else none) else none) else none) else (if a = (m : Int) then spec_l4Reduced.l0 k m o p n (wrap64 (c + 1)) else none)
def spec_l4Reduced.l2 : Nat → Nat → List (List Int) → List Int → Int → Int → Int → Option (List (List Int) × List Int)
|0,_,_,_,_,_,_=>none
|k + 1,m,o,p,n,c,i=>if i < (m : Int) then (if 0 ≤ i then (if i = (p.length : Int) then spec_l4Reduced.l2 k m o p n c (wrap64 (i + 1)) else (if 0 ≤ c then (if c < ((rd_L1 o i).length : Int) then (if rd (rd_L1 o i) c = 0 then spec_l4Reduced.l2 k m o p n c (wrap64 (i + 1)) else (if (p.length : Int) < (m : Int) then (if c < ((rd_L1 o (p.length : Int)).length : Int) then spec_l4Reduced.l3 k m o p n c i (rd (rd_L1 o (p.length : Int)) c) (rd (rd_L1 o i) c) 0 else none) else none)) else none) else none)) else none) else (if p.length < 17592186044416 then spec_l4Reduced.l0 k m o (p ++ [c]) n (wrap64 (c + 1)) else none)
def spec_l4Reduced.l3 : Nat → Nat → List (List Int) → List Int → Int → Int → Int → Int → Int → Int → Option (List (List Int) × List Int)
|0,_,_,_,_,_,_,_,_,_=>none
|k + 1,m,o,p,n,c,i,a,b,j=>if j < n then (if 0 ≤ j then (if j < ((rd_L1 o i).length : Int) then (if j < ((rd_L1 o (p.length : Int)).length : Int) then spec_l4Reduced.l3 k m (o.set i.toNat ((rd_L1 o i).set j.toNat (wrap64 (wrap64 (rd (rd_L1 o i) j * a) - wrap64 (rd (rd_L1 o (p.length : Int)) j * b))))) p n c i a b (wrap64 (j + 1)) else none) else none) else none) else ((spec_l4Divided.f k (rd_L1 o i)).bind fun t=>spec_l4Reduced.l2 k m (o.set i.toNat t) p n c (wrap64 (i + 1)))
end
def spec_l4Reduced.f (k : Nat) (l0 : List (List Int)) (a1 : Int) : Option (List (List Int) × List Int):=(spec_l2Rows.f k l0).bind fun t=>spec_l4Reduced.l0 k t.length t [] a1 0
set_option maxHeartbeats 8000000 in
set_option maxRecDepth 100000 in
theorem spec_l4Reduced.calls (k : Nat) (A0 : Option Addr) (c0 : Nat) (l0 : List (List Int)) (a1 : Int) (r1 : List (List Int)) (r2 : List Int) (w : World) (hr0 : Kd.C (Kd.slice 3 (Kd.int .i64)) w A0 l0.length l0) (hc0 : l0.length ≤ c0) (h : spec_l4Reduced.f k l0 a1 = some (r1,r2)) :
  Calls Try.prog 86 #[.slice A0 l0.length c0,.int .i64 a1] w fun e w'=>∃ v0_ v1_ : Value,e = .returned (.tuple #[v0_,v1_]) ∧ Kd.S (Kd.slice 3 (Kd.int .i64)) 26 w' w.heap.size (fun k_=>some k_ ≠ (v1_ : Value).ownBlock) v0_ r1 ∧ Kd.R (Kd.int .i64) 3 w' w.heap.size (fun _=>True) v1_ r2 ∧ Below w.heap.size w w':=by
 obtain ⟨t,A10,H0⟩:=Option.bind_eq_some_iff.mp h
 have A1:=Aside0.mk A10
 have H':=Aside0.mk H0
 have HR0:=Aside0.mk hr0
 have HC0:=Aside0.mk hc0
 clear h A10 H0 hr0 hc0
 have HB:=Aside0.mk (Below.refl w.heap.size w)
 obtain ⟨y0,hy0⟩ : ∃ y_ : List Int,y_ = ([] : List Int):=⟨_,rfl⟩
 rw [← hy0] at H'
 have NY:=Aside0.mk hy0
 clear hy0
 go_enter Try.func86,Try.ntmps86
 go_wp2_with (first|((with_reducible refine gate_callee (f:=130) rfl ?_);refine goesL_ (some 17) rfl rfl Try.func130 (by kernel_rfl) rfl #[.slice A0 l0.length c0] rfl (by (try simp only [List.map_toArray,List.map_cons,List.map_nil]);first|done|rfl) ?_;(with_reducible refine (spec_l2Rows.calls k A0 c0 l0 t _ HR0.out HC0.out A1.out).mono ?_);rintro e w1 ⟨v6,rfl,ho,hb⟩;refine ⟨_,rfl,?_⟩;have HO:=Aside0.mk ho;have HB:=Aside0.mk hb;clear ho hb)|((with_reducible refine gate_dst (N:=18) rfl ?_);refine Kd.R_lit (Kd.int .i64) _ 3 ?hg (N:=18) ?hd (xs:=([] : List Int)) (inner:=[]) (ok:=fun _=>True) (okp:=fun _=>True) ?hr ?hp (fun _ hk=>hk) trivial (Below.refl _ _) (Nat.le_refl _) (by simp) ?_;(case hd=>rfl);(case hg=>rfl);(case hr=>first|(go_simp;done)|(go_simp;rfl));(case hp=>exact (Reps.none _ _));intro v7 w3 ho4 hb hg_ hnew_;clear hg_ hnew_;have HP:=Aside0.mk (Kd.R_lower ho4 HB.out.size);have HO2:=Aside0.mk (Kd.S_elder' HO.out (Kd.R_base ho4) hb);have HB2:=Aside0.mk (below_step HB.out hb);clear HB HO hb ho4;have HB:=HB2;have HO:=HO2;clear HB2 HO2;rw [← NY.out] at HP))
 obtain ⟨A6,c6,e6⟩:=Kd.S_slice HO.out
 obtain ⟨m,hm⟩ : ∃ m : Nat,m = t.length:=⟨_,rfl⟩
 rw [← hm] at e6 H'
 subst e6
 clear hm A1 HR0 HC0
 have HO2:=Aside0.mk (Kd.S_mono (ok':=fun k_=>some k_ ≠ v7.ownBlock) HO.out (fun k_ hk=>hk.2))
 clear HO
 have HO:=HO2
 clear HO2 NY
 go_loopg [7,8] k (fun kq v7 v8 w'=>∃ (o : List (List Int)) (p : List Int) (c : Int),v8 = .int .i64 c ∧ Aside0 (spec_l4Reduced.l0 kq m o p a1 c = some (r1,r2)) ∧ Aside0 (kq ≤ k) ∧ Aside0 (Kd.S (Kd.slice 3 (Kd.int .i64)) 26 w' w.heap.size (fun k_=>some k_ ≠ (v7 : Value).ownBlock) (.slice A6 m c6) o) ∧ Aside0 (Kd.R (Kd.int .i64) 3 w' w.heap.size (fun _=>True) v7 p) ∧ Aside0 (Below w.heap.size w w'))
 case atStart=>exact ⟨t,y0,0,rfl,H',⟨Nat.le_refl _⟩,HO,HP,HB⟩
 case round =>
  clear H' HO HP HB
  obtain ⟨o,p,c,rfl,HA,HK1,HO,HP,HB⟩:=hrel
  cases gk with
 |zero=>exact absurd HA.out (by simp [spec_l4Reduced.l0])
 |succ k1 =>
   have H:=HA.out
   clear HA
   simp only [spec_l4Reduced.l0] at H
   obtain ⟨A7,c7,e7⟩:=Kd.R_slice HP.out
   subst e7
   by_cases b1 : c < a1
   ·rw [if_pos b1] at H
    have b1b:=decide_eq_true b1
    have H':=Aside0.mk H
    clear H b1
    go_wp2
    obtain ⟨wo,rfl⟩ : ∃ wo : World,wo = wr:=⟨_,rfl⟩
    go_loopg [10] k1 (fun kq v10 wx=>wx = wo ∧ ∃ a : Int,v10 = .int .i64 a ∧ Aside0 (spec_l4Reduced.l1 kq m o p a1 c a = some (r1,r2)) ∧ Aside0 (kq ≤ k1))
    case atStart=>exact ⟨rfl,(p.length : Int),rfl,H',⟨Nat.le_refl _⟩⟩
    case round =>
     clear H'
     obtain ⟨rfl,a,rfl,HA,HK2⟩:=hrel
     cases gk with
    |zero=>exact absurd HA.out (by simp [spec_l4Reduced.l1])
    |succ k2 =>
      have H:=HA.out
      clear HA
      simp only [spec_l4Reduced.l1] at H
      have HN:=Aside0.mk (Kd.S_reads' HO.out).1
      by_cases b2 : a < (m : Int)
      ·rw [if_pos b2] at H
       by_cases b3 : 0 ≤ a
       ·rw [if_pos b3] at H
        by_cases b4 : 0 ≤ c
        ·rw [if_pos b4] at H
         by_cases b5 : c < ((rd_L1 o a).length : Int)
         ·rw [if_pos b5] at H
          obtain ⟨g,cap,e,gB,gL,_⟩:=Kd.S_form HO.out (by have:=HN.out;omega)
          have eA : A6 = some ⟨g,0,none⟩:=by injection e
          clear e gL
          subst eA
          have GB:=Aside0.mk gB
          clear gB
          obtain ⟨ad,Ar,cr,e1,hx,hl,hi⟩:=at_L1 (Kd.S_reads' HO.out).2.2 a b3 (by have:=HN.out;omega)
          injection e1 with e1
          subst e1
          obtain ⟨ad2,e2,hx2⟩:=Kd.at_int hi c b4 b5
          subst e2
          have HI:=Aside0.mk hi
          (try simp only [add_plain] at hx)
          clear hi hl
          have b2b:=decide_eq_true b2
          have b3b:=eq_true b3
          have b4b:=eq_true b4
          have b5b:=decide_eq_true b5
          have b2t:=eq_true b2
          have b5t:=eq_true b5
          by_cases z : rd (rd_L1 o a) c = 0
          ·rw [if_pos z] at H
           have H':=Aside0.mk H
           have zb : (rd (rd_L1 o a) c == 0) = true:=beq_iff_eq.mpr z
           clear H z b2 b3 b4 b5
           go_wp2
           go_roundg k2
           case measure=>have:=HK2.out;omega
           case rel=>exact ⟨rfl,wrap64 (a + 1),rfl,H',⟨by have:=HK2.out;omega⟩⟩
          ·rw [if_neg z] at H
           have zb : (rd (rd_L1 o a) c == 0) = false:=beq_eq_false_iff_ne.mpr z
           by_cases b6 : (p.length : Int) < (m : Int)
           ·rw [if_pos b6] at H
            have H':=Aside0.mk H
            have b6b:=decide_eq_true b6
            have b6t:=eq_true b6
            have b6n : p.length < m:=by omega
            have b7b : (a == (m : Int)) = false:=beq_eq_false_iff_ne.mpr (by omega)
            obtain ⟨ad,Af,cf,e1,hxf,_,_⟩:=at_L1 (Kd.S_reads' HO.out).2.2 (p.length : Int) (by omega) (by have:=HN.out;omega)
            injection e1 with e1
            subst e1
            (try simp only [add_plain,Int.toNat_natCast] at hxf)
            obtain ⟨inner,ho⟩:=Kd.S_own HO.out
            have hfz : ∀ j,wr.frozen? ⟨g,j,none⟩ = false:=fun j=>by have:=HN.out;exact (this ▸ ho).frozenAt j
            obtain ⟨vq,hq⟩:=cell?_setCell_some (w:=wr) (p:=⟨g,a.toNat,none⟩) (x:=.slice Af (rd_L1 o (p.length : Int)).length cf) (q:=⟨g,p.length,none⟩) (v:=.slice Af (rd_L1 o (p.length : Int)).length cf) hxf
            have hS:=S_swap (d:=Kd.slice 3 (Kd.int .i64)) rfl HO.out a.toNat p.length (by have:=HN.out;omega) (by have:=HN.out;omega) hx hxf
            have eo1 : o[p.length]'(by have:=HN.out;omega) = rd_L1 o (p.length : Int):=by have:=HN.out;simp [rd_L1,show p.length < o.length by omega]
            have eo2 : o[a.toNat]'(by have:=HN.out;omega) = rd_L1 o a:=by have:=HN.out;simp [rd_L1,show a.toNat < o.length by omega]
            rw [eo1,eo2] at hS
            have HS:=Aside0.mk hS
            clear ho H z b2 b3 b4 b5 b6 hS eo1 eo2
            go_wp2
            clear hq hx hxf hfz hx2 zb b7b b5t b2t b2b b3b b5b
            have BS:=Aside0.mk ((HB.out.setCell (p:=⟨g,a.toNat,none⟩) GB.out (.slice Af (rd_L1 o (p.length : Int)).length cf)).setCell (p:=⟨g,p.length,none⟩) GB.out (.slice (some ad2) (rd_L1 o a).length cr))
            have PS:=Aside0.mk (Kd.R_far (Kd.R_far (p:=⟨g,a.toNat,none⟩) (Kd.R_tight rfl HP.out) (fun k_ hk he=>(Kd.S_R HO.out).1 g (by simp [Value.ownBlock]) (by have h2 : k_ = g:=he;rw [h2] at hk;exact hk)) (.slice Af (rd_L1 o (p.length : Int)).length cf)) (p:=⟨g,p.length,none⟩) (fun k_ hk he=>(Kd.S_R HO.out).1 g (by simp [Value.ownBlock]) (by have h2 : k_ = g:=he;rw [h2] at hk;exact hk)) (.slice (some ad2) (rd_L1 o a).length cr))
            clear HO HP HB GB HN
            generalize hW : (wr.setCell ⟨g,a.toNat,none⟩ (.slice Af (rd_L1 o (p.length : Int)).length cf)).setCell ⟨g,p.length,none⟩ (.slice (some ad2) (rd_L1 o a).length cr) = w2 at HS BS PS ⊢
            have HP:=Aside0.mk (Kd.R_mono PS.out (fun _ _=>trivial))
            clear PS hW
            obtain ⟨o2,ho2⟩ : ∃ o2 : List (List Int),o2 = (o.set a.toNat (rd_L1 o (p.length : Int))).set p.length (rd_L1 o a):=⟨_,rfl⟩
            rw [← ho2] at HS H'
            clear ho2
            have HK3 : k2 ≤ k ∧ k2 < k1:=by have:=HK1.out;have:=HK2.out;omega
            have b4t:=b4b
            clear HK1 HK2
            go_loopg [12] k2 (fun kq v12 wx=>∃ (o : List (List Int)) (i : Int),v12 = .int .i64 i ∧ Aside0 (spec_l4Reduced.l2 kq m o p a1 c i = some (r1,r2)) ∧ Aside0 (kq ≤ k2) ∧ Aside0 (Kd.S (Kd.slice 3 (Kd.int .i64)) 26 wx w.heap.size (fun k_=>some k_ ≠ (Value.slice A7 p.length c7).ownBlock) (.slice (some ⟨g,0,none⟩) m c6) o) ∧ Aside0 (Kd.R (Kd.int .i64) 3 wx w.heap.size (fun _=>True) (.slice A7 p.length c7) p) ∧ Aside0 (Below w.heap.size w wx))
            case atStart=>exact ⟨o2,0,rfl,H',⟨Nat.le_refl _⟩,HS,HP,BS⟩
            case round =>
             clear H' HS HP BS
             obtain ⟨o,i,rfl,HA,HK4,HO,HP,HB⟩:=hrel
             cases gk with
            |zero=>exact absurd HA.out (by simp [spec_l4Reduced.l2])
            |succ k3 =>
              have H:=HA.out
              clear HA
              simp only [spec_l4Reduced.l2] at H
              have HN:=Aside0.mk (Kd.S_reads' HO.out).1
              by_cases b2 : i < (m : Int)
              ·rw [if_pos b2] at H
               by_cases b3 : 0 ≤ i
               ·rw [if_pos b3] at H
                have b2b:=decide_eq_true b2
                have b2t:=eq_true b2
                have b3b:=eq_true b3
                by_cases b5 : i = (p.length : Int)
                ·rw [if_pos b5] at H
                 have H':=Aside0.mk H
                 have b5b : (i == (p.length : Int)) = true:=beq_iff_eq.mpr b5
                 clear H b2 b3 b5
                 go_wp2
                 go_roundg k3
                 case measure=>have:=HK4.out;omega
                 case rel=>exact ⟨o,wrap64 (i + 1),rfl,H',⟨by have:=HK4.out;omega⟩,HO,HP,HB⟩
                ·rw [if_neg b5] at H
                 have b5b : (i == (p.length : Int)) = false:=beq_eq_false_iff_ne.mpr b5
                 by_cases b4 : 0 ≤ c
                 ·rw [if_pos b4] at H
                  by_cases b6 : c < ((rd_L1 o i).length : Int)
                  ·rw [if_pos b6] at H
                   obtain ⟨g2,cap2,e2,gB,gL,_⟩:=Kd.S_form HO.out (by have:=HN.out;omega)
                   have eA : g2 = g:=by injection e2 with e2;injection e2 with e2;injection e2 with e2;exact e2.symm
                   clear e2 gL
                   subst eA
                   have GB:=Aside0.mk gB
                   clear gB
                   obtain ⟨ad,Ar,cr,e1,hx,hl,hi⟩:=at_L1 (Kd.S_reads' HO.out).2.2 i b3 (by have:=HN.out;omega)
                   injection e1 with e1
                   subst e1
                   obtain ⟨ad2,e2,hx2⟩:=Kd.at_int hi c b4 b6
                   subst e2
                   (try simp only [add_plain] at hx)
                   clear hi hl
                   have b4b:=eq_true b4
                   have b6b:=decide_eq_true b6
                   have b6t:=eq_true b6
                   by_cases z : rd (rd_L1 o i) c = 0
                   ·rw [if_pos z] at H
                    have H':=Aside0.mk H
                    have zb : (rd (rd_L1 o i) c == 0) = true:=beq_iff_eq.mpr z
                    clear H z b2 b3 b4 b5 b6
                    go_wp2
                    go_roundg k3
                    case measure=>have:=HK4.out;omega
                    case rel=>exact ⟨o,wrap64 (i + 1),rfl,H',⟨by have:=HK4.out;omega⟩,HO,HP,HB⟩
                   ·rw [if_neg z] at H
                    have zb : (rd (rd_L1 o i) c == 0) = false:=beq_eq_false_iff_ne.mpr z
                    by_cases b7 : (p.length : Int) < (m : Int)
                    ·rw [if_pos b7] at H
                     by_cases b8 : c < ((rd_L1 o (p.length : Int)).length : Int)
                     ·rw [if_pos b8] at H
                      have H':=Aside0.mk H
                      have b7b:=decide_eq_true b7
                      have b7t:=eq_true b7
                      have b8t:=eq_true b8
                      have b7n : p.length < m:=by omega
                      obtain ⟨adf,Af,cf,e1,hxf,_,hif⟩:=at_L1 (Kd.S_reads' HO.out).2.2 (p.length : Int) (by omega) (by have:=HN.out;omega)
                      injection e1 with e1
                      subst e1
                      (try simp only [add_plain,Int.toNat_natCast] at hxf)
                      obtain ⟨adf2,e2,hxf2⟩:=Kd.at_int hif c b4 b8
                      subst e2
                      clear hif H z b2 b3 b4 b5 b6 b7 b8
                      go_wp2
                      go_quiet (fail)
                      go_wp2
                      have BI:=Aside0.mk (And.intro (of_eq_true b3b) (of_eq_true b2t))
                      clear hx hxf hx2 hxf2 b2t b3b b5b b4b b6b b6t zb b7b b8t b2b HN
                      have HK5 : k3 ≤ k2:=by have:=HK4.out;omega
                      clear HK4
                      obtain ⟨xa,hxa⟩ : ∃ xa : Int,xa = rd (rd_L1 o (p.length : Int)) c:=⟨_,rfl⟩
                      obtain ⟨xb,hxb⟩ : ∃ xb : Int,xb = rd (rd_L1 o i) c:=⟨_,rfl⟩
                      rw [← hxa,← hxb] at H' ⊢
                      clear hxa hxb
                      go_loopg [15] k3 (fun kq v15 wx=>∃ (o3 : List (List Int)) (j : Int),v15 = .int .i64 j ∧ Aside0 (spec_l4Reduced.l3 kq m o3 p a1 c i xa xb j = some (r1,r2)) ∧ Aside0 (kq ≤ k3) ∧ Aside0 (Kd.S (Kd.slice 3 (Kd.int .i64)) 26 wx w.heap.size (fun k_=>some k_ ≠ (Value.slice A7 p.length c7).ownBlock) (.slice (some ⟨g2,0,none⟩) m c6) o3) ∧ Aside0 (Kd.R (Kd.int .i64) 3 wx w.heap.size (fun _=>True) (.slice A7 p.length c7) p) ∧ Aside0 (Below w.heap.size w wx))
                      case atStart=>exact ⟨o,0,rfl,H',⟨Nat.le_refl _⟩,⟨Kd.S_drewN HO.out _⟩,⟨Kd.R_drewN HP.out _⟩,⟨pw_below_drewN HB.out _⟩⟩
                      case round =>
                       clear H' HO HP HB
                       obtain ⟨o,j,rfl,HA,HK6,HO,HP,HB⟩:=hrel
                       cases gk with
                      |zero=>exact absurd HA.out (by simp [spec_l4Reduced.l3])
                      |succ k4 =>
                        have H:=HA.out
                        clear HA
                        simp only [spec_l4Reduced.l3] at H
                        have HN:=Aside0.mk (Kd.S_reads' HO.out).1
                        by_cases b2 : j < a1
                        ·rw [if_pos b2] at H
                         by_cases b3 : 0 ≤ j
                         ·rw [if_pos b3] at H
                          by_cases b4 : j < ((rd_L1 o i).length : Int)
                          ·rw [if_pos b4] at H
                           by_cases b5 : j < ((rd_L1 o (p.length : Int)).length : Int)
                           ·rw [if_pos b5] at H
                            have H':=Aside0.mk H
                            have b2b:=decide_eq_true b2
                            clear H
                            go_wp2
                            refine wp_region_still_tail 25 rfl (by kernel_rfl) ?_
                            obtain ⟨wd,hwd⟩ : ∃ wd : World,{ wr with drawn:=wr.drawn + 1 } = wd:=⟨_,rfl⟩
                            rw [hwd]
                            have hq : wr.drewN 1 = wd:=hwd
                            have HO2:=Aside0.mk (Kd.S_at hq HO.out)
                            have HP2:=Aside0.mk (Kd.R_at hq HP.out)
                            have HB2:=Aside0.mk (below_at hq HB.out)
                            clear HO HP HB hq hwd
                            have HO:=HO2
                            have HP:=HP2
                            have HB:=HB2
                            clear HO2 HP2 HB2
                            obtain ⟨oki,cs,hcl,hM,hcc,hok,hH⟩:=Kd.S_lend HO.out [] i BI.out.1 BI.out.2
                            obtain ⟨ve,rfl,hR⟩:=hM
                            have hx:=hcc 0 ve rfl
                            simp only [show (Kd.slice 3 (Kd.int .i64)).sz = 1 from rfl,Nat.mul_one,Nat.add_zero] at hx
                            obtain ⟨gr,capr,er,_,_,cellsr,_⟩:=Kd.R_form hR (by have he : (o.getD i.toNat []) = rd_L1 o i:=rfl;rw [he];omega)
                            subst er
                            have hR2 : Kd.R (Kd.int .i64) 3 wd w.heap.size oki (.slice (some ⟨gr,0,none⟩) (rd_L1 o i).length capr) (rd_L1 o i):=hR
                            obtain ⟨hy,hfy⟩:=Kd.R_celln 0 hR2 j b3 b4
                            have hR3:=Kd.R_putg hR2 j (wrap64 (wrap64 (rd (rd_L1 o i) j * xa) - wrap64 (rd (rd_L1 o (p.length : Int)) j * xb)))
                            have hS:=Aside0.mk (Kd.H_back (Kd.H_grown hH hR3.2 (fun k hk=>hR2.1 k (by simpa [Value.ownBlock] using hk))) (x':=(rd_L1 o i).set j.toNat (wrap64 (wrap64 (rd (rd_L1 o i) j * xa) - wrap64 (rd (rd_L1 o (p.length : Int)) j * xb)))) ⟨_,rfl,hR3.1⟩ (fun _ hk=>hk))
                            obtain ⟨adf,Af,cf,e1,hxf,_,hif⟩:=at_L1 (Kd.S_reads' HO.out).2.2 (p.length : Int) (by omega) (by have:=HN.out;omega)
                            injection e1 with e1
                            subst e1
                            (try simp only [add_plain] at hxf)
                            obtain ⟨adf2,e2,hxf2⟩:=Kd.at_int hif j b3 b5
                            subst e2
                            have hxg:=hxf
                            simp only [Int.toNat_natCast] at hxg
                            have t1_:=eq_true BI.out.1
                            have t2_:=eq_true BI.out.2
                            have t3_ : ((p.length : Int) < (m : Int)) = True:=eq_true (by omega)
                            have t4_:=eq_true b3
                            have t5_:=eq_true b4
                            have t6_:=eq_true b5
                            have PS:=Aside0.mk (Kd.R_mono (Kd.R_far (p:=⟨gr,j.toNat,none⟩) (Kd.R_tight rfl HP.out) (fun k_ hk he=>(hok gr (hR2.1 gr (by simp [Value.ownBlock]))).1 (by have h2 : k_ = gr:=he;rw [h2] at hk;exact hk)) (.int .i64 (wrap64 (wrap64 (rd (rd_L1 o i) j * xa) - wrap64 (rd (rd_L1 o (p.length : Int)) j * xb))))) (fun _ _=>trivial))
                            have BS:=Aside0.mk (HB.out.setCell (p:=⟨gr,j.toNat,none⟩) (by assumption) (.int .i64 (wrap64 (wrap64 (rd (rd_L1 o i) j * xa) - wrap64 (rd (rd_L1 o (p.length : Int)) j * xb)))))
                            have hx0 : wd.cell? ⟨g2,i.toNat,none⟩ = some (.slice (some ⟨gr,0,none⟩) (rd_L1 o i).length capr):=hx
                            have hy0 : wd.cell? ⟨gr,j.toNat,none⟩ = some (.int .i64 (rd (rd_L1 o i) j)):=hy
                            clear hx hy
                            clear hcl hcc hok hH hR hR2 hR3 HO HP HB b2 b3 b4 b5
                            simp only [List.take_succ_cons,List.take_zero,List.drop_succ_cons,List.drop_zero]
                            repeat still_step
                            try refine wpStill_nil ?_
                            go_wp2
                            go_roundg k4
                            case measure=>have:=HK6.out;omega
                            case rel=>exact ⟨_,wrap64 (j + 1),rfl,H',⟨by have:=HK6.out;omega⟩,hS,PS,BS⟩
                           ·rw [if_neg b5] at H
                            exact absurd H (by simp)
                          ·rw [if_neg b4] at H
                           exact absurd H (by simp)
                         ·rw [if_neg b3] at H
                          exact absurd H (by simp)
                        ·rw [if_neg b2] at H
                         obtain ⟨t4,A40,H0⟩:=Option.bind_eq_some_iff.mp H
                         have A4:=Aside0.mk A40
                         have H':=Aside0.mk H0
                         have b2b:=decide_eq_false b2
                         clear H A40 H0 b2
                         obtain ⟨ad,Ar,cr,e1,hx,hl,hi⟩:=at_L1 (Kd.S_reads' HO.out).2.2 i BI.out.1 (by have:=HN.out;have:=BI.out.2;omega)
                         injection e1 with e1
                         subst e1
                         (try simp only [add_plain] at hx)
                         have HL:=Aside0.mk hl
                         have HI:=Aside0.mk hi
                         clear hl hi
                         have t1_:=eq_true BI.out.1
                         have t2_:=eq_true BI.out.2
                         go_wp2_with (first|((with_reducible refine gate_callee (f:=131) rfl ?_);refine goesL_ (some 131) rfl rfl Try.func131 (by kernel_rfl) rfl #[.slice Ar (rd_L1 o i).length cr] rfl (by (try simp only [List.map_toArray,List.map_cons,List.map_nil]);first|done|rfl) ?_;(with_reducible refine (spec_l4Divided.calls k4 Ar cr (rd_L1 o i) t4 _ HI.out HL.out A4.out).mono ?_);rintro e w1 ⟨v6,rfl,ho,hb⟩;refine ⟨_,rfl,?_⟩;obtain ⟨A9,c9,e9⟩:=Kd.R_slice ho;subst e9;have HV:=Aside0.mk ho;have HD:=Aside0.mk hb;have hx1:=(hb.cell (World.block_lt_of_cell? _ _ hx)).trans hx;have hf1 : w1.frozen? ⟨g2,i.toNat,none⟩ = false:=(by obtain ⟨inner,hw⟩:=Kd.S_own (Kd.S_old HO.out hb);have hn:=HN.out;exact (hn ▸ hw).frozenAt i.toNat);clear ho hb hx))
                         have HS:=Aside0.mk (S_put rfl HO.out HD.out HB.out.size (fun k_ hk he=>by have:=Kd.R_lt HP.out k_ he.symm;omega) i BI.out.1 BI.out.2 ⟨_,rfl,HV.out⟩)
                         have PS:=Aside0.mk (Kd.R_mono (Kd.R_far (p:=⟨g2,i.toNat,none⟩) (Kd.R_tight rfl (Kd.R_below HP.out HD.out)) (fun k_ hk he=>(Kd.S_R HO.out).1 g2 (by simp [Value.ownBlock]) (by have h2 : k_ = g2:=he;rw [h2] at hk;exact hk)) (.slice A9 t4.length c9)) (fun _ _=>trivial))
                         have BS:=Aside0.mk ((below_step HB.out HD.out).setCell (p:=⟨g2,i.toNat,none⟩) GB.out (.slice A9 t4.length c9))
                         go_roundg k4
                         case measure=>have:=HK6.out;omega
                         case rel=>exact ⟨o.set i.toNat t4,wrap64 (i + 1),rfl,H',⟨by have:=HK6.out;omega⟩,HS,PS,BS⟩
                     ·rw [if_neg b8] at H
                      exact absurd H (by simp)
                    ·rw [if_neg b7] at H
                     exact absurd H (by simp)
                  ·rw [if_neg b6] at H
                   exact absurd H (by simp)
                 ·rw [if_neg b4] at H
                  exact absurd H (by simp)
               ·rw [if_neg b3] at H
                exact absurd H (by simp)
              ·rw [if_neg b2] at H
               by_cases b3 : p.length < 17592186044416
               ·rw [if_pos b3] at H
                have H':=Aside0.mk H
                have b2b:=decide_eq_false b2
                have B3:=Aside0.mk b3
                clear H b2 b3
                obtain ⟨y1,hy1⟩ : ∃ y_ : List Int,y_ = p ++ [c]:=⟨_,rfl⟩
                rw [← hy1] at H'
                have NY:=Aside0.mk hy1
                clear hy1 HN
                go_wp2_with (first|((with_reducible refine gate_builtin (b:=.append) (xs:=#[.tmp 133,.tmp 135]) rfl ?_);at_builtin;refine Kd.R_append (Kd.int .i64) (w0:=w) w.heap.size rfl (.tmp 133) (.tmp 135) 26 3 (.int .i64 0) 8 rfl (by first|rfl|decide) (by first|rfl|decide) rfl (by decide) (by omega) (.slice A7 p.length c7) p c [.int .i64 c] (fun _=>True) (fun _=>False) rfl rfl ?aP (fun _ hk=>hk.elim) ?aF ?aO ?aB ?aS ?aL ?_;(case aP=>exact rfl);(case aB=>exact (by repeat (first|(with_reducible first|exact HB.out|apply below_alloc|apply pw_below_drewN|apply below_drew1)|exact HB.out)));(case aF=>exact (fun _ _=>trivial));(case aO=>exact (by (with_reducible repeat (first|apply Kd.R_alloc|apply Kd.R_drewN|apply Kd.R_drew));exact HP.out));(case aS=>exact (below_size (by repeat (first|(with_reducible first|exact HB.out|apply below_alloc|apply pw_below_drewN|apply below_drew1)|exact HB.out))));(case aL=>have:=B3.out;omega);intro v151 w17 ho hb hg hat;rw [← NY.out] at ho;have n2_:=Aside0.mk (hb);have n3_:=Aside0.mk (ho);have n4_:=Aside0.mk (Kd.S_after (ok:=fun _=>True) (by (with_reducible repeat (first|apply Kd.S_alloc|apply Kd.S_drewN|apply Kd.S_drew));exact Kd.S_mono HO.out (fun _ hk=>⟨trivial,hk⟩)) hg hat);clear HO HB HP ho hb hg hat;have HO:=Aside0.mk (Kd.S_mono n4_.out (fun _ hk=>hk.2));have HB:=n2_;have HP:=n3_;clear n4_ n2_ n3_))
                go_roundg k3
                case measure=>have:=HK4.out;omega
                case rel=>exact ⟨o,y1,wrap64 (c + 1),rfl,H',⟨by have:=HK4.out;omega⟩,HO,HP,HB⟩
               ·rw [if_neg b3] at H
                exact absurd H (by simp)
           ·rw [if_neg b6] at H
            exact absurd H (by simp)
         ·rw [if_neg b5] at H
          exact absurd H (by simp)
        ·rw [if_neg b4] at H
         exact absurd H (by simp)
       ·rw [if_neg b3] at H
        exact absurd H (by simp)
      ·rw [if_neg b2] at H
       by_cases b3 : a = (m : Int)
       ·rw [if_pos b3] at H
        have H':=Aside0.mk H
        have b2b:=decide_eq_false b2
        have b3b : (a == (m : Int)) = true:=beq_iff_eq.mpr b3
        clear H b2 b3
        go_wp2
        go_roundg k2
        case measure=>have:=HK2.out;have:=HK1.out;omega
        case rel=>exact ⟨o,p,wrap64 (c + 1),rfl,H',⟨by have:=HK2.out;have:=HK1.out;omega⟩,HO,HP,HB⟩
       ·rw [if_neg b3] at H
        exact absurd H (by simp)
   ·rw [if_neg b1] at H
    have b1b:=decide_eq_false b1
    obtain ⟨rfl,rfl⟩:=Prod.mk.inj (Option.some.inj H)
    clear H b1
    go_wp2
    go_ret2
    exact ⟨_,_,rfl,HO.out,HP.out,HB.out⟩
def spec_l1Has.l0 : Nat → List Int → Int → Int → Option (Bool)
|0,_,_,_=>none
|k + 1,x0,x1,x5=>if x5 < (x0.length : Int) then (if 0 ≤ x5 then (if (rd x0 x5) = x1 then (some true) else (spec_l1Has.l0 k x0 x1 (wrap64 (x5 + 1)))) else (none)) else (some false)
def spec_l1Has.f (k : Nat) (l0 : List Int) (a1 : Int) : Option (Bool):=spec_l1Has.l0 k l0 a1 0
set_option maxHeartbeats 8000000 in
set_option maxRecDepth 100000 in
theorem spec_l1Has.calls (k : Nat) (A0 : Option Addr) (c0 : Nat) (l0 : List Int) (a1 : Int) (r : Bool) (w : World) (hr0 : Kd.C (Kd.int .i64) w A0 l0.length l0) (hc0 : l0.length ≤ c0) (h : spec_l1Has.f k l0 a1 = some r) :
  Calls Try.prog 128 #[.slice A0 l0.length c0,.int .i64 a1] w fun e w'=>e = .returned (.bool r) ∧ Drawn0 w w':=by
 have HR0:=Aside0.mk hr0
 have HC0:=Aside0.mk hc0
 clear hr0 hc0
 have H : (spec_l1Has.l0 k l0 a1 0) = some r:=h
 clear h
 have H':=Aside0.mk H
 clear H
 go_enter Try.func128,Try.ntmps128
 go_wp2
 go_loopg [5] k (fun kq v5 w'=>∃ (x5_1 : Int),v5 = .int .i64 x5_1 ∧ Aside0 (spec_l1Has.l0 kq l0 a1 x5_1 = some r) ∧ Aside0 (kq ≤ k) ∧ Drawn0 w w')
 case atStart=>exact ⟨(0),(by first|rfl|(simp;done)|(simp [*];done)),H',⟨Nat.le_refl _⟩,by repeat (first|exact Drawn0.refl _|apply Drawn0.step)⟩
 case round =>
  clear H'
  try clear c1
  try clear p2
  obtain ⟨x5_1,rfl,HA,HK1,⟨m1,rfl⟩⟩:=hrel
  cases gk with
 |zero=>exact absurd HA.out (by simp [spec_l1Has.l0])
 |succ k1 =>
   have H:=HA.out
   clear HA
   simp only [spec_l1Has.l0] at H
   by_cases c3 : x5_1 < (l0.length : Int)
   ·rw [if_pos c3] at H
    have c3b0 : decide (x5_1 < (l0.length : Int)) = true:=decide_eq_true c3
    clear c3
    by_cases c4 : 0 ≤ x5_1
    ·rw [if_pos c4] at H
     have c4b0 : decide (0 ≤ x5_1) = true:=decide_eq_true c4
     clear c4
     by_cases c5 : (rd l0 x5_1) = a1
     ·rw [if_pos c5] at H
      have c5b0 : ((rd l0 x5_1) == a1) = true:=beq_iff_eq.mpr c5
      have c5b1 : ((rd l0 x5_1) != a1) = false:=bne_eq_false_iff_eq.mpr c5
      clear c5
      obtain rfl:=Option.some.inj H
      have p240 : 0 ≤ (x5_1 : Int):=of_decide_eq_true (by first|(with_reducible assumption)|assumption)
      have q240 : x5_1 < (l0.length : Int):=of_decide_eq_true (by first|(with_reducible assumption)|assumption)
      obtain ⟨ad240,e240,hx240_0⟩:=Kd.at_int HR0.out x5_1 p240 q240
      cases e240
      replace p240:=eq_true p240
      replace q240:=eq_true q240
      go_wp2
      go_ret
      exact ⟨by first|rfl|(simp;done)|(simp [*];done),by repeat (first|exact Drawn0.refl _|apply Drawn0.step)⟩
     ·rw [if_neg c5] at H
      have c5b0 : ((rd l0 x5_1) == a1) = false:=beq_eq_false_iff_ne.mpr c5
      have c5b1 : ((rd l0 x5_1) != a1) = true:=bne_iff_ne.mpr c5
      have H':=Aside0.mk H
      clear H
      have p240 : 0 ≤ (x5_1 : Int):=of_decide_eq_true (by first|(with_reducible assumption)|assumption)
      have q240 : x5_1 < (l0.length : Int):=of_decide_eq_true (by first|(with_reducible assumption)|assumption)
      obtain ⟨ad240,e240,hx240_0⟩:=Kd.at_int HR0.out x5_1 p240 q240
      cases e240
      replace p240:=eq_true p240
      replace q240:=eq_true q240
      go_wp2
      go_roundg k1
      case measure=>have:=HK1.out;omega
      case rel=>exact ⟨(wrap64 (x5_1 + 1)),(by first|rfl|(simp;done)|(simp [*];done)),H',⟨by have:=HK1.out;omega⟩,by repeat (first|exact Drawn0.refl _|apply Drawn0.step)⟩
    ·rw [if_neg c4] at H
     exact absurd H (by simp)
   ·rw [if_neg c3] at H
    have c3b0 : decide (x5_1 < (l0.length : Int)) = false:=decide_eq_false c3
    clear c3
    obtain rfl:=Option.some.inj H
    go_wp2
    go_ret
    exact ⟨by first|rfl|(simp;done)|(simp [*];done),by repeat (first|exact Drawn0.refl _|apply Drawn0.step)⟩
end Go.Proofs.Ytdjclffkidoohaa.QFnExactCanPart
