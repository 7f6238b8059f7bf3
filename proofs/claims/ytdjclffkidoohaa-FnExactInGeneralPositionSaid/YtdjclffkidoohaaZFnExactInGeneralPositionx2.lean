/- Some of the functions that the law reaches, and what they tell; no condition. -/
import Derived.Test.YtdjclffkidoohaaVFnExactInGeneralPosition
import Derived.Test.YtdjclffkidoohaaZFnExactInGeneralPositionx0
import Derived.Test.YtdjclffkidoohaaZFnExactInGeneralPositionx1
namespace Go.Proofs.Ytdjclffkidoohaa.QFnExactInGeneralPosition
open Go.RowKit Go.Proofs.YtdjclffkidoohaaW.PrintWords Go.Proofs.YtdjclffkidoohaaW.PrintLast Go.Proofs.YtdjclffkidoohaaW.PrintMore
attribute [local go_sem] max2_int min2_int max_two min_two max_three min_three max_four min_four   -- for this text's walks alone
set_option linter.unusedVariables false
set_option linter.unusedSimpArgs false
def spec_l4Points.l0 : Nat → List (List Int) → List Int → Int → Option (Bool)
|0,_,_,_=>none
|k + 1,x0,x3,x4=>if x4 < (x0.length : Int) then (if x3.length < 17592186044416 then (spec_l4Points.l0 k x0 (x3 ++ [1]) (wrap64 (x4 + 1))) else (none)) else (if (x0.length : Int) ≤ 8 then ((spec_l2Sample.f k x0 x3).bind fun t121=>(some t121)) else (some false))
def spec_l4Points.f (k : Nat) (l0 : List (List Int)) : Option (Bool):=spec_l4Points.l0 k l0 (([] : List Int)) 0
set_option maxHeartbeats 8000000 in
set_option maxRecDepth 100000 in
theorem spec_l4Points.calls (k : Nat) (A0 : Option Addr) (c0 : Nat) (l0 : List (List Int)) (r : Bool) (w : World) (hr0 : Kd.C (Kd.slice 3 (Kd.int .i64)) w A0 l0.length l0) (hc0 : l0.length ≤ c0) (h : spec_l4Points.f k l0 = some r) :
  Calls Try.prog 84 #[.slice A0 l0.length c0] w fun e w'=>e = .returned (.bool r) ∧ Below w.heap.size w w':=by
 (have hu32:=Try.underlying32);(have HR0:=Aside0.mk hr0);(have HC0:=Aside0.mk hc0);(clear hr0 hc0);(have HB:=Aside0.mk (Below.refl w.heap.size w));(have H : (spec_l4Points.l0 k l0 (([] : List Int)) 0) = some r:=h);(clear h);(obtain ⟨y115,hy115⟩ : ∃ y_ : List Int,y_ = (([] : List Int)):=⟨_,rfl⟩);(replace H : (spec_l4Points.l0 k l0 y115 0) = some r:=by first|(rw [hy115];with_reducible exact H)|(have H2_:=(Option.bind_some _ _).symm.trans H;rw [hy115];with_reducible exact H2_)|(have H2_:=(Option.bind_some _ _).symm.trans H;with_reducible exact H2_)|with_reducible exact H|(rw [hy115];exact H)|exact H);(have Ny115:=Aside0.mk hy115);(clear hy115);(have H':=Aside0.mk H);(clear H);(go_enter Try.func84,Try.ntmps84);(go_wp2_with (first|((with_reducible refine gate_dst (N:=5) rfl ?_);refine Kd.R_lit (Kd.int .i64) _ 3 ?hg (N:=5) ?hd (xs:=([] : List Int)) (inner:=[]) (ok:=fun _=>True) (okp:=fun _=>True) ?hr ?hp (fun _ hk=>hk) trivial (Below.refl _ _) (Nat.le_refl _) (by simp) ?_;(case hd=>rfl);(case hg=>rfl);(case hr=>first|(go_simp;done)|(go_simp;rfl));(case hp=>exact (Reps.none _ _));intro v116 w2 ho3 hb hg_ hnew_;clear hg_ hnew_;(first|rw [← Ny115.out] at ho3|(simp only [Int.reduceToNat] at ho3;rw [← Ny115.out] at ho3));have n0_:=Aside0.mk (Kd.R_lower ho3 (below_size (by repeat (first|(with_reducible first|exact HB.out|apply below_alloc|apply pw_below_drewN|apply below_drew1)|exact HB.out))));have n1_:=Aside0.mk (below_step (by repeat (first|(with_reducible first|exact HB.out|apply below_alloc|apply pw_below_drewN|apply below_drew1)|exact HB.out)) hb);clear HB;have HO117:=n0_;have HB:=n1_;clear n0_ n1_;clear hb ho3)));(go_loopg [3,4] k (fun kq v3 v4 w'=>∃ (x3_1 : List Int) (x4_1 : Int),v4 = .int .i64 x4_1 ∧ Aside0 (spec_l4Points.l0 kq l0 x3_1 x4_1 = some r) ∧ Aside0 (kq ≤ k) ∧ Aside0 (Kd.R (Kd.int .i64) 3 w' w.heap.size (fun _=>True) v3 x3_1) ∧ Aside0 (Below w.heap.size w w')));(case atStart=>exact ⟨(y115),(0),(by first|rfl|(simp;done)|(simp [*];done)),H',⟨Nat.le_refl _⟩,⟨by (with_reducible repeat (first|apply Kd.R_alloc|apply Kd.R_drewN|apply Kd.R_drew));exact HO117.out⟩,⟨by repeat (first|(with_reducible first|exact HB.out|apply below_alloc|apply pw_below_drewN|apply below_drew1)|exact HB.out)⟩⟩)
 case round =>
  (clear H');(try clear p2);(obtain ⟨x3_1,x4_1,rfl,HA,HK1,HO_3,HB⟩:=hrel)
  cases gk with
 |zero=>exact absurd HA.out (by simp [spec_l4Points.l0])
 |succ k1 =>
   (have H:=HA.out);(clear HA);(simp only [spec_l4Points.l0] at H);(by_cases c4 : x4_1 < (l0.length : Int));(·(rw [if_pos c4] at H);(have c4b0 : decide (x4_1 < (l0.length : Int)) = true:=decide_eq_true c4);(clear c4);(by_cases c5 : x3_1.length < 17592186044416);(·(rw [if_pos c5] at H);(have LMc5:=Aside0.mk c5);(clear c5);(obtain ⟨y118,hy118⟩ : ∃ y_ : List Int,y_ = (x3_1 ++ [1]):=⟨_,rfl⟩);(replace H : (spec_l4Points.l0 k1 l0 y118 (wrap64 (x4_1 + 1))) = some r:=by first|(rw [hy118];with_reducible exact H)|(have H2_:=(Option.bind_some _ _).symm.trans H;rw [hy118];with_reducible exact H2_)|(have H2_:=(Option.bind_some _ _).symm.trans H;with_reducible exact H2_)|with_reducible exact H|(rw [hy118];exact H)|exact H);(have Ny118:=Aside0.mk hy118);(clear hy118);(have H':=Aside0.mk H);(clear H);(go_wp2_with (first|((with_reducible refine gate_builtin (b:=.append) (xs:=#[.tmp 12,.tmp 13]) rfl ?_);at_builtin;refine Kd.R_append (Kd.int .i64) (w0:=w) w.heap.size rfl (.tmp 12) (.tmp 13) 26 3 (.int .i64 0) 8 rfl Try.underlying26 info3 rfl (by decide) (by omega) u3 x3_1 1 [.int .i64 1] (fun _=>True) (fun _=>False) rfl rfl ?aP (fun _ hk=>hk.elim) ?aF ?aO ?aB ?aS ?aL ?_;(case aP=>exact rfl);(case aB=>exact (by repeat (first|(with_reducible first|exact HB.out|apply below_alloc|apply pw_below_drewN|apply below_drew1)|exact HB.out)));(case aF=>exact (fun _ _=>trivial));(case aO=>exact (by (with_reducible repeat (first|apply Kd.R_alloc|apply Kd.R_drewN|apply Kd.R_drew));exact HO_3.out));(case aS=>exact (below_size (by repeat (first|(with_reducible first|exact HB.out|apply below_alloc|apply pw_below_drewN|apply below_drew1)|exact HB.out))));(case aL=>have:=LMc5.out;omega);intro v119 w6 ho hb hg hat;rw [← Ny118.out] at ho;have n0_:=Aside0.mk (hb);have n1_:=Aside0.mk (ho);clear HB;clear HO_3;have HB:=n0_;have HO120:=n1_;clear n0_ n1_;clear ho hb hg hat)));(go_roundg k1);(case measure=>have:=HK1.out;omega);(case rel=>exact ⟨(y118),(wrap64 (x4_1 + 1)),(by first|rfl|(simp;done)|(simp [*];done)),H',⟨by have:=HK1.out;omega⟩,⟨by (with_reducible repeat (first|apply Kd.R_alloc|apply Kd.R_drewN|apply Kd.R_drew));exact HO120.out⟩,⟨by repeat (first|(with_reducible first|exact HB.out|apply below_alloc|apply pw_below_drewN|apply below_drew1)|exact HB.out)⟩⟩));(·(rw [if_neg c5] at H);(exact absurd H (by simp))));(·(rw [if_neg c4] at H);(have c4b0 : decide (x4_1 < (l0.length : Int)) = false:=decide_eq_false c4);(clear c4);(by_cases c7 : (l0.length : Int) ≤ 8);(·(rw [if_pos c7] at H);(have c7b0 : decide ((l0.length : Int) ≤ 8) = true:=decide_eq_true c7);(have c7b1 : decide (l0.length ≤ 8) = true:=decide_eq_true (by omega));(clear c7);(replace H:=Option.bind_eq_some_iff.mp H);(obtain ⟨t121,A80,H⟩:=H);(replace H : (some t121) = some r:=H);(have A8:=Aside0.mk A80);(clear A80);(obtain rfl:=Option.some.inj H);(obtain ⟨Ao9,co9,eo9⟩:=Kd.R_slice HO_3.out);(subst eo9);(go_wp2_with (first|(go_at_call 92;(with_reducible refine (spec_l2Sample.calls k1 _ _ l0 _ _ x3_1 t121 _ ?side1 ?side2 ?side3 ?side4 A8.out).mono ?_);(case side1=>repeat (first|exact (Kd.C_below HR0.out HB.out)|(with_reducible refine Kd.C_alloc ?_ _)|(with_reducible refine Kd.C_drewN ?_ _)|(with_reducible refine Kd.C_drew ?_)));(case side2=>exact HC0.out);(case side3=>repeat (first|exact (Kd.R_reads' HO_3.out).2.2|(with_reducible refine Kd.C_alloc ?_ _)|(with_reducible refine Kd.C_drewN ?_ _)|(with_reducible refine Kd.C_drew ?_)));(case side4=>exact (Kd.R_reads' HO_3.out).2.1);rintro e w10 ⟨rfl,hb⟩;have n0_:=Aside0.mk (Kd.R_below (by (with_reducible repeat (first|apply Kd.R_alloc|apply Kd.R_drewN|apply Kd.R_drew));exact HO_3.out) hb);have n1_:=Aside0.mk (below_step (by repeat (first|(with_reducible first|exact HB.out|apply below_alloc|apply pw_below_drewN|apply below_drew1)|exact HB.out)) hb);clear HO_3;clear HB;have HO_3:=n0_;have HB:=n1_;clear n0_ n1_;(try clear hb);(try clear hb2);(try clear hk);(try clear hi))));(go_ret);(exact ⟨by first|rfl|(simp [errW_none,errW_some] <;> rfl)|(simp [*,errW_none,errW_some] <;> rfl),by repeat (first|(with_reducible first|exact HB.out|apply below_alloc|apply pw_below_drewN|apply below_drew1)|exact HB.out)⟩));(·(rw [if_neg c7] at H);(have c7b0 : decide ((l0.length : Int) ≤ 8) = false:=decide_eq_false c7);(have c7b1 : decide (l0.length ≤ 8) = false:=decide_eq_false (by omega));(clear c7);(obtain rfl:=Option.some.inj H);(go_wp2);(go_ret);(exact ⟨by first|rfl|(simp [errW_none,errW_some] <;> rfl)|(simp [*,errW_none,errW_some] <;> rfl),by repeat (first|(with_reducible first|exact HB.out|apply below_alloc|apply pw_below_drewN|apply below_drew1)|exact HB.out)⟩)))
def spec_l1Own.f (l0 : List Int) : Option (List Int):=(some (([] : List Int) : List Int)).bind fun y122=>(if y122.length + l0.length < 17592186044416 then (some (y122 ++ l0)) else (none))
set_option maxHeartbeats 8000000 in
set_option maxRecDepth 100000 in
theorem spec_l1Own.calls (A0 : Option Addr) (c0 : Nat) (l0 : List Int) (r : List Int) (w : World) (hr0 : Kd.C (Kd.int .i64) w A0 l0.length l0) (hc0 : l0.length ≤ c0) (h : spec_l1Own.f l0 = some r) :
  Calls Try.prog 76 #[.slice A0 l0.length c0] w fun e w'=>∃ v0_ : Value,e = .returned (v0_) ∧ Kd.R (Kd.int .i64) 3 w' w.heap.size (fun _=>True) v0_ r ∧ Below w.heap.size w w':=by
 (have HR0:=Aside0.mk hr0);(have HC0:=Aside0.mk hc0);(clear hr0 hc0);(have HB:=Aside0.mk (Below.refl w.heap.size w));(have H : ((some (([] : List Int) : List Int)).bind fun y122=>(if y122.length + l0.length < 17592186044416 then (some (y122 ++ l0)) else (none))) = some r:=h);(clear h);(obtain ⟨y122,hy122⟩ : ∃ y_ : List Int,y_ = (([] : List Int)):=⟨_,rfl⟩);(replace H : (if y122.length + l0.length < 17592186044416 then (some (y122 ++ l0)) else (none)) = some r:=by first|(rw [hy122];with_reducible exact H)|(have H2_:=(Option.bind_some _ _).symm.trans H;rw [hy122];with_reducible exact H2_)|(have H2_:=(Option.bind_some _ _).symm.trans H;with_reducible exact H2_)|with_reducible exact H|(rw [hy122];exact H)|exact H);(have Ny122:=Aside0.mk hy122);(clear hy122);(by_cases c2 : y122.length + l0.length < 17592186044416);(·(rw [if_pos c2] at H);(have LMc2:=Aside0.mk c2);(clear c2);(obtain ⟨y125,hy125⟩ : ∃ y_ : List Int,y_ = (y122 ++ l0):=⟨_,rfl⟩);(replace H : (some y125) = some r:=by first|(rw [hy125];with_reducible exact H)|(have H2_:=(Option.bind_some _ _).symm.trans H;rw [hy125];with_reducible exact H2_)|(have H2_:=(Option.bind_some _ _).symm.trans H;with_reducible exact H2_)|with_reducible exact H|(rw [hy125];exact H)|exact H);(have Ny125:=Aside0.mk hy125);(clear hy125);(obtain rfl:=Option.some.inj H);(go_enter Try.func76,Try.ntmps76);(go_wp2_with (first|((with_reducible refine gate_dst (N:=3) rfl ?_);refine Kd.R_lit (Kd.int .i64) _ 3 ?hg (N:=3) ?hd (xs:=([] : List Int)) (inner:=[]) (ok:=fun _=>True) (okp:=fun _=>True) ?hr ?hp (fun _ hk=>hk) trivial (Below.refl _ _) (Nat.le_refl _) (by simp) ?_;(case hd=>rfl);(case hg=>rfl);(case hr=>first|(go_simp;done)|(go_simp;rfl));(case hp=>exact (Reps.none _ _));intro v123 w3 ho4 hb hg_ hnew_;clear hg_ hnew_;(first|rw [← Ny122.out] at ho4|(simp only [Int.reduceToNat] at ho4;rw [← Ny122.out] at ho4));have n0_:=Aside0.mk (Kd.R_lower ho4 (below_size (by repeat (first|(with_reducible first|exact HB.out|apply below_alloc|apply pw_below_drewN|apply below_drew1)|exact HB.out))));have n1_:=Aside0.mk (below_step (by repeat (first|(with_reducible first|exact HB.out|apply below_alloc|apply pw_below_drewN|apply below_drew1)|exact HB.out)) hb);clear HB;have HO124:=n0_;have HB:=n1_;clear n0_ n1_;clear hb ho4)|((with_reducible refine gate_builtin (b:=.append) (xs:=#[.tmp 3,.tmp 4]) rfl ?_);at_builtin;refine Kd.R_append_rows (Kd.int .i64) (w0:=w) w.heap.size rfl (.tmp 3) (.tmp 4) 26 3 (.int .i64 0) 8 rfl Try.underlying26 info3 rfl (by decide) (by omega) v123 y122 l0 _ _ _ (fun _=>True) (fun _=>False) rfl rfl ?aO ?aR (fun _ _ h=>h) (fun _ h=>h.elim) ?aF ?aB ?aS ?aL ?_;(case aR=>repeat (first|exact (Kd.C_below HR0.out HB.out)|(with_reducible refine Kd.C_alloc ?_ _)|(with_reducible refine Kd.C_drewN ?_ _)|(with_reducible refine Kd.C_drew ?_)));(case aB=>exact (by repeat (first|(with_reducible first|exact HB.out|apply below_alloc|apply pw_below_drewN|apply below_drew1)|exact HB.out)));(case aF=>exact (fun _ _=>trivial));(case aO=>exact (by (with_reducible repeat (first|apply Kd.R_alloc|apply Kd.R_drewN|apply Kd.R_drew));exact HO124.out));(case aS=>exact (below_size (by repeat (first|(with_reducible first|exact HB.out|apply below_alloc|apply pw_below_drewN|apply below_drew1)|exact HB.out))));(case aL=>have:=LMc2.out;omega);intro v126 w5 ho hb hg hat;rw [← Ny125.out] at ho;have n0_:=Aside0.mk (hb);have n1_:=Aside0.mk (ho);clear HB;clear HO124;have HB:=n0_;have HO127:=n1_;clear n0_ n1_;clear ho hb hg hat)));(go_ret);(exact ⟨_,by first|rfl|(simp [errW_none,errW_some] <;> rfl)|(simp [*,errW_none,errW_some] <;> rfl),by (with_reducible repeat (first|apply Kd.R_alloc|apply Kd.R_drewN|apply Kd.R_drew));exact HO127.out,by repeat (first|(with_reducible first|exact HB.out|apply below_alloc|apply pw_below_drewN|apply below_drew1)|exact HB.out)⟩));(·(rw [if_neg c2] at H);(exact absurd H (by simp)))
mutual
def spec_l4Choose.j0 : Nat → Int → Int → List Int → List (List Int) → Int → Option ((List (List Int)))
|0,_,_,_,_,_=>none
|k + 1,x0,x1,x2,x7,x8=>spec_l4Choose.l0 k x0 x1 x2 x7 x8
def spec_l4Choose.l0 : Nat → Int → Int → List Int → List (List Int) → Int → Option ((List (List Int)))
|0,_,_,_,_,_=>none
|k + 1,x0,x1,x2,x7,x9=>if x9 < x0 then ((spec_l1Own.f x2).bind fun t135=>(if t135.length < 17592186044416 then ((spec_l4Choose.f k x0 x1 (t135 ++ [x9])).bind fun t141=>(if x7.length + t141.length < 5864062014805 then (spec_l4Choose.l0 k x0 x1 x2 (x7 ++ t141) (wrap64 (x9 + 1))) else (none))) else (none))) else (some x7)
def spec_l4Choose.f : Nat → Int → Int → List Int → Option ((List (List Int)))
|0,_,_,_=>none
|k + 1,a0,a1,l2=>if (l2.length : Int) = a1 then (some (([l2] : List (List Int)))) else ((some (([] : List (List Int)) : List (List Int))).bind fun y131=>(if (l2.length : Int) > 0 then (if 0 ≤ (wrap64 ((l2.length : Int) - 1)) then (if (wrap64 ((l2.length : Int) - 1)) < (l2.length : Int) then (spec_l4Choose.j0 k a0 a1 l2 y131 (wrap64 ((rd l2 (wrap64 ((l2.length : Int) - 1))) + 1))) else (none)) else (none)) else (spec_l4Choose.j0 k a0 a1 l2 y131 0)))
end
set_option maxHeartbeats 8000000 in
set_option maxRecDepth 100000 in
theorem spec_l4Choose.calls (k : Nat) : ∀ (a0 : Int) (a1 : Int) (P2_ : Nat → Prop) (A2 : Option Addr) (c2 : Nat) (l2 : List Int) (r : List (List Int)) (w : World) (hs2 : Kd.V (Kd.int .i64) 3 w w.heap.size (fun k_=>P2_ k_) (.slice A2 l2.length c2) l2) (h : spec_l4Choose.f k a0 a1 l2 = some r),
  Calls Try.prog 85 #[.int .i64 a0,.int .i64 a1,.slice A2 l2.length c2] w fun e w'=>∃ v0_ : Value,e = .returned (v0_) ∧ Kd.N (Kd.slice 3 (Kd.int .i64)) 26 w' w.heap.size (fun k_=>(P2_ k_ ∨ w.heap.size ≤ k_)) v0_ r ∧ Below w.heap.size w w':=by
 induction k using Nat.strongRecOn with
|_ k ih =>
 intro a0 a1 P2_ A2 c2 l2 r w hs2 h
 cases k with
|zero=>exact absurd h (by simp [spec_l4Choose.f])
|succ k =>
 simp only [spec_l4Choose.f] at h
 have HO2:=Aside0.mk (show Kd.V (Kd.int .i64) 3 w w.heap.size (fun k_=>(P2_ k_ ∨ w.heap.size ≤ k_)) (.slice A2 l2.length c2) l2 from Kd.V_mono hs2 (fun k_ hk=>.inl hk))
 have HB:=Aside0.mk (Below.refl w.heap.size w)
 have H : (if (l2.length : Int) = a1 then (some (([l2] : List (List Int)))) else ((some (([] : List (List Int)) : List (List Int))).bind fun y131=>(if (l2.length : Int) > 0 then (if 0 ≤ (wrap64 ((l2.length : Int) - 1)) then (if (wrap64 ((l2.length : Int) - 1)) < (l2.length : Int) then (spec_l4Choose.j0 k a0 a1 l2 y131 (wrap64 ((rd l2 (wrap64 ((l2.length : Int) - 1))) + 1))) else (none)) else (none)) else (spec_l4Choose.j0 k a0 a1 l2 y131 0)))) = some r:=h
 clear h
 by_cases c4 : (l2.length : Int) = a1
 ·rw [if_pos c4] at H
  have c4b0 : ((l2.length : Int) == a1) = true:=beq_iff_eq.mpr c4
  have c4b1 : ((l2.length : Int) != a1) = false:=bne_eq_false_iff_eq.mpr c4
  clear c4
  obtain ⟨y128,hy128⟩ : ∃ y_ : List (List Int),y_ = (([l2] : List (List Int))):=⟨_,rfl⟩
  replace H : (some y128) = some r:=by first|(rw [hy128];with_reducible exact H)|(have H2_:=(Option.bind_some _ _).symm.trans H;rw [hy128];with_reducible exact H2_)|(have H2_:=(Option.bind_some _ _).symm.trans H;with_reducible exact H2_)|with_reducible exact H|(rw [hy128];exact H)|exact H
  have Ny128:=Aside0.mk hy128
  clear hy128
  obtain rfl:=Option.some.inj H
  go_enter Try.func85,Try.ntmps85
  go_wp2_with (first|((with_reducible refine gate_dst (N:=15) rfl ?_);refine Kd.N_lit (Kd.slice 3 (Kd.int .i64)) _ 26 ?hg (N':=15) ?hd (xs:=([l2] : List (List Int))) (inner:=[.slice A2 l2.length c2]) (ok:=(fun k_=>(P2_ k_ ∨ w.heap.size ≤ k_))) (okp:=(fun k_=>(P2_ k_ ∨ w.heap.size ≤ k_))) ?hr ?hp (fun _ hk=>hk) ((show ∀ k_,w.heap.size ≤ k_ → (fun k_=>(P2_ k_ ∨ w.heap.size ≤ k_)) k_ from fun k_ hk=>(.inr (Nat.le_trans (below_size (by repeat (first|(with_reducible first|exact HB.out|apply below_alloc|apply pw_below_drewN|apply below_drew1)|exact HB.out))) hk))) _ (Nat.le_refl _)) (Below.refl _ _) (Nat.le_refl _) (by simp) ?_;(case hd=>rfl);(case hg=>rfl);(case hr=>first|(go_simp;done)|(go_simp;rfl));(case hp=>exact (Reps.one (show Kd.FK (Kd.slice 3 (Kd.int .i64)) _ _ l2 [.slice A2 l2.length c2] from (Kd.FK_slice_mk (Kd.V_reads' (Kd.V_mono (ok':=(fun k_=>(P2_ k_ ∨ w.heap.size ≤ k_))) (HO2.out) (fun k_ hk=>hk))).2.1 (Kd.V_F (Kd.V_mono (ok':=(fun k_=>(P2_ k_ ∨ w.heap.size ≤ k_))) (HO2.out) (fun k_ hk=>hk))))) (Reps.none _ _)));intro v129 w5 ho6 hb hg_ hnew_;clear hg_ hnew_;(first|rw [← Ny128.out] at ho6|(simp only [Int.reduceToNat] at ho6;rw [← Ny128.out] at ho6));have n0_:=Aside0.mk (Kd.V_elder' (by (with_reducible repeat (first|apply Kd.V_alloc|apply Kd.V_drewN|apply Kd.V_drew));exact HO2.out) (by first|exact Kd.N_base ho6|exact Kd.S_base ho6) hb);have n1_:=Aside0.mk (Kd.N_lower ho6 (below_size (by repeat (first|(with_reducible first|exact HB.out|apply below_alloc|apply pw_below_drewN|apply below_drew1)|exact HB.out))));have n2_:=Aside0.mk (below_step (by repeat (first|(with_reducible first|exact HB.out|apply below_alloc|apply pw_below_drewN|apply below_drew1)|exact HB.out)) hb);clear HO2;clear HB;have HO2:=n0_;have HO130:=n1_;have HB:=n2_;clear n0_ n1_ n2_;clear hb ho6))
  go_ret
  exact ⟨_,by first|rfl|(simp [errW_none,errW_some] <;> rfl)|(simp [*,errW_none,errW_some] <;> rfl),by (with_reducible repeat (first|apply Kd.N_alloc|apply Kd.N_drewN|apply Kd.N_drew));exact HO130.out,by repeat (first|(with_reducible first|exact HB.out|apply below_alloc|apply pw_below_drewN|apply below_drew1)|exact HB.out)⟩
 ·rw [if_neg c4] at H
  have c4b0 : ((l2.length : Int) == a1) = false:=beq_eq_false_iff_ne.mpr c4
  have c4b1 : ((l2.length : Int) != a1) = true:=bne_iff_ne.mpr c4
  obtain ⟨y131,hy131⟩ : ∃ y_ : List (List Int),y_ = (([] : List (List Int))):=⟨_,rfl⟩
  replace H : (if (l2.length : Int) > 0 then (if 0 ≤ (wrap64 ((l2.length : Int) - 1)) then (if (wrap64 ((l2.length : Int) - 1)) < (l2.length : Int) then (spec_l4Choose.j0 k a0 a1 l2 y131 (wrap64 ((rd l2 (wrap64 ((l2.length : Int) - 1))) + 1))) else (none)) else (none)) else (spec_l4Choose.j0 k a0 a1 l2 y131 0)) = some r:=by first|(rw [hy131];with_reducible exact H)|(have H2_:=(Option.bind_some _ _).symm.trans H;rw [hy131];with_reducible exact H2_)|(have H2_:=(Option.bind_some _ _).symm.trans H;with_reducible exact H2_)|with_reducible exact H|(rw [hy131];exact H)|exact H
  have Ny131:=Aside0.mk hy131
  clear hy131
  have HC7:=Aside0.mk H
  clear H
  go_enter Try.func85,Try.ntmps85
  go_upto_if 19 with (first|((with_reducible refine gate_dst (N:=16) rfl ?_);refine Kd.N_lit (Kd.slice 3 (Kd.int .i64)) _ 26 ?hg (N':=16) ?hd (xs:=([] : List (List Int))) (inner:=[]) (ok:=(fun k_=>(P2_ k_ ∨ w.heap.size ≤ k_))) (okp:=(fun k_=>(P2_ k_ ∨ w.heap.size ≤ k_))) ?hr ?hp (fun _ hk=>hk) ((show ∀ k_,w.heap.size ≤ k_ → (fun k_=>(P2_ k_ ∨ w.heap.size ≤ k_)) k_ from fun k_ hk=>(.inr (Nat.le_trans (below_size (by repeat (first|(with_reducible first|exact HB.out|apply below_alloc|apply pw_below_drewN|apply below_drew1)|exact HB.out))) hk))) _ (Nat.le_refl _)) (Below.refl _ _) (Nat.le_refl _) (by simp) ?_;(case hd=>rfl);(case hg=>rfl);(case hr=>first|(go_simp;done)|(go_simp;rfl));(case hp=>exact (Reps.none _ _));intro v132 w8 ho9 hb hg_ hnew_;clear hg_ hnew_;(first|rw [← Ny131.out] at ho9|(simp only [Int.reduceToNat] at ho9;rw [← Ny131.out] at ho9));have n0_:=Aside0.mk (Kd.V_elder' (by (with_reducible repeat (first|apply Kd.V_alloc|apply Kd.V_drewN|apply Kd.V_drew));exact HO2.out) (by first|exact Kd.N_base ho9|exact Kd.S_base ho9) hb);have n1_:=Aside0.mk (Kd.N_lower ho9 (below_size (by repeat (first|(with_reducible first|exact HB.out|apply below_alloc|apply pw_below_drewN|apply below_drew1)|exact HB.out))));have n2_:=Aside0.mk (below_step (by repeat (first|(with_reducible first|exact HB.out|apply below_alloc|apply pw_below_drewN|apply below_drew1)|exact HB.out)) hb);clear HO2;clear HB;have HO2:=n0_;have HO133:=n1_;have HB:=n2_;clear n0_ n1_ n2_;clear hb ho9))
  (try simp only [Act.put,List.setIfInBounds_toArray,List.set_cons_zero,List.set_cons_succ])
  go_cut [8] (fun v8 wc=>∃ (kq : Nat) (x8_6 : Int),v8 = .int .i64 x8_6 ∧ Aside0 (spec_l4Choose.j0 kq a0 a1 l2 y131 x8_6 = some r) ∧ Aside0 (kq ≤ k) ∧ Aside0 (Kd.V (Kd.int .i64) 3 wc w.heap.size (fun k_=>(P2_ k_ ∨ w.heap.size ≤ k_) ∧ some k_ ≠ (v132 : Value).ownBlock) (.slice A2 l2.length c2) l2) ∧ Aside0 (Kd.N (Kd.slice 3 (Kd.int .i64)) 26 wc w.heap.size (fun k_=>(P2_ k_ ∨ w.heap.size ≤ k_)) v132 y131) ∧ Aside0 (Below w.heap.size w wc))
  case first =>
   have H:=HC7.out
   clear HC7
   by_cases c10 : (l2.length : Int) > 0
   ·rw [if_pos c10] at H
    have c10b0 : decide (0 < (l2.length : Int)) = true:=decide_eq_true c10
    have c10b1 : decide (0 < l2.length) = true:=decide_eq_true (by omega)
    clear c10
    (first|rw [c10b0]|rw [c10b1]|(simp only [i64_w,i32_w];rw [c10b0])|skip)
    obtain ⟨ji11,hji11⟩ : ∃ j_ : Int,(wrap64 ((l2.length : Int) - 1)) = j_:=⟨_,rfl⟩
    replace H : (if 0 ≤ (ji11) then (if (ji11) < (l2.length : Int) then (spec_l4Choose.j0 k a0 a1 l2 y131 (wrap64 ((rd l2 (ji11)) + 1))) else (none)) else (none)) = some r:=by first|(rw [hji11] at H;exact H)|(simp only [hji11] at H ⊢;exact H)
    have hji11w : (IntKind.i64.wrap ((l2.length : Int) - 1)) = ji11:=(i64_w _).trans hji11
    by_cases c12 : 0 ≤ (ji11)
    ·rw [if_pos c12] at H
     have c12b0 : decide (0 ≤ (ji11)) = true:=decide_eq_true c12
     clear c12
     by_cases c13 : (ji11) < (l2.length : Int)
     ·rw [if_pos c13] at H
      have c13b0 : decide ((ji11) < (l2.length : Int)) = true:=decide_eq_true c13
      clear c13
      have H':=Aside0.mk H
      clear H
      have p134 : 0 ≤ ((ji11) : Int):=of_decide_eq_true (by first|(with_reducible assumption)|assumption)
      have q134 : (ji11) < (l2.length : Int):=of_decide_eq_true (by first|(with_reducible assumption)|assumption)
      obtain ⟨ad134,e134,hx134_0⟩:=Kd.at_int (Kd.V_reads' HO2.out).2.2 (ji11) p134 q134
      cases e134
      replace p134:=eq_true p134
      replace q134:=eq_true q134
      go_wp2
      go_meet
      case rel=>exact ⟨_,(wrap64 ((rd l2 (ji11)) + 1)),(by first|rfl|(simp;done)|(simp only [← hji11] <;> (first|rfl|simp))|(simp [*];done)),H',⟨by first|omega|exact Nat.le_refl _⟩,⟨by (with_reducible repeat (first|apply Kd.V_alloc|apply Kd.V_drewN|apply Kd.V_drew));exact HO2.out⟩,⟨by (with_reducible repeat (first|apply Kd.N_alloc|apply Kd.N_drewN|apply Kd.N_drew));exact HO133.out⟩,⟨by repeat (first|(with_reducible first|exact HB.out|apply below_alloc|apply pw_below_drewN|apply below_drew1)|exact HB.out)⟩⟩
     ·rw [if_neg c13] at H
      exact absurd H (by simp)
    ·rw [if_neg c12] at H
     exact absurd H (by simp)
   ·rw [if_neg c10] at H
    have c10b0 : decide (0 < (l2.length : Int)) = false:=decide_eq_false c10
    have c10b1 : decide (0 < l2.length) = false:=decide_eq_false (by omega)
    clear c10
    (first|rw [c10b0]|rw [c10b1]|(simp only [i64_w,i32_w];rw [c10b0])|skip)
    have H':=Aside0.mk H
    clear H
    go_wp2
    go_meet
    case rel=>exact ⟨_,(0),(by first|rfl|(simp;done)|(simp [*];done)),H',⟨by first|omega|exact Nat.le_refl _⟩,⟨by (with_reducible repeat (first|apply Kd.V_alloc|apply Kd.V_drewN|apply Kd.V_drew));exact HO2.out⟩,⟨by (with_reducible repeat (first|apply Kd.N_alloc|apply Kd.N_drewN|apply Kd.N_drew));exact HO133.out⟩,⟨by repeat (first|(with_reducible first|exact HB.out|apply below_alloc|apply pw_below_drewN|apply below_drew1)|exact HB.out)⟩⟩
  case rest =>
   clear HC7
   try clear c1
   try clear p1
   try clear q1
   try clear hx1
   try clear c2
   try clear p2
   try clear c4
   try clear c4b0
   try clear c4b1
   try clear p6
   try clear c8
   try clear c10
   try clear c10b0
   try clear c10b1
   try clear c12
   try clear c12b0
   try clear c13
   try clear c13b0
   try clear p13
   try clear q13
   try clear hx13
   try clear hx134_0
   try clear p134
   try clear q134
   obtain ⟨kq,x8_6,rfl,HA,HJ6,HO_2,HO_7,HB⟩:=hcut
   cases kq with
  |zero=>exact absurd HA.out (by simp [spec_l4Choose.j0])
  |succ kj6 =>
    have H:=HA.out
    clear HA
    simp only [spec_l4Choose.j0] at H
    have H':=Aside0.mk H
    clear H
    go_wp2
    go_loopg [7,9] kj6 (fun kq v7 v9 w'=>∃ (x7_2 : List (List Int)) (x9_2 : Int),v9 = .int .i64 x9_2 ∧ Aside0 (spec_l4Choose.l0 kq a0 a1 l2 x7_2 x9_2 = some r) ∧ Aside0 (kq ≤ kj6) ∧ Aside0 (Kd.V (Kd.int .i64) 3 w' w.heap.size (fun k_=>(P2_ k_ ∨ w.heap.size ≤ k_) ∧ some k_ ≠ (v7 : Value).ownBlock) (.slice A2 l2.length c2) l2) ∧ Aside0 (Kd.N (Kd.slice 3 (Kd.int .i64)) 26 w' w.heap.size (fun k_=>(P2_ k_ ∨ w.heap.size ≤ k_)) v7 x7_2) ∧ Aside0 (Below w.heap.size w w'))
    case atStart=>exact ⟨(y131),(x8_6),(by first|rfl|(simp;done)|(simp [*];done)),H',⟨Nat.le_refl _⟩,⟨by (with_reducible repeat (first|apply Kd.V_alloc|apply Kd.V_drewN|apply Kd.V_drew));exact HO_2.out⟩,⟨by (with_reducible repeat (first|apply Kd.N_alloc|apply Kd.N_drewN|apply Kd.N_drew));exact HO_7.out⟩,⟨by repeat (first|(with_reducible first|exact HB.out|apply below_alloc|apply pw_below_drewN|apply below_drew1)|exact HB.out)⟩⟩
    case round =>
     clear H'
     try clear c1
     try clear p1
     try clear q1
     try clear hx1
     try clear c2
     try clear p2
     try clear c4
     try clear c4b0
     try clear c4b1
     try clear p6
     try clear c8
     try clear c10
     try clear c10b0
     try clear c10b1
     try clear c12
     try clear c12b0
     try clear c13
     try clear c13b0
     try clear p13
     try clear q13
     try clear hx13
     try clear hx134_0
     try clear p1
     try clear p13
     try clear p134
     try clear p2
     try clear p6
     try clear q1
     try clear q13
     try clear q134
     obtain ⟨x7_2,x9_2,rfl,HA,HK2,HO_2,HO_7,HB⟩:=hrel
     cases gk with
    |zero=>exact absurd HA.out (by simp [spec_l4Choose.l0])
    |succ k2 =>
      have H:=HA.out
      clear HA
      simp only [spec_l4Choose.l0] at H
      by_cases c14 : x9_2 < a0
      ·rw [if_pos c14] at H
       have c14b0 : decide (x9_2 < a0) = true:=decide_eq_true c14
       clear c14
       replace H:=Option.bind_eq_some_iff.mp H
       obtain ⟨t135,A150,H⟩:=H
       replace H : (if t135.length < 17592186044416 then ((spec_l4Choose.f k2 a0 a1 (t135 ++ [x9_2])).bind fun t141=>(if x7_2.length + t141.length < 5864062014805 then (spec_l4Choose.l0 k2 a0 a1 l2 (x7_2 ++ t141) (wrap64 (x9_2 + 1))) else (none))) else (none)) = some r:=H
       have A15:=Aside0.mk A150
       clear A150
       by_cases c16 : t135.length < 17592186044416
       ·rw [if_pos c16] at H
        have LMc16:=Aside0.mk c16
        clear c16
        obtain ⟨y138,hy138⟩ : ∃ y_ : List Int,y_ = (t135 ++ [x9_2]):=⟨_,rfl⟩
        replace H : ((spec_l4Choose.f k2 a0 a1 y138).bind fun t141=>(if x7_2.length + t141.length < 5864062014805 then (spec_l4Choose.l0 k2 a0 a1 l2 (x7_2 ++ t141) (wrap64 (x9_2 + 1))) else (none))) = some r:=by first|(rw [hy138];with_reducible exact H)|(have H2_:=(Option.bind_some _ _).symm.trans H;rw [hy138];with_reducible exact H2_)|(have H2_:=(Option.bind_some _ _).symm.trans H;with_reducible exact H2_)|with_reducible exact H|(rw [hy138];exact H)|exact H
        have Ny138:=Aside0.mk hy138
        clear hy138
        replace H:=Option.bind_eq_some_iff.mp H
        obtain ⟨t141,A170,H⟩:=H
        replace H : (if x7_2.length + t141.length < 5864062014805 then (spec_l4Choose.l0 k2 a0 a1 l2 (x7_2 ++ t141) (wrap64 (x9_2 + 1))) else (none)) = some r:=H
        have A17:=Aside0.mk A170
        clear A170
        by_cases c18 : x7_2.length + t141.length < 5864062014805
        ·rw [if_pos c18] at H
         have LMc18:=Aside0.mk c18
         clear c18
         obtain ⟨y144,hy144⟩ : ∃ y_ : List (List Int),y_ = (x7_2 ++ t141):=⟨_,rfl⟩
         replace H : (spec_l4Choose.l0 k2 a0 a1 l2 y144 (wrap64 (x9_2 + 1))) = some r:=by first|(rw [hy144];with_reducible exact H)|(have H2_:=(Option.bind_some _ _).symm.trans H;rw [hy144];with_reducible exact H2_)|(have H2_:=(Option.bind_some _ _).symm.trans H;with_reducible exact H2_)|with_reducible exact H|(rw [hy144];exact H)|exact H
         have Ny144:=Aside0.mk hy144
         clear hy144
         have H':=Aside0.mk H
         clear H
         go_wp2_with (first|((with_reducible refine gate_callee (f:=76) rfl ?_);refine goesL_ (some 37) rfl rfl Try.func76 (by kernel_rfl) rfl #[.slice A2 l2.length c2] rfl (by (try simp only [List.map_toArray,List.map_cons,List.map_nil]);first|done|rfl|(simp only [List.length_drop,List.length_take];rfl)) ?_;(with_reducible refine (spec_l1Own.calls _ _ l2 t135 _ ?side1 ?side2 A15.out).mono ?_);(case side1=>repeat (first|exact (Kd.V_reads' HO_2.out).2.2|(with_reducible refine Kd.C_alloc ?_ _)|(with_reducible refine Kd.C_drewN ?_ _)|(with_reducible refine Kd.C_drew ?_)));(case side2=>exact (Kd.V_reads' HO_2.out).2.1);rintro e w19 ⟨v136,rfl,ho0,hb⟩;refine ⟨_,rfl,?_⟩;have n0_:=Aside0.mk (Kd.V_elder' (by (with_reducible repeat (first|apply Kd.V_alloc|apply Kd.V_drewN|apply Kd.V_drew));exact HO_2.out) (Kd.R_base ho0) hb);have n1_:=Aside0.mk (Kd.N_elder' (by (with_reducible repeat (first|apply Kd.N_alloc|apply Kd.N_drewN|apply Kd.N_drew));exact HO_7.out) (Kd.R_base ho0) hb);have n2_:=Aside0.mk (Kd.R_lower (Kd.R_newM (M:=fun k_=>(w.heap.size ≤ k_)) ho0 (below_size (by repeat (first|(with_reducible first|exact HB.out|apply below_alloc|apply pw_below_drewN|apply below_drew1)|exact HB.out))) (fun k_ h_=>h_)) (below_size (by repeat (first|(with_reducible first|exact HB.out|apply below_alloc|apply pw_below_drewN|apply below_drew1)|exact HB.out))));have n3_:=Aside0.mk (below_step (by repeat (first|(with_reducible first|exact HB.out|apply below_alloc|apply pw_below_drewN|apply below_drew1)|exact HB.out)) hb);clear HO_2;clear HO_7;clear HB;have HO_2:=n0_;have HO_7:=n1_;have HO137:=n2_;have HB:=n3_;clear n0_ n1_ n2_ n3_;(try clear hb);(try clear hb2);(try clear hk);(try clear hi);(try clear ho0))|((with_reducible refine gate_builtin (b:=.append) (xs:=#[.tmp 37,.tmp 39]) rfl ?_);at_builtin;refine Kd.R_append (Kd.int .i64) (w0:=w) w.heap.size rfl (.tmp 37) (.tmp 39) 26 3 (.int .i64 0) 8 rfl Try.underlying26 info3 rfl (by decide) (by omega) v136 t135 x9_2 [.int .i64 x9_2] (fun k_=>(w.heap.size ≤ k_)) (fun _=>False) rfl rfl ?aP (fun _ hk=>hk.elim) ?aF ?aO ?aB ?aS ?aL ?_;(case aP=>exact rfl);(case aB=>exact (by repeat (first|(with_reducible first|exact HB.out|apply below_alloc|apply pw_below_drewN|apply below_drew1)|exact HB.out)));(case aF=>exact (fun k_ hk=>(Nat.le_trans (below_size (by repeat (first|(with_reducible first|exact HB.out|apply below_alloc|apply pw_below_drewN|apply below_drew1)|exact HB.out))) hk)));(case aO=>exact (by (with_reducible repeat (first|apply Kd.R_alloc|apply Kd.R_drewN|apply Kd.R_drew));exact Kd.R_mono HO137.out (fun _ hk=>hk.1)));(case aS=>exact (below_size (by repeat (first|(with_reducible first|exact HB.out|apply below_alloc|apply pw_below_drewN|apply below_drew1)|exact HB.out))));(case aL=>have:=LMc16.out;omega);intro v139 w20 ho hb hg hat;rw [← Ny138.out] at ho;have n0_:=Aside0.mk (Kd.V_afterv (ok:=(fun k_=>(P2_ k_ ∨ w.heap.size ≤ k_) ∧ some k_ ≠ (u7 : Value).ownBlock)) (by (with_reducible repeat (first|apply Kd.V_alloc|apply Kd.V_drewN|apply Kd.V_drew));exact HO_2.out) hg hat);have n1_:=Aside0.mk (Kd.N_afterv (ok:=(fun k_=>(P2_ k_ ∨ w.heap.size ≤ k_))) (by (with_reducible repeat (first|apply Kd.N_alloc|apply Kd.N_drewN|apply Kd.N_drew));exact HO_7.out) hg hat);have n2_:=Aside0.mk (hb);have n3_:=Aside0.mk (ho);clear HO_2;clear HO_7;clear HB;clear HO137;have HO_2:=n0_;have HO_7:=n1_;have HB:=n2_;have HO140:=n3_;clear n0_ n1_ n2_ n3_;clear ho hb hg hat;obtain ⟨Ao21,co21,eo21⟩:=Kd.R_slice HO140.out;subst eo21)|((with_reducible refine gate_callee (f:=85) rfl ?_);refine goesL_ (some 41) rfl rfl Try.func85 (by kernel_rfl) rfl #[.int .i64 a0,.int .i64 a1,.slice Ao21 y138.length co21] rfl (by (try simp only [List.map_toArray,List.map_cons,List.map_nil]);first|done|rfl|(simp only [List.length_drop,List.length_take];rfl)) ?_;(with_reducible refine (ih k2 (by have:=HJ6.out;have:=HK2.out;omega) a0 a1 (fun k_=>some k_ = (.slice Ao21 y138.length co21 : Value).ownBlock) _ _ y138 t141 _ ?side1 A17.out).mono ?_);(case side1=>exact Kd.R_V (Kd.R_tight rfl (Kd.R_apart' (HO140.out) (Kd.N_typed HO_7.out) (by decide))));rintro e w22 ⟨v142,rfl,ho0,hb⟩;refine ⟨_,rfl,?_⟩;have n0_:=Aside0.mk (Kd.V_elder' (by (with_reducible repeat (first|apply Kd.V_alloc|apply Kd.V_drewN|apply Kd.V_drew));exact HO_2.out) (by first|exact Kd.N_base ho0|exact Kd.S_base ho0) hb);have n1_:=Aside0.mk (Kd.N_elder' (by (with_reducible repeat (first|apply Kd.N_alloc|apply Kd.N_drewN|apply Kd.N_drew));exact HO_7.out) (by first|exact Kd.N_base ho0|exact Kd.S_base ho0) hb);have n2_:=Aside0.mk (Kd.R_below (by (with_reducible repeat (first|apply Kd.R_alloc|apply Kd.R_drewN|apply Kd.R_drew));exact HO140.out) hb);have n3_:=Aside0.mk (Kd.N_lower (Kd.N_mono (ok':=fun k_=>(P2_ k_ ∨ w.heap.size ≤ k_) ∧ some k_ ≠ (u7 : Value).ownBlock) ho0 (fun k_ hk_=>⟨Or.elim hk_ (fun hs_=>(.inr (((Kd.R_apart' (HO140.out) (Kd.N_typed HO_7.out) (by decide)).1 k_ hs_.symm).1))) (fun hn_=>(.inr (Nat.le_trans (below_size (by repeat (first|(with_reducible first|exact HB.out|apply below_alloc|apply pw_below_drewN|apply below_drew1)|exact HB.out))) hn_))),Or.elim hk_ (fun hs_=>((Kd.R_apart' (HO140.out) (Kd.N_typed HO_7.out) (by decide)).1 k_ hs_.symm).2) (fun hn_=>(Kd.fresh' (Kd.N_lt (by (with_reducible repeat (first|apply Kd.N_alloc|apply Kd.N_drewN|apply Kd.N_drew));exact HO_7.out)) k_ hn_))⟩)) (below_size (by repeat (first|(with_reducible first|exact HB.out|apply below_alloc|apply pw_below_drewN|apply below_drew1)|exact HB.out))));have n4_:=Aside0.mk (below_step (by repeat (first|(with_reducible first|exact HB.out|apply below_alloc|apply pw_below_drewN|apply below_drew1)|exact HB.out)) hb);clear HO_2;clear HO_7;clear HO140;clear HB;have HO_2:=n0_;have HO_7:=n1_;have HO140:=n2_;have HO143:=n3_;have HB:=n4_;clear n0_ n1_ n2_ n3_ n4_;(try clear hb);(try clear hb2);(try clear hk);(try clear hi);(try clear ho0);obtain ⟨Ao24,co24,eo24⟩:=Kd.N_slice HO143.out;subst eo24)|((with_reducible refine gate_builtin (b:=.append) (xs:=#[.tmp 33,.tmp 41]) rfl ?_);at_builtin;refine Kd.N_append_rows (Kd.slice 3 (Kd.int .i64)) (w0:=w) w.heap.size rfl (.tmp 33) (.tmp 41) 25 26 (.slice none 0 0) 24 rfl Try.underlying25 info26 rfl (by decide) (by omega) u7 x7_2 t141 _ _ _ (fun k_=>(P2_ k_ ∨ w.heap.size ≤ k_)) (fun k_=>((fun k_=>(P2_ k_ ∨ w.heap.size ≤ k_))) k_ ∧ some k_ ≠ (u7 : Value).ownBlock) rfl rfl ?aO ?aR (fun _ hk=>hk) ?aF ?aB ?aS ?aL ?_;(case aR=>exact (by skip;exact Kd.N_F (Kd.N_mono (ok':=(fun k_=>((fun k_=>(P2_ k_ ∨ w.heap.size ≤ k_))) k_ ∧ some k_ ≠ (u7 : Value).ownBlock)) (HO143.out) (fun k_ hk=>by first|exact ⟨hk.1,hk.2⟩|grind))));(case aB=>exact (by repeat (first|(with_reducible first|exact HB.out|apply below_alloc|apply pw_below_drewN|apply below_drew1)|exact HB.out)));(case aF=>exact (fun k_ hk=>(.inr (Nat.le_trans (below_size (by repeat (first|(with_reducible first|exact HB.out|apply below_alloc|apply pw_below_drewN|apply below_drew1)|exact HB.out))) hk))));(case aO=>exact (by (with_reducible repeat (first|apply Kd.N_alloc|apply Kd.N_drewN|apply Kd.N_drew));exact Kd.N_mono HO_7.out (fun _ hk=>hk.1.1)));(case aS=>exact (below_size (by repeat (first|(with_reducible first|exact HB.out|apply below_alloc|apply pw_below_drewN|apply below_drew1)|exact HB.out))));(case aL=>have:=LMc18.out;omega);intro v145 w23 ho hb hg hat;rw [← Ny144.out] at ho;have n0_:=Aside0.mk (Kd.V_afterv (ok:=(fun k_=>(P2_ k_ ∨ w.heap.size ≤ k_) ∧ some k_ ≠ (.slice Ao21 y138.length co21 : Value).ownBlock ∧ some k_ ≠ (.slice Ao24 t141.length co24 : Value).ownBlock)) (by (with_reducible repeat (first|apply Kd.V_alloc|apply Kd.V_drewN|apply Kd.V_drew));exact Kd.V_mono HO_2.out (fun _ hk=>⟨⟨hk.1.1.1,⟨hk.1.2,hk.2⟩⟩,hk.1.1.2⟩)) hg hat);have n1_:=Aside0.mk (Kd.R_over' (by (with_reducible repeat (first|apply Kd.R_alloc|apply Kd.R_drewN|apply Kd.R_drew));exact HO140.out) (Kd.N_typed (by (with_reducible repeat (first|apply Kd.N_alloc|apply Kd.N_drewN|apply Kd.N_drew));exact HO_7.out)) (by decide) hg);have n2_:=Aside0.mk (Kd.N_afterv (ok:=(fun k_=>(P2_ k_ ∨ w.heap.size ≤ k_))) (by (with_reducible repeat (first|apply Kd.N_alloc|apply Kd.N_drewN|apply Kd.N_drew));exact HO143.out) hg hat);have n3_:=Aside0.mk (hb);have n4_:=Aside0.mk (ho);clear HO_2;clear HO140;clear HO143;clear HB;clear HO_7;have HO_2:=n0_;have HO140:=n1_;have HO143:=n2_;have HB:=n3_;have HO146:=n4_;clear n0_ n1_ n2_ n3_ n4_;clear ho hb hg hat))
         go_roundg k2
         case measure=>have:=HJ6.out;have:=HK2.out;omega
         case rel=>exact ⟨(y144),(wrap64 (x9_2 + 1)),(by first|rfl|(simp;done)|(simp [*];done)),H',⟨by have:=HJ6.out;have:=HK2.out;omega⟩,⟨by (with_reducible repeat (first|apply Kd.V_alloc|apply Kd.V_drewN|apply Kd.V_drew));exact Kd.V_mono HO_2.out (fun _ hk=>by first|exact ⟨hk.1.1,hk.2⟩|grind)⟩,⟨by (with_reducible repeat (first|apply Kd.N_alloc|apply Kd.N_drewN|apply Kd.N_drew));exact HO146.out⟩,⟨by repeat (first|(with_reducible first|exact HB.out|apply below_alloc|apply pw_below_drewN|apply below_drew1)|exact HB.out)⟩⟩
        ·rw [if_neg c18] at H
         exact absurd H (by simp)
       ·rw [if_neg c16] at H
        exact absurd H (by simp)
      ·rw [if_neg c14] at H
       have c14b0 : decide (x9_2 < a0) = false:=decide_eq_false c14
       clear c14
       obtain rfl:=Option.some.inj H
       go_wp2
       go_ret
       exact ⟨_,by first|rfl|(simp [errW_none,errW_some] <;> rfl)|(simp [*,errW_none,errW_some] <;> rfl),by (with_reducible repeat (first|apply Kd.N_alloc|apply Kd.N_drewN|apply Kd.N_drew));exact HO_7.out,by repeat (first|(with_reducible first|exact HB.out|apply below_alloc|apply pw_below_drewN|apply below_drew1)|exact HB.out)⟩
def spec_l2Rows.l0 : Nat → List (List Int) → List (List Int) → Int → Option ((List (List Int)))
|0,_,_,_=>none
|k + 1,x0,x3,x4=>if x4 < (x0.length : Int) then (if 0 ≤ x4 then ((spec_l1Own.f (rd_L1 x0 x4)).bind fun t151=>(if x3.length < 5864062014805 then (spec_l2Rows.l0 k x0 (x3 ++ [t151]) (wrap64 (x4 + 1))) else (none))) else (none)) else (some x3)
def spec_l2Rows.f (k : Nat) (l0 : List (List Int)) : Option ((List (List Int))):=spec_l2Rows.l0 k l0 (([] : List (List Int))) 0
set_option maxHeartbeats 8000000 in
set_option maxRecDepth 100000 in
theorem spec_l2Rows.calls (k : Nat) (A0 : Option Addr) (c0 : Nat) (l0 : List (List Int)) (r : List (List Int)) (w : World) (hr0 : Kd.C (Kd.slice 3 (Kd.int .i64)) w A0 l0.length l0) (hc0 : l0.length ≤ c0) (h : spec_l2Rows.f k l0 = some r) :
  Calls Try.prog 130 #[.slice A0 l0.length c0] w fun e w'=>∃ v0_ : Value,e = .returned (v0_) ∧ Kd.S (Kd.slice 3 (Kd.int .i64)) 26 w' w.heap.size (fun _=>True) v0_ r ∧ Below w.heap.size w w':=by
 (have HR0:=Aside0.mk hr0);(have HC0:=Aside0.mk hc0);(clear hr0 hc0);(have HB:=Aside0.mk (Below.refl w.heap.size w));(have H : (spec_l2Rows.l0 k l0 (([] : List (List Int))) 0) = some r:=h);(clear h);(obtain ⟨y147,hy147⟩ : ∃ y_ : List (List Int),y_ = (([] : List (List Int))):=⟨_,rfl⟩);(replace H : (spec_l2Rows.l0 k l0 y147 0) = some r:=by first|(rw [hy147];with_reducible exact H)|(have H2_:=(Option.bind_some _ _).symm.trans H;rw [hy147];with_reducible exact H2_)|(have H2_:=(Option.bind_some _ _).symm.trans H;with_reducible exact H2_)|with_reducible exact H|(rw [hy147];exact H)|exact H);(have Ny147:=Aside0.mk hy147);(clear hy147);(have H':=Aside0.mk H);(clear H);(go_enter Try.func130,Try.ntmps130);(go_wp2_with (first|((with_reducible refine gate_dst (N:=5) rfl ?_);refine Kd.S_lit (Kd.slice 3 (Kd.int .i64)) _ 26 ?hg (N:=5) ?hd (xs:=([] : List (List Int))) (inner:=[]) (ok:=fun _=>True) (okp:=fun _=>True) ?hr ?hp (fun _ hk=>hk) trivial (Below.refl _ _) (Nat.le_refl _) (by simp) ?_;(case hd=>rfl);(case hg=>rfl);(case hr=>first|(go_simp;done)|(go_simp;rfl));(case hp=>exact (Reps.none _ _));intro v148 w2 ho3 hb hg_ hnew_;clear hg_ hnew_;(first|rw [← Ny147.out] at ho3|(simp only [Int.reduceToNat] at ho3;rw [← Ny147.out] at ho3));have n0_:=Aside0.mk (Kd.S_lower ho3 (below_size (by repeat (first|(with_reducible first|exact HB.out|apply below_alloc|apply pw_below_drewN|apply below_drew1)|exact HB.out))));have n1_:=Aside0.mk (below_step (by repeat (first|(with_reducible first|exact HB.out|apply below_alloc|apply pw_below_drewN|apply below_drew1)|exact HB.out)) hb);clear HB;have HO149:=n0_;have HB:=n1_;clear n0_ n1_;clear hb ho3)));(go_loopg [3,4] k (fun kq v3 v4 w'=>∃ (x3_1 : List (List Int)) (x4_1 : Int),v4 = .int .i64 x4_1 ∧ Aside0 (spec_l2Rows.l0 kq l0 x3_1 x4_1 = some r) ∧ Aside0 (kq ≤ k) ∧ Aside0 (Kd.S (Kd.slice 3 (Kd.int .i64)) 26 w' w.heap.size (fun _=>True) v3 x3_1) ∧ Aside0 (Below w.heap.size w w')));(case atStart=>exact ⟨(y147),(0),(by first|rfl|(simp;done)|(simp [*];done)),H',⟨Nat.le_refl _⟩,⟨by (with_reducible repeat (first|apply Kd.S_alloc|apply Kd.S_drewN|apply Kd.S_drew));exact HO149.out⟩,⟨by repeat (first|(with_reducible first|exact HB.out|apply below_alloc|apply pw_below_drewN|apply below_drew1)|exact HB.out)⟩⟩)
 case round =>
  (clear H');(try clear c1);(try clear p2);(obtain ⟨x3_1,x4_1,rfl,HA,HK1,HO_3,HB⟩:=hrel)
  cases gk with
 |zero=>exact absurd HA.out (by simp [spec_l2Rows.l0])
 |succ k1 =>
   (have H:=HA.out);(clear HA);(simp only [spec_l2Rows.l0] at H);(by_cases c4 : x4_1 < (l0.length : Int));(·(rw [if_pos c4] at H);(have c4b0 : decide (x4_1 < (l0.length : Int)) = true:=decide_eq_true c4);(clear c4);(by_cases c5 : 0 ≤ x4_1);(·(rw [if_pos c5] at H);(have c5b0 : decide (0 ≤ x4_1) = true:=decide_eq_true c5);(clear c5);(replace H:=Option.bind_eq_some_iff.mp H);(obtain ⟨t151,A60,H⟩:=H);(replace H : (if x3_1.length < 5864062014805 then (spec_l2Rows.l0 k1 l0 (x3_1 ++ [t151]) (wrap64 (x4_1 + 1))) else (none)) = some r:=H);(have A6:=Aside0.mk A60);(clear A60);(by_cases c7 : x3_1.length < 5864062014805);(·(rw [if_pos c7] at H);(have LMc7:=Aside0.mk c7);(clear c7);(obtain ⟨y154,hy154⟩ : ∃ y_ : List (List Int),y_ = (x3_1 ++ [t151]):=⟨_,rfl⟩);(replace H : (spec_l2Rows.l0 k1 l0 y154 (wrap64 (x4_1 + 1))) = some r:=by first|(rw [hy154];with_reducible exact H)|(have H2_:=(Option.bind_some _ _).symm.trans H;rw [hy154];with_reducible exact H2_)|(have H2_:=(Option.bind_some _ _).symm.trans H;with_reducible exact H2_)|with_reducible exact H|(rw [hy154];exact H)|exact H);(have Ny154:=Aside0.mk hy154);(clear hy154);(have H':=Aside0.mk H);(clear H);(have p150 : 0 ≤ (x4_1 : Int):=of_decide_eq_true (by first|(with_reducible assumption)|assumption));(have q150 : x4_1 < (l0.length : Int):=of_decide_eq_true (by first|(with_reducible assumption)|assumption));(obtain ⟨ad150,A150_0,c150_0,e150,hx150_0,hl150_0,hi150_0⟩:=at_L1 HR0.out x4_1 p150 q150);(cases e150);(replace hx150_0:=(HB.out.cell (World.block_lt_of_cell? w _ hx150_0)).trans hx150_0);(have HR150_0:=Aside0.mk hi150_0);(have HC150_0:=Aside0.mk hl150_0);(clear hi150_0 hl150_0);(replace p150:=eq_true p150);(replace q150:=eq_true q150);(go_wp2_with (first|((with_reducible refine gate_callee (f:=76) rfl ?_);refine goesL_ (some 17) rfl rfl Try.func76 (by kernel_rfl) rfl #[.slice A150_0 (rd_L1 l0 x4_1).length c150_0] rfl (by (try simp only [List.map_toArray,List.map_cons,List.map_nil]);first|done|rfl|(simp only [List.length_drop,List.length_take];rfl)) ?_;(with_reducible refine (spec_l1Own.calls _ _ (rd_L1 l0 x4_1) t151 _ ?side1 ?side2 A6.out).mono ?_);(case side1=>repeat (first|exact (Kd.C_below HR150_0.out HB.out)|(with_reducible refine Kd.C_alloc ?_ _)|(with_reducible refine Kd.C_drewN ?_ _)|(with_reducible refine Kd.C_drew ?_)));(case side2=>exact HC150_0.out);rintro e w8 ⟨v152,rfl,ho0,hb⟩;refine ⟨_,rfl,?_⟩;have n0_:=Aside0.mk (Kd.S_elder' (by (with_reducible repeat (first|apply Kd.S_alloc|apply Kd.S_drewN|apply Kd.S_drew));exact HO_3.out) (Kd.R_base ho0) hb);have n1_:=Aside0.mk (Kd.R_lower ho0 (below_size (by repeat (first|(with_reducible first|exact HB.out|apply below_alloc|apply pw_below_drewN|apply below_drew1)|exact HB.out))));have n2_:=Aside0.mk (below_step (by repeat (first|(with_reducible first|exact HB.out|apply below_alloc|apply pw_below_drewN|apply below_drew1)|exact HB.out)) hb);clear HO_3;clear HB;have HO_3:=n0_;have HO153:=n1_;have HB:=n2_;clear n0_ n1_ n2_;(try clear hb);(try clear hb2);(try clear hk);(try clear hi);(try clear ho0);obtain ⟨Ao10,co10,eo10⟩:=Kd.R_slice HO153.out;subst eo10)|((with_reducible refine gate_builtin (b:=.append) (xs:=#[.tmp 12,.tmp 18]) rfl ?_);at_builtin;refine Kd.S_append (Kd.slice 3 (Kd.int .i64)) (w0:=w) w.heap.size rfl (.tmp 12) (.tmp 18) 25 26 (.slice none 0 0) 24 rfl Try.underlying25 info26 rfl (by decide) (by omega) u3 x3_1 t151 [.slice Ao10 t151.length co10] (fun _=>True) (fun k_=>some k_ = (.slice Ao10 t151.length co10 : Value).ownBlock) rfl rfl ?aP (fun k_ hk_=>((Kd.R_mono (ok':=fun k_=>((fun _=>True)) k_ ∧ some k_ ≠ (u3 : Value).ownBlock) (Kd.R_apart' (HO153.out) (Kd.S_typed HO_3.out) (by decide)) (fun k_ hk=>⟨trivial,hk.2⟩))).1 k_ hk_.symm) ?aF ?aO ?aB ?aS ?aL ?_;(case aP=>exact Kd.M_row (Kd.R_mono (Kd.R_tight rfl (Kd.R_mono (ok':=fun k_=>((fun _=>True)) k_ ∧ some k_ ≠ (u3 : Value).ownBlock) (Kd.R_apart' (HO153.out) (Kd.S_typed HO_3.out) (by decide)) (fun k_ hk=>⟨trivial,hk.2⟩))) (fun _ h_=>h_)));(case aB=>exact (by repeat (first|(with_reducible first|exact HB.out|apply below_alloc|apply pw_below_drewN|apply below_drew1)|exact HB.out)));(case aF=>exact (fun _ _=>trivial));(case aO=>exact (by (with_reducible repeat (first|apply Kd.S_alloc|apply Kd.S_drewN|apply Kd.S_drew));exact Kd.S_mono HO_3.out (fun k_ hk=>⟨trivial,fun e_=>hk.2 e_⟩)));(case aS=>exact (below_size (by repeat (first|(with_reducible first|exact HB.out|apply below_alloc|apply pw_below_drewN|apply below_drew1)|exact HB.out))));(case aL=>have:=LMc7.out;omega);intro v155 w9 ho hb hg hat;rw [← Ny154.out] at ho;have n0_:=Aside0.mk (hb);have n1_:=Aside0.mk (ho);clear HB;clear HO_3;clear HO153;have HB:=n0_;have HO156:=n1_;clear n0_ n1_;clear ho hb hg hat)));(go_roundg k1);(case measure=>have:=HK1.out;omega);(case rel=>exact ⟨(y154),(wrap64 (x4_1 + 1)),(by first|rfl|(simp;done)|(simp [*];done)),H',⟨by have:=HK1.out;omega⟩,⟨by (with_reducible repeat (first|apply Kd.S_alloc|apply Kd.S_drewN|apply Kd.S_drew));exact HO156.out⟩,⟨by repeat (first|(with_reducible first|exact HB.out|apply below_alloc|apply pw_below_drewN|apply below_drew1)|exact HB.out)⟩⟩));(·(rw [if_neg c7] at H);(exact absurd H (by simp))));(·(rw [if_neg c5] at H);(exact absurd H (by simp))));(·(rw [if_neg c4] at H);(have c4b0 : decide (x4_1 < (l0.length : Int)) = false:=decide_eq_false c4);(clear c4);(obtain rfl:=Option.some.inj H);(go_wp2);(go_ret);(exact ⟨_,by first|rfl|(simp [errW_none,errW_some] <;> rfl)|(simp [*,errW_none,errW_some] <;> rfl),by (with_reducible repeat (first|apply Kd.S_alloc|apply Kd.S_drewN|apply Kd.S_drew));exact HO_3.out,by repeat (first|(with_reducible first|exact HB.out|apply below_alloc|apply pw_below_drewN|apply below_drew1)|exact HB.out)⟩))
def spec_l1Most.f (a0 : Int) (a1 : Int) : Option (Int):=if a0 > a1 then (some a0) else (some a1)
set_option maxHeartbeats 8000000 in
set_option maxRecDepth 100000 in
theorem spec_l1Most.calls (a0 : Int) (a1 : Int) (r : Int) (w : World) (h : spec_l1Most.f a0 a1 = some r) :
  Calls Try.prog 93 #[.int .i64 a0,.int .i64 a1] w fun e w'=>e = .returned (.int .i64 r) ∧ Drawn0 w w':=by
 (have H : (if a0 > a1 then (some a0) else (some a1)) = some r:=h);(clear h);(by_cases c3 : a0 > a1);(·(rw [if_pos c3] at H);(have c3b0 : decide (a1 < a0) = true:=decide_eq_true c3);(clear c3);(obtain rfl:=Option.some.inj H);(go_enter Try.func93,Try.ntmps93);(go_wp2);(go_ret);(exact ⟨by first|rfl|(simp;done)|(simp [*];done),by repeat (first|exact Drawn0.refl _|apply Drawn0.step)⟩));(·(rw [if_neg c3] at H);(have c3b0 : decide (a1 < a0) = false:=decide_eq_false c3);(clear c3);(obtain rfl:=Option.some.inj H);(go_enter Try.func93,Try.ntmps93);(go_wp2);(go_ret);(exact ⟨by first|rfl|(simp;done)|(simp [*];done),by repeat (first|exact Drawn0.refl _|apply Drawn0.step)⟩))
def spec_l2Gcd.l0 : Nat → Int → Int → Option (Int)
|0,_,_=>none
|k + 1,x0,x1=>if x1 > 0 then (if x1 = 0 then (none) else (spec_l2Gcd.l0 k x1 (Int.tmod x0 x1))) else (some x0)
def spec_l2Gcd.f (k : Nat) (a0 : Int) (a1 : Int) : Option (Int):=spec_l2Gcd.l0 k a0 a1
set_option maxHeartbeats 8000000 in
set_option maxRecDepth 100000 in
theorem spec_l2Gcd.calls (k : Nat) (a0 : Int) (a1 : Int) (r : Int) (w : World) (h : spec_l2Gcd.f k a0 a1 = some r) :
  Calls Try.prog 148 #[.int .i64 a0,.int .i64 a1] w fun e w'=>e = .returned (.int .i64 r) ∧ Drawn0 w w':=by
 (have H : (spec_l2Gcd.l0 k a0 a1) = some r:=h);(clear h);(have H':=Aside0.mk H);(clear H);(go_enter Try.func148,Try.ntmps148);(go_wp2);(repeat (go_quiet (fail);try go_wp2));(go_loopg [0,1] k (fun kq v0 v1 w'=>∃ (x0_1 : Int) (x1_1 : Int),v0 = .int .i64 x0_1 ∧ v1 = .int .i64 x1_1 ∧ Aside0 (spec_l2Gcd.l0 kq x0_1 x1_1 = some r) ∧ Aside0 (kq ≤ k) ∧ Drawn0 w w'));(case atStart=>exact ⟨(a0),(a1),(by first|rfl|(simp;done)|(simp [*];done)),(by first|rfl|(simp;done)|(simp [*];done)),H',⟨Nat.le_refl _⟩,by repeat (first|exact Drawn0.refl _|apply Drawn0.step)⟩)
 case round =>
  (clear H');(try clear c1);(try clear p2);(obtain ⟨x0_1,x1_1,rfl,rfl,HA,HK1,⟨m1,rfl⟩⟩:=hrel)
  cases gk with
 |zero=>exact absurd HA.out (by simp [spec_l2Gcd.l0])
 |succ k1 =>
   (have H:=HA.out);(clear HA);(simp only [spec_l2Gcd.l0] at H);(by_cases c3 : x1_1 > 0);(·(rw [if_pos c3] at H);(have c3b0 : decide (0 < x1_1) = true:=decide_eq_true c3);(clear c3);(by_cases c4 : x1_1 = 0);(·(rw [if_pos c4] at H);(exact absurd H (by simp)));(·(rw [if_neg c4] at H);(have c4b0 : (x1_1 == 0) = false:=beq_eq_false_iff_ne.mpr c4);(have c4b1 : (x1_1 != 0) = true:=bne_iff_ne.mpr c4);(have H':=Aside0.mk H);(clear H);(go_wp2);(repeat (go_quiet (fail);try go_wp2));(go_roundg k1);(case measure=>have:=HK1.out;omega);(case rel=>exact ⟨(x1_1),(Int.tmod x0_1 x1_1),(by first|rfl|(simp;done)|(simp [*];done)),(by first|rfl|(simp;done)|(simp [*];done)),H',⟨by have:=HK1.out;omega⟩,by repeat (first|exact Drawn0.refl _|apply Drawn0.step)⟩)));(·(rw [if_neg c3] at H);(have c3b0 : decide (0 < x1_1) = false:=decide_eq_false c3);(clear c3);(obtain rfl:=Option.some.inj H);(go_wp2);(repeat (go_quiet (fail);try go_wp2));(go_ret);(exact ⟨by first|rfl|(simp;done)|(simp [*];done),by repeat (first|exact Drawn0.refl _|apply Drawn0.step)⟩))
end Go.Proofs.Ytdjclffkidoohaa.QFnExactInGeneralPosition
