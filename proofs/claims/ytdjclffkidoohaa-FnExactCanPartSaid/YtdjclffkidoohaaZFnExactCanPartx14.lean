/- Some of the functions that the law reaches, and what they tell; no condition. -/
import Derived.Test.YtdjclffkidoohaaVFnExactCanPart
import Derived.Test.YtdjclffkidoohaaZFnExactCanPartx0
import Derived.Test.YtdjclffkidoohaaZFnExactCanPartx1
import Derived.Test.YtdjclffkidoohaaZFnExactCanPartx13
import Derived.Test.YtdjclffkidoohaaZFnExactCanPartx2
import Derived.Test.YtdjclffkidoohaaZFnExactCanPartx9
namespace Go.Proofs.Ytdjclffkidoohaa.QFnExactCanPart
open Go.RowKit Go.Proofs.YtdjclffkidoohaaW.PrintWords Go.Proofs.YtdjclffkidoohaaW.PrintLast Go.Proofs.YtdjclffkidoohaaW.PrintMore
attribute [local go_sem] max2_int min2_int max_two min_two max_three min_three max_four min_four   -- for this text's walks alone
set_option linter.unusedVariables false
set_option linter.unusedSimpArgs false
def laws_FnExactCanPart.j0 : Nat → Bool → List (List Int) → List Int → List (List Int) → List Int → Option (Bool)
|0,_,_,_,_,_=>none
|k + 1,x34,x424000,x424001,x440000,x440001=>if x34 = true then (some false) else ((laws_toSample.f k x424000 x424001).bind fun bt442=>((laws_eqSample.f k x440000 x440001 bt442.1 bt442.2).bind fun t448=>(if t448 = true then (some true) else (some false))))
def laws_FnExactCanPart.f (k : Nat) (l0_0 : List (List Int)) (l0_1 : List Int) : Option (Bool):=(laws_szSample.f k l0_0 l0_1 1048576).bind fun t424=>(if t424 < 0 then (some true) else ((laws_toSample.f k l0_0 l0_1).bind fun bt425=>((spec_CanPart.f k bt425.1 bt425.2).bind fun bt431=>((laws_toSample.f k l0_0 l0_1).bind fun bt433=>((impl_CanPart.f k bt433.1 bt433.2).bind fun bt440=>(if (bt440.1 != bt431.1) = true then (laws_FnExactCanPart.j0 k true l0_0 l0_1 bt433.1 bt433.2) else (laws_FnExactCanPart.j0 k (bt440.2 != bt431.2) l0_0 l0_1 bt433.1 bt433.2)))))))
set_option maxHeartbeats 8000000 in
set_option maxRecDepth 100000 in
theorem laws_FnExactCanPart.calls (k : Nat) (A0_0 : Option Addr) (c0_0 : Nat) (l0_0 : List (List Int)) (A0_1 : Option Addr) (c0_1 : Nat) (l0_1 : List Int) (r : Bool) (w : World) (hr0_0 : Kd.C (Kd.slice 3 (Kd.int .i64)) w A0_0 l0_0.length l0_0) (hc0_0 : l0_0.length ≤ c0_0) (hr0_1 : Kd.C (Kd.int .i64) w A0_1 l0_1.length l0_1) (hc0_1 : l0_1.length ≤ c0_1) (h : laws_FnExactCanPart.f k l0_0 l0_1 = some r) :
  Calls Try.prog 7 #[.agg #[.slice A0_0 l0_0.length c0_0,.slice A0_1 l0_1.length c0_1]] w fun e w'=>e = .returned (.bool r) ∧ Below w.heap.size w w':=by
 have hu28:=Try.underlying28
 have hu32:=Try.underlying32
 have HR0_0:=Aside0.mk hr0_0
 have HC0_0:=Aside0.mk hc0_0
 clear hr0_0 hc0_0
 have HR0_1:=Aside0.mk hr0_1
 have HC0_1:=Aside0.mk hc0_1
 clear hr0_1 hc0_1
 have HB:=Aside0.mk (Below.refl w.heap.size w)
 have H : ((laws_szSample.f k l0_0 l0_1 1048576).bind fun t424=>(if t424 < 0 then (some true) else ((laws_toSample.f k l0_0 l0_1).bind fun bt425=>((spec_CanPart.f k bt425.1 bt425.2).bind fun bt431=>((laws_toSample.f k l0_0 l0_1).bind fun bt433=>((impl_CanPart.f k bt433.1 bt433.2).bind fun bt440=>(if (bt440.1 != bt431.1) = true then (laws_FnExactCanPart.j0 k true l0_0 l0_1 bt433.1 bt433.2) else (laws_FnExactCanPart.j0 k (bt440.2 != bt431.2) l0_0 l0_1 bt433.1 bt433.2)))))))) = some r:=h
 clear h
 replace H:=Option.bind_eq_some_iff.mp H
 obtain ⟨t424,A20,H⟩:=H
 replace H : (if t424 < 0 then (some true) else ((laws_toSample.f k l0_0 l0_1).bind fun bt425=>((spec_CanPart.f k bt425.1 bt425.2).bind fun bt431=>((laws_toSample.f k l0_0 l0_1).bind fun bt433=>((impl_CanPart.f k bt433.1 bt433.2).bind fun bt440=>(if (bt440.1 != bt431.1) = true then (laws_FnExactCanPart.j0 k true l0_0 l0_1 bt433.1 bt433.2) else (laws_FnExactCanPart.j0 k (bt440.2 != bt431.2) l0_0 l0_1 bt433.1 bt433.2))))))) = some r:=H
 have A2:=Aside0.mk A20
 clear A20
 by_cases c3 : t424 < 0
 ·rw [if_pos c3] at H
  have c3b0 : decide (t424 < 0) = true:=decide_eq_true c3
  clear c3
  obtain rfl:=Option.some.inj H
  go_enter Try.func7,Try.ntmps7
  go_wp2_with (first|((with_reducible refine gate_dst (N:=1) rfl ?_);refine box_event ?hg (N:=1) ?hd (cs:=#[.slice A0_0 l0_0.length c0_0,.slice A0_1 l0_1.length c0_1]) (t:=28) ?hr ?_;(case hd=>rfl);(case hg=>rfl);(case hr=>first|(go_simp;done)|(go_simp;rfl));intro gb423 hg w4 hbox hb;have n0_:=Aside0.mk (below_step (by repeat (first|(with_reducible first|exact HB.out|apply below_alloc|apply pw_below_drewN|apply below_drew1)|exact HB.out|exact Below.refl _ _)) hb);have n1_:=Aside0.mk (hbox);have n2_:=Aside0.mk ((by rw [hg];exact (below_size (by repeat (first|(with_reducible first|exact HB.out|apply below_alloc|apply pw_below_drewN|apply below_drew1)|exact HB.out|exact Below.refl _ _))) : w.heap.size ≤ gb423));have n3_:=Aside0.mk ((by rw [hg];exact (below_size (by repeat (first|(with_reducible first|exact HB.out|apply below_alloc|apply pw_below_drewN|apply below_drew1)|exact HB.out|exact Below.refl _ _))) : w.heap.size ≤ gb423));clear HB;have HB:=n0_;have BK423:=n1_;have GW423:=n2_;have GE423:=n3_;clear n0_ n1_ n2_ n3_;clear hb hbox hg;have hcz5_0 : w4.cell? ⟨gb423,0,none⟩ = some (.slice A0_0 l0_0.length c0_0):=(blk_cell BK423.out 0).trans rfl;have hcz5_1 : w4.cell? ⟨gb423,1,none⟩ = some (.slice A0_1 l0_1.length c0_1):=(blk_cell BK423.out 1).trans rfl;have hfz5_0:=blk_frozen BK423.out 0;have hfz5_1:=blk_frozen BK423.out 1)|((with_reducible refine gate_callee (f:=17) rfl ?_);refine goesL_ (some 11) rfl rfl Try.func17 (by kernel_rfl) rfl #[.agg #[.slice A0_0 l0_0.length c0_0,.slice A0_1 l0_1.length c0_1],.int .i64 1048576] rfl (by (try simp only [List.map_toArray,List.map_cons,List.map_nil]);first|done|rfl|(simp only [List.length_drop,List.length_take];rfl)) ?_;(with_reducible refine (laws_szSample.calls k _ _ l0_0 _ _ l0_1 1048576 t424 _ ?side1 ?side2 ?side3 ?side4 A2.out).mono ?_);(case side1=>repeat (first|exact (Kd.C_below HR0_0.out HB.out)|(with_reducible refine Kd.C_alloc ?_ _)|(with_reducible refine Kd.C_drewN ?_ _)|(with_reducible refine Kd.C_drew ?_)));(case side2=>exact HC0_0.out);(case side3=>repeat (first|exact (Kd.C_below HR0_1.out HB.out)|(with_reducible refine Kd.C_alloc ?_ _)|(with_reducible refine Kd.C_drewN ?_ _)|(with_reducible refine Kd.C_drew ?_)));(case side4=>exact HC0_1.out);rintro e w6 ⟨rfl,hb⟩;refine ⟨_,rfl,?_⟩;have n0_:=Aside0.mk (blk_below (g:=gb423) (o:=.cells #[.slice A0_0 l0_0.length c0_0,.slice A0_1 l0_1.length c0_1] 28 (0,0)) (by (with_reducible repeat (first|refine blk_drewN ?_ _|refine blk_drew ?_|refine blk_alloc ?_ _));exact BK423.out) hb);have n1_:=Aside0.mk (below_step (by repeat (first|(with_reducible first|exact HB.out|apply below_alloc|apply pw_below_drewN|apply below_drew1|refine below_set ?_ GE423.out)|exact HB.out)) hb);clear BK423;clear HB;have BK423:=n0_;have HB:=n1_;clear n0_ n1_;(try clear hb);(try clear hb2);(try clear hk);(try clear hi)))
  go_ret
  exact ⟨by first|rfl|(simp [errW_none,errW_some] <;> rfl)|(simp [*,errW_none,errW_some] <;> rfl),by repeat (first|(with_reducible first|exact HB.out|apply below_alloc|apply pw_below_drewN|apply below_drew1|refine below_set ?_ GE423.out)|exact HB.out)⟩
 ·rw [if_neg c3] at H
  have c3b0 : decide (t424 < 0) = false:=decide_eq_false c3
  clear c3
  replace H:=Option.bind_eq_some_iff.mp H
  obtain ⟨⟨t425,t428⟩,A70,H⟩:=H
  replace H : ((spec_CanPart.f k t425 t428).bind fun bt431=>((laws_toSample.f k l0_0 l0_1).bind fun bt433=>((impl_CanPart.f k bt433.1 bt433.2).bind fun bt440=>(if (bt440.1 != bt431.1) = true then (laws_FnExactCanPart.j0 k true l0_0 l0_1 bt433.1 bt433.2) else (laws_FnExactCanPart.j0 k (bt440.2 != bt431.2) l0_0 l0_1 bt433.1 bt433.2))))) = some r:=H
  have A7:=Aside0.mk A70
  clear A70
  replace H:=Option.bind_eq_some_iff.mp H
  obtain ⟨⟨t431,t432⟩,A80,H⟩:=H
  replace H : ((laws_toSample.f k l0_0 l0_1).bind fun bt433=>((impl_CanPart.f k bt433.1 bt433.2).bind fun bt440=>(if (bt440.1 != t431) = true then (laws_FnExactCanPart.j0 k true l0_0 l0_1 bt433.1 bt433.2) else (laws_FnExactCanPart.j0 k (bt440.2 != t432) l0_0 l0_1 bt433.1 bt433.2)))) = some r:=H
  have A8:=Aside0.mk A80
  clear A80
  replace H:=Option.bind_eq_some_iff.mp H
  obtain ⟨⟨t433,t436⟩,A90,H⟩:=H
  replace H : ((impl_CanPart.f k t433 t436).bind fun bt440=>(if (bt440.1 != t431) = true then (laws_FnExactCanPart.j0 k true l0_0 l0_1 t433 t436) else (laws_FnExactCanPart.j0 k (bt440.2 != t432) l0_0 l0_1 t433 t436))) = some r:=H
  have A9:=Aside0.mk A90
  clear A90
  replace H:=Option.bind_eq_some_iff.mp H
  obtain ⟨⟨t440,t441⟩,A100,H⟩:=H
  replace H : (if (t440 != t431) = true then (laws_FnExactCanPart.j0 k true l0_0 l0_1 t433 t436) else (laws_FnExactCanPart.j0 k (t441 != t432) l0_0 l0_1 t433 t436)) = some r:=H
  have A10:=Aside0.mk A100
  clear A100
  have HC11:=Aside0.mk H
  clear H
  go_enter Try.func7,Try.ntmps7
  go_upto_region 8 with (first|((with_reducible refine gate_dst (N:=1) rfl ?_);refine box_event ?hg (N:=1) ?hd (cs:=#[.slice A0_0 l0_0.length c0_0,.slice A0_1 l0_1.length c0_1]) (t:=28) ?hr ?_;(case hd=>rfl);(case hg=>rfl);(case hr=>first|(go_simp;done)|(go_simp;rfl));intro gb423 hg w12 hbox hb;have n0_:=Aside0.mk (below_step (by repeat (first|(with_reducible first|exact HB.out|apply below_alloc|apply pw_below_drewN|apply below_drew1)|exact HB.out|exact Below.refl _ _)) hb);have n1_:=Aside0.mk (hbox);have n2_:=Aside0.mk ((by rw [hg];exact (below_size (by repeat (first|(with_reducible first|exact HB.out|apply below_alloc|apply pw_below_drewN|apply below_drew1)|exact HB.out|exact Below.refl _ _))) : w.heap.size ≤ gb423));have n3_:=Aside0.mk ((by rw [hg];exact (below_size (by repeat (first|(with_reducible first|exact HB.out|apply below_alloc|apply pw_below_drewN|apply below_drew1)|exact HB.out|exact Below.refl _ _))) : w.heap.size ≤ gb423));clear HB;have HB:=n0_;have BK423:=n1_;have GW423:=n2_;have GE423:=n3_;clear n0_ n1_ n2_ n3_;clear hb hbox hg;have hcz13_0 : w12.cell? ⟨gb423,0,none⟩ = some (.slice A0_0 l0_0.length c0_0):=(blk_cell BK423.out 0).trans rfl;have hcz13_1 : w12.cell? ⟨gb423,1,none⟩ = some (.slice A0_1 l0_1.length c0_1):=(blk_cell BK423.out 1).trans rfl;have hfz13_0:=blk_frozen BK423.out 0;have hfz13_1:=blk_frozen BK423.out 1)|((with_reducible refine gate_callee (f:=17) rfl ?_);refine goesL_ (some 11) rfl rfl Try.func17 (by kernel_rfl) rfl #[.agg #[.slice A0_0 l0_0.length c0_0,.slice A0_1 l0_1.length c0_1],.int .i64 1048576] rfl (by (try simp only [List.map_toArray,List.map_cons,List.map_nil]);first|done|rfl|(simp only [List.length_drop,List.length_take];rfl)) ?_;(with_reducible refine (laws_szSample.calls k _ _ l0_0 _ _ l0_1 1048576 t424 _ ?side1 ?side2 ?side3 ?side4 A2.out).mono ?_);(case side1=>repeat (first|exact (Kd.C_below HR0_0.out HB.out)|(with_reducible refine Kd.C_alloc ?_ _)|(with_reducible refine Kd.C_drewN ?_ _)|(with_reducible refine Kd.C_drew ?_)));(case side2=>exact HC0_0.out);(case side3=>repeat (first|exact (Kd.C_below HR0_1.out HB.out)|(with_reducible refine Kd.C_alloc ?_ _)|(with_reducible refine Kd.C_drewN ?_ _)|(with_reducible refine Kd.C_drew ?_)));(case side4=>exact HC0_1.out);rintro e w14 ⟨rfl,hb⟩;refine ⟨_,rfl,?_⟩;have n0_:=Aside0.mk (blk_below (g:=gb423) (o:=.cells #[.slice A0_0 l0_0.length c0_0,.slice A0_1 l0_1.length c0_1] 28 (0,0)) (by (with_reducible repeat (first|refine blk_drewN ?_ _|refine blk_drew ?_|refine blk_alloc ?_ _));exact BK423.out) hb);have n1_:=Aside0.mk (below_step (by repeat (first|(with_reducible first|exact HB.out|apply below_alloc|apply pw_below_drewN|apply below_drew1|refine below_set ?_ GE423.out)|exact HB.out)) hb);clear BK423;clear HB;have BK423:=n0_;have HB:=n1_;clear n0_ n1_;(try clear hb);(try clear hb2);(try clear hk);(try clear hi);have hcz15_0 : w14.cell? ⟨gb423,0,none⟩ = some (.slice A0_0 l0_0.length c0_0):=(blk_cell BK423.out 0).trans rfl;have hcz15_1 : w14.cell? ⟨gb423,1,none⟩ = some (.slice A0_1 l0_1.length c0_1):=(blk_cell BK423.out 1).trans rfl;have hfz15_0:=blk_frozen BK423.out 0;have hfz15_1:=blk_frozen BK423.out 1)|((with_reducible refine gate_callee (f:=19) rfl ?_);refine goesL_ (some 16) rfl rfl Try.func19 (by kernel_rfl) rfl #[.agg #[.slice A0_0 l0_0.length c0_0,.slice A0_1 l0_1.length c0_1]] rfl (by (try simp only [List.map_toArray,List.map_cons,List.map_nil]);first|done|rfl|(simp only [List.length_drop,List.length_take];rfl)) ?_;(with_reducible refine (laws_toSample.calls k _ _ l0_0 _ _ l0_1 t425 t428 _ ?side1 ?side2 ?side3 ?side4 A7.out).mono ?_);(case side1=>repeat (first|exact (Kd.C_below HR0_0.out HB.out)|(with_reducible refine Kd.C_alloc ?_ _)|(with_reducible refine Kd.C_drewN ?_ _)|(with_reducible refine Kd.C_drew ?_)));(case side2=>exact HC0_0.out);(case side3=>repeat (first|exact (Kd.C_below HR0_1.out HB.out)|(with_reducible refine Kd.C_alloc ?_ _)|(with_reducible refine Kd.C_drewN ?_ _)|(with_reducible refine Kd.C_drew ?_)));(case side4=>exact HC0_1.out);rintro e w16 ⟨v426,v429,rfl,ho0,ho1,hb⟩;refine ⟨_,rfl,?_⟩;have n0_:=Aside0.mk (Kd.S_lower ho0 (below_size (by repeat (first|(with_reducible first|exact HB.out|apply below_alloc|apply pw_below_drewN|apply below_drew1|refine below_set ?_ GE423.out)|exact HB.out))));have n1_:=Aside0.mk (Kd.R_lower ho1 (below_size (by repeat (first|(with_reducible first|exact HB.out|apply below_alloc|apply pw_below_drewN|apply below_drew1|refine below_set ?_ GE423.out)|exact HB.out))));have n2_:=Aside0.mk (blk_below (g:=gb423) (o:=.cells #[.slice A0_0 l0_0.length c0_0,.slice A0_1 l0_1.length c0_1] 28 (0,0)) (by (with_reducible repeat (first|refine blk_drewN ?_ _|refine blk_drew ?_|refine blk_alloc ?_ _));exact BK423.out) hb);have n3_:=Aside0.mk (below_step (by repeat (first|(with_reducible first|exact HB.out|apply below_alloc|apply pw_below_drewN|apply below_drew1|refine below_set ?_ GE423.out)|exact HB.out)) hb);clear BK423;clear HB;have HO427:=n0_;have HO430:=n1_;have BK423:=n2_;have HB:=n3_;clear n0_ n1_ n2_ n3_;(try clear hb);(try clear hb2);(try clear hk);(try clear hi);(try clear ho0);(try clear ho1);obtain ⟨Ao17,co17,eo17⟩:=Kd.S_slice HO427.out;subst eo17;obtain ⟨Ao18,co18,eo18⟩:=Kd.R_slice HO430.out;subst eo18)|((with_reducible refine gate_callee (f:=36) rfl ?_);refine goesL_ (some 17) rfl rfl Try.func36 (by kernel_rfl) rfl #[.agg #[.slice Ao17 t425.length co17,.slice Ao18 t428.length co18]] rfl (by (try simp only [List.map_toArray,List.map_cons,List.map_nil]);first|done|rfl|(simp only [List.length_drop,List.length_take];rfl)) ?_;(with_reducible refine (spec_CanPart.calls k _ _ t425 _ _ t428 t431 t432 _ ?side1 ?side2 ?side3 ?side4 A8.out).mono ?_);(case side1=>repeat (first|exact (Kd.S_reads' HO427.out).2.2|(with_reducible refine Kd.C_alloc ?_ _)|(with_reducible refine Kd.C_drewN ?_ _)|(with_reducible refine Kd.C_drew ?_)));(case side2=>exact (Kd.S_reads' HO427.out).2.1);(case side3=>repeat (first|exact (Kd.R_reads' HO430.out).2.2|(with_reducible refine Kd.C_alloc ?_ _)|(with_reducible refine Kd.C_drewN ?_ _)|(with_reducible refine Kd.C_drew ?_)));(case side4=>exact (Kd.R_reads' HO430.out).2.1);rintro e w19 ⟨rfl,hb⟩;refine ⟨_,rfl,?_⟩;have n0_:=Aside0.mk (Kd.S_below (by (with_reducible repeat (first|apply Kd.S_alloc|apply Kd.S_drewN|apply Kd.S_drew));exact HO427.out) hb);have n1_:=Aside0.mk (Kd.R_below (by (with_reducible repeat (first|apply Kd.R_alloc|apply Kd.R_drewN|apply Kd.R_drew));exact HO430.out) hb);have n2_:=Aside0.mk (blk_below (g:=gb423) (o:=.cells #[.slice A0_0 l0_0.length c0_0,.slice A0_1 l0_1.length c0_1] 28 (0,0)) (by (with_reducible repeat (first|refine blk_drewN ?_ _|refine blk_drew ?_|refine blk_alloc ?_ _));exact BK423.out) hb);have n3_:=Aside0.mk (below_step (by repeat (first|(with_reducible first|exact HB.out|apply below_alloc|apply pw_below_drewN|apply below_drew1|refine below_set ?_ GE423.out)|exact HB.out)) hb);clear HO427;clear HO430;clear BK423;clear HB;have HO427:=n0_;have HO430:=n1_;have BK423:=n2_;have HB:=n3_;clear n0_ n1_ n2_ n3_;(try clear hb);(try clear hb2);(try clear hk);(try clear hi);have hcz20_0 : w19.cell? ⟨gb423,0,none⟩ = some (.slice A0_0 l0_0.length c0_0):=(blk_cell BK423.out 0).trans rfl;have hcz20_1 : w19.cell? ⟨gb423,1,none⟩ = some (.slice A0_1 l0_1.length c0_1):=(blk_cell BK423.out 1).trans rfl;have hfz20_0:=blk_frozen BK423.out 0;have hfz20_1:=blk_frozen BK423.out 1)|((with_reducible refine gate_callee (f:=19) rfl ?_);refine goesL_ (some 21) rfl rfl Try.func19 (by kernel_rfl) rfl #[.agg #[.slice A0_0 l0_0.length c0_0,.slice A0_1 l0_1.length c0_1]] rfl (by (try simp only [List.map_toArray,List.map_cons,List.map_nil]);first|done|rfl|(simp only [List.length_drop,List.length_take];rfl)) ?_;(with_reducible refine (laws_toSample.calls k _ _ l0_0 _ _ l0_1 t433 t436 _ ?side1 ?side2 ?side3 ?side4 A9.out).mono ?_);(case side1=>repeat (first|exact (Kd.C_below HR0_0.out HB.out)|(with_reducible refine Kd.C_alloc ?_ _)|(with_reducible refine Kd.C_drewN ?_ _)|(with_reducible refine Kd.C_drew ?_)));(case side2=>exact HC0_0.out);(case side3=>repeat (first|exact (Kd.C_below HR0_1.out HB.out)|(with_reducible refine Kd.C_alloc ?_ _)|(with_reducible refine Kd.C_drewN ?_ _)|(with_reducible refine Kd.C_drew ?_)));(case side4=>exact HC0_1.out);rintro e w21 ⟨v434,v437,rfl,ho0,ho1,hb⟩;refine ⟨_,rfl,?_⟩;have n0_:=Aside0.mk (Kd.S_mono (Kd.S_told (Kd.S_told (Kd.S_old (by (with_reducible repeat (first|apply Kd.S_alloc|apply Kd.S_drewN|apply Kd.S_drew));exact HO427.out) hb) (Kd.S_base ho0)) (Kd.R_base ho1)) (fun _ h_=>h_.1));have n1_:=Aside0.mk (Kd.R_elder' (by (with_reducible repeat (first|apply Kd.R_alloc|apply Kd.R_drewN|apply Kd.R_drew));exact HO430.out) (Kd.R_base ho1) hb);have n2_:=Aside0.mk (Kd.S_lower (Kd.S_new' (Kd.S_new' ho0 (Kd.S_lt (by (with_reducible repeat (first|apply Kd.S_alloc|apply Kd.S_drewN|apply Kd.S_drew));exact HO427.out))) (Kd.R_lt (by (with_reducible repeat (first|apply Kd.R_alloc|apply Kd.R_drewN|apply Kd.R_drew));exact HO430.out))) (below_size (by repeat (first|(with_reducible first|exact HB.out|apply below_alloc|apply pw_below_drewN|apply below_drew1|refine below_set ?_ GE423.out)|exact HB.out))));have n3_:=Aside0.mk (Kd.R_lower (Kd.R_new' ho1 (Kd.R_lt (by (with_reducible repeat (first|apply Kd.R_alloc|apply Kd.R_drewN|apply Kd.R_drew));exact HO430.out))) (below_size (by repeat (first|(with_reducible first|exact HB.out|apply below_alloc|apply pw_below_drewN|apply below_drew1|refine below_set ?_ GE423.out)|exact HB.out))));have n4_:=Aside0.mk (blk_below (g:=gb423) (o:=.cells #[.slice A0_0 l0_0.length c0_0,.slice A0_1 l0_1.length c0_1] 28 (0,0)) (by (with_reducible repeat (first|refine blk_drewN ?_ _|refine blk_drew ?_|refine blk_alloc ?_ _));exact BK423.out) hb);have n5_:=Aside0.mk (below_step (by repeat (first|(with_reducible first|exact HB.out|apply below_alloc|apply pw_below_drewN|apply below_drew1|refine below_set ?_ GE423.out)|exact HB.out)) hb);clear HO427;clear HO430;clear BK423;clear HB;have HO427:=n0_;have HO430:=n1_;have HO435:=n2_;have HO438:=n3_;have BK423:=n4_;have HB:=n5_;clear n0_ n1_ n2_ n3_ n4_ n5_;(try clear hb);(try clear hb2);(try clear hk);(try clear hi);(try clear ho0);(try clear ho1))|((with_reducible refine gate_dst (N:=6) rfl ?_);refine box_event ?hg (N:=6) ?hd (cs:=#[.slice none 0 0,.slice none 0 0]) (t:=32) ?hr ?_;(case hd=>rfl);(case hg=>rfl);(case hr=>first|(go_simp;done)|(go_simp;rfl));intro gb439 hg w22 hbox hb;have n0_:=Aside0.mk (Kd.S_below (by (with_reducible repeat (first|apply Kd.S_alloc|apply Kd.S_drewN|apply Kd.S_drew));exact HO427.out) hb);have n1_:=Aside0.mk (Kd.R_below (by (with_reducible repeat (first|apply Kd.R_alloc|apply Kd.R_drewN|apply Kd.R_drew));exact HO430.out) hb);have n2_:=Aside0.mk (Kd.S_below (by (with_reducible repeat (first|apply Kd.S_alloc|apply Kd.S_drewN|apply Kd.S_drew));exact HO435.out) hb);have n3_:=Aside0.mk (Kd.R_below (by (with_reducible repeat (first|apply Kd.R_alloc|apply Kd.R_drewN|apply Kd.R_drew));exact HO438.out) hb);have n4_:=Aside0.mk (blk_below (g:=gb423) (o:=.cells #[.slice A0_0 l0_0.length c0_0,.slice A0_1 l0_1.length c0_1] 28 (0,0)) (by (with_reducible repeat (first|refine blk_drewN ?_ _|refine blk_drew ?_|refine blk_alloc ?_ _));exact BK423.out) hb);have n5_:=Aside0.mk (below_step (by repeat (first|(with_reducible first|exact HB.out|apply below_alloc|apply pw_below_drewN|apply below_drew1|refine below_set ?_ GE423.out)|exact HB.out)) hb);have n6_:=Aside0.mk (hbox);have n7_:=Aside0.mk ((by rw [hg];exact (below_size (by repeat (first|(with_reducible first|exact HB.out|apply below_alloc|apply pw_below_drewN|apply below_drew1|refine below_set ?_ GE423.out)|exact HB.out))) : w.heap.size ≤ gb439));have n8_:=Aside0.mk ((by rw [hg];exact (below_size (by repeat (first|(with_reducible first|exact HB.out|apply below_alloc|apply pw_below_drewN|apply below_drew1|refine below_set ?_ GE423.out)|exact HB.out))) : w.heap.size ≤ gb439));have n9_:=Aside0.mk ((by rw [hg];exact Nat.ne_of_lt (blk_lt (g:=gb423) (o:=.cells #[.slice A0_0 l0_0.length c0_0,.slice A0_1 l0_1.length c0_1] 28 (0,0)) (by (with_reducible repeat (first|refine blk_drewN ?_ _|refine blk_drew ?_|refine blk_alloc ?_ _));exact BK423.out)) : gb423 ≠ gb439));have n10_:=Aside0.mk ((by rw [hg];exact Nat.ne_of_gt (blk_lt (g:=gb423) (o:=.cells #[.slice A0_0 l0_0.length c0_0,.slice A0_1 l0_1.length c0_1] 28 (0,0)) (by (with_reducible repeat (first|refine blk_drewN ?_ _|refine blk_drew ?_|refine blk_alloc ?_ _));exact BK423.out)) : gb439 ≠ gb423));clear HO427;clear HO430;clear HO435;clear HO438;clear BK423;clear HB;have HO427:=n0_;have HO430:=n1_;have HO435:=n2_;have HO438:=n3_;have BK423:=n4_;have HB:=n5_;have BK439:=n6_;have GW439:=n7_;have GE439:=n8_;have NB423_439:=n9_;have NB439_423:=n10_;clear n0_ n1_ n2_ n3_ n4_ n5_ n6_ n7_ n8_ n9_ n10_;clear hb hbox hg;obtain ⟨Ao23,co23,eo23⟩:=Kd.S_slice HO435.out;subst eo23;have hnb24:=NB439_423.out;have hnc24:=NB423_439.out;have hcz25_0 : w22.cell? ⟨gb439,0,none⟩ = some (.slice none 0 0):=(blk_cell BK439.out 0).trans rfl;have hcz25_1 : w22.cell? ⟨gb439,1,none⟩ = some (.slice none 0 0):=(blk_cell BK439.out 1).trans rfl;have hfz25_0:=blk_frozen BK439.out 0;have hfz25_1:=blk_frozen BK439.out 1;obtain ⟨Ao26,co26,eo26⟩:=Kd.R_slice HO438.out;subst eo26)|((with_reducible refine gate_callee (f:=37) rfl ?_);refine goesL_ (some 24) rfl rfl Try.func37 (by kernel_rfl) rfl #[.agg #[.slice Ao23 t433.length co23,.slice Ao26 t436.length co26]] rfl (by (try simp only [List.map_toArray,List.map_cons,List.map_nil]);first|done|rfl|(simp only [List.length_drop,List.length_take];rfl)) ?_;(with_reducible refine (impl_CanPart.calls k _ _ t433 _ _ t436 t440 t441 _ ?side1 ?side2 ?side3 ?side4 A10.out).mono ?_);(case side1=>refine (Kd.S_reads' (e:=26) (base:=w.heap.size) (ok:=fun k_=>((some k_ ≠ (.slice Ao26 t436.length co26 : Value).ownBlock ∧ some k_ ≠ (.slice Ao17 t425.length co17 : Value).ownBlock) ∧ some k_ ≠ (.slice Ao18 t428.length co18 : Value).ownBlock)) (n:=t433.length) (c:=co23) ?_).2.2;exact (by (with_reducible repeat (first|apply Kd.S_alloc|apply Kd.S_drewN|apply Kd.S_drew));exact (Kd.S_mono (Kd.S_far (p:=⟨gb439,1,none⟩) (Kd.S_far (p:=⟨gb439,0,none⟩) (Kd.S_types HO435.out BK439.out (by decide)) (fun _ hk=>hk.2) (.slice Ao23 t433.length co23)) (fun _ hk=>hk.2) (.slice Ao26 t436.length co26)) (fun _ h_=>h_.1))));(case side2=>exact (Kd.S_reads' HO435.out).2.1);(case side3=>refine (Kd.R_reads' (e:=3) (base:=w.heap.size) (ok:=fun k_=>(True ∧ some k_ ≠ (.slice Ao18 t428.length co18 : Value).ownBlock)) (n:=t436.length) (c:=co26) ?_).2.2;exact (by (with_reducible repeat (first|apply Kd.R_alloc|apply Kd.R_drewN|apply Kd.R_drew));exact (Kd.R_mono (Kd.R_far (p:=⟨gb439,1,none⟩) (Kd.R_far (p:=⟨gb439,0,none⟩) (Kd.R_types HO438.out BK439.out (by decide)) (fun _ hk=>hk.2) (.slice Ao23 t433.length co23)) (fun _ hk=>hk.2) (.slice Ao26 t436.length co26)) (fun _ h_=>h_.1))));(case side4=>exact (Kd.R_reads' HO438.out).2.1);rintro e w27 ⟨rfl,hb⟩;refine ⟨_,rfl,?_⟩;have n0_:=Aside0.mk (Kd.S_below (by (with_reducible repeat (first|apply Kd.S_alloc|apply Kd.S_drewN|apply Kd.S_drew));exact (Kd.S_mono (Kd.S_far (p:=⟨gb439,1,none⟩) (Kd.S_far (p:=⟨gb439,0,none⟩) (Kd.S_types HO427.out BK439.out (by decide)) (fun _ hk=>hk.2) (.slice Ao23 t433.length co23)) (fun _ hk=>hk.2) (.slice Ao26 t436.length co26)) (fun _ h_=>h_.1))) hb);have n1_:=Aside0.mk (Kd.R_below (by (with_reducible repeat (first|apply Kd.R_alloc|apply Kd.R_drewN|apply Kd.R_drew));exact (Kd.R_mono (Kd.R_far (p:=⟨gb439,1,none⟩) (Kd.R_far (p:=⟨gb439,0,none⟩) (Kd.R_types HO430.out BK439.out (by decide)) (fun _ hk=>hk.2) (.slice Ao23 t433.length co23)) (fun _ hk=>hk.2) (.slice Ao26 t436.length co26)) (fun _ h_=>h_.1))) hb);have n2_:=Aside0.mk (Kd.S_below (by (with_reducible repeat (first|apply Kd.S_alloc|apply Kd.S_drewN|apply Kd.S_drew));exact (Kd.S_mono (Kd.S_far (p:=⟨gb439,1,none⟩) (Kd.S_far (p:=⟨gb439,0,none⟩) (Kd.S_types HO435.out BK439.out (by decide)) (fun _ hk=>hk.2) (.slice Ao23 t433.length co23)) (fun _ hk=>hk.2) (.slice Ao26 t436.length co26)) (fun _ h_=>h_.1))) hb);have n3_:=Aside0.mk (Kd.R_below (by (with_reducible repeat (first|apply Kd.R_alloc|apply Kd.R_drewN|apply Kd.R_drew));exact (Kd.R_mono (Kd.R_far (p:=⟨gb439,1,none⟩) (Kd.R_far (p:=⟨gb439,0,none⟩) (Kd.R_types HO438.out BK439.out (by decide)) (fun _ hk=>hk.2) (.slice Ao23 t433.length co23)) (fun _ hk=>hk.2) (.slice Ao26 t436.length co26)) (fun _ h_=>h_.1))) hb);have n4_:=Aside0.mk (blk_below (g:=gb423) (o:=.cells #[.slice A0_0 l0_0.length c0_0,.slice A0_1 l0_1.length c0_1] 28 (0,0)) (by (with_reducible repeat (first|refine blk_drewN ?_ _|refine blk_drew ?_|refine blk_alloc ?_ _));refine blk_far ?_ NB423_439.out _;(with_reducible repeat (first|refine blk_drewN ?_ _|refine blk_drew ?_|refine blk_alloc ?_ _));refine blk_far ?_ NB423_439.out _;(with_reducible repeat (first|refine blk_drewN ?_ _|refine blk_drew ?_|refine blk_alloc ?_ _));exact BK423.out) hb);have n5_:=Aside0.mk (blk_below (g:=gb439) (o:=.cells #[.slice Ao23 t433.length co23,.slice Ao26 t436.length co26] 32 (0,0)) (by (with_reducible repeat (first|refine blk_drewN ?_ _|refine blk_drew ?_|refine blk_alloc ?_ _));refine blk_put (cs:=#[.slice Ao23 t433.length co23,.slice none 0 0]) ?_ 1 _ rfl;(with_reducible repeat (first|refine blk_drewN ?_ _|refine blk_drew ?_|refine blk_alloc ?_ _));refine blk_put (cs:=#[.slice none 0 0,.slice none 0 0]) ?_ 0 _ rfl;(with_reducible repeat (first|refine blk_drewN ?_ _|refine blk_drew ?_|refine blk_alloc ?_ _));exact BK439.out) hb);have n6_:=Aside0.mk (below_step (by repeat (first|(with_reducible first|exact HB.out|apply below_alloc|apply pw_below_drewN|apply below_drew1|refine below_set ?_ GE423.out|refine below_set ?_ GE439.out)|exact HB.out)) hb);clear HO427;clear HO430;clear HO435;clear HO438;clear BK423;clear BK439;clear HB;have HO427:=n0_;have HO430:=n1_;have HO435:=n2_;have HO438:=n3_;have BK423:=n4_;have BK439:=n5_;have HB:=n6_;clear n0_ n1_ n2_ n3_ n4_ n5_ n6_;(try clear hb);(try clear hb2);(try clear hk);(try clear hi)))
  (try simp only [Act.put,List.setIfInBounds_toArray,List.set_cons_zero,List.set_cons_succ])
  go_cut [34] (fun v34 wc=>∃ (kq : Nat) (x34_10 : Bool),v34 = .bool x34_10 ∧ Aside0 (laws_FnExactCanPart.j0 kq x34_10 l0_0 l0_1 t433 t436 = some r) ∧ Aside0 (kq ≤ k) ∧ Aside0 (Kd.S (Kd.slice 3 (Kd.int .i64)) 26 wc w.heap.size (fun k_=>some k_ ≠ ((.slice Ao26 t436.length co26) : Value).ownBlock) (.slice Ao23 t433.length co23) t433) ∧ Aside0 (Kd.R (Kd.int .i64) 3 wc w.heap.size (fun _=>True) (.slice Ao26 t436.length co26) t436) ∧ Aside0 (wc.heap[gb423]? = some (.cells #[(.slice A0_0 l0_0.length c0_0),(.slice A0_1 l0_1.length c0_1)] 28 (0,0))) ∧ Aside0 (wc.heap[gb439]? = some (.cells #[(.slice Ao23 t433.length co23),(.slice Ao26 t436.length co26)] 32 (0,0))) ∧ Aside0 (Below w.heap.size w wc))
  case first =>
   have H:=HC11.out
   clear HC11
   by_cases c28 : (t440 != t431) = true
   ·rw [if_pos c28] at H
    have c28b0 : (t440 != t431) = true:=c28
    (try (have c28b1 : decide (t440 = t431) = false:=by simpa using c28))
    (try (have c28b2 : (t440 == t431) = false:=by simpa using c28))
    (try (have c28b3 : ¬ (t440 = t431):=by simpa using c28))
    clear c28
    (first|rw [c28b0]|rw [c28b1]|(simp only [i64_w,i32_w];rw [c28b0])|skip)
    have H':=Aside0.mk H
    clear H
    go_wp2
    go_meet
    case rel=>exact ⟨_,(true),(by first|rfl|(simp;done)|(simp [*];done)),H',⟨by first|omega|exact Nat.le_refl _⟩,⟨by (with_reducible repeat (first|apply Kd.S_alloc|apply Kd.S_drewN|apply Kd.S_drew));exact Kd.S_mono HO435.out (fun _ hk=>hk.1.1)⟩,⟨by (with_reducible repeat (first|apply Kd.R_alloc|apply Kd.R_drewN|apply Kd.R_drew));exact Kd.R_mono HO438.out (fun _ hk=>trivial)⟩,⟨by (with_reducible repeat (first|refine blk_drewN ?_ _|refine blk_drew ?_|refine blk_alloc ?_ _));exact BK423.out⟩,⟨by (with_reducible repeat (first|refine blk_drewN ?_ _|refine blk_drew ?_|refine blk_alloc ?_ _));exact BK439.out⟩,⟨by repeat (first|(with_reducible first|exact HB.out|apply below_alloc|apply pw_below_drewN|apply below_drew1|refine below_set ?_ GE423.out|refine below_set ?_ GE439.out)|exact HB.out)⟩⟩
   ·rw [if_neg c28] at H
    have c28b0 : (t440 != t431) = false:=by simpa using c28
    (try (have c28b1 : decide (t440 = t431) = true:=by simpa using c28))
    (try (have c28b2 : (t440 == t431) = true:=by simpa using c28))
    clear c28
    (first|rw [c28b0]|rw [c28b1]|(simp only [i64_w,i32_w];rw [c28b0])|skip)
    have H':=Aside0.mk H
    clear H
    go_wp2
    go_meet
    case rel=>exact ⟨_,((t441 != t432)),(by first|rfl|(simp;done)|(simp [*];done)),H',⟨by first|omega|exact Nat.le_refl _⟩,⟨by (with_reducible repeat (first|apply Kd.S_alloc|apply Kd.S_drewN|apply Kd.S_drew));exact Kd.S_mono HO435.out (fun _ hk=>hk.1.1)⟩,⟨by (with_reducible repeat (first|apply Kd.R_alloc|apply Kd.R_drewN|apply Kd.R_drew));exact Kd.R_mono HO438.out (fun _ hk=>trivial)⟩,⟨by (with_reducible repeat (first|refine blk_drewN ?_ _|refine blk_drew ?_|refine blk_alloc ?_ _));exact BK423.out⟩,⟨by (with_reducible repeat (first|refine blk_drewN ?_ _|refine blk_drew ?_|refine blk_alloc ?_ _));exact BK439.out⟩,⟨by repeat (first|(with_reducible first|exact HB.out|apply below_alloc|apply pw_below_drewN|apply below_drew1|refine below_set ?_ GE423.out|refine below_set ?_ GE439.out)|exact HB.out)⟩⟩
  case rest =>
   clear HC11
   try clear c1
   try clear c2
   try clear p2
   try clear c3
   try clear c3b0
   try clear c7
   try clear c17
   try clear c19
   try clear c24
   try clear c28
   try clear c28b0
   try clear c28b1
   try clear c28b2
   try clear hcz13_0
   try clear hcz13_1
   try clear hcz15_0
   try clear hcz15_1
   try clear hcz20_0
   try clear hcz20_1
   try clear hcz25_0
   try clear hcz25_1
   try clear hcz5_0
   try clear hcz5_1
   try clear hfz13_0
   try clear hfz13_1
   try clear hfz15_0
   try clear hfz15_1
   try clear hfz20_0
   try clear hfz20_1
   try clear hfz25_0
   try clear hfz25_1
   try clear hfz5_0
   try clear hfz5_1
   obtain ⟨kq,x34_10,rfl,HA,HJ10,HO_440000,HO_440001,BK423,BK439,HB⟩:=hcut
   cases kq with
  |zero=>exact absurd HA.out (by simp [laws_FnExactCanPart.j0])
  |succ kj10 =>
    have H:=HA.out
    clear HA
    simp only [laws_FnExactCanPart.j0] at H
    by_cases c29 : x34_10 = true
    ·subst c29
     have H1 : (some false) = some r:=by rw [if_pos rfl] at H;exact H
     clear H
     have H:=H1
     clear H1
     obtain rfl:=Option.some.inj H
     go_wp2
     go_ret
     exact ⟨by first|rfl|(simp [errW_none,errW_some] <;> rfl)|(simp [*,errW_none,errW_some] <;> rfl),by repeat (first|(with_reducible first|exact HB.out|apply below_alloc|apply pw_below_drewN|apply below_drew1|refine below_set ?_ GE423.out|refine below_set ?_ GE439.out)|exact HB.out)⟩
    ·replace c29:=Bool.eq_false_iff.mpr c29
     subst c29
     have H1 : ((laws_toSample.f kj10 l0_0 l0_1).bind fun bt442=>((laws_eqSample.f kj10 t433 t436 bt442.1 bt442.2).bind fun t448=>(if t448 = true then (some true) else (some false)))) = some r:=by rw [if_neg (show ¬ (false = true) by decide)] at H;exact H
     clear H
     have H:=H1
     clear H1
     replace H:=Option.bind_eq_some_iff.mp H
     obtain ⟨⟨t442,t445⟩,A300,H⟩:=H
     replace H : ((laws_eqSample.f kj10 t433 t436 t442 t445).bind fun t448=>(if t448 = true then (some true) else (some false))) = some r:=H
     have A30:=Aside0.mk A300
     clear A300
     replace H:=Option.bind_eq_some_iff.mp H
     obtain ⟨t448,A310,H⟩:=H
     replace H : (if t448 = true then (some true) else (some false)) = some r:=H
     have A31:=Aside0.mk A310
     clear A310
     by_cases c32 : t448 = true
     ·subst c32
      have H1 : (some true) = some r:=by rw [if_pos rfl] at H;exact H
      clear H
      have H:=H1
      clear H1
      obtain rfl:=Option.some.inj H
      try go_wp2
      have n0_:=Aside0.mk (Kd.S_drew HO_440000.out)
      have n1_:=Aside0.mk (Kd.R_drew HO_440001.out)
      have n2_:=Aside0.mk (blk_drew BK423.out)
      have n3_:=Aside0.mk (blk_drew BK439.out)
      have n4_:=Aside0.mk (below_drew1 HB.out)
      clear HO_440000
      clear HO_440001
      clear BK423
      clear BK439
      clear HB
      have HO_440000:=n0_
      have HO_440001:=n1_
      have BK423:=n2_
      have BK439:=n3_
      have HB:=n4_
      clear n0_ n1_ n2_ n3_ n4_
      refine start_ (n:=5) (S:=fun w'=>w'.cell? ⟨gb439,0,none⟩ = some (.slice Ao23 t433.length co23) ∧ w'.cell? ⟨gb439,1,none⟩ = some (.slice Ao26 t436.length co26) ∧ w'.cell? ⟨gb423,0,none⟩ = some (.slice A0_0 l0_0.length c0_0) ∧ w'.cell? ⟨gb423,1,none⟩ = some (.slice A0_1 l0_1.length c0_1)) (ds:=[]) #[false,false,false,false,false] (by kernel_rfl) rfl rfl ⟨(blk_cell BK439.out 0).trans rfl,(blk_cell BK439.out 1).trans rfl,(blk_cell BK423.out 0).trans rfl,(blk_cell BK423.out 1).trans rfl⟩ (fun hHeld=>?_)
      generalize wc.drew = w33 at HO_440000 HO_440001 BK423 BK439 HB hHeld ⊢
      refine take_ (i:=0) (N:=some 35) (v:=?_) (a':=?_) #[true,false,false,false,false] rfl rfl (by kernel_rfl) (fun _ _ _ h=>h) (Or.inl ⟨by rfl,?_⟩) hHeld ?_ ?_
      rotate_left
      ·rintro w' ⟨s0,s1,s2,s3⟩
       go_simp
       with_reducible rfl
      rotate_left
      ·simp only [Act.put,List.setIfInBounds_toArray,List.set_cons_zero,List.set_cons_succ,i64_w,i32_w]
       rfl
      refine take_ (i:=1) (N:=some 36) (v:=?_) (a':=?_) #[true,true,false,false,false] rfl rfl (by kernel_rfl) (fun _ _ _ h=>h) (Or.inl ⟨by rfl,?_⟩) hHeld ?_ ?_
      rotate_left
      ·rintro w' ⟨s0,s1,s2,s3⟩
       go_simp
       with_reducible rfl
      rotate_left
      ·simp only [Act.put,List.setIfInBounds_toArray,List.set_cons_zero,List.set_cons_succ,i64_w,i32_w]
       rfl
      refine one_ (i:=2) (N:=some 37) #[true,true,true,false,false] rfl rfl (by kernel_rfl) (by decide) (fun K hK=>?_)
      refine goes_ Try.func19 (by kernel_rfl) rfl #[.agg #[.slice A0_0 l0_0.length c0_0,.slice A0_1 l0_1.length c0_1]] (by rfl) rfl rfl (by (try simp only [List.map_toArray,List.map_cons,List.map_nil]);first|done|rfl|(simp only [List.length_drop,List.length_take];rfl)) ?_
      with_reducible refine (laws_toSample.calls kj10 _ _ l0_0 _ _ l0_1 t442 t445 _ ?side1 ?side2 ?side3 ?side4 A30.out).mono ?_
      (case side1=>repeat (first|exact (Kd.C_below HR0_0.out HB.out)|(with_reducible refine Kd.C_alloc ?_ _)|(with_reducible refine Kd.C_drewN ?_ _)|(with_reducible refine Kd.C_drew ?_)))
      (case side2=>exact HC0_0.out)
      (case side3=>repeat (first|exact (Kd.C_below HR0_1.out HB.out)|(with_reducible refine Kd.C_alloc ?_ _)|(with_reducible refine Kd.C_drewN ?_ _)|(with_reducible refine Kd.C_drew ?_)))
      (case side4=>exact HC0_1.out)
      rintro e w34 ⟨v443,v446,rfl,ho0,ho1,hb⟩
      refine ⟨_,rfl,?_⟩
      have n0_:=Aside0.mk (Kd.S_mono (Kd.S_told (Kd.S_told (Kd.S_old (by (with_reducible repeat (first|apply Kd.S_alloc|apply Kd.S_drewN|apply Kd.S_drew));exact HO_440000.out) hb) (Kd.S_base ho0)) (Kd.R_base ho1)) (fun _ h_=>h_.1))
      have n1_:=Aside0.mk (Kd.R_elder' (by (with_reducible repeat (first|apply Kd.R_alloc|apply Kd.R_drewN|apply Kd.R_drew));exact HO_440001.out) (Kd.R_base ho1) hb)
      have n2_:=Aside0.mk (Kd.S_lower (Kd.S_new' (Kd.S_new' ho0 (Kd.S_lt (by (with_reducible repeat (first|apply Kd.S_alloc|apply Kd.S_drewN|apply Kd.S_drew));exact HO_440000.out))) (Kd.R_lt (by (with_reducible repeat (first|apply Kd.R_alloc|apply Kd.R_drewN|apply Kd.R_drew));exact HO_440001.out))) (below_size (by repeat (first|(with_reducible first|exact HB.out|apply below_alloc|apply pw_below_drewN|apply below_drew1|refine below_set ?_ GE423.out|refine below_set ?_ GE439.out)|exact HB.out))))
      have n3_:=Aside0.mk (Kd.R_lower (Kd.R_new' ho1 (Kd.R_lt (by (with_reducible repeat (first|apply Kd.R_alloc|apply Kd.R_drewN|apply Kd.R_drew));exact HO_440001.out))) (below_size (by repeat (first|(with_reducible first|exact HB.out|apply below_alloc|apply pw_below_drewN|apply below_drew1|refine below_set ?_ GE423.out|refine below_set ?_ GE439.out)|exact HB.out))))
      have n4_:=Aside0.mk (blk_below (g:=gb423) (o:=.cells #[.slice A0_0 l0_0.length c0_0,.slice A0_1 l0_1.length c0_1] 28 (0,0)) (by (with_reducible repeat (first|refine blk_drewN ?_ _|refine blk_drew ?_|refine blk_alloc ?_ _));exact BK423.out) hb)
      have n5_:=Aside0.mk (blk_below (g:=gb439) (o:=.cells #[.slice Ao23 t433.length co23,.slice Ao26 t436.length co26] 32 (0,0)) (by (with_reducible repeat (first|refine blk_drewN ?_ _|refine blk_drew ?_|refine blk_alloc ?_ _));exact BK439.out) hb)
      have n6_:=Aside0.mk (below_step (by repeat (first|(with_reducible first|exact HB.out|apply below_alloc|apply pw_below_drewN|apply below_drew1|refine below_set ?_ GE423.out|refine below_set ?_ GE439.out)|exact HB.out)) hb)
      clear HO_440000
      clear HO_440001
      clear BK423
      clear BK439
      clear HB
      have HO_440000:=n0_
      have HO_440001:=n1_
      have HO444:=n2_
      have HO447:=n3_
      have BK423:=n4_
      have BK439:=n5_
      have HB:=n6_
      clear n0_ n1_ n2_ n3_ n4_ n5_ n6_
      (try clear hb)
      (try clear hb2)
      (try clear hk)
      (try clear hi)
      (try clear ho0)
      (try clear ho1)
      obtain ⟨Ao35,co35,eo35⟩:=Kd.S_slice HO444.out
      (first|subst eo35|(injection eo35 with f1_ f2_ f3_;have f4_:=f1_.symm;have f5_:=f3_.symm;clear f1_ f2_ f3_;subst f4_;subst f5_))
      obtain ⟨Ao36,co36,eo36⟩:=Kd.R_slice HO447.out
      (first|subst eo36|(injection eo36 with f1_ f2_ f3_;have f4_:=f1_.symm;have f5_:=f3_.symm;clear f1_ f2_ f3_;subst f4_;subst f5_))
      refine hK.out _ _ ⟨(blk_cell BK439.out 0).trans rfl,(blk_cell BK439.out 1).trans rfl,(blk_cell BK423.out 0).trans rfl,(blk_cell BK423.out 1).trans rfl⟩ (fun hHeld=>?_)
      clear hK K
      refine norm_ (a':=?_) ?_ ?_
      rotate_left
      ·show Act.put _ (some 37) _ = _
       simp only [Act.put,List.setIfInBounds_toArray,List.set_cons_zero,List.set_cons_succ,i64_w,i32_w]
       rfl
      refine one_ (i:=3) (N:=some 38) #[true,true,true,true,false] rfl rfl (by kernel_rfl) (by decide) (fun K hK=>?_)
      refine goes_ Try.func22 (by kernel_rfl) rfl #[.agg #[.slice Ao23 t433.length co23,.slice Ao26 t436.length co26],.agg #[.slice Ao35 t442.length co35,.slice Ao36 t445.length co36]] (by rfl) rfl rfl (by (try simp only [List.map_toArray,List.map_cons,List.map_nil]);first|done|rfl|(simp only [List.length_drop,List.length_take];rfl)) ?_
      with_reducible refine (laws_eqSample.calls kj10 _ _ t433 _ _ t436 _ _ t442 _ _ t445 true _ ?side1 ?side2 ?side3 ?side4 ?side5 ?side6 ?side7 ?side8 A31.out).mono ?_
      (case side1=>repeat (first|exact (Kd.S_reads' HO_440000.out).2.2|(with_reducible refine Kd.C_alloc ?_ _)|(with_reducible refine Kd.C_drewN ?_ _)|(with_reducible refine Kd.C_drew ?_)))
      (case side2=>exact (Kd.S_reads' HO_440000.out).2.1)
      (case side3=>repeat (first|exact (Kd.R_reads' HO_440001.out).2.2|(with_reducible refine Kd.C_alloc ?_ _)|(with_reducible refine Kd.C_drewN ?_ _)|(with_reducible refine Kd.C_drew ?_)))
      (case side4=>exact (Kd.R_reads' HO_440001.out).2.1)
      (case side5=>repeat (first|exact (Kd.S_reads' HO444.out).2.2|(with_reducible refine Kd.C_alloc ?_ _)|(with_reducible refine Kd.C_drewN ?_ _)|(with_reducible refine Kd.C_drew ?_)))
      (case side6=>exact (Kd.S_reads' HO444.out).2.1)
      (case side7=>repeat (first|exact (Kd.R_reads' HO447.out).2.2|(with_reducible refine Kd.C_alloc ?_ _)|(with_reducible refine Kd.C_drewN ?_ _)|(with_reducible refine Kd.C_drew ?_)))
      (case side8=>exact (Kd.R_reads' HO447.out).2.1)
      rintro e w37 ⟨rfl,hb⟩
      refine ⟨_,rfl,?_⟩
      have n0_:=Aside0.mk (Kd.S_below (by (with_reducible repeat (first|apply Kd.S_alloc|apply Kd.S_drewN|apply Kd.S_drew));exact HO_440000.out) hb)
      have n1_:=Aside0.mk (Kd.R_below (by (with_reducible repeat (first|apply Kd.R_alloc|apply Kd.R_drewN|apply Kd.R_drew));exact HO_440001.out) hb)
      have n2_:=Aside0.mk (Kd.S_below (by (with_reducible repeat (first|apply Kd.S_alloc|apply Kd.S_drewN|apply Kd.S_drew));exact HO444.out) hb)
      have n3_:=Aside0.mk (Kd.R_below (by (with_reducible repeat (first|apply Kd.R_alloc|apply Kd.R_drewN|apply Kd.R_drew));exact HO447.out) hb)
      have n4_:=Aside0.mk (blk_below (g:=gb423) (o:=.cells #[.slice A0_0 l0_0.length c0_0,.slice A0_1 l0_1.length c0_1] 28 (0,0)) (by (with_reducible repeat (first|refine blk_drewN ?_ _|refine blk_drew ?_|refine blk_alloc ?_ _));exact BK423.out) hb)
      have n5_:=Aside0.mk (blk_below (g:=gb439) (o:=.cells #[.slice Ao23 t433.length co23,.slice Ao26 t436.length co26] 32 (0,0)) (by (with_reducible repeat (first|refine blk_drewN ?_ _|refine blk_drew ?_|refine blk_alloc ?_ _));exact BK439.out) hb)
      have n6_:=Aside0.mk (below_step (by repeat (first|(with_reducible first|exact HB.out|apply below_alloc|apply pw_below_drewN|apply below_drew1|refine below_set ?_ GE423.out|refine below_set ?_ GE439.out)|exact HB.out)) hb)
      clear HO_440000
      clear HO_440001
      clear HO444
      clear HO447
      clear BK423
      clear BK439
      clear HB
      have HO_440000:=n0_
      have HO_440001:=n1_
      have HO444:=n2_
      have HO447:=n3_
      have BK423:=n4_
      have BK439:=n5_
      have HB:=n6_
      clear n0_ n1_ n2_ n3_ n4_ n5_ n6_
      (try clear hb)
      (try clear hb2)
      (try clear hk)
      (try clear hi)
      refine hK.out _ _ ⟨(blk_cell BK439.out 0).trans rfl,(blk_cell BK439.out 1).trans rfl,(blk_cell BK423.out 0).trans rfl,(blk_cell BK423.out 1).trans rfl⟩ (fun hHeld=>?_)
      clear hK K
      refine norm_ (a':=?_) ?_ ?_
      rotate_left
      ·show Act.put _ (some 38) _ = _
       simp only [Act.put,List.setIfInBounds_toArray,List.set_cons_zero,List.set_cons_succ,i64_w,i32_w]
       rfl
      refine pure_ (i:=4) (N:=some 39) (v:=?_) (a':=?_) #[true,true,true,true,true] rfl rfl (by kernel_rfl) (fun _ _ _ h=>h) (Or.inl ⟨by rfl,?_⟩) ?_ ?_
      rotate_left
      ·intro w'
       go_simp
       with_reducible rfl
      rotate_left
      ·simp only [Act.put,List.setIfInBounds_toArray,List.set_cons_zero,List.set_cons_succ,i64_w,i32_w]
       rfl
      refine done_ (by kernel_rfl) ?_
      try go_wp2
      go_ret
      exact ⟨by first|rfl|(simp [errW_none,errW_some] <;> rfl)|(simp [*,errW_none,errW_some] <;> rfl),by repeat (first|(with_reducible first|exact HB.out|apply below_alloc|apply pw_below_drewN|apply below_drew1|refine below_set ?_ GE423.out|refine below_set ?_ GE439.out)|exact HB.out)⟩
     ·replace c32:=Bool.eq_false_iff.mpr c32
      subst c32
      have H1 : (some false) = some r:=by rw [if_neg (show ¬ (false = true) by decide)] at H;exact H
      clear H
      have H:=H1
      clear H1
      obtain rfl:=Option.some.inj H
      try go_wp2
      have n0_:=Aside0.mk (Kd.S_drew HO_440000.out)
      have n1_:=Aside0.mk (Kd.R_drew HO_440001.out)
      have n2_:=Aside0.mk (blk_drew BK423.out)
      have n3_:=Aside0.mk (blk_drew BK439.out)
      have n4_:=Aside0.mk (below_drew1 HB.out)
      clear HO_440000
      clear HO_440001
      clear BK423
      clear BK439
      clear HB
      have HO_440000:=n0_
      have HO_440001:=n1_
      have BK423:=n2_
      have BK439:=n3_
      have HB:=n4_
      clear n0_ n1_ n2_ n3_ n4_
      refine start_ (n:=5) (S:=fun w'=>w'.cell? ⟨gb439,0,none⟩ = some (.slice Ao23 t433.length co23) ∧ w'.cell? ⟨gb439,1,none⟩ = some (.slice Ao26 t436.length co26) ∧ w'.cell? ⟨gb423,0,none⟩ = some (.slice A0_0 l0_0.length c0_0) ∧ w'.cell? ⟨gb423,1,none⟩ = some (.slice A0_1 l0_1.length c0_1)) (ds:=[]) #[false,false,false,false,false] (by kernel_rfl) rfl rfl ⟨(blk_cell BK439.out 0).trans rfl,(blk_cell BK439.out 1).trans rfl,(blk_cell BK423.out 0).trans rfl,(blk_cell BK423.out 1).trans rfl⟩ (fun hHeld=>?_)
      generalize wc.drew = w38 at HO_440000 HO_440001 BK423 BK439 HB hHeld ⊢
      refine take_ (i:=0) (N:=some 35) (v:=?_) (a':=?_) #[true,false,false,false,false] rfl rfl (by kernel_rfl) (fun _ _ _ h=>h) (Or.inl ⟨by rfl,?_⟩) hHeld ?_ ?_
      rotate_left
      ·rintro w' ⟨s0,s1,s2,s3⟩
       go_simp
       with_reducible rfl
      rotate_left
      ·simp only [Act.put,List.setIfInBounds_toArray,List.set_cons_zero,List.set_cons_succ,i64_w,i32_w]
       rfl
      refine take_ (i:=1) (N:=some 36) (v:=?_) (a':=?_) #[true,true,false,false,false] rfl rfl (by kernel_rfl) (fun _ _ _ h=>h) (Or.inl ⟨by rfl,?_⟩) hHeld ?_ ?_
      rotate_left
      ·rintro w' ⟨s0,s1,s2,s3⟩
       go_simp
       with_reducible rfl
      rotate_left
      ·simp only [Act.put,List.setIfInBounds_toArray,List.set_cons_zero,List.set_cons_succ,i64_w,i32_w]
       rfl
      refine one_ (i:=2) (N:=some 37) #[true,true,true,false,false] rfl rfl (by kernel_rfl) (by decide) (fun K hK=>?_)
      refine goes_ Try.func19 (by kernel_rfl) rfl #[.agg #[.slice A0_0 l0_0.length c0_0,.slice A0_1 l0_1.length c0_1]] (by rfl) rfl rfl (by (try simp only [List.map_toArray,List.map_cons,List.map_nil]);first|done|rfl|(simp only [List.length_drop,List.length_take];rfl)) ?_
      with_reducible refine (laws_toSample.calls kj10 _ _ l0_0 _ _ l0_1 t442 t445 _ ?side1 ?side2 ?side3 ?side4 A30.out).mono ?_
      (case side1=>repeat (first|exact (Kd.C_below HR0_0.out HB.out)|(with_reducible refine Kd.C_alloc ?_ _)|(with_reducible refine Kd.C_drewN ?_ _)|(with_reducible refine Kd.C_drew ?_)))
      (case side2=>exact HC0_0.out)
      (case side3=>repeat (first|exact (Kd.C_below HR0_1.out HB.out)|(with_reducible refine Kd.C_alloc ?_ _)|(with_reducible refine Kd.C_drewN ?_ _)|(with_reducible refine Kd.C_drew ?_)))
      (case side4=>exact HC0_1.out)
      rintro e w39 ⟨v443,v446,rfl,ho0,ho1,hb⟩
      refine ⟨_,rfl,?_⟩
      have n0_:=Aside0.mk (Kd.S_mono (Kd.S_told (Kd.S_told (Kd.S_old (by (with_reducible repeat (first|apply Kd.S_alloc|apply Kd.S_drewN|apply Kd.S_drew));exact HO_440000.out) hb) (Kd.S_base ho0)) (Kd.R_base ho1)) (fun _ h_=>h_.1))
      have n1_:=Aside0.mk (Kd.R_elder' (by (with_reducible repeat (first|apply Kd.R_alloc|apply Kd.R_drewN|apply Kd.R_drew));exact HO_440001.out) (Kd.R_base ho1) hb)
      have n2_:=Aside0.mk (Kd.S_lower (Kd.S_new' (Kd.S_new' ho0 (Kd.S_lt (by (with_reducible repeat (first|apply Kd.S_alloc|apply Kd.S_drewN|apply Kd.S_drew));exact HO_440000.out))) (Kd.R_lt (by (with_reducible repeat (first|apply Kd.R_alloc|apply Kd.R_drewN|apply Kd.R_drew));exact HO_440001.out))) (below_size (by repeat (first|(with_reducible first|exact HB.out|apply below_alloc|apply pw_below_drewN|apply below_drew1|refine below_set ?_ GE423.out|refine below_set ?_ GE439.out)|exact HB.out))))
      have n3_:=Aside0.mk (Kd.R_lower (Kd.R_new' ho1 (Kd.R_lt (by (with_reducible repeat (first|apply Kd.R_alloc|apply Kd.R_drewN|apply Kd.R_drew));exact HO_440001.out))) (below_size (by repeat (first|(with_reducible first|exact HB.out|apply below_alloc|apply pw_below_drewN|apply below_drew1|refine below_set ?_ GE423.out|refine below_set ?_ GE439.out)|exact HB.out))))
      have n4_:=Aside0.mk (blk_below (g:=gb423) (o:=.cells #[.slice A0_0 l0_0.length c0_0,.slice A0_1 l0_1.length c0_1] 28 (0,0)) (by (with_reducible repeat (first|refine blk_drewN ?_ _|refine blk_drew ?_|refine blk_alloc ?_ _));exact BK423.out) hb)
      have n5_:=Aside0.mk (blk_below (g:=gb439) (o:=.cells #[.slice Ao23 t433.length co23,.slice Ao26 t436.length co26] 32 (0,0)) (by (with_reducible repeat (first|refine blk_drewN ?_ _|refine blk_drew ?_|refine blk_alloc ?_ _));exact BK439.out) hb)
      have n6_:=Aside0.mk (below_step (by repeat (first|(with_reducible first|exact HB.out|apply below_alloc|apply pw_below_drewN|apply below_drew1|refine below_set ?_ GE423.out|refine below_set ?_ GE439.out)|exact HB.out)) hb)
      clear HO_440000
      clear HO_440001
      clear BK423
      clear BK439
      clear HB
      have HO_440000:=n0_
      have HO_440001:=n1_
      have HO444:=n2_
      have HO447:=n3_
      have BK423:=n4_
      have BK439:=n5_
      have HB:=n6_
      clear n0_ n1_ n2_ n3_ n4_ n5_ n6_
      (try clear hb)
      (try clear hb2)
      (try clear hk)
      (try clear hi)
      (try clear ho0)
      (try clear ho1)
      obtain ⟨Ao40,co40,eo40⟩:=Kd.S_slice HO444.out
      (first|subst eo40|(injection eo40 with f1_ f2_ f3_;have f4_:=f1_.symm;have f5_:=f3_.symm;clear f1_ f2_ f3_;subst f4_;subst f5_))
      obtain ⟨Ao41,co41,eo41⟩:=Kd.R_slice HO447.out
      (first|subst eo41|(injection eo41 with f1_ f2_ f3_;have f4_:=f1_.symm;have f5_:=f3_.symm;clear f1_ f2_ f3_;subst f4_;subst f5_))
      refine hK.out _ _ ⟨(blk_cell BK439.out 0).trans rfl,(blk_cell BK439.out 1).trans rfl,(blk_cell BK423.out 0).trans rfl,(blk_cell BK423.out 1).trans rfl⟩ (fun hHeld=>?_)
      clear hK K
      refine norm_ (a':=?_) ?_ ?_
      rotate_left
      ·show Act.put _ (some 37) _ = _
       simp only [Act.put,List.setIfInBounds_toArray,List.set_cons_zero,List.set_cons_succ,i64_w,i32_w]
       rfl
      refine one_ (i:=3) (N:=some 38) #[true,true,true,true,false] rfl rfl (by kernel_rfl) (by decide) (fun K hK=>?_)
      refine goes_ Try.func22 (by kernel_rfl) rfl #[.agg #[.slice Ao23 t433.length co23,.slice Ao26 t436.length co26],.agg #[.slice Ao40 t442.length co40,.slice Ao41 t445.length co41]] (by rfl) rfl rfl (by (try simp only [List.map_toArray,List.map_cons,List.map_nil]);first|done|rfl|(simp only [List.length_drop,List.length_take];rfl)) ?_
      with_reducible refine (laws_eqSample.calls kj10 _ _ t433 _ _ t436 _ _ t442 _ _ t445 false _ ?side1 ?side2 ?side3 ?side4 ?side5 ?side6 ?side7 ?side8 A31.out).mono ?_
      (case side1=>repeat (first|exact (Kd.S_reads' HO_440000.out).2.2|(with_reducible refine Kd.C_alloc ?_ _)|(with_reducible refine Kd.C_drewN ?_ _)|(with_reducible refine Kd.C_drew ?_)))
      (case side2=>exact (Kd.S_reads' HO_440000.out).2.1)
      (case side3=>repeat (first|exact (Kd.R_reads' HO_440001.out).2.2|(with_reducible refine Kd.C_alloc ?_ _)|(with_reducible refine Kd.C_drewN ?_ _)|(with_reducible refine Kd.C_drew ?_)))
      (case side4=>exact (Kd.R_reads' HO_440001.out).2.1)
      (case side5=>repeat (first|exact (Kd.S_reads' HO444.out).2.2|(with_reducible refine Kd.C_alloc ?_ _)|(with_reducible refine Kd.C_drewN ?_ _)|(with_reducible refine Kd.C_drew ?_)))
      (case side6=>exact (Kd.S_reads' HO444.out).2.1)
      (case side7=>repeat (first|exact (Kd.R_reads' HO447.out).2.2|(with_reducible refine Kd.C_alloc ?_ _)|(with_reducible refine Kd.C_drewN ?_ _)|(with_reducible refine Kd.C_drew ?_)))
      (case side8=>exact (Kd.R_reads' HO447.out).2.1)
      rintro e w42 ⟨rfl,hb⟩
      refine ⟨_,rfl,?_⟩
      have n0_:=Aside0.mk (Kd.S_below (by (with_reducible repeat (first|apply Kd.S_alloc|apply Kd.S_drewN|apply Kd.S_drew));exact HO_440000.out) hb)
      have n1_:=Aside0.mk (Kd.R_below (by (with_reducible repeat (first|apply Kd.R_alloc|apply Kd.R_drewN|apply Kd.R_drew));exact HO_440001.out) hb)
      have n2_:=Aside0.mk (Kd.S_below (by (with_reducible repeat (first|apply Kd.S_alloc|apply Kd.S_drewN|apply Kd.S_drew));exact HO444.out) hb)
      have n3_:=Aside0.mk (Kd.R_below (by (with_reducible repeat (first|apply Kd.R_alloc|apply Kd.R_drewN|apply Kd.R_drew));exact HO447.out) hb)
      have n4_:=Aside0.mk (blk_below (g:=gb423) (o:=.cells #[.slice A0_0 l0_0.length c0_0,.slice A0_1 l0_1.length c0_1] 28 (0,0)) (by (with_reducible repeat (first|refine blk_drewN ?_ _|refine blk_drew ?_|refine blk_alloc ?_ _));exact BK423.out) hb)
      have n5_:=Aside0.mk (blk_below (g:=gb439) (o:=.cells #[.slice Ao23 t433.length co23,.slice Ao26 t436.length co26] 32 (0,0)) (by (with_reducible repeat (first|refine blk_drewN ?_ _|refine blk_drew ?_|refine blk_alloc ?_ _));exact BK439.out) hb)
      have n6_:=Aside0.mk (below_step (by repeat (first|(with_reducible first|exact HB.out|apply below_alloc|apply pw_below_drewN|apply below_drew1|refine below_set ?_ GE423.out|refine below_set ?_ GE439.out)|exact HB.out)) hb)
      clear HO_440000
      clear HO_440001
      clear HO444
      clear HO447
      clear BK423
      clear BK439
      clear HB
      have HO_440000:=n0_
      have HO_440001:=n1_
      have HO444:=n2_
      have HO447:=n3_
      have BK423:=n4_
      have BK439:=n5_
      have HB:=n6_
      clear n0_ n1_ n2_ n3_ n4_ n5_ n6_
      (try clear hb)
      (try clear hb2)
      (try clear hk)
      (try clear hi)
      refine hK.out _ _ ⟨(blk_cell BK439.out 0).trans rfl,(blk_cell BK439.out 1).trans rfl,(blk_cell BK423.out 0).trans rfl,(blk_cell BK423.out 1).trans rfl⟩ (fun hHeld=>?_)
      clear hK K
      refine norm_ (a':=?_) ?_ ?_
      rotate_left
      ·show Act.put _ (some 38) _ = _
       simp only [Act.put,List.setIfInBounds_toArray,List.set_cons_zero,List.set_cons_succ,i64_w,i32_w]
       rfl
      refine pure_ (i:=4) (N:=some 39) (v:=?_) (a':=?_) #[true,true,true,true,true] rfl rfl (by kernel_rfl) (fun _ _ _ h=>h) (Or.inl ⟨by rfl,?_⟩) ?_ ?_
      rotate_left
      ·intro w'
       go_simp
       with_reducible rfl
      rotate_left
      ·simp only [Act.put,List.setIfInBounds_toArray,List.set_cons_zero,List.set_cons_succ,i64_w,i32_w]
       rfl
      refine done_ (by kernel_rfl) ?_
      try go_wp2
      go_ret
      exact ⟨by first|rfl|(simp [errW_none,errW_some] <;> rfl)|(simp [*,errW_none,errW_some] <;> rfl),by repeat (first|(with_reducible first|exact HB.out|apply below_alloc|apply pw_below_drewN|apply below_drew1|refine below_set ?_ GE423.out|refine below_set ?_ GE439.out)|exact HB.out)⟩
end Go.Proofs.Ytdjclffkidoohaa.QFnExactCanPart
