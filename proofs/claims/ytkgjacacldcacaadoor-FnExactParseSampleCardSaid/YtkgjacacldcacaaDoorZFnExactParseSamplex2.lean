/- Some of the functions that the law reaches, and what they tell; no condition. -/
import Derived.Test.YtkgjacacldcacaaDoorVFnExactParseSample
import Derived.Test.YtkgjacacldcacaaDoorZFnExactParseSamplex0
import Derived.Test.YtkgjacacldcacaaDoorZFnExactParseSamplex1
namespace Go.Proofs.YtkgjacacldcacaaDoor.QFnExactParseSample
open Go.RowKit Go.Proofs.YtkgjacacldcacaaDoorW.PrintWords Go.Proofs.YtkgjacacldcacaaDoorW.PrintLast Go.Proofs.YtkgjacacldcacaaDoorW.PrintMore
attribute [local go_sem] max2_int min2_int max_two min_two max_three min_three max_four min_four   -- for this text's walks alone
set_option linter.unusedVariables false
set_option linter.unusedSimpArgs false
def spec_l2Point.f (k : Nat) (l0 : List Int) : Option (Bool):=(spec_l1In.f (l0.length : Int) 1 4).bind fun t123=>(if t123 = true then ((spec_l2Numbers.f k l0 9).bind fun t124=>(some t124)) else (some false))
set_option maxHeartbeats 8000000 in
set_option maxRecDepth 100000 in
theorem spec_l2Point.calls (k : Nat) (A0 : Option Addr) (c0 : Nat) (l0 : List Int) (r : Bool) (w : World) (hr0 : Kd.C (Kd.int .i64) w A0 l0.length l0) (hc0 : l0.length ≤ c0) (h : spec_l2Point.f k l0 = some r) :
  Calls Tryd.prog 89 #[.slice A0 l0.length c0] w fun e w'=>e = .returned (.bool r) ∧ Drawn0 w w':=by
 have HR0:=Aside0.mk hr0;have HC0:=Aside0.mk hc0;clear hr0 hc0;have H : ((spec_l1In.f (l0.length : Int) 1 4).bind fun t123=>(if t123 = true then ((spec_l2Numbers.f k l0 9).bind fun t124=>(some t124)) else (some false))) = some r:=h;clear h;replace H:=Option.bind_eq_some_iff.mp H;obtain ⟨t123,A20,H⟩:=H;replace H : (if t123 = true then ((spec_l2Numbers.f k l0 9).bind fun t124=>(some t124)) else (some false)) = some r:=H;have A2:=Aside0.mk A20;clear A20;(by_cases c3 : t123 = true);(·subst c3;(have H1 : ((spec_l2Numbers.f k l0 9).bind fun t124=>(some t124)) = some r:=by rw [if_pos rfl] at H;exact H);clear H;have H:=H1;clear H1;replace H:=Option.bind_eq_some_iff.mp H;obtain ⟨t124,A40,H⟩:=H;replace H : (some t124) = some r:=H;have A4:=Aside0.mk A40;clear A40;obtain rfl:=Option.some.inj H;(go_enter Tryd.func89,Tryd.ntmps89);(go_wp2_with (first|((with_reducible refine gate_callee (f:=46) rfl ?_);refine goesL_ (some 5) rfl rfl Tryd.func46 (by kernel_rfl) rfl #[.int .i64 (l0.length : Int),.int .i64 1,.int .i64 4] rfl (by (try simp only [List.map_toArray,List.map_cons,List.map_nil]);first|done|rfl|(simp only [List.length_drop,List.length_take];rfl)) ?_;(with_reducible refine (spec_l1In.calls (l0.length : Int) 1 4 true _ A2.out).mono ?_);rintro e w' ⟨rfl,⟨nd,rfl⟩⟩;refine ⟨_,rfl,?_⟩)|(go_at_call 105;(with_reducible refine (spec_l2Numbers.calls k _ _ l0 9 t124 _ ?side1 ?side2 A4.out).mono ?_);(case side1=>repeat (first|exact HR0.out|(with_reducible refine Kd.C_alloc ?_ _)|(with_reducible refine Kd.C_drewN ?_ _)|(with_reducible refine Kd.C_drew ?_)));(case side2=>exact HC0.out);rintro e w' ⟨rfl,⟨nd,rfl⟩⟩)));(go_ret);exact ⟨by first|rfl|(simp;done)|(simp [*];done),by repeat (first|exact Drawn0.refl _|apply Drawn0.step)⟩);(·replace c3:=Bool.eq_false_iff.mpr c3;subst c3;(have H1 : (some false) = some r:=by rw [if_neg (show ¬ (false = true) by decide)] at H;exact H);clear H;have H:=H1;clear H1;obtain rfl:=Option.some.inj H;(go_enter Tryd.func89,Tryd.ntmps89);(go_wp2_with (first|((with_reducible refine gate_callee (f:=46) rfl ?_);refine goesL_ (some 5) rfl rfl Tryd.func46 (by kernel_rfl) rfl #[.int .i64 (l0.length : Int),.int .i64 1,.int .i64 4] rfl (by (try simp only [List.map_toArray,List.map_cons,List.map_nil]);first|done|rfl|(simp only [List.length_drop,List.length_take];rfl)) ?_;(with_reducible refine (spec_l1In.calls (l0.length : Int) 1 4 false _ A2.out).mono ?_);rintro e w' ⟨rfl,⟨nd,rfl⟩⟩;refine ⟨_,rfl,?_⟩)));(go_ret);exact ⟨by first|rfl|(simp;done)|(simp [*];done),by repeat (first|exact Drawn0.refl _|apply Drawn0.step)⟩)
mutual
def spec_l2Sample.j0 : Nat → Bool → List (List Int) → List Int → Option (Bool)
|0,_,_,_=>none
|k + 1,x22,x126000,x126001=>if x22 = true then (some false) else (spec_l2Sample.l0 k 0 x126000 x126001)
def spec_l2Sample.l0 : Nat → Int → List (List Int) → List Int → Option (Bool)
|0,_,_,_=>none
|k + 1,x3,x126000,x126001=>if x3 < (x126000.length : Int) then (if 0 ≤ x3 then ((spec_l2Point.f k (rd_L1 x126000 x3)).bind fun t128=>(if t128 = true then (if 0 < (x126000.length : Int) then (if ((rd_L1 x126000 x3).length : Int) = ((rd_L1 x126000 0).length : Int) then (spec_l2Sample.l0 k (wrap64 (x3 + 1)) x126000 x126001) else (some false)) else (none)) else (some false))) else (none)) else (some true)
end
def spec_l2Sample.f (k : Nat) (l0_0 : List (List Int)) (l0_1 : List Int) : Option (Bool):=if (l0_0.length : Int) > 16 then (spec_l2Sample.j0 k true l0_0 l0_1) else (if (l0_1.length : Int) = (l0_0.length : Int) then ((spec_l2Labels.f k l0_1).bind fun t126=>(spec_l2Sample.j0 k (!t126) l0_0 l0_1)) else (spec_l2Sample.j0 k true l0_0 l0_1))
set_option maxHeartbeats 8000000 in
set_option maxRecDepth 100000 in
theorem spec_l2Sample.calls (k : Nat) (A0_0 : Option Addr) (c0_0 : Nat) (l0_0 : List (List Int)) (A0_1 : Option Addr) (c0_1 : Nat) (l0_1 : List Int) (r : Bool) (w : World) (hr0_0 : Kd.C (Kd.slice 3 (Kd.int .i64)) w A0_0 l0_0.length l0_0) (hc0_0 : l0_0.length ≤ c0_0) (hr0_1 : Kd.C (Kd.int .i64) w A0_1 l0_1.length l0_1) (hc0_1 : l0_1.length ≤ c0_1) (h : spec_l2Sample.f k l0_0 l0_1 = some r) :
  Calls Tryd.prog 62 #[.agg #[.slice A0_0 l0_0.length c0_0,.slice A0_1 l0_1.length c0_1]] w fun e w'=>e = .returned (.bool r) ∧ Below w.heap.size w w':=by
 have hu41:=Tryd.underlying41;have HR0_0:=Aside0.mk hr0_0;have HC0_0:=Aside0.mk hc0_0;clear hr0_0 hc0_0;have HR0_1:=Aside0.mk hr0_1;have HC0_1:=Aside0.mk hc0_1;clear hr0_1 hc0_1;have HB:=Aside0.mk (Below.refl w.heap.size w);have H : (if (l0_0.length : Int) > 16 then (spec_l2Sample.j0 k true l0_0 l0_1) else (if (l0_1.length : Int) = (l0_0.length : Int) then ((spec_l2Labels.f k l0_1).bind fun t126=>(spec_l2Sample.j0 k (!t126) l0_0 l0_1)) else (spec_l2Sample.j0 k true l0_0 l0_1))) = some r:=h;clear h;have HC2:=Aside0.mk H;clear H;(go_enter Tryd.func62,Tryd.ntmps62);(go_upto_region 1 with (first|((with_reducible refine gate_dst (N:=1) rfl ?_);(try (refine gate_guard (by rfl) ?_;dsimp only));refine box_event ?hg (N:=1) ?hd (cs:=#[.slice A0_0 l0_0.length c0_0,.slice A0_1 l0_1.length c0_1]) (t:=41) ?hr ?_;(case hd=>rfl);(case hg=>rfl);(case hr=>first|(go_simp;done)|(go_simp;rfl));intro gb125 hg w3 hbox hb;have BK125:=Aside0.mk (hbox);have GW125:=Aside0.mk ((by rw [hg];exact (below_size (by repeat (first|(with_reducible first|exact HB.out|apply below_alloc|apply pw_below_drewN|apply below_drew1)|exact HB.out|exact Below.refl _ _))) : w.heap.size ≤ gb125));have GE125:=Aside0.mk ((by rw [hg];exact (below_size (by repeat (first|(with_reducible first|exact HB.out|apply below_alloc|apply pw_below_drewN|apply below_drew1)|exact HB.out|exact Below.refl _ _))) : w.heap.size ≤ gb125));replace HB:=Aside0.mk (below_step (by repeat (first|(with_reducible first|exact HB.out|apply below_alloc|apply pw_below_drewN|apply below_drew1)|exact HB.out|exact Below.refl _ _)) hb);clear hb hbox hg)));(repeat (go_quiet (first|((with_reducible refine gate_dst (N:=1) rfl ?_);(try (refine gate_guard (by rfl) ?_;dsimp only));refine box_event ?hg (N:=1) ?hd (cs:=#[.slice A0_0 l0_0.length c0_0,.slice A0_1 l0_1.length c0_1]) (t:=41) ?hr ?_;(case hd=>rfl);(case hg=>rfl);(case hr=>first|(go_simp;done)|(go_simp;rfl));intro gb125 hg w3 hbox hb;have BK125:=Aside0.mk (hbox);have GW125:=Aside0.mk ((by rw [hg];exact (below_size (by repeat (first|(with_reducible first|exact HB.out|apply below_alloc|apply pw_below_drewN|apply below_drew1)|exact HB.out|exact Below.refl _ _))) : w.heap.size ≤ gb125));have GE125:=Aside0.mk ((by rw [hg];exact (below_size (by repeat (first|(with_reducible first|exact HB.out|apply below_alloc|apply pw_below_drewN|apply below_drew1)|exact HB.out|exact Below.refl _ _))) : w.heap.size ≤ gb125));replace HB:=Aside0.mk (below_step (by repeat (first|(with_reducible first|exact HB.out|apply below_alloc|apply pw_below_drewN|apply below_drew1)|exact HB.out|exact Below.refl _ _)) hb);clear hb hbox hg));go_upto_region 1 with (first|((with_reducible refine gate_dst (N:=1) rfl ?_);(try (refine gate_guard (by rfl) ?_;dsimp only));refine box_event ?hg (N:=1) ?hd (cs:=#[.slice A0_0 l0_0.length c0_0,.slice A0_1 l0_1.length c0_1]) (t:=41) ?hr ?_;(case hd=>rfl);(case hg=>rfl);(case hr=>first|(go_simp;done)|(go_simp;rfl));intro gb125 hg w3 hbox hb;have BK125:=Aside0.mk (hbox);have GW125:=Aside0.mk ((by rw [hg];exact (below_size (by repeat (first|(with_reducible first|exact HB.out|apply below_alloc|apply pw_below_drewN|apply below_drew1)|exact HB.out|exact Below.refl _ _))) : w.heap.size ≤ gb125));have GE125:=Aside0.mk ((by rw [hg];exact (below_size (by repeat (first|(with_reducible first|exact HB.out|apply below_alloc|apply pw_below_drewN|apply below_drew1)|exact HB.out|exact Below.refl _ _))) : w.heap.size ≤ gb125));replace HB:=Aside0.mk (below_step (by repeat (first|(with_reducible first|exact HB.out|apply below_alloc|apply pw_below_drewN|apply below_drew1)|exact HB.out|exact Below.refl _ _)) hb);clear hb hbox hg))));(try simp only [Act.put,List.setIfInBounds_toArray,List.set_cons_zero,List.set_cons_succ]);(go_cut [22] (fun v22 wc=>∃ (kq : Nat) (x22_1 : Bool),v22 = .bool x22_1 ∧ Aside0 (spec_l2Sample.j0 kq x22_1 l0_0 l0_1 = some r) ∧ Aside0 (kq ≤ k) ∧ Aside0 (wc.heap[gb125]? = some (.cells #[(.slice A0_0 l0_0.length c0_0),(.slice A0_1 l0_1.length c0_1)] 41 (0,0))) ∧ Aside0 (Below w.heap.size w wc)))
 case first =>
  have H:=HC2.out;clear HC2;(by_cases c4 : (l0_0.length : Int) > 16);(·rw [if_pos c4] at H;have c4b0 : decide (16 < (l0_0.length : Int)) = true:=decide_eq_true c4;have c4b1 : decide (16 < l0_0.length) = true:=decide_eq_true (by omega);clear c4;(first|rw [c4b0]|rw [c4b1]|(simp only [i64_w,i32_w];rw [c4b0])|skip);have H':=Aside0.mk H;clear H;have hcz5_0 : w3.cell? ⟨gb125,0,none⟩ = some (.slice A0_0 l0_0.length c0_0):=(blk_cell BK125.out 0).trans rfl;have hcz5_1 : w3.cell? ⟨gb125,1,none⟩ = some (.slice A0_1 l0_1.length c0_1):=(blk_cell BK125.out 1).trans rfl;have hfz5_0:=blk_frozen BK125.out 0;have hfz5_1:=blk_frozen BK125.out 1;(go_wp2);(repeat (go_quiet (fail);try go_wp2));(go_meet);(case rel=>exact ⟨_,(true),(by first|rfl|(simp;done)|(simp [*];done)),H',⟨by first|omega|exact Nat.le_refl _⟩,⟨by (with_reducible repeat (first|refine blk_drewN ?_ _|refine blk_drew ?_|refine blk_alloc ?_ _));exact BK125.out⟩,⟨by repeat (first|(with_reducible first|exact HB.out|apply below_alloc|apply pw_below_drewN|apply below_drew1|refine below_set ?_ GE125.out)|exact HB.out)⟩⟩));(·rw [if_neg c4] at H;have c4b0 : decide (16 < (l0_0.length : Int)) = false:=decide_eq_false c4;have c4b1 : decide (16 < l0_0.length) = false:=decide_eq_false (by omega);clear c4;(first|rw [c4b0]|rw [c4b1]|(simp only [i64_w,i32_w];rw [c4b0])|skip);(by_cases c6 : (l0_1.length : Int) = (l0_0.length : Int));(·rw [if_pos c6] at H;have c6b0 : ((l0_1.length : Int) == (l0_0.length : Int)) = true:=beq_iff_eq.mpr c6;have c6b1 : ((l0_1.length : Int) != (l0_0.length : Int)) = false:=bne_eq_false_iff_eq.mpr c6;(have c6b2 : (l0_1.length == l0_0.length) = true:=by first|simpa using c6|(simp at c6 ⊢;omega));clear c6;replace H:=Option.bind_eq_some_iff.mp H;obtain ⟨t126,A70,H⟩:=H;replace H : (spec_l2Sample.j0 k (!t126) l0_0 l0_1) = some r:=H;have A7:=Aside0.mk A70;clear A70;have H':=Aside0.mk H;clear H;have hcz8_0 : w3.cell? ⟨gb125,0,none⟩ = some (.slice A0_0 l0_0.length c0_0):=(blk_cell BK125.out 0).trans rfl;have hcz8_1 : w3.cell? ⟨gb125,1,none⟩ = some (.slice A0_1 l0_1.length c0_1):=(blk_cell BK125.out 1).trans rfl;have hfz8_0:=blk_frozen BK125.out 0;have hfz8_1:=blk_frozen BK125.out 1;(go_wp2_with (first|(go_at_call 88;(with_reducible refine (spec_l2Labels.calls k _ _ l0_1 t126 _ ?side1 ?side2 A7.out).mono ?_);(case side1=>repeat (first|exact (Kd.C_below HR0_1.out HB.out)|(with_reducible refine Kd.C_alloc ?_ _)|(with_reducible refine Kd.C_drewN ?_ _)|(with_reducible refine Kd.C_drew ?_)));(case side2=>exact HC0_1.out);rintro e w' ⟨rfl,⟨nd,rfl⟩⟩;(try first|exact ⟨rfl,_,World.drewN_drewN _ _ _⟩|exact ⟨rfl,_,Eq.trans (World.drewN_drewN _ _ _) (congrArg (World.drewN _) (Nat.add_assoc _ _ _))⟩))));(repeat (go_quiet (first|(go_at_call 88;(with_reducible refine (spec_l2Labels.calls k _ _ l0_1 t126 _ ?side1 ?side2 A7.out).mono ?_);(case side1=>repeat (first|exact (Kd.C_below HR0_1.out HB.out)|(with_reducible refine Kd.C_alloc ?_ _)|(with_reducible refine Kd.C_drewN ?_ _)|(with_reducible refine Kd.C_drew ?_)));(case side2=>exact HC0_1.out);rintro e w' ⟨rfl,⟨nd,rfl⟩⟩;(try first|exact ⟨rfl,_,World.drewN_drewN _ _ _⟩|exact ⟨rfl,_,Eq.trans (World.drewN_drewN _ _ _) (congrArg (World.drewN _) (Nat.add_assoc _ _ _))⟩)));try go_wp2_with (first|(go_at_call 88;(with_reducible refine (spec_l2Labels.calls k _ _ l0_1 t126 _ ?side1 ?side2 A7.out).mono ?_);(case side1=>repeat (first|exact (Kd.C_below HR0_1.out HB.out)|(with_reducible refine Kd.C_alloc ?_ _)|(with_reducible refine Kd.C_drewN ?_ _)|(with_reducible refine Kd.C_drew ?_)));(case side2=>exact HC0_1.out);rintro e w' ⟨rfl,⟨nd,rfl⟩⟩;(try first|exact ⟨rfl,_,World.drewN_drewN _ _ _⟩|exact ⟨rfl,_,Eq.trans (World.drewN_drewN _ _ _) (congrArg (World.drewN _) (Nat.add_assoc _ _ _))⟩)))));(go_meet);(case rel=>exact ⟨_,(!t126),(by first|rfl|(simp;done)|(simp [*];done)),H',⟨by first|omega|exact Nat.le_refl _⟩,⟨by (with_reducible repeat (first|refine blk_drewN ?_ _|refine blk_drew ?_|refine blk_alloc ?_ _));exact BK125.out⟩,⟨by repeat (first|(with_reducible first|exact HB.out|apply below_alloc|apply pw_below_drewN|apply below_drew1|refine below_set ?_ GE125.out)|exact HB.out)⟩⟩));(·rw [if_neg c6] at H;have c6b0 : ((l0_1.length : Int) == (l0_0.length : Int)) = false:=beq_eq_false_iff_ne.mpr c6;have c6b1 : ((l0_1.length : Int) != (l0_0.length : Int)) = true:=bne_iff_ne.mpr c6;(have c6b2 : (l0_1.length == l0_0.length) = false:=by first|simpa using c6|(simp at c6 ⊢;omega));have H':=Aside0.mk H;clear H;have hcz9_0 : w3.cell? ⟨gb125,0,none⟩ = some (.slice A0_0 l0_0.length c0_0):=(blk_cell BK125.out 0).trans rfl;have hcz9_1 : w3.cell? ⟨gb125,1,none⟩ = some (.slice A0_1 l0_1.length c0_1):=(blk_cell BK125.out 1).trans rfl;have hfz9_0:=blk_frozen BK125.out 0;have hfz9_1:=blk_frozen BK125.out 1;(go_wp2);(repeat (go_quiet (fail);try go_wp2));(go_meet);(case rel=>exact ⟨_,(true),(by first|rfl|(simp;done)|(simp [*];done)),H',⟨by first|omega|exact Nat.le_refl _⟩,⟨by (with_reducible repeat (first|refine blk_drewN ?_ _|refine blk_drew ?_|refine blk_alloc ?_ _));exact BK125.out⟩,⟨by repeat (first|(with_reducible first|exact HB.out|apply below_alloc|apply pw_below_drewN|apply below_drew1|refine below_set ?_ GE125.out)|exact HB.out)⟩⟩)))
 case rest =>
  clear HC2;(try clear p2);(try clear c4);(try clear c4b0);(try clear c4b1);(try clear c6);(try clear c6b0);(try clear c6b1);(try clear c6b2);(try clear hcz5_0);(try clear hcz5_1);(try clear hcz8_0);(try clear hcz8_1);(try clear hcz9_0);(try clear hcz9_1);(try clear hfz5_0);(try clear hfz5_1);(try clear hfz8_0);(try clear hfz8_1);(try clear hfz9_0);(try clear hfz9_1);obtain ⟨kq,x22_1,rfl,HA,HJ1,BK125,HB⟩:=hcut
  cases kq with
 |zero=>exact absurd HA.out (by simp [spec_l2Sample.j0])
 |succ kj1 =>
   have H:=HA.out;clear HA;(simp only [spec_l2Sample.j0] at H);(by_cases c10 : x22_1 = true);(·subst c10;(have H1 : (some false) = some r:=by rw [if_pos rfl] at H;exact H);clear H;have H:=H1;clear H1;obtain rfl:=Option.some.inj H;(go_wp2);(repeat (go_quiet (fail);try go_wp2));(go_ret);exact ⟨by first|rfl|(simp [errW_none,errW_some] <;> rfl)|(simp [*,errW_none,errW_some] <;> rfl),by repeat (first|(with_reducible first|exact HB.out|apply below_alloc|apply pw_below_drewN|apply below_drew1|refine below_set ?_ GE125.out)|exact HB.out)⟩)
   ·replace c10:=Bool.eq_false_iff.mpr c10;subst c10;(have H1 : (spec_l2Sample.l0 kj1 0 l0_0 l0_1) = some r:=by rw [if_neg (show ¬ (false = true) by decide)] at H;exact H);clear H;have H:=H1;clear H1;have H':=Aside0.mk H;clear H;(go_wp2);(repeat (go_quiet (fail);try go_wp2));(go_loopg [3] kj1 (fun kq v3 w'=>∃ (x3_2 : Int),v3 = .int .i64 x3_2 ∧ Aside0 (spec_l2Sample.l0 kq x3_2 l0_0 l0_1 = some r) ∧ Aside0 (kq ≤ kj1) ∧ Aside0 (w'.heap[gb125]? = some (.cells #[(.slice A0_0 l0_0.length c0_0),(.slice A0_1 l0_1.length c0_1)] 41 (0,0))) ∧ Aside0 (Below w.heap.size w w')));(case atStart=>exact ⟨(0),(by first|rfl|(simp;done)|(simp [*];done)),H',⟨Nat.le_refl _⟩,⟨by (with_reducible repeat (first|refine blk_drewN ?_ _|refine blk_drew ?_|refine blk_alloc ?_ _));exact BK125.out⟩,⟨by repeat (first|(with_reducible first|exact HB.out|apply below_alloc|apply pw_below_drewN|apply below_drew1|refine below_set ?_ GE125.out)|exact HB.out)⟩⟩)
    case round =>
     clear H';(try clear c1);(try clear p2);(try clear c4);(try clear c4b0);(try clear c4b1);(try clear c6);(try clear c6b0);(try clear c6b1);(try clear c6b2);(try clear c10);(try clear hcz5_0);(try clear hcz5_1);(try clear hcz8_0);(try clear hcz8_1);(try clear hcz9_0);(try clear hcz9_1);(try clear hfz5_0);(try clear hfz5_1);(try clear hfz8_0);(try clear hfz8_1);(try clear hfz9_0);(try clear hfz9_1);(try clear p2);obtain ⟨x3_2,rfl,HA,HK2,BK125,HB⟩:=hrel
     cases gk with
    |zero=>exact absurd HA.out (by simp [spec_l2Sample.l0])
    |succ k2 =>
      have H:=HA.out;clear HA;(simp only [spec_l2Sample.l0] at H);(by_cases c11 : x3_2 < (l0_0.length : Int));(·rw [if_pos c11] at H;have c11b0 : decide (x3_2 < (l0_0.length : Int)) = true:=decide_eq_true c11;clear c11;(by_cases c12 : 0 ≤ x3_2);(·rw [if_pos c12] at H;have c12b0 : decide (0 ≤ x3_2) = true:=decide_eq_true c12;clear c12;replace H:=Option.bind_eq_some_iff.mp H;obtain ⟨t128,A130,H⟩:=H;replace H : (if t128 = true then (if 0 < (l0_0.length : Int) then (if ((rd_L1 l0_0 x3_2).length : Int) = ((rd_L1 l0_0 0).length : Int) then (spec_l2Sample.l0 k2 (wrap64 (x3_2 + 1)) l0_0 l0_1) else (some false)) else (none)) else (some false)) = some r:=H;have A13:=Aside0.mk A130;clear A130;(by_cases c14 : t128 = true);(·subst c14;(have H1 : (if 0 < (l0_0.length : Int) then (if ((rd_L1 l0_0 x3_2).length : Int) = ((rd_L1 l0_0 0).length : Int) then (spec_l2Sample.l0 k2 (wrap64 (x3_2 + 1)) l0_0 l0_1) else (some false)) else (none)) = some r:=by rw [if_pos rfl] at H;exact H);clear H;have H:=H1;clear H1;(by_cases c15 : 0 < (l0_0.length : Int));(·rw [if_pos c15] at H;have c15b0 : decide (0 < (l0_0.length : Int)) = true:=decide_eq_true c15;have c15b1 : decide (0 < l0_0.length) = true:=decide_eq_true (by omega);clear c15;(by_cases c16 : ((rd_L1 l0_0 x3_2).length : Int) = ((rd_L1 l0_0 0).length : Int));(·rw [if_pos c16] at H;have c16b0 : (((rd_L1 l0_0 x3_2).length : Int) == ((rd_L1 l0_0 0).length : Int)) = true:=beq_iff_eq.mpr c16;have c16b1 : (((rd_L1 l0_0 x3_2).length : Int) != ((rd_L1 l0_0 0).length : Int)) = false:=bne_eq_false_iff_eq.mpr c16;(have c16b2 : ((rd_L1 l0_0 x3_2).length == (rd_L1 l0_0 0).length) = true:=by first|simpa using c16|(simp at c16 ⊢;omega));clear c16;have H':=Aside0.mk H;clear H;have hcz17_0 : wr.cell? ⟨gb125,0,none⟩ = some (.slice A0_0 l0_0.length c0_0):=(blk_cell BK125.out 0).trans rfl;have hcz17_1 : wr.cell? ⟨gb125,1,none⟩ = some (.slice A0_1 l0_1.length c0_1):=(blk_cell BK125.out 1).trans rfl;have hfz17_0:=blk_frozen BK125.out 0;have hfz17_1:=blk_frozen BK125.out 1;have p127 : 0 ≤ (x3_2 : Int):=of_decide_eq_true (by first|(with_reducible assumption)|assumption);have q127 : x3_2 < (l0_0.length : Int):=of_decide_eq_true (by first|(with_reducible assumption)|assumption);obtain ⟨ad127,A127_0,c127_0,e127,hx127_0,hl127_0,hi127_0⟩:=at_L1 HR0_0.out x3_2 p127 q127;(cases e127);replace hx127_0:=(HB.out.cell (World.block_lt_of_cell? w _ hx127_0)).trans hx127_0;have HR127_0:=Aside0.mk hi127_0;have HC127_0:=Aside0.mk hl127_0;clear hi127_0 hl127_0;replace p127:=eq_true p127;replace q127:=eq_true q127;(go_wp2_with (first|(go_at_call 89;(with_reducible refine (spec_l2Point.calls k2 _ _ (rd_L1 l0_0 x3_2) true _ ?side1 ?side2 A13.out).mono ?_);(case side1=>repeat (first|exact (Kd.C_below HR127_0.out HB.out)|(with_reducible refine Kd.C_alloc ?_ _)|(with_reducible refine Kd.C_drewN ?_ _)|(with_reducible refine Kd.C_drew ?_)));(case side2=>exact HC127_0.out);rintro e w' ⟨rfl,⟨nd,rfl⟩⟩;(try first|exact ⟨rfl,_,World.drewN_drewN _ _ _⟩|exact ⟨rfl,_,Eq.trans (World.drewN_drewN _ _ _) (congrArg (World.drewN _) (Nat.add_assoc _ _ _))⟩);have p129 : 0 ≤ (x3_2 : Int):=of_decide_eq_true (by first|(with_reducible assumption)|assumption);have q129 : x3_2 < (l0_0.length : Int):=of_decide_eq_true (by first|(with_reducible assumption)|assumption);obtain ⟨ad129,A129_0,c129_0,e129,hx129_0,hl129_0,hi129_0⟩:=at_L1 HR0_0.out x3_2 p129 q129;obtain rfl : ad127 = ad129:=(by injection e129);replace hx129_0:=(HB.out.cell (World.block_lt_of_cell? w _ hx129_0)).trans hx129_0;have HR129_0:=Aside0.mk hi129_0;have HC129_0:=Aside0.mk hl129_0;clear hi129_0 hl129_0;replace p129:=eq_true p129;replace q129:=eq_true q129;have ea_:=Option.some.inj (hx127_0.symm.trans hx129_0);injection ea_ with ea_ en_ ec_;subst ea_;subst ec_;clear en_;have p130 : 0 ≤ (0 : Int):=(by omega);have q130 : 0 < (l0_0.length : Int):=of_decide_eq_true (by first|(with_reducible assumption)|assumption);obtain ⟨ad130,A130_0,c130_0,e130,hx130_0,hl130_0,hi130_0⟩:=at_L1 HR0_0.out 0 p130 q130;obtain rfl : ad127 = ad130:=(by injection e130);have qi130 : (0 < l0_0.length) = True:=eq_true (by omega);(try rw [show ((0 : Int)).toNat = 0 from rfl] at hx130_0);(try rw [Addr.add_zero'] at hx130_0);replace hx130_0:=(HB.out.cell (World.block_lt_of_cell? w _ hx130_0)).trans hx130_0;have HR130_0:=Aside0.mk hi130_0;have HC130_0:=Aside0.mk hl130_0;clear hi130_0 hl130_0;replace p130:=eq_true p130;replace q130:=eq_true q130)));(repeat (go_quiet (first|(go_at_call 89;(with_reducible refine (spec_l2Point.calls k2 _ _ (rd_L1 l0_0 x3_2) true _ ?side1 ?side2 A13.out).mono ?_);(case side1=>repeat (first|exact (Kd.C_below HR127_0.out HB.out)|(with_reducible refine Kd.C_alloc ?_ _)|(with_reducible refine Kd.C_drewN ?_ _)|(with_reducible refine Kd.C_drew ?_)));(case side2=>exact HC127_0.out);rintro e w' ⟨rfl,⟨nd,rfl⟩⟩;(try first|exact ⟨rfl,_,World.drewN_drewN _ _ _⟩|exact ⟨rfl,_,Eq.trans (World.drewN_drewN _ _ _) (congrArg (World.drewN _) (Nat.add_assoc _ _ _))⟩);have p129 : 0 ≤ (x3_2 : Int):=of_decide_eq_true (by first|(with_reducible assumption)|assumption);have q129 : x3_2 < (l0_0.length : Int):=of_decide_eq_true (by first|(with_reducible assumption)|assumption);obtain ⟨ad129,A129_0,c129_0,e129,hx129_0,hl129_0,hi129_0⟩:=at_L1 HR0_0.out x3_2 p129 q129;obtain rfl : ad127 = ad129:=(by injection e129);replace hx129_0:=(HB.out.cell (World.block_lt_of_cell? w _ hx129_0)).trans hx129_0;have HR129_0:=Aside0.mk hi129_0;have HC129_0:=Aside0.mk hl129_0;clear hi129_0 hl129_0;replace p129:=eq_true p129;replace q129:=eq_true q129;have ea_:=Option.some.inj (hx127_0.symm.trans hx129_0);injection ea_ with ea_ en_ ec_;subst ea_;subst ec_;clear en_;have p130 : 0 ≤ (0 : Int):=(by omega);have q130 : 0 < (l0_0.length : Int):=of_decide_eq_true (by first|(with_reducible assumption)|assumption);obtain ⟨ad130,A130_0,c130_0,e130,hx130_0,hl130_0,hi130_0⟩:=at_L1 HR0_0.out 0 p130 q130;obtain rfl : ad127 = ad130:=(by injection e130);have qi130 : (0 < l0_0.length) = True:=eq_true (by omega);(try rw [show ((0 : Int)).toNat = 0 from rfl] at hx130_0);(try rw [Addr.add_zero'] at hx130_0);replace hx130_0:=(HB.out.cell (World.block_lt_of_cell? w _ hx130_0)).trans hx130_0;have HR130_0:=Aside0.mk hi130_0;have HC130_0:=Aside0.mk hl130_0;clear hi130_0 hl130_0;replace p130:=eq_true p130;replace q130:=eq_true q130));try go_wp2_with (first|(go_at_call 89;(with_reducible refine (spec_l2Point.calls k2 _ _ (rd_L1 l0_0 x3_2) true _ ?side1 ?side2 A13.out).mono ?_);(case side1=>repeat (first|exact (Kd.C_below HR127_0.out HB.out)|(with_reducible refine Kd.C_alloc ?_ _)|(with_reducible refine Kd.C_drewN ?_ _)|(with_reducible refine Kd.C_drew ?_)));(case side2=>exact HC127_0.out);rintro e w' ⟨rfl,⟨nd,rfl⟩⟩;(try first|exact ⟨rfl,_,World.drewN_drewN _ _ _⟩|exact ⟨rfl,_,Eq.trans (World.drewN_drewN _ _ _) (congrArg (World.drewN _) (Nat.add_assoc _ _ _))⟩);have p129 : 0 ≤ (x3_2 : Int):=of_decide_eq_true (by first|(with_reducible assumption)|assumption);have q129 : x3_2 < (l0_0.length : Int):=of_decide_eq_true (by first|(with_reducible assumption)|assumption);obtain ⟨ad129,A129_0,c129_0,e129,hx129_0,hl129_0,hi129_0⟩:=at_L1 HR0_0.out x3_2 p129 q129;obtain rfl : ad127 = ad129:=(by injection e129);replace hx129_0:=(HB.out.cell (World.block_lt_of_cell? w _ hx129_0)).trans hx129_0;have HR129_0:=Aside0.mk hi129_0;have HC129_0:=Aside0.mk hl129_0;clear hi129_0 hl129_0;replace p129:=eq_true p129;replace q129:=eq_true q129;have ea_:=Option.some.inj (hx127_0.symm.trans hx129_0);injection ea_ with ea_ en_ ec_;subst ea_;subst ec_;clear en_;have p130 : 0 ≤ (0 : Int):=(by omega);have q130 : 0 < (l0_0.length : Int):=of_decide_eq_true (by first|(with_reducible assumption)|assumption);obtain ⟨ad130,A130_0,c130_0,e130,hx130_0,hl130_0,hi130_0⟩:=at_L1 HR0_0.out 0 p130 q130;obtain rfl : ad127 = ad130:=(by injection e130);have qi130 : (0 < l0_0.length) = True:=eq_true (by omega);(try rw [show ((0 : Int)).toNat = 0 from rfl] at hx130_0);(try rw [Addr.add_zero'] at hx130_0);replace hx130_0:=(HB.out.cell (World.block_lt_of_cell? w _ hx130_0)).trans hx130_0;have HR130_0:=Aside0.mk hi130_0;have HC130_0:=Aside0.mk hl130_0;clear hi130_0 hl130_0;replace p130:=eq_true p130;replace q130:=eq_true q130))));(go_roundg k2);(case measure=>have:=HJ1.out;have:=HK2.out;omega);(case rel=>exact ⟨(wrap64 (x3_2 + 1)),(by first|rfl|(simp;done)|(simp [*];done)),H',⟨by have:=HJ1.out;have:=HK2.out;omega⟩,⟨by (with_reducible repeat (first|refine blk_drewN ?_ _|refine blk_drew ?_|refine blk_alloc ?_ _));exact BK125.out⟩,⟨by repeat (first|(with_reducible first|exact HB.out|apply below_alloc|apply pw_below_drewN|apply below_drew1|refine below_set ?_ GE125.out)|exact HB.out)⟩⟩));(·rw [if_neg c16] at H;have c16b0 : (((rd_L1 l0_0 x3_2).length : Int) == ((rd_L1 l0_0 0).length : Int)) = false:=beq_eq_false_iff_ne.mpr c16;have c16b1 : (((rd_L1 l0_0 x3_2).length : Int) != ((rd_L1 l0_0 0).length : Int)) = true:=bne_iff_ne.mpr c16;(have c16b2 : ((rd_L1 l0_0 x3_2).length == (rd_L1 l0_0 0).length) = false:=by first|simpa using c16|(simp at c16 ⊢;omega));obtain rfl:=Option.some.inj H;have hcz18_0 : wr.cell? ⟨gb125,0,none⟩ = some (.slice A0_0 l0_0.length c0_0):=(blk_cell BK125.out 0).trans rfl;have hcz18_1 : wr.cell? ⟨gb125,1,none⟩ = some (.slice A0_1 l0_1.length c0_1):=(blk_cell BK125.out 1).trans rfl;have hfz18_0:=blk_frozen BK125.out 0;have hfz18_1:=blk_frozen BK125.out 1;have p127 : 0 ≤ (x3_2 : Int):=of_decide_eq_true (by first|(with_reducible assumption)|assumption);have q127 : x3_2 < (l0_0.length : Int):=of_decide_eq_true (by first|(with_reducible assumption)|assumption);obtain ⟨ad127,A127_0,c127_0,e127,hx127_0,hl127_0,hi127_0⟩:=at_L1 HR0_0.out x3_2 p127 q127;(cases e127);replace hx127_0:=(HB.out.cell (World.block_lt_of_cell? w _ hx127_0)).trans hx127_0;have HR127_0:=Aside0.mk hi127_0;have HC127_0:=Aside0.mk hl127_0;clear hi127_0 hl127_0;replace p127:=eq_true p127;replace q127:=eq_true q127;(go_wp2_with (first|(go_at_call 89;(with_reducible refine (spec_l2Point.calls k2 _ _ (rd_L1 l0_0 x3_2) true _ ?side1 ?side2 A13.out).mono ?_);(case side1=>repeat (first|exact (Kd.C_below HR127_0.out HB.out)|(with_reducible refine Kd.C_alloc ?_ _)|(with_reducible refine Kd.C_drewN ?_ _)|(with_reducible refine Kd.C_drew ?_)));(case side2=>exact HC127_0.out);rintro e w' ⟨rfl,⟨nd,rfl⟩⟩;(try first|exact ⟨rfl,_,World.drewN_drewN _ _ _⟩|exact ⟨rfl,_,Eq.trans (World.drewN_drewN _ _ _) (congrArg (World.drewN _) (Nat.add_assoc _ _ _))⟩);have p129 : 0 ≤ (x3_2 : Int):=of_decide_eq_true (by first|(with_reducible assumption)|assumption);have q129 : x3_2 < (l0_0.length : Int):=of_decide_eq_true (by first|(with_reducible assumption)|assumption);obtain ⟨ad129,A129_0,c129_0,e129,hx129_0,hl129_0,hi129_0⟩:=at_L1 HR0_0.out x3_2 p129 q129;obtain rfl : ad127 = ad129:=(by injection e129);replace hx129_0:=(HB.out.cell (World.block_lt_of_cell? w _ hx129_0)).trans hx129_0;have HR129_0:=Aside0.mk hi129_0;have HC129_0:=Aside0.mk hl129_0;clear hi129_0 hl129_0;replace p129:=eq_true p129;replace q129:=eq_true q129;have ea_:=Option.some.inj (hx127_0.symm.trans hx129_0);injection ea_ with ea_ en_ ec_;subst ea_;subst ec_;clear en_;have p130 : 0 ≤ (0 : Int):=(by omega);have q130 : 0 < (l0_0.length : Int):=of_decide_eq_true (by first|(with_reducible assumption)|assumption);obtain ⟨ad130,A130_0,c130_0,e130,hx130_0,hl130_0,hi130_0⟩:=at_L1 HR0_0.out 0 p130 q130;obtain rfl : ad127 = ad130:=(by injection e130);have qi130 : (0 < l0_0.length) = True:=eq_true (by omega);(try rw [show ((0 : Int)).toNat = 0 from rfl] at hx130_0);(try rw [Addr.add_zero'] at hx130_0);replace hx130_0:=(HB.out.cell (World.block_lt_of_cell? w _ hx130_0)).trans hx130_0;have HR130_0:=Aside0.mk hi130_0;have HC130_0:=Aside0.mk hl130_0;clear hi130_0 hl130_0;replace p130:=eq_true p130;replace q130:=eq_true q130)));(repeat (go_quiet (first|(go_at_call 89;(with_reducible refine (spec_l2Point.calls k2 _ _ (rd_L1 l0_0 x3_2) true _ ?side1 ?side2 A13.out).mono ?_);(case side1=>repeat (first|exact (Kd.C_below HR127_0.out HB.out)|(with_reducible refine Kd.C_alloc ?_ _)|(with_reducible refine Kd.C_drewN ?_ _)|(with_reducible refine Kd.C_drew ?_)));(case side2=>exact HC127_0.out);rintro e w' ⟨rfl,⟨nd,rfl⟩⟩;(try first|exact ⟨rfl,_,World.drewN_drewN _ _ _⟩|exact ⟨rfl,_,Eq.trans (World.drewN_drewN _ _ _) (congrArg (World.drewN _) (Nat.add_assoc _ _ _))⟩);have p129 : 0 ≤ (x3_2 : Int):=of_decide_eq_true (by first|(with_reducible assumption)|assumption);have q129 : x3_2 < (l0_0.length : Int):=of_decide_eq_true (by first|(with_reducible assumption)|assumption);obtain ⟨ad129,A129_0,c129_0,e129,hx129_0,hl129_0,hi129_0⟩:=at_L1 HR0_0.out x3_2 p129 q129;obtain rfl : ad127 = ad129:=(by injection e129);replace hx129_0:=(HB.out.cell (World.block_lt_of_cell? w _ hx129_0)).trans hx129_0;have HR129_0:=Aside0.mk hi129_0;have HC129_0:=Aside0.mk hl129_0;clear hi129_0 hl129_0;replace p129:=eq_true p129;replace q129:=eq_true q129;have ea_:=Option.some.inj (hx127_0.symm.trans hx129_0);injection ea_ with ea_ en_ ec_;subst ea_;subst ec_;clear en_;have p130 : 0 ≤ (0 : Int):=(by omega);have q130 : 0 < (l0_0.length : Int):=of_decide_eq_true (by first|(with_reducible assumption)|assumption);obtain ⟨ad130,A130_0,c130_0,e130,hx130_0,hl130_0,hi130_0⟩:=at_L1 HR0_0.out 0 p130 q130;obtain rfl : ad127 = ad130:=(by injection e130);have qi130 : (0 < l0_0.length) = True:=eq_true (by omega);(try rw [show ((0 : Int)).toNat = 0 from rfl] at hx130_0);(try rw [Addr.add_zero'] at hx130_0);replace hx130_0:=(HB.out.cell (World.block_lt_of_cell? w _ hx130_0)).trans hx130_0;have HR130_0:=Aside0.mk hi130_0;have HC130_0:=Aside0.mk hl130_0;clear hi130_0 hl130_0;replace p130:=eq_true p130;replace q130:=eq_true q130));try go_wp2_with (first|(go_at_call 89;(with_reducible refine (spec_l2Point.calls k2 _ _ (rd_L1 l0_0 x3_2) true _ ?side1 ?side2 A13.out).mono ?_);(case side1=>repeat (first|exact (Kd.C_below HR127_0.out HB.out)|(with_reducible refine Kd.C_alloc ?_ _)|(with_reducible refine Kd.C_drewN ?_ _)|(with_reducible refine Kd.C_drew ?_)));(case side2=>exact HC127_0.out);rintro e w' ⟨rfl,⟨nd,rfl⟩⟩;(try first|exact ⟨rfl,_,World.drewN_drewN _ _ _⟩|exact ⟨rfl,_,Eq.trans (World.drewN_drewN _ _ _) (congrArg (World.drewN _) (Nat.add_assoc _ _ _))⟩);have p129 : 0 ≤ (x3_2 : Int):=of_decide_eq_true (by first|(with_reducible assumption)|assumption);have q129 : x3_2 < (l0_0.length : Int):=of_decide_eq_true (by first|(with_reducible assumption)|assumption);obtain ⟨ad129,A129_0,c129_0,e129,hx129_0,hl129_0,hi129_0⟩:=at_L1 HR0_0.out x3_2 p129 q129;obtain rfl : ad127 = ad129:=(by injection e129);replace hx129_0:=(HB.out.cell (World.block_lt_of_cell? w _ hx129_0)).trans hx129_0;have HR129_0:=Aside0.mk hi129_0;have HC129_0:=Aside0.mk hl129_0;clear hi129_0 hl129_0;replace p129:=eq_true p129;replace q129:=eq_true q129;have ea_:=Option.some.inj (hx127_0.symm.trans hx129_0);injection ea_ with ea_ en_ ec_;subst ea_;subst ec_;clear en_;have p130 : 0 ≤ (0 : Int):=(by omega);have q130 : 0 < (l0_0.length : Int):=of_decide_eq_true (by first|(with_reducible assumption)|assumption);obtain ⟨ad130,A130_0,c130_0,e130,hx130_0,hl130_0,hi130_0⟩:=at_L1 HR0_0.out 0 p130 q130;obtain rfl : ad127 = ad130:=(by injection e130);have qi130 : (0 < l0_0.length) = True:=eq_true (by omega);(try rw [show ((0 : Int)).toNat = 0 from rfl] at hx130_0);(try rw [Addr.add_zero'] at hx130_0);replace hx130_0:=(HB.out.cell (World.block_lt_of_cell? w _ hx130_0)).trans hx130_0;have HR130_0:=Aside0.mk hi130_0;have HC130_0:=Aside0.mk hl130_0;clear hi130_0 hl130_0;replace p130:=eq_true p130;replace q130:=eq_true q130))));(go_ret);exact ⟨by first|rfl|(simp [errW_none,errW_some] <;> rfl)|(simp [*,errW_none,errW_some] <;> rfl),by repeat (first|(with_reducible first|exact HB.out|apply below_alloc|apply pw_below_drewN|apply below_drew1|refine below_set ?_ GE125.out)|exact HB.out)⟩));(·rw [if_neg c15] at H;exact absurd H (by simp)));(·replace c14:=Bool.eq_false_iff.mpr c14;subst c14;(have H1 : (some false) = some r:=by rw [if_neg (show ¬ (false = true) by decide)] at H;exact H);clear H;have H:=H1;clear H1;obtain rfl:=Option.some.inj H;have hcz19_0 : wr.cell? ⟨gb125,0,none⟩ = some (.slice A0_0 l0_0.length c0_0):=(blk_cell BK125.out 0).trans rfl;have hcz19_1 : wr.cell? ⟨gb125,1,none⟩ = some (.slice A0_1 l0_1.length c0_1):=(blk_cell BK125.out 1).trans rfl;have hfz19_0:=blk_frozen BK125.out 0;have hfz19_1:=blk_frozen BK125.out 1;have p127 : 0 ≤ (x3_2 : Int):=of_decide_eq_true (by first|(with_reducible assumption)|assumption);have q127 : x3_2 < (l0_0.length : Int):=of_decide_eq_true (by first|(with_reducible assumption)|assumption);obtain ⟨ad127,A127_0,c127_0,e127,hx127_0,hl127_0,hi127_0⟩:=at_L1 HR0_0.out x3_2 p127 q127;(cases e127);replace hx127_0:=(HB.out.cell (World.block_lt_of_cell? w _ hx127_0)).trans hx127_0;have HR127_0:=Aside0.mk hi127_0;have HC127_0:=Aside0.mk hl127_0;clear hi127_0 hl127_0;replace p127:=eq_true p127;replace q127:=eq_true q127;(go_wp2_with (first|(go_at_call 89;(with_reducible refine (spec_l2Point.calls k2 _ _ (rd_L1 l0_0 x3_2) false _ ?side1 ?side2 A13.out).mono ?_);(case side1=>repeat (first|exact (Kd.C_below HR127_0.out HB.out)|(with_reducible refine Kd.C_alloc ?_ _)|(with_reducible refine Kd.C_drewN ?_ _)|(with_reducible refine Kd.C_drew ?_)));(case side2=>exact HC127_0.out);rintro e w' ⟨rfl,⟨nd,rfl⟩⟩;(try first|exact ⟨rfl,_,World.drewN_drewN _ _ _⟩|exact ⟨rfl,_,Eq.trans (World.drewN_drewN _ _ _) (congrArg (World.drewN _) (Nat.add_assoc _ _ _))⟩))));(repeat (go_quiet (first|(go_at_call 89;(with_reducible refine (spec_l2Point.calls k2 _ _ (rd_L1 l0_0 x3_2) false _ ?side1 ?side2 A13.out).mono ?_);(case side1=>repeat (first|exact (Kd.C_below HR127_0.out HB.out)|(with_reducible refine Kd.C_alloc ?_ _)|(with_reducible refine Kd.C_drewN ?_ _)|(with_reducible refine Kd.C_drew ?_)));(case side2=>exact HC127_0.out);rintro e w' ⟨rfl,⟨nd,rfl⟩⟩;(try first|exact ⟨rfl,_,World.drewN_drewN _ _ _⟩|exact ⟨rfl,_,Eq.trans (World.drewN_drewN _ _ _) (congrArg (World.drewN _) (Nat.add_assoc _ _ _))⟩)));try go_wp2_with (first|(go_at_call 89;(with_reducible refine (spec_l2Point.calls k2 _ _ (rd_L1 l0_0 x3_2) false _ ?side1 ?side2 A13.out).mono ?_);(case side1=>repeat (first|exact (Kd.C_below HR127_0.out HB.out)|(with_reducible refine Kd.C_alloc ?_ _)|(with_reducible refine Kd.C_drewN ?_ _)|(with_reducible refine Kd.C_drew ?_)));(case side2=>exact HC127_0.out);rintro e w' ⟨rfl,⟨nd,rfl⟩⟩;(try first|exact ⟨rfl,_,World.drewN_drewN _ _ _⟩|exact ⟨rfl,_,Eq.trans (World.drewN_drewN _ _ _) (congrArg (World.drewN _) (Nat.add_assoc _ _ _))⟩)))));(go_ret);exact ⟨by first|rfl|(simp [errW_none,errW_some] <;> rfl)|(simp [*,errW_none,errW_some] <;> rfl),by repeat (first|(with_reducible first|exact HB.out|apply below_alloc|apply pw_below_drewN|apply below_drew1|refine below_set ?_ GE125.out)|exact HB.out)⟩));(·rw [if_neg c12] at H;exact absurd H (by simp)));(·rw [if_neg c11] at H;have c11b0 : decide (x3_2 < (l0_0.length : Int)) = false:=decide_eq_false c11;clear c11;obtain rfl:=Option.some.inj H;have hcz20_0 : wr.cell? ⟨gb125,0,none⟩ = some (.slice A0_0 l0_0.length c0_0):=(blk_cell BK125.out 0).trans rfl;have hcz20_1 : wr.cell? ⟨gb125,1,none⟩ = some (.slice A0_1 l0_1.length c0_1):=(blk_cell BK125.out 1).trans rfl;have hfz20_0:=blk_frozen BK125.out 0;have hfz20_1:=blk_frozen BK125.out 1;(go_wp2);(repeat (go_quiet (fail);try go_wp2));(go_ret);exact ⟨by first|rfl|(simp [errW_none,errW_some] <;> rfl)|(simp [*,errW_none,errW_some] <;> rfl),by repeat (first|(with_reducible first|exact HB.out|apply below_alloc|apply pw_below_drewN|apply below_drew1|refine below_set ?_ GE125.out)|exact HB.out)⟩)
def spec_l1Num.f : Nat → Int → Option (ByteArray)
|0,_=>none
|k + 1,a0=>if a0 < 0 then ((spec_l1Num.f k (wrap64 (-a0))).bind fun t131=>(if 1 + t131.size ≤ 9223372036854775807 then (some ((⟨#[45]⟩ : ByteArray) ++ t131)) else (none))) else (if a0 < 10 then (if 0 ≤ a0 then (if a0 ≤ (wrap64 (a0 + 1)) then (if (wrap64 (a0 + 1)) ≤ 10 then (some ((⟨#[48,49,50,51,52,53,54,55,56,57]⟩ : ByteArray).extract (a0 : Int).toNat ((wrap64 (a0 + 1)) : Int).toNat)) else (none)) else (none)) else (none)) else ((spec_l1Num.f k (wrap64 (Int.tdiv a0 10))).bind fun t132=>(if 0 ≤ (Int.tmod a0 10) then (if (Int.tmod a0 10) ≤ (wrap64 ((Int.tmod a0 10) + 1)) then (if (wrap64 ((Int.tmod a0 10) + 1)) ≤ 10 then (if t132.size + ((⟨#[48,49,50,51,52,53,54,55,56,57]⟩ : ByteArray).extract ((Int.tmod a0 10) : Int).toNat ((wrap64 ((Int.tmod a0 10) + 1)) : Int).toNat).size ≤ 9223372036854775807 then (some (t132 ++ ((⟨#[48,49,50,51,52,53,54,55,56,57]⟩ : ByteArray).extract ((Int.tmod a0 10) : Int).toNat ((wrap64 ((Int.tmod a0 10) + 1)) : Int).toNat))) else (none)) else (none)) else (none)) else (none))))
def spec_l1Num.T5 : Bool × List (List Nat × List Nat):=(true,[([],[]),([0],[0]),([1],[1]),([],[]),([3],[3]),([],[]),([5],[5]),([6],[6]),([4,7],[4,7]),([2,8],[2,8]),([9,2,0,1,2,3,4,5,6,7,8,9],[9])])
def spec_l1Num.B5 : List Nat:=[0,1,3,0,8,0,32,96,248,511,1023]
theorem spec_l1Num.tab5 : rtab .any (opsOf Tryd.f47 5) = spec_l1Num.T5:=by kernel_rfl
theorem spec_l1Num.bits5 : waitsOk spec_l1Num.T5.2 spec_l1Num.B5 = true:=by kernel_rfl
set_option maxHeartbeats 8000000 in
set_option maxRecDepth 100000 in
theorem spec_l1Num.calls (k : Nat) : ∀ (a0 : Int) (r : ByteArray) (w : World) (h : spec_l1Num.f k a0 = some r),
  Calls Tryd.prog 47 #[.int .i64 a0] w fun e w'=>e = .returned (.string r) ∧ Below w.heap.size w w':=by
 induction k using Nat.strongRecOn with
|_ k ih =>
 intro a0 r w h
 cases k with
|zero=>exact absurd h (by simp [spec_l1Num.f])
|succ k =>
 simp only [spec_l1Num.f] at h
 have HB:=Aside0.mk (Below.refl w.heap.size w)
 have H : (if a0 < 0 then ((spec_l1Num.f k (wrap64 (-a0))).bind fun t131=>(if 1 + t131.size ≤ 9223372036854775807 then (some ((⟨#[45]⟩ : ByteArray) ++ t131)) else (none))) else (if a0 < 10 then (if 0 ≤ a0 then (if a0 ≤ (wrap64 (a0 + 1)) then (if (wrap64 (a0 + 1)) ≤ 10 then (some ((⟨#[48,49,50,51,52,53,54,55,56,57]⟩ : ByteArray).extract (a0 : Int).toNat ((wrap64 (a0 + 1)) : Int).toNat)) else (none)) else (none)) else (none)) else ((spec_l1Num.f k (wrap64 (Int.tdiv a0 10))).bind fun t132=>(if 0 ≤ (Int.tmod a0 10) then (if (Int.tmod a0 10) ≤ (wrap64 ((Int.tmod a0 10) + 1)) then (if (wrap64 ((Int.tmod a0 10) + 1)) ≤ 10 then (if t132.size + ((⟨#[48,49,50,51,52,53,54,55,56,57]⟩ : ByteArray).extract ((Int.tmod a0 10) : Int).toNat ((wrap64 ((Int.tmod a0 10) + 1)) : Int).toNat).size ≤ 9223372036854775807 then (some (t132 ++ ((⟨#[48,49,50,51,52,53,54,55,56,57]⟩ : ByteArray).extract ((Int.tmod a0 10) : Int).toNat ((wrap64 ((Int.tmod a0 10) + 1)) : Int).toNat))) else (none)) else (none)) else (none)) else (none))))) = some r:=h
 clear h
 by_cases c2 : a0 < 0
 ·rw [if_pos c2] at H
  have c2b0 : decide (a0 < 0) = true:=decide_eq_true c2
  clear c2
  replace H:=Option.bind_eq_some_iff.mp H
  obtain ⟨t131,A30,H⟩:=H
  replace H : (if 1 + t131.size ≤ 9223372036854775807 then (some ((⟨#[45]⟩ : ByteArray) ++ t131)) else (none)) = some r:=H
  have A3:=Aside0.mk A30
  clear A30
  by_cases c4 : 1 + t131.size ≤ 9223372036854775807
  ·rw [if_pos c4] at H
   have c4b0:=eq_true c4
   have c4b1 : decide (1 + t131.size ≤ 9223372036854775807) = true:=decide_eq_true c4
   try have c4b2 : (9223372036854775807 < 1 + t131.size) = False:=eq_false (Nat.not_lt.2 c4)
   obtain rfl:=Option.some.inj H
   go_enter Tryd.func47,Tryd.ntmps47
   go_wp2_with (first|((with_reducible refine gate_callee (f:=47) rfl ?_);refine goesL_ (some 7) rfl rfl Tryd.func47 (by kernel_rfl) rfl #[.int .i64 (wrap64 (-a0))] rfl (by (try simp only [List.map_toArray,List.map_cons,List.map_nil]);first|done|rfl|(simp only [List.length_drop,List.length_take];rfl)) ?_;(with_reducible refine (ih k (by omega) (wrap64 (-a0)) t131 _ A3.out).mono ?_);rintro e w5 ⟨rfl,hb⟩;refine ⟨_,rfl,?_⟩;replace HB:=Aside0.mk (below_step (by repeat (first|(with_reducible first|exact HB.out|apply below_alloc|apply pw_below_drewN|apply below_drew1)|exact HB.out|exact Below.refl _ _)) hb);(try clear hb);(try clear hb2);(try clear hk);(try clear hi)))
   go_ret
   exact ⟨by first|rfl|(simp [errW_none,errW_some] <;> rfl)|(simp [*,errW_none,errW_some] <;> rfl),by repeat (first|(with_reducible first|exact HB.out|apply below_alloc|apply pw_below_drewN|apply below_drew1)|exact HB.out|exact Below.refl _ _)⟩
  ·rw [if_neg c4] at H
   exact absurd H (by simp)
 ·rw [if_neg c2] at H
  have c2b0 : decide (a0 < 0) = false:=decide_eq_false c2
  clear c2
  by_cases c6 : a0 < 10
  ·rw [if_pos c6] at H
   have c6b0 : decide (a0 < 10) = true:=decide_eq_true c6
   clear c6
   by_cases c7 : 0 ≤ a0
   ·rw [if_pos c7] at H
    have c7b0:=eq_true c7
    have c7b1 : decide (0 ≤ a0) = true:=decide_eq_true c7
    clear c7
    by_cases c8 : a0 ≤ (wrap64 (a0 + 1))
    ·rw [if_pos c8] at H
     have c8b0:=eq_true c8
     have c8b1 : decide (a0 ≤ (wrap64 (a0 + 1))) = true:=decide_eq_true c8
     by_cases c9 : (wrap64 (a0 + 1)) ≤ 10
     ·rw [if_pos c9] at H
      have c9b0:=eq_true c9
      have c9b1 : decide ((wrap64 (a0 + 1)) ≤ 10) = true:=decide_eq_true c9
      obtain rfl:=Option.some.inj H
      go_enter Tryd.func47,Tryd.ntmps47
      go_wp2
      go_ret
      exact ⟨by first|rfl|(simp [errW_none,errW_some] <;> rfl)|(simp [*,errW_none,errW_some] <;> rfl),by repeat (first|(with_reducible first|exact HB.out|apply below_alloc|apply pw_below_drewN|apply below_drew1)|exact HB.out|exact Below.refl _ _)⟩
     ·rw [if_neg c9] at H
      exact absurd H (by simp)
    ·rw [if_neg c8] at H
     exact absurd H (by simp)
   ·rw [if_neg c7] at H
    exact absurd H (by simp)
  ·rw [if_neg c6] at H
   have c6b0 : decide (a0 < 10) = false:=decide_eq_false c6
   clear c6
   replace H:=Option.bind_eq_some_iff.mp H
   obtain ⟨t132,A100,H⟩:=H
   replace H : (if 0 ≤ (Int.tmod a0 10) then (if (Int.tmod a0 10) ≤ (wrap64 ((Int.tmod a0 10) + 1)) then (if (wrap64 ((Int.tmod a0 10) + 1)) ≤ 10 then (if t132.size + ((⟨#[48,49,50,51,52,53,54,55,56,57]⟩ : ByteArray).extract ((Int.tmod a0 10) : Int).toNat ((wrap64 ((Int.tmod a0 10) + 1)) : Int).toNat).size ≤ 9223372036854775807 then (some (t132 ++ ((⟨#[48,49,50,51,52,53,54,55,56,57]⟩ : ByteArray).extract ((Int.tmod a0 10) : Int).toNat ((wrap64 ((Int.tmod a0 10) + 1)) : Int).toNat))) else (none)) else (none)) else (none)) else (none)) = some r:=H
   have A10:=Aside0.mk A100
   clear A100
   obtain ⟨ji11,hji11⟩ : ∃ j_ : Int,(Int.tmod a0 10) = j_:=⟨_,rfl⟩
   replace H : (if 0 ≤ (ji11) then (if (ji11) ≤ (wrap64 ((ji11) + 1)) then (if (wrap64 ((ji11) + 1)) ≤ 10 then (if t132.size + ((⟨#[48,49,50,51,52,53,54,55,56,57]⟩ : ByteArray).extract ((ji11) : Int).toNat ((wrap64 ((ji11) + 1)) : Int).toNat).size ≤ 9223372036854775807 then (some (t132 ++ ((⟨#[48,49,50,51,52,53,54,55,56,57]⟩ : ByteArray).extract ((ji11) : Int).toNat ((wrap64 ((ji11) + 1)) : Int).toNat))) else (none)) else (none)) else (none)) else (none)) = some r:=by first|(rw [hji11] at H;exact H)|(simp only [hji11] at H ⊢;exact H)
   (try rw [hji11] at A10)
   by_cases c12 : 0 ≤ (ji11)
   ·rw [if_pos c12] at H
    have c12b0:=eq_true c12
    have c12b1 : decide (0 ≤ (ji11)) = true:=decide_eq_true c12
    clear c12
    by_cases c13 : (ji11) ≤ (wrap64 ((ji11) + 1))
    ·rw [if_pos c13] at H
     have c13b0:=eq_true c13
     have c13b1 : decide ((ji11) ≤ (wrap64 ((ji11) + 1))) = true:=decide_eq_true c13
     by_cases c14 : (wrap64 ((ji11) + 1)) ≤ 10
     ·rw [if_pos c14] at H
      have c14b0:=eq_true c14
      have c14b1 : decide ((wrap64 ((ji11) + 1)) ≤ 10) = true:=decide_eq_true c14
      by_cases c15 : t132.size + ((⟨#[48,49,50,51,52,53,54,55,56,57]⟩ : ByteArray).extract ((ji11) : Int).toNat ((wrap64 ((ji11) + 1)) : Int).toNat).size ≤ 9223372036854775807
      ·rw [if_pos c15] at H
       have c15b0:=eq_true c15
       have c15b1 : decide (t132.size + ((⟨#[48,49,50,51,52,53,54,55,56,57]⟩ : ByteArray).extract ((ji11) : Int).toNat ((wrap64 ((ji11) + 1)) : Int).toNat).size ≤ 9223372036854775807) = true:=decide_eq_true c15
       try have c15b2 : (9223372036854775807 < t132.size + ((⟨#[48,49,50,51,52,53,54,55,56,57]⟩ : ByteArray).extract ((ji11) : Int).toNat ((wrap64 ((ji11) + 1)) : Int).toNat).size) = False:=eq_false (Nat.not_lt.2 c15)
       obtain rfl:=Option.some.inj H
       go_enter Tryd.func47,Tryd.ntmps47
       try go_wp2
       replace HB:=Aside0.mk (below_drew1 HB.out)
       refine start_ (n:=11) (S:=fun w'=>True) (ds:=[]) #[F_,F_,F_,F_,F_,F_,F_,F_,F_,F_,F_] (by kernel_rfl) rfl rfl trivial (fun hHeld=>?_);refine with_tabW spec_l1Num.tab5 spec_l1Num.bits5 (fun HT_ HW_=>?_)
       generalize w.drew = w16 at HB hHeld ⊢
       refine pure_ (i:=0) (N:=some 15) (v:=?_) (a':=?_) #[T_,F_,F_,F_,F_,F_,F_,F_,F_,F_,F_] rfl rfl (any_of HT_.out (by kernel_rfl)) (fun _ _ _ h=>h) (Or.inl ⟨by rfl,?_⟩) ?_ ?_
       rotate_left
       ·intro w'
        go_simp
        first|(with_reducible rfl)|(simp only [ByteArray.size_extract] at *;simp only [show ∀ (d_ : Array UInt8),(⟨d_⟩ : ByteArray).size = d_.size from fun _=>rfl,List.size_toArray,List.length_cons,List.length_nil] at *;rw [if_neg (by omega)])
       rotate_left
       ·simp only [Z_]
        rfl
       refine pure_ (i:=1) (N:=some 16) (v:=?_) (a':=?_) #[T_,T_,F_,F_,F_,F_,F_,F_,F_,F_,F_] rfl rfl (any_of HT_.out (by kernel_rfl)) (fun _ _ _ h=>h) (Or.inl ⟨by rfl,?_⟩) ?_ ?_
       rotate_left
       ·intro w'
        go_simp
        first|(with_reducible rfl)|(simp only [ByteArray.size_extract] at *;simp only [show ∀ (d_ : Array UInt8),(⟨d_⟩ : ByteArray).size = d_.size from fun _=>rfl,List.size_toArray,List.length_cons,List.length_nil] at *;rw [if_neg (by omega)])
       rotate_left
       ·simp only [Z_]
        rfl
       refine pure_ (i:=3) (N:=some 18) (v:=?_) (a':=?_) #[T_,T_,F_,T_,F_,F_,F_,F_,F_,F_,F_] rfl rfl (any_of HT_.out (by kernel_rfl)) (fun _ _ _ h=>h) (Or.inl ⟨by rfl,?_⟩) ?_ ?_
       rotate_left
       ·intro w'
        go_simp
        first|(with_reducible rfl)|(simp only [ByteArray.size_extract] at *;simp only [show ∀ (d_ : Array UInt8),(⟨d_⟩ : ByteArray).size = d_.size from fun _=>rfl,List.size_toArray,List.length_cons,List.length_nil] at *;rw [if_neg (by omega)])
       rotate_left
       ·simp only [Z_]
        rfl
       refine pure_ (i:=4) (N:=some 19) (v:=?_) (a':=?_) #[T_,T_,F_,T_,T_,F_,F_,F_,F_,F_,F_] rfl rfl (any_of HT_.out (by kernel_rfl)) (fun _ _ _ h=>h) (Or.inl ⟨by rfl,?_⟩) ?_ ?_
       rotate_left
       ·intro w'
        go_simp
        first|(with_reducible rfl)|(simp only [ByteArray.size_extract] at *;simp only [show ∀ (d_ : Array UInt8),(⟨d_⟩ : ByteArray).size = d_.size from fun _=>rfl,List.size_toArray,List.length_cons,List.length_nil] at *;rw [if_neg (by omega)])
       rotate_left
       ·simp only [Z_]
        rfl
       refine pure_ (i:=5) (N:=some 20) (v:=?_) (a':=?_) #[T_,T_,F_,T_,T_,T_,F_,F_,F_,F_,F_] rfl rfl (any_of HT_.out (by kernel_rfl)) (fun _ _ _ h=>h) (Or.inl ⟨by rfl,?_⟩) ?_ ?_
       rotate_left
       ·intro w'
        go_simp
        first|(with_reducible rfl)|(simp only [ByteArray.size_extract] at *;simp only [show ∀ (d_ : Array UInt8),(⟨d_⟩ : ByteArray).size = d_.size from fun _=>rfl,List.size_toArray,List.length_cons,List.length_nil] at *;rw [if_neg (by omega)])
       rotate_left
       ·simp only [Z_]
        rfl
       refine pure_ (i:=6) (N:=some 21) (v:=?_) (a':=?_) #[T_,T_,F_,T_,T_,T_,T_,F_,F_,F_,F_] rfl rfl (any_of HT_.out (by kernel_rfl)) (fun _ _ _ h=>h) (Or.inl ⟨by rfl,?_⟩) ?_ ?_
       rotate_left
       ·intro w'
        go_simp
        first|(with_reducible rfl)|(simp only [ByteArray.size_extract] at *;simp only [show ∀ (d_ : Array UInt8),(⟨d_⟩ : ByteArray).size = d_.size from fun _=>rfl,List.size_toArray,List.length_cons,List.length_nil] at *;rw [if_neg (by omega)])
       rotate_left
       ·simp only [Z_]
        rfl
       refine pure_ (i:=7) (N:=some 22) (v:=?_) (a':=?_) #[T_,T_,F_,T_,T_,T_,T_,T_,F_,F_,F_] rfl rfl (any_of HT_.out (by kernel_rfl)) (fun _ _ _ h=>h) (Or.inl ⟨by rfl,?_⟩) ?_ ?_
       rotate_left
       ·intro w'
        go_simp
        first|(with_reducible rfl)|(simp only [ByteArray.size_extract] at *;simp only [show ∀ (d_ : Array UInt8),(⟨d_⟩ : ByteArray).size = d_.size from fun _=>rfl,List.size_toArray,List.length_cons,List.length_nil] at *;rw [if_neg (by omega)])
       rotate_left
       ·simp only [Z_]
        rfl
       refine pure_ (i:=8) (N:=some 23) (v:=?_) (a':=?_) #[T_,T_,F_,T_,T_,T_,T_,T_,T_,F_,F_] rfl rfl (any_of HT_.out (by kernel_rfl)) (fun _ _ _ h=>h) (Or.inl ⟨by rfl,?_⟩) ?_ ?_
       rotate_left
       ·intro w'
        go_simp
        first|(with_reducible rfl)|(simp only [ByteArray.size_extract] at *;simp only [show ∀ (d_ : Array UInt8),(⟨d_⟩ : ByteArray).size = d_.size from fun _=>rfl,List.size_toArray,List.length_cons,List.length_nil] at *;rw [if_neg (by omega)])
       rotate_left
       ·simp only [Z_]
        rfl
       refine one_ (i:=2) (N:=some 17) #[T_,T_,T_,T_,T_,T_,T_,T_,T_,F_,F_] rfl rfl (one_of HT_.out (by kernel_rfl)) (by decide) (fun K hK=>?_)
       refine goes_ Tryd.func47 (by kernel_rfl) rfl #[.int .i64 (wrap64 (Int.tdiv a0 10))] (by rfl) rfl rfl (by (try simp only [List.map_toArray,List.map_cons,List.map_nil]);first|done|rfl|(simp only [List.length_drop,List.length_take];rfl)) ?_
       with_reducible refine (ih k (by omega) (wrap64 (Int.tdiv a0 10)) t132 _ A10.out).mono ?_
       rintro e w17 ⟨rfl,hb⟩
       refine ⟨_,rfl,?_⟩
       replace HB:=Aside0.mk (below_step (by repeat (first|(with_reducible first|exact HB.out|apply below_alloc|apply pw_below_drewN|apply below_drew1)|exact HB.out|exact Below.refl _ _)) hb)
       (try clear hb)
       (try clear hb2)
       (try clear hk)
       (try clear hi)
       refine hK.out _ _ trivial (fun hHeld=>?_)
       clear hK K
       refine norm_ (a':=?_) ?_ ?_
       rotate_left
       ·show Act.put _ (some 17) _ = _
        simp only [Z_]
        rfl
       refine pure_ (i:=9) (N:=some 24) (v:=?_) (a':=?_) #[T_,T_,T_,T_,T_,T_,T_,T_,T_,T_,F_] rfl rfl (any_of HT_.out (by kernel_rfl)) (fun _ _ _ h=>h) (Or.inl ⟨by rfl,?_⟩) ?_ ?_
       rotate_left
       ·intro w'
        go_simp
        first|(with_reducible rfl)|(simp only [ByteArray.size_extract] at *;simp only [show ∀ (d_ : Array UInt8),(⟨d_⟩ : ByteArray).size = d_.size from fun _=>rfl,List.size_toArray,List.length_cons,List.length_nil] at *;rw [if_neg (by omega)])
       rotate_left
       ·simp only [Z_]
        rfl
       refine pure_ (i:=10) (N:=some 2) (v:=?_) (a':=?_) #[T_,T_,T_,T_,T_,T_,T_,T_,T_,T_,T_] rfl rfl (any_of HT_.out (by kernel_rfl)) (fun _ _ _ h=>h) (Or.inl ⟨by rfl,?_⟩) ?_ ?_
       rotate_left
       ·intro w'
        go_simp
        first|(with_reducible rfl)|(simp only [ByteArray.size_extract] at *;simp only [show ∀ (d_ : Array UInt8),(⟨d_⟩ : ByteArray).size = d_.size from fun _=>rfl,List.size_toArray,List.length_cons,List.length_nil] at *;rw [if_neg (by omega)])
       rotate_left
       ·simp only [Z_]
        rfl
       refine done_ (done_of HT_.out (by kernel_rfl)) ?_
       (try clear hHeld)
       (try clear hHeld)
       try go_wp2
       go_ret
       exact ⟨by first|rfl|(simp [errW_none,errW_some] <;> rfl)|(simp only [← hji11];first|rfl|(simp [errW_none,errW_some] <;> rfl))|(simp [*,errW_none,errW_some] <;> rfl),by repeat (first|(with_reducible first|exact HB.out|apply below_alloc|apply pw_below_drewN|apply below_drew1)|exact HB.out|exact Below.refl _ _)⟩
      ·rw [if_neg c15] at H
       exact absurd H (by simp)
     ·rw [if_neg c14] at H
      exact absurd H (by simp)
    ·rw [if_neg c13] at H
     exact absurd H (by simp)
   ·rw [if_neg c12] at H
    exact absurd H (by simp)
end Go.Proofs.YtkgjacacldcacaaDoor.QFnExactParseSample
