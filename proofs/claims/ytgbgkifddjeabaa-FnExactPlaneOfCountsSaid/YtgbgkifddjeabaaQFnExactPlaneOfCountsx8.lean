-- Laid by a program of this session for this claim.
import Derived.Test.YtgbgkifddjeabaaQFnExactPlaneOfCountsx0
import Derived.Test.YtgbgkifddjeabaaQFnExactPlaneOfCountsx1
import Derived.Test.YtgbgkifddjeabaaQFnExactPlaneOfCountsx2
import Derived.Test.YtgbgkifddjeabaaQFnExactPlaneOfCountsx4
import Derived.Test.YtgbgkifddjeabaaQFnExactPlaneOfCountsx6
import Derived.Test.YtgbgkifddjeabaaQFnExactPlaneOfCountsx7
namespace Go.Proofs.Ytgbgkifddjeabaa.QFnExactPlaneOfCounts
open Go.RowKit Go.Proofs.YtgbgkifddjeabaaW.PrintWords Go.Proofs.YtgbgkifddjeabaaW.PrintLast Go.Proofs.YtgbgkifddjeabaaW.PrintMore
open Kd
attribute [local go_sem] max2_int min2_int max_two min_two max_three min_three max_four min_four   -- for this text's walks alone
set_option linter.unusedVariables false
set_option linter.unusedSimpArgs false

/-! ### laws_FnExactPlaneOfCounts: function 11 -/
mutual
def laws_FnExactPlaneOfCounts.j0 : Nat → List Int → Bool → List Int → Bool → Bool → List (List Int) → List Int → List Int → Int → List (List Int) → List Int → List Int → Int → Option (Bool)
|0, _, _, _, _, _, _, _, _, _, _, _, _, _ => none
|k + 1, x1, x7, x9, x11, x51, x213000, x213001, x229000, x229001, x236000, x236001, x245000, x245001 => if x51 = true then (some false) else ((laws_toSample.f k x213000 x213001).bind fun bt246 => ((laws_eqSample.f k x236000 x236001 bt246.1 bt246.2).bind fun t252 => (if t252 = true then ((laws_toIntS.f k x1).bind fun t253 => ((laws_eqIntS.f k x9 t253).bind fun t256 => (if t256 = true then ((laws_markSample.f k x236000 x236001 1).bind fun bt257 => ((laws_markIntS.f k x9 bt257.1).bind fun bt260 => (if bt260.1 < 0 then (laws_FnExactPlaneOfCounts.j1 k x1 x7 true x213000 x213001 x229000 x229001 x245000 x245001) else ((laws_eqPlane.f k x245000 x245001 x229000 x229001).bind fun t262 => (if t262 = true then (laws_FnExactPlaneOfCounts.j1 k x1 x7 (x11 != x7) x213000 x213001 x229000 x229001 x245000 x245001) else (laws_FnExactPlaneOfCounts.j1 k x1 x7 true x213000 x213001 x229000 x229001 x245000 x245001)))))) else (some false)))) else (some false))))
def laws_FnExactPlaneOfCounts.j1 : Nat → List Int → Bool → Bool → List (List Int) → List Int → List Int → Int → List Int → Int → Option (Bool)
|0, _, _, _, _, _, _, _, _, _ => none
|k + 1, x1, x7, x80, x213000, x213001, x229000, x229001, x245000, x245001 => if x80 = true then (some false) else ((laws_markPlane.f k x245000 x245001 1).bind fun bt263 => ((laws_heldPlane.f k bt263.2 x245001 1).bind fun t265 => (if t265 < 0 then (some false) else (if t265 = bt263.1 then ((laws_toSample.f k x213000 x213001).bind fun bt266 => ((laws_toIntS.f k x1).bind fun t272 => ((impl_PlaneOfCounts.f k bt266.1 bt266.2 t272).bind fun bt275 => ((laws_eqPlane.f k bt275.1 bt275.2.1 x229000 x229001).bind fun t281 => (if t281 = true then (laws_FnExactPlaneOfCounts.j2 k bt263.1 (bt275.2.2 != x7) bt263.2 x245001) else (laws_FnExactPlaneOfCounts.j2 k bt263.1 true bt263.2 x245001)))))) else (some false)))))
def laws_FnExactPlaneOfCounts.j2 : Nat → Int → Bool → List Int → Int → Option (Bool)
|0, _, _, _, _ => none
|k + 1, x13, x108, x245000, x245001 => if x108 = true then (some false) else ((laws_heldPlane.f k x245000 x245001 1).bind fun t282 => (if t282 < 0 then (some false) else (if t282 = x13 then (some true) else (some false))))
end
def laws_FnExactPlaneOfCounts.f (k : Nat) (l0_0 : List (List Int)) (l0_1 : List Int) (l1 : List Int) : Option (Bool) := if (l1.length : Int) > 1048576 then (some true) else ((laws_szSample.f k l0_0 l0_1 1048576).bind fun t213 => (if t213 < 0 then (some true) else ((laws_toSample.f k l0_0 l0_1).bind fun bt214 => ((laws_toIntS.f k l1).bind fun t220 => ((spec_PlaneOfCounts.f k bt214.1 bt214.2 t220).bind fun bt223 => ((laws_toSample.f k l0_0 l0_1).bind fun bt229 => ((laws_toIntS.f k l1).bind fun t236 => ((impl_PlaneOfCounts.f k bt229.1 bt229.2 t236).bind fun bt239 => ((laws_eqPlane.f k bt239.1 bt239.2.1 bt223.1 bt223.2.1).bind fun t245 => (if t245 = true then (laws_FnExactPlaneOfCounts.j0 k l1 bt223.2.2 t236 bt239.2.2 (bt239.2.2 != bt223.2.2) l0_0 l0_1 bt223.1 bt223.2.1 bt229.1 bt229.2 bt239.1 bt239.2.1) else (laws_FnExactPlaneOfCounts.j0 k l1 bt223.2.2 t236 bt239.2.2 true l0_0 l0_1 bt223.1 bt223.2.1 bt229.1 bt229.2 bt239.1 bt239.2.1)))))))))))
theorem laws_FnExactPlaneOfCounts.mono_l : ∀ k, (∀ y0 y1 y2 y3 y4 y5 y6 y7 y8 y9 y10 y11 y12, LeO (laws_FnExactPlaneOfCounts.j0 k y0 y1 y2 y3 y4 y5 y6 y7 y8 y9 y10 y11 y12) (laws_FnExactPlaneOfCounts.j0 (k + 1) y0 y1 y2 y3 y4 y5 y6 y7 y8 y9 y10 y11 y12)) ∧ (∀ y0 y1 y2 y3 y4 y5 y6 y7 y8, LeO (laws_FnExactPlaneOfCounts.j1 k y0 y1 y2 y3 y4 y5 y6 y7 y8) (laws_FnExactPlaneOfCounts.j1 (k + 1) y0 y1 y2 y3 y4 y5 y6 y7 y8)) ∧ (∀ y0 y1 y2 y3, LeO (laws_FnExactPlaneOfCounts.j2 k y0 y1 y2 y3) (laws_FnExactPlaneOfCounts.j2 (k + 1) y0 y1 y2 y3))
|0 => ⟨fun _ _ _ _ _ _ _ _ _ _ _ _ _ r h => by simp [laws_FnExactPlaneOfCounts.j0] at h, fun _ _ _ _ _ _ _ _ _ r h => by simp [laws_FnExactPlaneOfCounts.j1] at h, fun _ _ _ _ r h => by simp [laws_FnExactPlaneOfCounts.j2] at h⟩
|k + 1 => by
  obtain ⟨ih0, ih1, ih2⟩ := laws_FnExactPlaneOfCounts.mono_l k
  refine ⟨?_, ?_, ?_⟩
  ·intro y0 y1 y2 y3 y4 y5 y6 y7 y8 y9 y10 y11 y12
   unfold laws_FnExactPlaneOfCounts.j0
   repeat' first
  |(with_reducible exact ih0 _ _ _ _ _ _ _ _ _ _ _ _ _)
  |(with_reducible exact ih1 _ _ _ _ _ _ _ _ _)
  |(with_reducible exact ih2 _ _ _ _)
  |(with_reducible exact impl_PlaneOfCounts.mono _ _ _ _)
  |(with_reducible exact laws_eqIntS.mono _ _ _)
  |(with_reducible exact laws_eqPlane.mono _ _ _ _ _)
  |(with_reducible exact laws_eqSample.mono _ _ _ _ _)
  |(with_reducible exact laws_heldPlane.mono _ _ _ _)
  |(with_reducible exact laws_markIntS.mono _ _ _)
  |(with_reducible exact laws_markPlane.mono _ _ _ _)
  |(with_reducible exact laws_markSample.mono _ _ _ _)
  |(with_reducible exact laws_szSample.mono _ _ _ _)
  |(with_reducible exact laws_toIntS.mono _ _)
  |(with_reducible exact laws_toSample.mono _ _ _)
  |(with_reducible exact spec_PlaneOfCounts.mono _ _ _ _)
  |(with_reducible exact LeO.refl _)
  |(with_reducible exact LeO.none _)
  |(with_reducible refine LeO.ite ?_ ?_)
  |(with_reducible refine LeO.bind ?_ (fun _ => ?_))
  |exact ih0 _ _ _ _ _ _ _ _ _ _ _ _ _
  |exact ih1 _ _ _ _ _ _ _ _ _
  |exact ih2 _ _ _ _
  |exact impl_PlaneOfCounts.mono _ _ _ _
  |exact laws_eqIntS.mono _ _ _
  |exact laws_eqPlane.mono _ _ _ _ _
  |exact laws_eqSample.mono _ _ _ _ _
  |exact laws_heldPlane.mono _ _ _ _
  |exact laws_markIntS.mono _ _ _
  |exact laws_markPlane.mono _ _ _ _
  |exact laws_markSample.mono _ _ _ _
  |exact laws_szSample.mono _ _ _ _
  |exact laws_toIntS.mono _ _
  |exact laws_toSample.mono _ _ _
  |exact spec_PlaneOfCounts.mono _ _ _ _
  |exact LeO.none _
  |refine LeO.ite ?_ ?_
  |refine LeO.bind ?_ (fun _ => ?_)
  ·intro y0 y1 y2 y3 y4 y5 y6 y7 y8
   unfold laws_FnExactPlaneOfCounts.j1
   repeat' first
  |(with_reducible exact ih0 _ _ _ _ _ _ _ _ _ _ _ _ _)
  |(with_reducible exact ih1 _ _ _ _ _ _ _ _ _)
  |(with_reducible exact ih2 _ _ _ _)
  |(with_reducible exact impl_PlaneOfCounts.mono _ _ _ _)
  |(with_reducible exact laws_eqIntS.mono _ _ _)
  |(with_reducible exact laws_eqPlane.mono _ _ _ _ _)
  |(with_reducible exact laws_eqSample.mono _ _ _ _ _)
  |(with_reducible exact laws_heldPlane.mono _ _ _ _)
  |(with_reducible exact laws_markIntS.mono _ _ _)
  |(with_reducible exact laws_markPlane.mono _ _ _ _)
  |(with_reducible exact laws_markSample.mono _ _ _ _)
  |(with_reducible exact laws_szSample.mono _ _ _ _)
  |(with_reducible exact laws_toIntS.mono _ _)
  |(with_reducible exact laws_toSample.mono _ _ _)
  |(with_reducible exact spec_PlaneOfCounts.mono _ _ _ _)
  |(with_reducible exact LeO.refl _)
  |(with_reducible exact LeO.none _)
  |(with_reducible refine LeO.ite ?_ ?_)
  |(with_reducible refine LeO.bind ?_ (fun _ => ?_))
  |exact ih0 _ _ _ _ _ _ _ _ _ _ _ _ _
  |exact ih1 _ _ _ _ _ _ _ _ _
  |exact ih2 _ _ _ _
  |exact impl_PlaneOfCounts.mono _ _ _ _
  |exact laws_eqIntS.mono _ _ _
  |exact laws_eqPlane.mono _ _ _ _ _
  |exact laws_eqSample.mono _ _ _ _ _
  |exact laws_heldPlane.mono _ _ _ _
  |exact laws_markIntS.mono _ _ _
  |exact laws_markPlane.mono _ _ _ _
  |exact laws_markSample.mono _ _ _ _
  |exact laws_szSample.mono _ _ _ _
  |exact laws_toIntS.mono _ _
  |exact laws_toSample.mono _ _ _
  |exact spec_PlaneOfCounts.mono _ _ _ _
  |exact LeO.none _
  |refine LeO.ite ?_ ?_
  |refine LeO.bind ?_ (fun _ => ?_)
  ·intro y0 y1 y2 y3
   unfold laws_FnExactPlaneOfCounts.j2
   repeat' first
  |(with_reducible exact ih0 _ _ _ _ _ _ _ _ _ _ _ _ _)
  |(with_reducible exact ih1 _ _ _ _ _ _ _ _ _)
  |(with_reducible exact ih2 _ _ _ _)
  |(with_reducible exact impl_PlaneOfCounts.mono _ _ _ _)
  |(with_reducible exact laws_eqIntS.mono _ _ _)
  |(with_reducible exact laws_eqPlane.mono _ _ _ _ _)
  |(with_reducible exact laws_eqSample.mono _ _ _ _ _)
  |(with_reducible exact laws_heldPlane.mono _ _ _ _)
  |(with_reducible exact laws_markIntS.mono _ _ _)
  |(with_reducible exact laws_markPlane.mono _ _ _ _)
  |(with_reducible exact laws_markSample.mono _ _ _ _)
  |(with_reducible exact laws_szSample.mono _ _ _ _)
  |(with_reducible exact laws_toIntS.mono _ _)
  |(with_reducible exact laws_toSample.mono _ _ _)
  |(with_reducible exact spec_PlaneOfCounts.mono _ _ _ _)
  |(with_reducible exact LeO.refl _)
  |(with_reducible exact LeO.none _)
  |(with_reducible refine LeO.ite ?_ ?_)
  |(with_reducible refine LeO.bind ?_ (fun _ => ?_))
  |exact ih0 _ _ _ _ _ _ _ _ _ _ _ _ _
  |exact ih1 _ _ _ _ _ _ _ _ _
  |exact ih2 _ _ _ _
  |exact impl_PlaneOfCounts.mono _ _ _ _
  |exact laws_eqIntS.mono _ _ _
  |exact laws_eqPlane.mono _ _ _ _ _
  |exact laws_eqSample.mono _ _ _ _ _
  |exact laws_heldPlane.mono _ _ _ _
  |exact laws_markIntS.mono _ _ _
  |exact laws_markPlane.mono _ _ _ _
  |exact laws_markSample.mono _ _ _ _
  |exact laws_szSample.mono _ _ _ _
  |exact laws_toIntS.mono _ _
  |exact laws_toSample.mono _ _ _
  |exact spec_PlaneOfCounts.mono _ _ _ _
  |exact LeO.none _
  |refine LeO.ite ?_ ?_
  |refine LeO.bind ?_ (fun _ => ?_)
theorem laws_FnExactPlaneOfCounts.mono : ∀ a0 a1 a2 k, LeO (laws_FnExactPlaneOfCounts.f k a0 a1 a2) (laws_FnExactPlaneOfCounts.f (k + 1) a0 a1 a2) := by
 intro a0 a1 a2 k
 obtain ⟨ih0, ih1, ih2⟩ := laws_FnExactPlaneOfCounts.mono_l k
 unfold laws_FnExactPlaneOfCounts.f
 repeat' first
  |(with_reducible exact ih0 _ _ _ _ _ _ _ _ _ _ _ _ _)
  |(with_reducible exact ih1 _ _ _ _ _ _ _ _ _)
  |(with_reducible exact ih2 _ _ _ _)
  |(with_reducible exact impl_PlaneOfCounts.mono _ _ _ _)
  |(with_reducible exact laws_eqIntS.mono _ _ _)
  |(with_reducible exact laws_eqPlane.mono _ _ _ _ _)
  |(with_reducible exact laws_eqSample.mono _ _ _ _ _)
  |(with_reducible exact laws_heldPlane.mono _ _ _ _)
  |(with_reducible exact laws_markIntS.mono _ _ _)
  |(with_reducible exact laws_markPlane.mono _ _ _ _)
  |(with_reducible exact laws_markSample.mono _ _ _ _)
  |(with_reducible exact laws_szSample.mono _ _ _ _)
  |(with_reducible exact laws_toIntS.mono _ _)
  |(with_reducible exact laws_toSample.mono _ _ _)
  |(with_reducible exact spec_PlaneOfCounts.mono _ _ _ _)
  |(with_reducible exact LeO.refl _)
  |(with_reducible exact LeO.none _)
  |(with_reducible refine LeO.ite ?_ ?_)
  |(with_reducible refine LeO.bind ?_ (fun _ => ?_))
  |exact ih0 _ _ _ _ _ _ _ _ _ _ _ _ _
  |exact ih1 _ _ _ _ _ _ _ _ _
  |exact ih2 _ _ _ _
  |exact impl_PlaneOfCounts.mono _ _ _ _
  |exact laws_eqIntS.mono _ _ _
  |exact laws_eqPlane.mono _ _ _ _ _
  |exact laws_eqSample.mono _ _ _ _ _
  |exact laws_heldPlane.mono _ _ _ _
  |exact laws_markIntS.mono _ _ _
  |exact laws_markPlane.mono _ _ _ _
  |exact laws_markSample.mono _ _ _ _
  |exact laws_szSample.mono _ _ _ _
  |exact laws_toIntS.mono _ _
  |exact laws_toSample.mono _ _ _
  |exact spec_PlaneOfCounts.mono _ _ _ _
  |exact LeO.none _
  |refine LeO.ite ?_ ?_
  |refine LeO.bind ?_ (fun _ => ?_)
set_option maxHeartbeats 8000000 in
set_option maxRecDepth 100000 in
theorem laws_FnExactPlaneOfCounts.calls (k : Nat) (A0_0 : Option Addr) (c0_0 : Nat) (l0_0 : List (List Int)) (A0_1 : Option Addr) (c0_1 : Nat) (l0_1 : List Int) (A1 : Option Addr) (c1 : Nat) (l1 : List Int) (r : Bool) (w : World) (hr0_0 : Kd.C (Kd.slice 3 (Kd.int .i64)) w A0_0 l0_0.length l0_0) (hc0_0 : l0_0.length ≤ c0_0) (hr0_1 : Kd.C (Kd.int .i64) w A0_1 l0_1.length l0_1) (hc0_1 : l0_1.length ≤ c0_1) (hr1 : Kd.C (Kd.int .i64) w A1 l1.length l1) (hc1 : l1.length ≤ c1) (h : laws_FnExactPlaneOfCounts.f k l0_0 l0_1 l1 = some r) :
  Calls Try.prog 11 #[.agg #[.slice A0_0 l0_0.length c0_0, .slice A0_1 l0_1.length c0_1], .slice A1 l1.length c1] w fun e w' => e = .returned (.bool r) ∧ Below w.heap.size w w' := by
 have hu34 := Try.underlying34
 have hu54 := Try.underlying54
 have hu38 := Try.underlying38
 have HR0_0 := Aside0.mk hr0_0
 have HC0_0 := Aside0.mk hc0_0
 clear hr0_0 hc0_0
 have HR0_1 := Aside0.mk hr0_1
 have HC0_1 := Aside0.mk hc0_1
 clear hr0_1 hc0_1
 have HR1 := Aside0.mk hr1
 have HC1 := Aside0.mk hc1
 clear hr1 hc1
 have HB := Aside0.mk (Below.refl w.heap.size w)
 have H : (if (l1.length : Int) > 1048576 then (some true) else ((laws_szSample.f k l0_0 l0_1 1048576).bind fun t213 => (if t213 < 0 then (some true) else ((laws_toSample.f k l0_0 l0_1).bind fun bt214 => ((laws_toIntS.f k l1).bind fun t220 => ((spec_PlaneOfCounts.f k bt214.1 bt214.2 t220).bind fun bt223 => ((laws_toSample.f k l0_0 l0_1).bind fun bt229 => ((laws_toIntS.f k l1).bind fun t236 => ((impl_PlaneOfCounts.f k bt229.1 bt229.2 t236).bind fun bt239 => ((laws_eqPlane.f k bt239.1 bt239.2.1 bt223.1 bt223.2.1).bind fun t245 => (if t245 = true then (laws_FnExactPlaneOfCounts.j0 k l1 bt223.2.2 t236 bt239.2.2 (bt239.2.2 != bt223.2.2) l0_0 l0_1 bt223.1 bt223.2.1 bt229.1 bt229.2 bt239.1 bt239.2.1) else (laws_FnExactPlaneOfCounts.j0 k l1 bt223.2.2 t236 bt239.2.2 true l0_0 l0_1 bt223.1 bt223.2.1 bt229.1 bt229.2 bt239.1 bt239.2.1)))))))))))) = some r := h
 clear h
 by_cases c3 : (l1.length : Int) > 1048576
 ·rw [if_pos c3] at H
  have c3b0 : decide (1048576 < (l1.length : Int)) = true := decide_eq_true c3
  have c3b1 : decide (1048576 < l1.length) = true := decide_eq_true (by omega)
  clear c3
  obtain rfl := Option.some.inj H
  go_enter Try.func11, Try.ntmps11
  go_wp2_with (first|((with_reducible refine gate_dst (N := 2) rfl ?_);refine box_event ?hg (N := 2) ?hd (cs := #[.slice A0_0 l0_0.length c0_0, .slice A0_1 l0_1.length c0_1]) (t := 34) ?hr ?_;(case hd => rfl);(case hg => rfl);(case hr => first|(go_simp;done)|(go_simp;rfl));intro gb212 hg w4 hbox hb;have n0_ := Aside0.mk (below_step (by repeat (first|(with_reducible first|exact HB.out|apply below_alloc|apply pw_below_drewN|apply below_drew1)|exact HB.out|exact Below.refl _ _)) hb);have n1_ := Aside0.mk (hbox);have n2_ := Aside0.mk ((by rw [hg];exact (below_size (by repeat (first|(with_reducible first|exact HB.out|apply below_alloc|apply pw_below_drewN|apply below_drew1)|exact HB.out|exact Below.refl _ _))) : w.heap.size ≤ gb212));have n3_ := Aside0.mk ((by rw [hg];exact (below_size (by repeat (first|(with_reducible first|exact HB.out|apply below_alloc|apply pw_below_drewN|apply below_drew1)|exact HB.out|exact Below.refl _ _))) : w.heap.size ≤ gb212));clear HB;have HB := n0_;have BK212 := n1_;have GW212 := n2_;have GE212 := n3_;clear n0_ n1_ n2_ n3_;clear hb hbox hg))
  go_ret
  exact ⟨by first|rfl|(simp [errW_none, errW_some] <;> rfl)|(simp [*, errW_none, errW_some] <;> rfl), by repeat (first|(with_reducible first|exact HB.out|apply below_alloc|apply pw_below_drewN|apply below_drew1|refine below_set ?_ GE212.out)|exact HB.out)⟩
 ·rw [if_neg c3] at H
  have c3b0 : decide (1048576 < (l1.length : Int)) = false := decide_eq_false c3
  have c3b1 : decide (1048576 < l1.length) = false := decide_eq_false (by omega)
  clear c3
  replace H := Option.bind_eq_some_iff.mp H
  obtain ⟨t213, A50, H⟩ := H
  replace H : (if t213 < 0 then (some true) else ((laws_toSample.f k l0_0 l0_1).bind fun bt214 => ((laws_toIntS.f k l1).bind fun t220 => ((spec_PlaneOfCounts.f k bt214.1 bt214.2 t220).bind fun bt223 => ((laws_toSample.f k l0_0 l0_1).bind fun bt229 => ((laws_toIntS.f k l1).bind fun t236 => ((impl_PlaneOfCounts.f k bt229.1 bt229.2 t236).bind fun bt239 => ((laws_eqPlane.f k bt239.1 bt239.2.1 bt223.1 bt223.2.1).bind fun t245 => (if t245 = true then (laws_FnExactPlaneOfCounts.j0 k l1 bt223.2.2 t236 bt239.2.2 (bt239.2.2 != bt223.2.2) l0_0 l0_1 bt223.1 bt223.2.1 bt229.1 bt229.2 bt239.1 bt239.2.1) else (laws_FnExactPlaneOfCounts.j0 k l1 bt223.2.2 t236 bt239.2.2 true l0_0 l0_1 bt223.1 bt223.2.1 bt229.1 bt229.2 bt239.1 bt239.2.1)))))))))) = some r := H
  have A5 := Aside0.mk A50
  clear A50
  by_cases c6 : t213 < 0
  ·rw [if_pos c6] at H
   have c6b0 : decide (t213 < 0) = true := decide_eq_true c6
   clear c6
   obtain rfl := Option.some.inj H
   go_enter Try.func11, Try.ntmps11
   go_wp2_with (first|((with_reducible refine gate_dst (N := 2) rfl ?_);refine box_event ?hg (N := 2) ?hd (cs := #[.slice A0_0 l0_0.length c0_0, .slice A0_1 l0_1.length c0_1]) (t := 34) ?hr ?_;(case hd => rfl);(case hg => rfl);(case hr => first|(go_simp;done)|(go_simp;rfl));intro gb212 hg w7 hbox hb;have n0_ := Aside0.mk (below_step (by repeat (first|(with_reducible first|exact HB.out|apply below_alloc|apply pw_below_drewN|apply below_drew1)|exact HB.out|exact Below.refl _ _)) hb);have n1_ := Aside0.mk (hbox);have n2_ := Aside0.mk ((by rw [hg];exact (below_size (by repeat (first|(with_reducible first|exact HB.out|apply below_alloc|apply pw_below_drewN|apply below_drew1)|exact HB.out|exact Below.refl _ _))) : w.heap.size ≤ gb212));have n3_ := Aside0.mk ((by rw [hg];exact (below_size (by repeat (first|(with_reducible first|exact HB.out|apply below_alloc|apply pw_below_drewN|apply below_drew1)|exact HB.out|exact Below.refl _ _))) : w.heap.size ≤ gb212));clear HB;have HB := n0_;have BK212 := n1_;have GW212 := n2_;have GE212 := n3_;clear n0_ n1_ n2_ n3_;clear hb hbox hg;have hcz8_0 : w7.cell? ⟨gb212, 0, none⟩ = some (.slice A0_0 l0_0.length c0_0) := (blk_cell BK212.out 0).trans rfl;have hcz8_1 : w7.cell? ⟨gb212, 1, none⟩ = some (.slice A0_1 l0_1.length c0_1) := (blk_cell BK212.out 1).trans rfl;have hfz8_0 := blk_frozen BK212.out 0;have hfz8_1 := blk_frozen BK212.out 1)|((with_reducible refine gate_callee (f := 25) rfl ?_);refine goesL_ (some 22) rfl rfl Try.func25 (by kernel_rfl) rfl #[.agg #[.slice A0_0 l0_0.length c0_0, .slice A0_1 l0_1.length c0_1], .int .i64 1048576] rfl (by (try simp only [List.map_toArray, List.map_cons, List.map_nil]);first|done|rfl|(simp only [List.length_drop, List.length_take];rfl)) ?_;(with_reducible refine (laws_szSample.calls k _ _ l0_0 _ _ l0_1 1048576 t213 _ ?side1 ?side2 ?side3 ?side4 A5.out).mono ?_);(case side1 => repeat (first|exact (C_below HR0_0.out HB.out)|(with_reducible refine C_alloc ?_ _)|(with_reducible refine C_drewN ?_ _)|(with_reducible refine C_drew ?_)));(case side2 => exact HC0_0.out);(case side3 => repeat (first|exact (C_below HR0_1.out HB.out)|(with_reducible refine C_alloc ?_ _)|(with_reducible refine C_drewN ?_ _)|(with_reducible refine C_drew ?_)));(case side4 => exact HC0_1.out);rintro e w9 ⟨rfl, hb⟩;refine ⟨_, rfl, ?_⟩;have n0_ := Aside0.mk (blk_below (g := gb212) (o := .cells #[.slice A0_0 l0_0.length c0_0, .slice A0_1 l0_1.length c0_1] 34 (0, 0)) (by (with_reducible repeat (first|refine blk_drewN ?_ _|refine blk_drew ?_|refine blk_alloc ?_ _));exact BK212.out) hb);have n1_ := Aside0.mk (below_step (by repeat (first|(with_reducible first|exact HB.out|apply below_alloc|apply pw_below_drewN|apply below_drew1|refine below_set ?_ GE212.out)|exact HB.out)) hb);clear BK212;clear HB;have BK212 := n0_;have HB := n1_;clear n0_ n1_;(try clear hb);(try clear hb2);(try clear hk);(try clear hi)))
   go_ret
   exact ⟨by first|rfl|(simp [errW_none, errW_some] <;> rfl)|(simp [*, errW_none, errW_some] <;> rfl), by repeat (first|(with_reducible first|exact HB.out|apply below_alloc|apply pw_below_drewN|apply below_drew1|refine below_set ?_ GE212.out)|exact HB.out)⟩
  ·rw [if_neg c6] at H
   have c6b0 : decide (t213 < 0) = false := decide_eq_false c6
   clear c6
   replace H := Option.bind_eq_some_iff.mp H
   obtain ⟨⟨t214, t217⟩, A100, H⟩ := H
   replace H : ((laws_toIntS.f k l1).bind fun t220 => ((spec_PlaneOfCounts.f k t214 t217 t220).bind fun bt223 => ((laws_toSample.f k l0_0 l0_1).bind fun bt229 => ((laws_toIntS.f k l1).bind fun t236 => ((impl_PlaneOfCounts.f k bt229.1 bt229.2 t236).bind fun bt239 => ((laws_eqPlane.f k bt239.1 bt239.2.1 bt223.1 bt223.2.1).bind fun t245 => (if t245 = true then (laws_FnExactPlaneOfCounts.j0 k l1 bt223.2.2 t236 bt239.2.2 (bt239.2.2 != bt223.2.2) l0_0 l0_1 bt223.1 bt223.2.1 bt229.1 bt229.2 bt239.1 bt239.2.1) else (laws_FnExactPlaneOfCounts.j0 k l1 bt223.2.2 t236 bt239.2.2 true l0_0 l0_1 bt223.1 bt223.2.1 bt229.1 bt229.2 bt239.1 bt239.2.1)))))))) = some r := H
   have A10 := Aside0.mk A100
   clear A100
   replace H := Option.bind_eq_some_iff.mp H
   obtain ⟨t220, A110, H⟩ := H
   replace H : ((spec_PlaneOfCounts.f k t214 t217 t220).bind fun bt223 => ((laws_toSample.f k l0_0 l0_1).bind fun bt229 => ((laws_toIntS.f k l1).bind fun t236 => ((impl_PlaneOfCounts.f k bt229.1 bt229.2 t236).bind fun bt239 => ((laws_eqPlane.f k bt239.1 bt239.2.1 bt223.1 bt223.2.1).bind fun t245 => (if t245 = true then (laws_FnExactPlaneOfCounts.j0 k l1 bt223.2.2 t236 bt239.2.2 (bt239.2.2 != bt223.2.2) l0_0 l0_1 bt223.1 bt223.2.1 bt229.1 bt229.2 bt239.1 bt239.2.1) else (laws_FnExactPlaneOfCounts.j0 k l1 bt223.2.2 t236 bt239.2.2 true l0_0 l0_1 bt223.1 bt223.2.1 bt229.1 bt229.2 bt239.1 bt239.2.1))))))) = some r := H
   have A11 := Aside0.mk A110
   clear A110
   replace H := Option.bind_eq_some_iff.mp H
   obtain ⟨⟨t223, t226, t227⟩, A120, H⟩ := H
   replace H : ((laws_toSample.f k l0_0 l0_1).bind fun bt229 => ((laws_toIntS.f k l1).bind fun t236 => ((impl_PlaneOfCounts.f k bt229.1 bt229.2 t236).bind fun bt239 => ((laws_eqPlane.f k bt239.1 bt239.2.1 t223 t226).bind fun t245 => (if t245 = true then (laws_FnExactPlaneOfCounts.j0 k l1 t227 t236 bt239.2.2 (bt239.2.2 != t227) l0_0 l0_1 t223 t226 bt229.1 bt229.2 bt239.1 bt239.2.1) else (laws_FnExactPlaneOfCounts.j0 k l1 t227 t236 bt239.2.2 true l0_0 l0_1 t223 t226 bt229.1 bt229.2 bt239.1 bt239.2.1)))))) = some r := H
   have A12 := Aside0.mk A120
   clear A120
   replace H := Option.bind_eq_some_iff.mp H
   obtain ⟨⟨t229, t232⟩, A130, H⟩ := H
   replace H : ((laws_toIntS.f k l1).bind fun t236 => ((impl_PlaneOfCounts.f k t229 t232 t236).bind fun bt239 => ((laws_eqPlane.f k bt239.1 bt239.2.1 t223 t226).bind fun t245 => (if t245 = true then (laws_FnExactPlaneOfCounts.j0 k l1 t227 t236 bt239.2.2 (bt239.2.2 != t227) l0_0 l0_1 t223 t226 t229 t232 bt239.1 bt239.2.1) else (laws_FnExactPlaneOfCounts.j0 k l1 t227 t236 bt239.2.2 true l0_0 l0_1 t223 t226 t229 t232 bt239.1 bt239.2.1))))) = some r := H
   have A13 := Aside0.mk A130
   clear A130
   replace H := Option.bind_eq_some_iff.mp H
   obtain ⟨t236, A140, H⟩ := H
   replace H : ((impl_PlaneOfCounts.f k t229 t232 t236).bind fun bt239 => ((laws_eqPlane.f k bt239.1 bt239.2.1 t223 t226).bind fun t245 => (if t245 = true then (laws_FnExactPlaneOfCounts.j0 k l1 t227 t236 bt239.2.2 (bt239.2.2 != t227) l0_0 l0_1 t223 t226 t229 t232 bt239.1 bt239.2.1) else (laws_FnExactPlaneOfCounts.j0 k l1 t227 t236 bt239.2.2 true l0_0 l0_1 t223 t226 t229 t232 bt239.1 bt239.2.1)))) = some r := H
   have A14 := Aside0.mk A140
   clear A140
   replace H := Option.bind_eq_some_iff.mp H
   obtain ⟨⟨t239, t242, t243⟩, A150, H⟩ := H
   replace H : ((laws_eqPlane.f k t239 t242 t223 t226).bind fun t245 => (if t245 = true then (laws_FnExactPlaneOfCounts.j0 k l1 t227 t236 t243 (t243 != t227) l0_0 l0_1 t223 t226 t229 t232 t239 t242) else (laws_FnExactPlaneOfCounts.j0 k l1 t227 t236 t243 true l0_0 l0_1 t223 t226 t229 t232 t239 t242))) = some r := H
   have A15 := Aside0.mk A150
   clear A150
   have HC16 := Aside0.mk H
   clear H
   go_enter Try.func11, Try.ntmps11
   go_upto_region 11 with (first|((with_reducible refine gate_dst (N := 2) rfl ?_);refine box_event ?hg (N := 2) ?hd (cs := #[.slice A0_0 l0_0.length c0_0, .slice A0_1 l0_1.length c0_1]) (t := 34) ?hr ?_;(case hd => rfl);(case hg => rfl);(case hr => first|(go_simp;done)|(go_simp;rfl));intro gb212 hg w17 hbox hb;have n0_ := Aside0.mk (below_step (by repeat (first|(with_reducible first|exact HB.out|apply below_alloc|apply pw_below_drewN|apply below_drew1)|exact HB.out|exact Below.refl _ _)) hb);have n1_ := Aside0.mk (hbox);have n2_ := Aside0.mk ((by rw [hg];exact (below_size (by repeat (first|(with_reducible first|exact HB.out|apply below_alloc|apply pw_below_drewN|apply below_drew1)|exact HB.out|exact Below.refl _ _))) : w.heap.size ≤ gb212));have n3_ := Aside0.mk ((by rw [hg];exact (below_size (by repeat (first|(with_reducible first|exact HB.out|apply below_alloc|apply pw_below_drewN|apply below_drew1)|exact HB.out|exact Below.refl _ _))) : w.heap.size ≤ gb212));clear HB;have HB := n0_;have BK212 := n1_;have GW212 := n2_;have GE212 := n3_;clear n0_ n1_ n2_ n3_;clear hb hbox hg;have hcz18_0 : w17.cell? ⟨gb212, 0, none⟩ = some (.slice A0_0 l0_0.length c0_0) := (blk_cell BK212.out 0).trans rfl;have hcz18_1 : w17.cell? ⟨gb212, 1, none⟩ = some (.slice A0_1 l0_1.length c0_1) := (blk_cell BK212.out 1).trans rfl;have hfz18_0 := blk_frozen BK212.out 0;have hfz18_1 := blk_frozen BK212.out 1)|((with_reducible refine gate_callee (f := 25) rfl ?_);refine goesL_ (some 22) rfl rfl Try.func25 (by kernel_rfl) rfl #[.agg #[.slice A0_0 l0_0.length c0_0, .slice A0_1 l0_1.length c0_1], .int .i64 1048576] rfl (by (try simp only [List.map_toArray, List.map_cons, List.map_nil]);first|done|rfl|(simp only [List.length_drop, List.length_take];rfl)) ?_;(with_reducible refine (laws_szSample.calls k _ _ l0_0 _ _ l0_1 1048576 t213 _ ?side1 ?side2 ?side3 ?side4 A5.out).mono ?_);(case side1 => repeat (first|exact (C_below HR0_0.out HB.out)|(with_reducible refine C_alloc ?_ _)|(with_reducible refine C_drewN ?_ _)|(with_reducible refine C_drew ?_)));(case side2 => exact HC0_0.out);(case side3 => repeat (first|exact (C_below HR0_1.out HB.out)|(with_reducible refine C_alloc ?_ _)|(with_reducible refine C_drewN ?_ _)|(with_reducible refine C_drew ?_)));(case side4 => exact HC0_1.out);rintro e w19 ⟨rfl, hb⟩;refine ⟨_, rfl, ?_⟩;have n0_ := Aside0.mk (blk_below (g := gb212) (o := .cells #[.slice A0_0 l0_0.length c0_0, .slice A0_1 l0_1.length c0_1] 34 (0, 0)) (by (with_reducible repeat (first|refine blk_drewN ?_ _|refine blk_drew ?_|refine blk_alloc ?_ _));exact BK212.out) hb);have n1_ := Aside0.mk (below_step (by repeat (first|(with_reducible first|exact HB.out|apply below_alloc|apply pw_below_drewN|apply below_drew1|refine below_set ?_ GE212.out)|exact HB.out)) hb);clear BK212;clear HB;have BK212 := n0_;have HB := n1_;clear n0_ n1_;(try clear hb);(try clear hb2);(try clear hk);(try clear hi);have hcz20_0 : w19.cell? ⟨gb212, 0, none⟩ = some (.slice A0_0 l0_0.length c0_0) := (blk_cell BK212.out 0).trans rfl;have hcz20_1 : w19.cell? ⟨gb212, 1, none⟩ = some (.slice A0_1 l0_1.length c0_1) := (blk_cell BK212.out 1).trans rfl;have hfz20_0 := blk_frozen BK212.out 0;have hfz20_1 := blk_frozen BK212.out 1)|((with_reducible refine gate_callee (f := 27) rfl ?_);refine goesL_ (some 27) rfl rfl Try.func27 (by kernel_rfl) rfl #[.agg #[.slice A0_0 l0_0.length c0_0, .slice A0_1 l0_1.length c0_1]] rfl (by (try simp only [List.map_toArray, List.map_cons, List.map_nil]);first|done|rfl|(simp only [List.length_drop, List.length_take];rfl)) ?_;(with_reducible refine (laws_toSample.calls k _ _ l0_0 _ _ l0_1 t214 t217 _ ?side1 ?side2 ?side3 ?side4 A10.out).mono ?_);(case side1 => repeat (first|exact (C_below HR0_0.out HB.out)|(with_reducible refine C_alloc ?_ _)|(with_reducible refine C_drewN ?_ _)|(with_reducible refine C_drew ?_)));(case side2 => exact HC0_0.out);(case side3 => repeat (first|exact (C_below HR0_1.out HB.out)|(with_reducible refine C_alloc ?_ _)|(with_reducible refine C_drewN ?_ _)|(with_reducible refine C_drew ?_)));(case side4 => exact HC0_1.out);rintro e w21 ⟨v215, v218, rfl, ho0, ho1, hb⟩;refine ⟨_, rfl, ?_⟩;have n0_ := Aside0.mk (S_lower ho0 (below_size (by repeat (first|(with_reducible first|exact HB.out|apply below_alloc|apply pw_below_drewN|apply below_drew1|refine below_set ?_ GE212.out)|exact HB.out))));have n1_ := Aside0.mk (R_lower ho1 (below_size (by repeat (first|(with_reducible first|exact HB.out|apply below_alloc|apply pw_below_drewN|apply below_drew1|refine below_set ?_ GE212.out)|exact HB.out))));have n2_ := Aside0.mk (blk_below (g := gb212) (o := .cells #[.slice A0_0 l0_0.length c0_0, .slice A0_1 l0_1.length c0_1] 34 (0, 0)) (by (with_reducible repeat (first|refine blk_drewN ?_ _|refine blk_drew ?_|refine blk_alloc ?_ _));exact BK212.out) hb);have n3_ := Aside0.mk (below_step (by repeat (first|(with_reducible first|exact HB.out|apply below_alloc|apply pw_below_drewN|apply below_drew1|refine below_set ?_ GE212.out)|exact HB.out)) hb);clear BK212;clear HB;have HO216 := n0_;have HO219 := n1_;have BK212 := n2_;have HB := n3_;clear n0_ n1_ n2_ n3_;(try clear hb);(try clear hb2);(try clear hk);(try clear hi);(try clear ho0);(try clear ho1))|((with_reducible refine gate_callee (f := 18) rfl ?_);refine goesL_ (some 29) rfl rfl Try.func18 (by kernel_rfl) rfl #[.slice A1 l1.length c1] rfl (by (try simp only [List.map_toArray, List.map_cons, List.map_nil]);first|done|rfl|(simp only [List.length_drop, List.length_take];rfl)) ?_;(with_reducible refine (laws_toIntS.calls k _ _ l1 t220 _ ?side1 ?side2 A11.out).mono ?_);(case side1 => repeat (first|exact (C_below HR1.out HB.out)|(with_reducible refine C_alloc ?_ _)|(with_reducible refine C_drewN ?_ _)|(with_reducible refine C_drew ?_)));(case side2 => exact HC1.out);rintro e w22 ⟨v221, rfl, ho0, hb⟩;refine ⟨_, rfl, ?_⟩;have n0_ := Aside0.mk (S_elder' (by (with_reducible repeat (first|apply S_alloc|apply S_drewN|apply S_drew));exact HO216.out) (R_base ho0) hb);have n1_ := Aside0.mk (R_elder' (by (with_reducible repeat (first|apply R_alloc|apply R_drewN|apply R_drew));exact HO219.out) (R_base ho0) hb);have n2_ := Aside0.mk (R_lower (R_new' ho0 (R_lt (by (with_reducible repeat (first|apply R_alloc|apply R_drewN|apply R_drew));exact HO219.out))) (below_size (by repeat (first|(with_reducible first|exact HB.out|apply below_alloc|apply pw_below_drewN|apply below_drew1|refine below_set ?_ GE212.out)|exact HB.out))));have n3_ := Aside0.mk (blk_below (g := gb212) (o := .cells #[.slice A0_0 l0_0.length c0_0, .slice A0_1 l0_1.length c0_1] 34 (0, 0)) (by (with_reducible repeat (first|refine blk_drewN ?_ _|refine blk_drew ?_|refine blk_alloc ?_ _));exact BK212.out) hb);have n4_ := Aside0.mk (below_step (by repeat (first|(with_reducible first|exact HB.out|apply below_alloc|apply pw_below_drewN|apply below_drew1|refine below_set ?_ GE212.out)|exact HB.out)) hb);clear HO216;clear HO219;clear BK212;clear HB;have HO216 := n0_;have HO219 := n1_;have HO222 := n2_;have BK212 := n3_;have HB := n4_;clear n0_ n1_ n2_ n3_ n4_;(try clear hb);(try clear hb2);(try clear hk);(try clear hi);(try clear ho0);obtain ⟨Ao23, co23, eo23⟩ := S_slice HO216.out;subst eo23;obtain ⟨Ao24, co24, eo24⟩ := R_slice HO219.out;subst eo24;obtain ⟨Ao25, co25, eo25⟩ := R_slice HO222.out;subst eo25)|((with_reducible refine gate_callee (f := 46) rfl ?_);refine goesL_ (some 30) rfl rfl Try.func46 (by kernel_rfl) rfl #[.agg #[.slice Ao23 t214.length co23, .slice Ao24 t217.length co24], .slice Ao25 t220.length co25] rfl (by (try simp only [List.map_toArray, List.map_cons, List.map_nil]);first|done|rfl|(simp only [List.length_drop, List.length_take];rfl)) ?_;(with_reducible refine (spec_PlaneOfCounts.calls k _ _ t214 _ _ t217 _ _ t220 t223 t226 t227 _ ?side1 ?side2 ?side3 ?side4 ?side5 ?side6 A12.out).mono ?_);(case side1 => repeat (first|exact (S_reads' HO216.out).2.2|(with_reducible refine C_alloc ?_ _)|(with_reducible refine C_drewN ?_ _)|(with_reducible refine C_drew ?_)));(case side2 => exact (S_reads' HO216.out).2.1);(case side3 => repeat (first|exact (R_reads' HO219.out).2.2|(with_reducible refine C_alloc ?_ _)|(with_reducible refine C_drewN ?_ _)|(with_reducible refine C_drew ?_)));(case side4 => exact (R_reads' HO219.out).2.1);(case side5 => repeat (first|exact (R_reads' HO222.out).2.2|(with_reducible refine C_alloc ?_ _)|(with_reducible refine C_drewN ?_ _)|(with_reducible refine C_drew ?_)));(case side6 => exact (R_reads' HO222.out).2.1);rintro e w26 ⟨v224, rfl, ho0, hb⟩;refine ⟨_, rfl, ?_⟩;have n0_ := Aside0.mk (S_elder' (by (with_reducible repeat (first|apply S_alloc|apply S_drewN|apply S_drew));exact HO216.out) (R_base ho0) hb);have n1_ := Aside0.mk (R_elder' (by (with_reducible repeat (first|apply R_alloc|apply R_drewN|apply R_drew));exact HO219.out) (R_base ho0) hb);have n2_ := Aside0.mk (R_elder' (by (with_reducible repeat (first|apply R_alloc|apply R_drewN|apply R_drew));exact HO222.out) (R_base ho0) hb);have n3_ := Aside0.mk (R_lower (R_new' (R_new' ho0 (R_lt (by (with_reducible repeat (first|apply R_alloc|apply R_drewN|apply R_drew));exact HO219.out))) (R_lt (by (with_reducible repeat (first|apply R_alloc|apply R_drewN|apply R_drew));exact HO222.out))) (below_size (by repeat (first|(with_reducible first|exact HB.out|apply below_alloc|apply pw_below_drewN|apply below_drew1|refine below_set ?_ GE212.out)|exact HB.out))));have n4_ := Aside0.mk (blk_below (g := gb212) (o := .cells #[.slice A0_0 l0_0.length c0_0, .slice A0_1 l0_1.length c0_1] 34 (0, 0)) (by (with_reducible repeat (first|refine blk_drewN ?_ _|refine blk_drew ?_|refine blk_alloc ?_ _));exact BK212.out) hb);have n5_ := Aside0.mk (below_step (by repeat (first|(with_reducible first|exact HB.out|apply below_alloc|apply pw_below_drewN|apply below_drew1|refine below_set ?_ GE212.out)|exact HB.out)) hb);clear HO216;clear HO219;clear HO222;clear BK212;clear HB;have HO216 := n0_;have HO219 := n1_;have HO222 := n2_;have HO225 := n3_;have BK212 := n4_;have HB := n5_;clear n0_ n1_ n2_ n3_ n4_ n5_;(try clear hb);(try clear hb2);(try clear hk);(try clear hi);(try clear ho0))|((with_reducible refine gate_dst (N := 6) rfl ?_);refine box_event ?hg (N := 6) ?hd (cs := #[.slice none 0 0, .int .i64 0]) (t := 54) ?hr ?_;(case hd => rfl);(case hg => rfl);(case hr => first|(go_simp;done)|(go_simp;rfl));intro gb228 hg w27 hbox hb;have n0_ := Aside0.mk (S_below (by (with_reducible repeat (first|apply S_alloc|apply S_drewN|apply S_drew));exact HO216.out) hb);have n1_ := Aside0.mk (R_below (by (with_reducible repeat (first|apply R_alloc|apply R_drewN|apply R_drew));exact HO219.out) hb);have n2_ := Aside0.mk (R_below (by (with_reducible repeat (first|apply R_alloc|apply R_drewN|apply R_drew));exact HO222.out) hb);have n3_ := Aside0.mk (R_below (by (with_reducible repeat (first|apply R_alloc|apply R_drewN|apply R_drew));exact HO225.out) hb);have n4_ := Aside0.mk (blk_below (g := gb212) (o := .cells #[.slice A0_0 l0_0.length c0_0, .slice A0_1 l0_1.length c0_1] 34 (0, 0)) (by (with_reducible repeat (first|refine blk_drewN ?_ _|refine blk_drew ?_|refine blk_alloc ?_ _));exact BK212.out) hb);have n5_ := Aside0.mk (below_step (by repeat (first|(with_reducible first|exact HB.out|apply below_alloc|apply pw_below_drewN|apply below_drew1|refine below_set ?_ GE212.out)|exact HB.out)) hb);have n6_ := Aside0.mk (hbox);have n7_ := Aside0.mk ((by rw [hg];exact (below_size (by repeat (first|(with_reducible first|exact HB.out|apply below_alloc|apply pw_below_drewN|apply below_drew1|refine below_set ?_ GE212.out)|exact HB.out))) : w.heap.size ≤ gb228));have n8_ := Aside0.mk ((by rw [hg];exact (below_size (by repeat (first|(with_reducible first|exact HB.out|apply below_alloc|apply pw_below_drewN|apply below_drew1|refine below_set ?_ GE212.out)|exact HB.out))) : w.heap.size ≤ gb228));have n9_ := Aside0.mk ((by rw [hg];exact Nat.ne_of_lt (blk_lt (g := gb212) (o := .cells #[.slice A0_0 l0_0.length c0_0, .slice A0_1 l0_1.length c0_1] 34 (0, 0)) (by (with_reducible repeat (first|refine blk_drewN ?_ _|refine blk_drew ?_|refine blk_alloc ?_ _));exact BK212.out)) : gb212 ≠ gb228));have n10_ := Aside0.mk ((by rw [hg];exact Nat.ne_of_gt (blk_lt (g := gb212) (o := .cells #[.slice A0_0 l0_0.length c0_0, .slice A0_1 l0_1.length c0_1] 34 (0, 0)) (by (with_reducible repeat (first|refine blk_drewN ?_ _|refine blk_drew ?_|refine blk_alloc ?_ _));exact BK212.out)) : gb228 ≠ gb212));clear HO216;clear HO219;clear HO222;clear HO225;clear BK212;clear HB;have HO216 := n0_;have HO219 := n1_;have HO222 := n2_;have HO225 := n3_;have BK212 := n4_;have HB := n5_;have BK228 := n6_;have GW228 := n7_;have GE228 := n8_;have NB212_228 := n9_;have NB228_212 := n10_;clear n0_ n1_ n2_ n3_ n4_ n5_ n6_ n7_ n8_ n9_ n10_;clear hb hbox hg;obtain ⟨Ao28, co28, eo28⟩ := R_slice HO225.out;subst eo28;have hnb29 := NB228_212.out;have hnc29 := NB212_228.out;have hcz30_0 : w27.cell? ⟨gb228, 0, none⟩ = some (.slice none 0 0) := (blk_cell BK228.out 0).trans rfl;have hcz30_1 : w27.cell? ⟨gb228, 1, none⟩ = some (.int .i64 0) := (blk_cell BK228.out 1).trans rfl;have hfz30_0 := blk_frozen BK228.out 0;have hfz30_1 := blk_frozen BK228.out 1;have hcz31_0 : w27.cell? ⟨gb212, 0, none⟩ = some (.slice A0_0 l0_0.length c0_0) := (blk_cell BK212.out 0).trans rfl;have hcz31_1 : w27.cell? ⟨gb212, 1, none⟩ = some (.slice A0_1 l0_1.length c0_1) := (blk_cell BK212.out 1).trans rfl;have hfz31_0 := blk_frozen BK212.out 0;have hfz31_1 := blk_frozen BK212.out 1)|((with_reducible refine gate_callee (f := 27) rfl ?_);refine goesL_ (some 34) rfl rfl Try.func27 (by kernel_rfl) rfl #[.agg #[.slice A0_0 l0_0.length c0_0, .slice A0_1 l0_1.length c0_1]] rfl (by (try simp only [List.map_toArray, List.map_cons, List.map_nil]);first|done|rfl|(simp only [List.length_drop, List.length_take];rfl)) ?_;(with_reducible refine (laws_toSample.calls k _ _ l0_0 _ _ l0_1 t229 t232 _ ?side1 ?side2 ?side3 ?side4 A13.out).mono ?_);(case side1 => exact C_below HR0_0.out (by repeat (first|(with_reducible first|exact HB.out|apply below_alloc|apply pw_below_drewN|apply below_drew1|refine below_set ?_ GE212.out|refine below_set ?_ GE228.out)|exact HB.out)));(case side2 => exact HC0_0.out);(case side3 => exact C_below HR0_1.out (by repeat (first|(with_reducible first|exact HB.out|apply below_alloc|apply pw_below_drewN|apply below_drew1|refine below_set ?_ GE212.out|refine below_set ?_ GE228.out)|exact HB.out)));(case side4 => exact HC0_1.out);rintro e w32 ⟨v230, v233, rfl, ho0, ho1, hb⟩;refine ⟨_, rfl, ?_⟩;have n0_ := Aside0.mk (S_mono (S_told (S_told (S_old (by (with_reducible repeat (first|apply S_alloc|apply S_drewN|apply S_drew));exact (S_mono (S_far (p := ⟨gb228, 1, none⟩) (S_far (p := ⟨gb228, 0, none⟩) (S_types HO216.out BK228.out (by decide)) (fun _ hk => hk.2) (.slice Ao28 t223.length co28)) (fun _ hk => hk.2) (.int .i64 t226)) (fun _ h_ => h_.1))) hb) (S_base ho0)) (R_base ho1)) (fun _ h_ => h_.1));have n1_ := Aside0.mk (R_elder' (by (with_reducible repeat (first|apply R_alloc|apply R_drewN|apply R_drew));exact (R_mono (R_far (p := ⟨gb228, 1, none⟩) (R_far (p := ⟨gb228, 0, none⟩) (R_types HO219.out BK228.out (by decide)) (fun _ hk => hk.2) (.slice Ao28 t223.length co28)) (fun _ hk => hk.2) (.int .i64 t226)) (fun _ h_ => h_.1))) (R_base ho1) hb);have n2_ := Aside0.mk (R_elder' (by (with_reducible repeat (first|apply R_alloc|apply R_drewN|apply R_drew));exact (R_mono (R_far (p := ⟨gb228, 1, none⟩) (R_far (p := ⟨gb228, 0, none⟩) (R_types HO222.out BK228.out (by decide)) (fun _ hk => hk.2) (.slice Ao28 t223.length co28)) (fun _ hk => hk.2) (.int .i64 t226)) (fun _ h_ => h_.1))) (R_base ho1) hb);have n3_ := Aside0.mk (R_elder' (by (with_reducible repeat (first|apply R_alloc|apply R_drewN|apply R_drew));exact (R_mono (R_far (p := ⟨gb228, 1, none⟩) (R_far (p := ⟨gb228, 0, none⟩) (R_types HO225.out BK228.out (by decide)) (fun _ hk => hk.2) (.slice Ao28 t223.length co28)) (fun _ hk => hk.2) (.int .i64 t226)) (fun _ h_ => h_.1))) (R_base ho1) hb);have n4_ := Aside0.mk (S_lower (S_new' (S_new' (S_new' (S_new' ho0 (S_lt (by (with_reducible repeat (first|apply S_alloc|apply S_drewN|apply S_drew));exact (S_mono (S_far (p := ⟨gb228, 1, none⟩) (S_far (p := ⟨gb228, 0, none⟩) (S_types HO216.out BK228.out (by decide)) (fun _ hk => hk.2) (.slice Ao28 t223.length co28)) (fun _ hk => hk.2) (.int .i64 t226)) (fun _ h_ => h_.1))))) (R_lt (by (with_reducible repeat (first|apply R_alloc|apply R_drewN|apply R_drew));exact (R_mono (R_far (p := ⟨gb228, 1, none⟩) (R_far (p := ⟨gb228, 0, none⟩) (R_types HO219.out BK228.out (by decide)) (fun _ hk => hk.2) (.slice Ao28 t223.length co28)) (fun _ hk => hk.2) (.int .i64 t226)) (fun _ h_ => h_.1))))) (R_lt (by (with_reducible repeat (first|apply R_alloc|apply R_drewN|apply R_drew));exact (R_mono (R_far (p := ⟨gb228, 1, none⟩) (R_far (p := ⟨gb228, 0, none⟩) (R_types HO222.out BK228.out (by decide)) (fun _ hk => hk.2) (.slice Ao28 t223.length co28)) (fun _ hk => hk.2) (.int .i64 t226)) (fun _ h_ => h_.1))))) (R_lt (by (with_reducible repeat (first|apply R_alloc|apply R_drewN|apply R_drew));exact (R_mono (R_far (p := ⟨gb228, 1, none⟩) (R_far (p := ⟨gb228, 0, none⟩) (R_types HO225.out BK228.out (by decide)) (fun _ hk => hk.2) (.slice Ao28 t223.length co28)) (fun _ hk => hk.2) (.int .i64 t226)) (fun _ h_ => h_.1))))) (below_size (by repeat (first|(with_reducible first|exact HB.out|apply below_alloc|apply pw_below_drewN|apply below_drew1|refine below_set ?_ GE212.out|refine below_set ?_ GE228.out)|exact HB.out))));have n5_ := Aside0.mk (R_lower (R_new' (R_new' (R_new' ho1 (R_lt (by (with_reducible repeat (first|apply R_alloc|apply R_drewN|apply R_drew));exact (R_mono (R_far (p := ⟨gb228, 1, none⟩) (R_far (p := ⟨gb228, 0, none⟩) (R_types HO219.out BK228.out (by decide)) (fun _ hk => hk.2) (.slice Ao28 t223.length co28)) (fun _ hk => hk.2) (.int .i64 t226)) (fun _ h_ => h_.1))))) (R_lt (by (with_reducible repeat (first|apply R_alloc|apply R_drewN|apply R_drew));exact (R_mono (R_far (p := ⟨gb228, 1, none⟩) (R_far (p := ⟨gb228, 0, none⟩) (R_types HO222.out BK228.out (by decide)) (fun _ hk => hk.2) (.slice Ao28 t223.length co28)) (fun _ hk => hk.2) (.int .i64 t226)) (fun _ h_ => h_.1))))) (R_lt (by (with_reducible repeat (first|apply R_alloc|apply R_drewN|apply R_drew));exact (R_mono (R_far (p := ⟨gb228, 1, none⟩) (R_far (p := ⟨gb228, 0, none⟩) (R_types HO225.out BK228.out (by decide)) (fun _ hk => hk.2) (.slice Ao28 t223.length co28)) (fun _ hk => hk.2) (.int .i64 t226)) (fun _ h_ => h_.1))))) (below_size (by repeat (first|(with_reducible first|exact HB.out|apply below_alloc|apply pw_below_drewN|apply below_drew1|refine below_set ?_ GE212.out|refine below_set ?_ GE228.out)|exact HB.out))));have n6_ := Aside0.mk (blk_below (g := gb212) (o := .cells #[.slice A0_0 l0_0.length c0_0, .slice A0_1 l0_1.length c0_1] 34 (0, 0)) (by (with_reducible repeat (first|refine blk_drewN ?_ _|refine blk_drew ?_|refine blk_alloc ?_ _));refine blk_far ?_ NB212_228.out _;(with_reducible repeat (first|refine blk_drewN ?_ _|refine blk_drew ?_|refine blk_alloc ?_ _));refine blk_far ?_ NB212_228.out _;(with_reducible repeat (first|refine blk_drewN ?_ _|refine blk_drew ?_|refine blk_alloc ?_ _));exact BK212.out) hb);have n7_ := Aside0.mk (blk_below (g := gb228) (o := .cells #[.slice Ao28 t223.length co28, .int .i64 t226] 54 (0, 0)) (by (with_reducible repeat (first|refine blk_drewN ?_ _|refine blk_drew ?_|refine blk_alloc ?_ _));refine blk_put (cs := #[.slice Ao28 t223.length co28, .int .i64 0]) ?_ 1 _ rfl;(with_reducible repeat (first|refine blk_drewN ?_ _|refine blk_drew ?_|refine blk_alloc ?_ _));refine blk_put (cs := #[.slice none 0 0, .int .i64 0]) ?_ 0 _ rfl;(with_reducible repeat (first|refine blk_drewN ?_ _|refine blk_drew ?_|refine blk_alloc ?_ _));exact BK228.out) hb);have n8_ := Aside0.mk (below_step (by repeat (first|(with_reducible first|exact HB.out|apply below_alloc|apply pw_below_drewN|apply below_drew1|refine below_set ?_ GE212.out|refine below_set ?_ GE228.out)|exact HB.out)) hb);clear HO216;clear HO219;clear HO222;clear HO225;clear BK212;clear BK228;clear HB;have HO216 := n0_;have HO219 := n1_;have HO222 := n2_;have HO225 := n3_;have HO231 := n4_;have HO234 := n5_;have BK212 := n6_;have BK228 := n7_;have HB := n8_;clear n0_ n1_ n2_ n3_ n4_ n5_ n6_ n7_ n8_;(try clear hb);(try clear hb2);(try clear hk);(try clear hi);(try clear ho0);(try clear ho1))|((with_reducible refine gate_dst (N := 8) rfl ?_);refine box_event ?hg (N := 8) ?hd (cs := #[.slice none 0 0, .slice none 0 0]) (t := 38) ?hr ?_;(case hd => rfl);(case hg => rfl);(case hr => first|(go_simp;done)|(go_simp;rfl));intro gb235 hg w33 hbox hb;have n0_ := Aside0.mk (S_below (by (with_reducible repeat (first|apply S_alloc|apply S_drewN|apply S_drew));exact HO216.out) hb);have n1_ := Aside0.mk (R_below (by (with_reducible repeat (first|apply R_alloc|apply R_drewN|apply R_drew));exact HO219.out) hb);have n2_ := Aside0.mk (R_below (by (with_reducible repeat (first|apply R_alloc|apply R_drewN|apply R_drew));exact HO222.out) hb);have n3_ := Aside0.mk (R_below (by (with_reducible repeat (first|apply R_alloc|apply R_drewN|apply R_drew));exact HO225.out) hb);have n4_ := Aside0.mk (S_below (by (with_reducible repeat (first|apply S_alloc|apply S_drewN|apply S_drew));exact HO231.out) hb);have n5_ := Aside0.mk (R_below (by (with_reducible repeat (first|apply R_alloc|apply R_drewN|apply R_drew));exact HO234.out) hb);have n6_ := Aside0.mk (blk_below (g := gb212) (o := .cells #[.slice A0_0 l0_0.length c0_0, .slice A0_1 l0_1.length c0_1] 34 (0, 0)) (by (with_reducible repeat (first|refine blk_drewN ?_ _|refine blk_drew ?_|refine blk_alloc ?_ _));exact BK212.out) hb);have n7_ := Aside0.mk (blk_below (g := gb228) (o := .cells #[.slice Ao28 t223.length co28, .int .i64 t226] 54 (0, 0)) (by (with_reducible repeat (first|refine blk_drewN ?_ _|refine blk_drew ?_|refine blk_alloc ?_ _));exact BK228.out) hb);have n8_ := Aside0.mk (below_step (by repeat (first|(with_reducible first|exact HB.out|apply below_alloc|apply pw_below_drewN|apply below_drew1|refine below_set ?_ GE212.out|refine below_set ?_ GE228.out)|exact HB.out)) hb);have n9_ := Aside0.mk (hbox);have n10_ := Aside0.mk ((by rw [hg];exact (below_size (by repeat (first|(with_reducible first|exact HB.out|apply below_alloc|apply pw_below_drewN|apply below_drew1|refine below_set ?_ GE212.out|refine below_set ?_ GE228.out)|exact HB.out))) : w.heap.size ≤ gb235));have n11_ := Aside0.mk ((by rw [hg];exact (below_size (by repeat (first|(with_reducible first|exact HB.out|apply below_alloc|apply pw_below_drewN|apply below_drew1|refine below_set ?_ GE212.out|refine below_set ?_ GE228.out)|exact HB.out))) : w.heap.size ≤ gb235));have n12_ := Aside0.mk ((by rw [hg];exact Nat.ne_of_lt (blk_lt (g := gb212) (o := .cells #[.slice A0_0 l0_0.length c0_0, .slice A0_1 l0_1.length c0_1] 34 (0, 0)) (by (with_reducible repeat (first|refine blk_drewN ?_ _|refine blk_drew ?_|refine blk_alloc ?_ _));exact BK212.out)) : gb212 ≠ gb235));have n13_ := Aside0.mk ((by rw [hg];exact Nat.ne_of_gt (blk_lt (g := gb212) (o := .cells #[.slice A0_0 l0_0.length c0_0, .slice A0_1 l0_1.length c0_1] 34 (0, 0)) (by (with_reducible repeat (first|refine blk_drewN ?_ _|refine blk_drew ?_|refine blk_alloc ?_ _));exact BK212.out)) : gb235 ≠ gb212));have n14_ := Aside0.mk ((by rw [hg];exact Nat.ne_of_lt (blk_lt (g := gb228) (o := .cells #[.slice Ao28 t223.length co28, .int .i64 t226] 54 (0, 0)) (by (with_reducible repeat (first|refine blk_drewN ?_ _|refine blk_drew ?_|refine blk_alloc ?_ _));exact BK228.out)) : gb228 ≠ gb235));have n15_ := Aside0.mk ((by rw [hg];exact Nat.ne_of_gt (blk_lt (g := gb228) (o := .cells #[.slice Ao28 t223.length co28, .int .i64 t226] 54 (0, 0)) (by (with_reducible repeat (first|refine blk_drewN ?_ _|refine blk_drew ?_|refine blk_alloc ?_ _));exact BK228.out)) : gb235 ≠ gb228));clear HO216;clear HO219;clear HO222;clear HO225;clear HO231;clear HO234;clear BK212;clear BK228;clear HB;have HO216 := n0_;have HO219 := n1_;have HO222 := n2_;have HO225 := n3_;have HO231 := n4_;have HO234 := n5_;have BK212 := n6_;have BK228 := n7_;have HB := n8_;have BK235 := n9_;have GW235 := n10_;have GE235 := n11_;have NB212_235 := n12_;have NB235_212 := n13_;have NB228_235 := n14_;have NB235_228 := n15_;clear n0_ n1_ n2_ n3_ n4_ n5_ n6_ n7_ n8_ n9_ n10_ n11_ n12_ n13_ n14_ n15_;clear hb hbox hg;obtain ⟨Ao34, co34, eo34⟩ := S_slice HO231.out;subst eo34;have hnb35 := NB235_212.out;have hnc35 := NB212_235.out;have hnb36 := NB235_228.out;have hnc36 := NB228_235.out;have hcz37_0 : w33.cell? ⟨gb235, 0, none⟩ = some (.slice none 0 0) := (blk_cell BK235.out 0).trans rfl;have hcz37_1 : w33.cell? ⟨gb235, 1, none⟩ = some (.slice none 0 0) := (blk_cell BK235.out 1).trans rfl;have hfz37_0 := blk_frozen BK235.out 0;have hfz37_1 := blk_frozen BK235.out 1;obtain ⟨Ao38, co38, eo38⟩ := R_slice HO234.out;subst eo38)|((with_reducible refine gate_callee (f := 18) rfl ?_);refine goesL_ (some 36) rfl rfl Try.func18 (by kernel_rfl) rfl #[.slice A1 l1.length c1] rfl (by (try simp only [List.map_toArray, List.map_cons, List.map_nil]);first|done|rfl|(simp only [List.length_drop, List.length_take];rfl)) ?_;(with_reducible refine (laws_toIntS.calls k _ _ l1 t236 _ ?side1 ?side2 A14.out).mono ?_);(case side1 => exact C_below HR1.out (by repeat (first|(with_reducible first|exact HB.out|apply below_alloc|apply pw_below_drewN|apply below_drew1|refine below_set ?_ GE212.out|refine below_set ?_ GE228.out|refine below_set ?_ GE235.out)|exact HB.out)));(case side2 => exact HC1.out);rintro e w39 ⟨v237, rfl, ho0, hb⟩;refine ⟨_, rfl, ?_⟩;have n0_ := Aside0.mk (S_elder' (by (with_reducible repeat (first|apply S_alloc|apply S_drewN|apply S_drew));exact (S_mono (S_far (p := ⟨gb235, 1, none⟩) (S_far (p := ⟨gb235, 0, none⟩) (S_types HO216.out BK235.out (by decide)) (fun _ hk => hk.2) (.slice Ao34 t229.length co34)) (fun _ hk => hk.2) (.slice Ao38 t232.length co38)) (fun _ h_ => h_.1))) (R_base ho0) hb);have n1_ := Aside0.mk (R_elder' (by (with_reducible repeat (first|apply R_alloc|apply R_drewN|apply R_drew));exact (R_mono (R_far (p := ⟨gb235, 1, none⟩) (R_far (p := ⟨gb235, 0, none⟩) (R_types HO219.out BK235.out (by decide)) (fun _ hk => hk.2) (.slice Ao34 t229.length co34)) (fun _ hk => hk.2) (.slice Ao38 t232.length co38)) (fun _ h_ => h_.1))) (R_base ho0) hb);have n2_ := Aside0.mk (R_elder' (by (with_reducible repeat (first|apply R_alloc|apply R_drewN|apply R_drew));exact (R_mono (R_far (p := ⟨gb235, 1, none⟩) (R_far (p := ⟨gb235, 0, none⟩) (R_types HO222.out BK235.out (by decide)) (fun _ hk => hk.2) (.slice Ao34 t229.length co34)) (fun _ hk => hk.2) (.slice Ao38 t232.length co38)) (fun _ h_ => h_.1))) (R_base ho0) hb);have n3_ := Aside0.mk (R_elder' (by (with_reducible repeat (first|apply R_alloc|apply R_drewN|apply R_drew));exact (R_mono (R_far (p := ⟨gb235, 1, none⟩) (R_far (p := ⟨gb235, 0, none⟩) (R_types HO225.out BK235.out (by decide)) (fun _ hk => hk.2) (.slice Ao34 t229.length co34)) (fun _ hk => hk.2) (.slice Ao38 t232.length co38)) (fun _ h_ => h_.1))) (R_base ho0) hb);have n4_ := Aside0.mk (S_elder' (by (with_reducible repeat (first|apply S_alloc|apply S_drewN|apply S_drew));exact (S_mono (S_far (p := ⟨gb235, 1, none⟩) (S_far (p := ⟨gb235, 0, none⟩) (S_types HO231.out BK235.out (by decide)) (fun _ hk => hk.2) (.slice Ao34 t229.length co34)) (fun _ hk => hk.2) (.slice Ao38 t232.length co38)) (fun _ h_ => h_.1))) (R_base ho0) hb);have n5_ := Aside0.mk (R_elder' (by (with_reducible repeat (first|apply R_alloc|apply R_drewN|apply R_drew));exact (R_mono (R_far (p := ⟨gb235, 1, none⟩) (R_far (p := ⟨gb235, 0, none⟩) (R_types HO234.out BK235.out (by decide)) (fun _ hk => hk.2) (.slice Ao34 t229.length co34)) (fun _ hk => hk.2) (.slice Ao38 t232.length co38)) (fun _ h_ => h_.1))) (R_base ho0) hb);have n6_ := Aside0.mk (R_lower (R_new' (R_new' (R_new' (R_new' ho0 (R_lt (by (with_reducible repeat (first|apply R_alloc|apply R_drewN|apply R_drew));exact (R_mono (R_far (p := ⟨gb235, 1, none⟩) (R_far (p := ⟨gb235, 0, none⟩) (R_types HO219.out BK235.out (by decide)) (fun _ hk => hk.2) (.slice Ao34 t229.length co34)) (fun _ hk => hk.2) (.slice Ao38 t232.length co38)) (fun _ h_ => h_.1))))) (R_lt (by (with_reducible repeat (first|apply R_alloc|apply R_drewN|apply R_drew));exact (R_mono (R_far (p := ⟨gb235, 1, none⟩) (R_far (p := ⟨gb235, 0, none⟩) (R_types HO222.out BK235.out (by decide)) (fun _ hk => hk.2) (.slice Ao34 t229.length co34)) (fun _ hk => hk.2) (.slice Ao38 t232.length co38)) (fun _ h_ => h_.1))))) (R_lt (by (with_reducible repeat (first|apply R_alloc|apply R_drewN|apply R_drew));exact (R_mono (R_far (p := ⟨gb235, 1, none⟩) (R_far (p := ⟨gb235, 0, none⟩) (R_types HO225.out BK235.out (by decide)) (fun _ hk => hk.2) (.slice Ao34 t229.length co34)) (fun _ hk => hk.2) (.slice Ao38 t232.length co38)) (fun _ h_ => h_.1))))) (R_lt (by (with_reducible repeat (first|apply R_alloc|apply R_drewN|apply R_drew));exact (R_mono (R_far (p := ⟨gb235, 1, none⟩) (R_far (p := ⟨gb235, 0, none⟩) (R_types HO234.out BK235.out (by decide)) (fun _ hk => hk.2) (.slice Ao34 t229.length co34)) (fun _ hk => hk.2) (.slice Ao38 t232.length co38)) (fun _ h_ => h_.1))))) (below_size (by repeat (first|(with_reducible first|exact HB.out|apply below_alloc|apply pw_below_drewN|apply below_drew1|refine below_set ?_ GE212.out|refine below_set ?_ GE228.out|refine below_set ?_ GE235.out)|exact HB.out))));have n7_ := Aside0.mk (blk_below (g := gb212) (o := .cells #[.slice A0_0 l0_0.length c0_0, .slice A0_1 l0_1.length c0_1] 34 (0, 0)) (by (with_reducible repeat (first|refine blk_drewN ?_ _|refine blk_drew ?_|refine blk_alloc ?_ _));refine blk_far ?_ NB212_235.out _;(with_reducible repeat (first|refine blk_drewN ?_ _|refine blk_drew ?_|refine blk_alloc ?_ _));refine blk_far ?_ NB212_235.out _;(with_reducible repeat (first|refine blk_drewN ?_ _|refine blk_drew ?_|refine blk_alloc ?_ _));exact BK212.out) hb);have n8_ := Aside0.mk (blk_below (g := gb228) (o := .cells #[.slice Ao28 t223.length co28, .int .i64 t226] 54 (0, 0)) (by (with_reducible repeat (first|refine blk_drewN ?_ _|refine blk_drew ?_|refine blk_alloc ?_ _));refine blk_far ?_ NB228_235.out _;(with_reducible repeat (first|refine blk_drewN ?_ _|refine blk_drew ?_|refine blk_alloc ?_ _));refine blk_far ?_ NB228_235.out _;(with_reducible repeat (first|refine blk_drewN ?_ _|refine blk_drew ?_|refine blk_alloc ?_ _));exact BK228.out) hb);have n9_ := Aside0.mk (blk_below (g := gb235) (o := .cells #[.slice Ao34 t229.length co34, .slice Ao38 t232.length co38] 38 (0, 0)) (by (with_reducible repeat (first|refine blk_drewN ?_ _|refine blk_drew ?_|refine blk_alloc ?_ _));refine blk_put (cs := #[.slice Ao34 t229.length co34, .slice none 0 0]) ?_ 1 _ rfl;(with_reducible repeat (first|refine blk_drewN ?_ _|refine blk_drew ?_|refine blk_alloc ?_ _));refine blk_put (cs := #[.slice none 0 0, .slice none 0 0]) ?_ 0 _ rfl;(with_reducible repeat (first|refine blk_drewN ?_ _|refine blk_drew ?_|refine blk_alloc ?_ _));exact BK235.out) hb);have n10_ := Aside0.mk (below_step (by repeat (first|(with_reducible first|exact HB.out|apply below_alloc|apply pw_below_drewN|apply below_drew1|refine below_set ?_ GE212.out|refine below_set ?_ GE228.out|refine below_set ?_ GE235.out)|exact HB.out)) hb);clear HO216;clear HO219;clear HO222;clear HO225;clear HO231;clear HO234;clear BK212;clear BK228;clear BK235;clear HB;have HO216 := n0_;have HO219 := n1_;have HO222 := n2_;have HO225 := n3_;have HO231 := n4_;have HO234 := n5_;have HO238 := n6_;have BK212 := n7_;have BK228 := n8_;have BK235 := n9_;have HB := n10_;clear n0_ n1_ n2_ n3_ n4_ n5_ n6_ n7_ n8_ n9_ n10_;(try clear hb);(try clear hb2);(try clear hk);(try clear hi);(try clear ho0);have hcz40_0 : w39.cell? ⟨gb235, 0, none⟩ = some (.slice Ao34 t229.length co34) := (blk_cell BK235.out 0).trans rfl;have hcz40_1 : w39.cell? ⟨gb235, 1, none⟩ = some (.slice Ao38 t232.length co38) := (blk_cell BK235.out 1).trans rfl;have hfz40_0 := blk_frozen BK235.out 0;have hfz40_1 := blk_frozen BK235.out 1;obtain ⟨Ao41, co41, eo41⟩ := R_slice HO238.out;subst eo41)|((with_reducible refine gate_callee (f := 47) rfl ?_);refine goesL_ (some 40) rfl rfl Try.func47 (by kernel_rfl) rfl #[.agg #[.slice Ao34 t229.length co34, .slice Ao38 t232.length co38], .slice Ao41 t236.length co41] rfl (by (try simp only [List.map_toArray, List.map_cons, List.map_nil]);first|done|rfl|(simp only [List.length_drop, List.length_take];rfl)) ?_;(with_reducible refine (impl_PlaneOfCounts.calls k _ _ t229 _ _ t232 _ _ t236 t239 t242 t243 _ ?side1 ?side2 ?side3 ?side4 ?side5 ?side6 A15.out).mono ?_);(case side1 => repeat (first|exact (S_reads' HO231.out).2.2|(with_reducible refine C_alloc ?_ _)|(with_reducible refine C_drewN ?_ _)|(with_reducible refine C_drew ?_)));(case side2 => exact (S_reads' HO231.out).2.1);(case side3 => repeat (first|exact (R_reads' HO234.out).2.2|(with_reducible refine C_alloc ?_ _)|(with_reducible refine C_drewN ?_ _)|(with_reducible refine C_drew ?_)));(case side4 => exact (R_reads' HO234.out).2.1);(case side5 => repeat (first|exact (R_reads' HO238.out).2.2|(with_reducible refine C_alloc ?_ _)|(with_reducible refine C_drewN ?_ _)|(with_reducible refine C_drew ?_)));(case side6 => exact (R_reads' HO238.out).2.1);rintro e w42 ⟨v240, rfl, ho0, hb⟩;refine ⟨_, rfl, ?_⟩;have n0_ := Aside0.mk (S_elder' (by (with_reducible repeat (first|apply S_alloc|apply S_drewN|apply S_drew));exact HO216.out) (R_base ho0) hb);have n1_ := Aside0.mk (R_elder' (by (with_reducible repeat (first|apply R_alloc|apply R_drewN|apply R_drew));exact HO219.out) (R_base ho0) hb);have n2_ := Aside0.mk (R_elder' (by (with_reducible repeat (first|apply R_alloc|apply R_drewN|apply R_drew));exact HO222.out) (R_base ho0) hb);have n3_ := Aside0.mk (R_elder' (by (with_reducible repeat (first|apply R_alloc|apply R_drewN|apply R_drew));exact HO225.out) (R_base ho0) hb);have n4_ := Aside0.mk (S_elder' (by (with_reducible repeat (first|apply S_alloc|apply S_drewN|apply S_drew));exact HO231.out) (R_base ho0) hb);have n5_ := Aside0.mk (R_elder' (by (with_reducible repeat (first|apply R_alloc|apply R_drewN|apply R_drew));exact HO234.out) (R_base ho0) hb);have n6_ := Aside0.mk (R_elder' (by (with_reducible repeat (first|apply R_alloc|apply R_drewN|apply R_drew));exact HO238.out) (R_base ho0) hb);have n7_ := Aside0.mk (R_lower (R_new' (R_new' (R_new' (R_new' (R_new' ho0 (R_lt (by (with_reducible repeat (first|apply R_alloc|apply R_drewN|apply R_drew));exact HO219.out))) (R_lt (by (with_reducible repeat (first|apply R_alloc|apply R_drewN|apply R_drew));exact HO222.out))) (R_lt (by (with_reducible repeat (first|apply R_alloc|apply R_drewN|apply R_drew));exact HO225.out))) (R_lt (by (with_reducible repeat (first|apply R_alloc|apply R_drewN|apply R_drew));exact HO234.out))) (R_lt (by (with_reducible repeat (first|apply R_alloc|apply R_drewN|apply R_drew));exact HO238.out))) (below_size (by repeat (first|(with_reducible first|exact HB.out|apply below_alloc|apply pw_below_drewN|apply below_drew1|refine below_set ?_ GE212.out|refine below_set ?_ GE228.out|refine below_set ?_ GE235.out)|exact HB.out))));have n8_ := Aside0.mk (blk_below (g := gb212) (o := .cells #[.slice A0_0 l0_0.length c0_0, .slice A0_1 l0_1.length c0_1] 34 (0, 0)) (by (with_reducible repeat (first|refine blk_drewN ?_ _|refine blk_drew ?_|refine blk_alloc ?_ _));exact BK212.out) hb);have n9_ := Aside0.mk (blk_below (g := gb228) (o := .cells #[.slice Ao28 t223.length co28, .int .i64 t226] 54 (0, 0)) (by (with_reducible repeat (first|refine blk_drewN ?_ _|refine blk_drew ?_|refine blk_alloc ?_ _));exact BK228.out) hb);have n10_ := Aside0.mk (blk_below (g := gb235) (o := .cells #[.slice Ao34 t229.length co34, .slice Ao38 t232.length co38] 38 (0, 0)) (by (with_reducible repeat (first|refine blk_drewN ?_ _|refine blk_drew ?_|refine blk_alloc ?_ _));exact BK235.out) hb);have n11_ := Aside0.mk (below_step (by repeat (first|(with_reducible first|exact HB.out|apply below_alloc|apply pw_below_drewN|apply below_drew1|refine below_set ?_ GE212.out|refine below_set ?_ GE228.out|refine below_set ?_ GE235.out)|exact HB.out)) hb);clear HO216;clear HO219;clear HO222;clear HO225;clear HO231;clear HO234;clear HO238;clear BK212;clear BK228;clear BK235;clear HB;have HO216 := n0_;have HO219 := n1_;have HO222 := n2_;have HO225 := n3_;have HO231 := n4_;have HO234 := n5_;have HO238 := n6_;have HO241 := n7_;have BK212 := n8_;have BK228 := n9_;have BK235 := n10_;have HB := n11_;clear n0_ n1_ n2_ n3_ n4_ n5_ n6_ n7_ n8_ n9_ n10_ n11_;(try clear hb);(try clear hb2);(try clear hk);(try clear hi);(try clear ho0))|((with_reducible refine gate_dst (N := 10) rfl ?_);refine box_event ?hg (N := 10) ?hd (cs := #[.slice none 0 0, .int .i64 0]) (t := 54) ?hr ?_;(case hd => rfl);(case hg => rfl);(case hr => first|(go_simp;done)|(go_simp;rfl));intro gb244 hg w43 hbox hb;have n0_ := Aside0.mk (S_below (by (with_reducible repeat (first|apply S_alloc|apply S_drewN|apply S_drew));exact HO216.out) hb);have n1_ := Aside0.mk (R_below (by (with_reducible repeat (first|apply R_alloc|apply R_drewN|apply R_drew));exact HO219.out) hb);have n2_ := Aside0.mk (R_below (by (with_reducible repeat (first|apply R_alloc|apply R_drewN|apply R_drew));exact HO222.out) hb);have n3_ := Aside0.mk (R_below (by (with_reducible repeat (first|apply R_alloc|apply R_drewN|apply R_drew));exact HO225.out) hb);have n4_ := Aside0.mk (S_below (by (with_reducible repeat (first|apply S_alloc|apply S_drewN|apply S_drew));exact HO231.out) hb);have n5_ := Aside0.mk (R_below (by (with_reducible repeat (first|apply R_alloc|apply R_drewN|apply R_drew));exact HO234.out) hb);have n6_ := Aside0.mk (R_below (by (with_reducible repeat (first|apply R_alloc|apply R_drewN|apply R_drew));exact HO238.out) hb);have n7_ := Aside0.mk (R_below (by (with_reducible repeat (first|apply R_alloc|apply R_drewN|apply R_drew));exact HO241.out) hb);have n8_ := Aside0.mk (blk_below (g := gb212) (o := .cells #[.slice A0_0 l0_0.length c0_0, .slice A0_1 l0_1.length c0_1] 34 (0, 0)) (by (with_reducible repeat (first|refine blk_drewN ?_ _|refine blk_drew ?_|refine blk_alloc ?_ _));exact BK212.out) hb);have n9_ := Aside0.mk (blk_below (g := gb228) (o := .cells #[.slice Ao28 t223.length co28, .int .i64 t226] 54 (0, 0)) (by (with_reducible repeat (first|refine blk_drewN ?_ _|refine blk_drew ?_|refine blk_alloc ?_ _));exact BK228.out) hb);have n10_ := Aside0.mk (blk_below (g := gb235) (o := .cells #[.slice Ao34 t229.length co34, .slice Ao38 t232.length co38] 38 (0, 0)) (by (with_reducible repeat (first|refine blk_drewN ?_ _|refine blk_drew ?_|refine blk_alloc ?_ _));exact BK235.out) hb);have n11_ := Aside0.mk (below_step (by repeat (first|(with_reducible first|exact HB.out|apply below_alloc|apply pw_below_drewN|apply below_drew1|refine below_set ?_ GE212.out|refine below_set ?_ GE228.out|refine below_set ?_ GE235.out)|exact HB.out)) hb);have n12_ := Aside0.mk (hbox);have n13_ := Aside0.mk ((by rw [hg];exact (below_size (by repeat (first|(with_reducible first|exact HB.out|apply below_alloc|apply pw_below_drewN|apply below_drew1|refine below_set ?_ GE212.out|refine below_set ?_ GE228.out|refine below_set ?_ GE235.out)|exact HB.out))) : w.heap.size ≤ gb244));have n14_ := Aside0.mk ((by rw [hg];exact (below_size (by repeat (first|(with_reducible first|exact HB.out|apply below_alloc|apply pw_below_drewN|apply below_drew1|refine below_set ?_ GE212.out|refine below_set ?_ GE228.out|refine below_set ?_ GE235.out)|exact HB.out))) : w.heap.size ≤ gb244));have n15_ := Aside0.mk ((by rw [hg];exact Nat.ne_of_lt (blk_lt (g := gb212) (o := .cells #[.slice A0_0 l0_0.length c0_0, .slice A0_1 l0_1.length c0_1] 34 (0, 0)) (by (with_reducible repeat (first|refine blk_drewN ?_ _|refine blk_drew ?_|refine blk_alloc ?_ _));exact BK212.out)) : gb212 ≠ gb244));have n16_ := Aside0.mk ((by rw [hg];exact Nat.ne_of_gt (blk_lt (g := gb212) (o := .cells #[.slice A0_0 l0_0.length c0_0, .slice A0_1 l0_1.length c0_1] 34 (0, 0)) (by (with_reducible repeat (first|refine blk_drewN ?_ _|refine blk_drew ?_|refine blk_alloc ?_ _));exact BK212.out)) : gb244 ≠ gb212));have n17_ := Aside0.mk ((by rw [hg];exact Nat.ne_of_lt (blk_lt (g := gb228) (o := .cells #[.slice Ao28 t223.length co28, .int .i64 t226] 54 (0, 0)) (by (with_reducible repeat (first|refine blk_drewN ?_ _|refine blk_drew ?_|refine blk_alloc ?_ _));exact BK228.out)) : gb228 ≠ gb244));have n18_ := Aside0.mk ((by rw [hg];exact Nat.ne_of_gt (blk_lt (g := gb228) (o := .cells #[.slice Ao28 t223.length co28, .int .i64 t226] 54 (0, 0)) (by (with_reducible repeat (first|refine blk_drewN ?_ _|refine blk_drew ?_|refine blk_alloc ?_ _));exact BK228.out)) : gb244 ≠ gb228));have n19_ := Aside0.mk ((by rw [hg];exact Nat.ne_of_lt (blk_lt (g := gb235) (o := .cells #[.slice Ao34 t229.length co34, .slice Ao38 t232.length co38] 38 (0, 0)) (by (with_reducible repeat (first|refine blk_drewN ?_ _|refine blk_drew ?_|refine blk_alloc ?_ _));exact BK235.out)) : gb235 ≠ gb244));have n20_ := Aside0.mk ((by rw [hg];exact Nat.ne_of_gt (blk_lt (g := gb235) (o := .cells #[.slice Ao34 t229.length co34, .slice Ao38 t232.length co38] 38 (0, 0)) (by (with_reducible repeat (first|refine blk_drewN ?_ _|refine blk_drew ?_|refine blk_alloc ?_ _));exact BK235.out)) : gb244 ≠ gb235));clear HO216;clear HO219;clear HO222;clear HO225;clear HO231;clear HO234;clear HO238;clear HO241;clear BK212;clear BK228;clear BK235;clear HB;have HO216 := n0_;have HO219 := n1_;have HO222 := n2_;have HO225 := n3_;have HO231 := n4_;have HO234 := n5_;have HO238 := n6_;have HO241 := n7_;have BK212 := n8_;have BK228 := n9_;have BK235 := n10_;have HB := n11_;have BK244 := n12_;have GW244 := n13_;have GE244 := n14_;have NB212_244 := n15_;have NB244_212 := n16_;have NB228_244 := n17_;have NB244_228 := n18_;have NB235_244 := n19_;have NB244_235 := n20_;clear n0_ n1_ n2_ n3_ n4_ n5_ n6_ n7_ n8_ n9_ n10_ n11_ n12_ n13_ n14_ n15_ n16_ n17_ n18_ n19_ n20_;clear hb hbox hg;obtain ⟨Ao44, co44, eo44⟩ := R_slice HO241.out;subst eo44;have hnb45 := NB244_212.out;have hnc45 := NB212_244.out;have hnb46 := NB244_228.out;have hnc46 := NB228_244.out;have hnb47 := NB244_235.out;have hnc47 := NB235_244.out;have hcz48_0 : w43.cell? ⟨gb244, 0, none⟩ = some (.slice none 0 0) := (blk_cell BK244.out 0).trans rfl;have hcz48_1 : w43.cell? ⟨gb244, 1, none⟩ = some (.int .i64 0) := (blk_cell BK244.out 1).trans rfl;have hfz48_0 := blk_frozen BK244.out 0;have hfz48_1 := blk_frozen BK244.out 1))
   (try simp only [Act.put, List.setIfInBounds_toArray, List.set_cons_zero, List.set_cons_succ])
   go_cut [51] (fun v51 wc => ∃ (kq : Nat) (x51_15 : Bool), v51 = .bool x51_15 ∧ Aside0 (laws_FnExactPlaneOfCounts.j0 kq l1 t227 t236 t243 x51_15 l0_0 l0_1 t223 t226 t229 t232 t239 t242 = some r) ∧ Aside0 (kq ≤ k) ∧ Aside0 (Kd.R (Kd.int .i64) 3 wc w.heap.size (fun k_ => some k_ ≠ ((.slice Ao28 t223.length co28) : Value).ownBlock ∧ some k_ ≠ ((.slice Ao38 t232.length co38) : Value).ownBlock ∧ some k_ ≠ ((.slice Ao44 t239.length co44) : Value).ownBlock) (.slice Ao41 t236.length co41) t236) ∧ Aside0 (Kd.R (Kd.int .i64) 3 wc w.heap.size (fun k_ => some k_ ≠ ((.slice Ao41 t236.length co41) : Value).ownBlock ∧ some k_ ≠ ((.slice Ao38 t232.length co38) : Value).ownBlock ∧ some k_ ≠ ((.slice Ao44 t239.length co44) : Value).ownBlock) (.slice Ao28 t223.length co28) t223) ∧ Aside0 (Kd.S (Kd.slice 3 (Kd.int .i64)) 23 wc w.heap.size (fun k_ => some k_ ≠ ((.slice Ao41 t236.length co41) : Value).ownBlock ∧ some k_ ≠ ((.slice Ao28 t223.length co28) : Value).ownBlock ∧ some k_ ≠ ((.slice Ao38 t232.length co38) : Value).ownBlock ∧ some k_ ≠ ((.slice Ao44 t239.length co44) : Value).ownBlock) (.slice Ao34 t229.length co34) t229) ∧ Aside0 (Kd.R (Kd.int .i64) 3 wc w.heap.size (fun k_ => some k_ ≠ ((.slice Ao41 t236.length co41) : Value).ownBlock ∧ some k_ ≠ ((.slice Ao28 t223.length co28) : Value).ownBlock ∧ some k_ ≠ ((.slice Ao44 t239.length co44) : Value).ownBlock) (.slice Ao38 t232.length co38) t232) ∧ Aside0 (Kd.R (Kd.int .i64) 3 wc w.heap.size (fun k_ => some k_ ≠ ((.slice Ao41 t236.length co41) : Value).ownBlock ∧ some k_ ≠ ((.slice Ao28 t223.length co28) : Value).ownBlock ∧ some k_ ≠ ((.slice Ao38 t232.length co38) : Value).ownBlock) (.slice Ao44 t239.length co44) t239) ∧ Aside0 (wc.heap[gb212]? = some (.cells #[(.slice A0_0 l0_0.length c0_0), (.slice A0_1 l0_1.length c0_1)] 34 (0, 0))) ∧ Aside0 (wc.heap[gb228]? = some (.cells #[(.slice Ao28 t223.length co28), .int .i64 t226] 54 (0, 0))) ∧ Aside0 (wc.heap[gb235]? = some (.cells #[(.slice Ao34 t229.length co34), (.slice Ao38 t232.length co38)] 38 (0, 0))) ∧ Aside0 (wc.heap[gb244]? = some (.cells #[(.slice Ao44 t239.length co44), .int .i64 t242] 54 (0, 0))) ∧ Aside0 (Below w.heap.size w wc))
   case first =>
    have H := HC16.out
    clear HC16
    replace H := Option.bind_eq_some_iff.mp H
    obtain ⟨t245, A490, H⟩ := H
    replace H : (if t245 = true then (laws_FnExactPlaneOfCounts.j0 k l1 t227 t236 t243 (t243 != t227) l0_0 l0_1 t223 t226 t229 t232 t239 t242) else (laws_FnExactPlaneOfCounts.j0 k l1 t227 t236 t243 true l0_0 l0_1 t223 t226 t229 t232 t239 t242)) = some r := H
    have A49 := Aside0.mk A490
    clear A490
    by_cases c50 : t245 = true
    ·subst c50
     have H1 : (laws_FnExactPlaneOfCounts.j0 k l1 t227 t236 t243 (t243 != t227) l0_0 l0_1 t223 t226 t229 t232 t239 t242) = some r := by rw [if_pos rfl] at H;exact H
     clear H
     have H := H1
     clear H1
     have H' := Aside0.mk H
     clear H
     have hnb51 := NB244_212.out
     have hnc51 := NB212_244.out
     have hnb52 := NB244_228.out
     have hnc52 := NB228_244.out
     have hnb53 := NB244_235.out
     have hnc53 := NB235_244.out
     have hcz54_0 : w43.cell? ⟨gb244, 0, none⟩ = some (.slice none 0 0) := (blk_cell BK244.out 0).trans rfl
     have hcz54_1 : w43.cell? ⟨gb244, 1, none⟩ = some (.int .i64 0) := (blk_cell BK244.out 1).trans rfl
     have hfz54_0 := blk_frozen BK244.out 0
     have hfz54_1 := blk_frozen BK244.out 1
     have hnb55 := NB228_212.out
     have hnc55 := NB212_228.out
     have hnb56 := NB228_235.out
     have hnc56 := NB235_228.out
     have hcz57_0 : w43.cell? ⟨gb228, 0, none⟩ = some (.slice Ao28 t223.length co28) := (blk_cell BK228.out 0).trans rfl
     have hcz57_1 : w43.cell? ⟨gb228, 1, none⟩ = some (.int .i64 t226) := (blk_cell BK228.out 1).trans rfl
     have hfz57_0 := blk_frozen BK228.out 0
     have hfz57_1 := blk_frozen BK228.out 1
     go_wp2_with (first|((with_reducible refine gate_callee (f := 41) rfl ?_);refine goesL_ (some 45) rfl rfl Try.func41 (by kernel_rfl) rfl #[.agg #[.slice Ao44 t239.length co44, .int .i64 t242], .agg #[.slice Ao28 t223.length co28, .int .i64 t226]] rfl (by (try simp only [List.map_toArray, List.map_cons, List.map_nil]);first|done|rfl|(simp only [List.length_drop, List.length_take];rfl)) ?_;(with_reducible refine (laws_eqPlane.calls k _ _ t239 t242 _ _ t223 t226 true _ ?side1 ?side2 ?side3 ?side4 A49.out).mono ?_);(case side1 => refine (R_reads' (e := 3) (base := w.heap.size) (ok := fun k_ => (((((True ∧ some k_ ≠ (.slice Ao24 t217.length co24 : Value).ownBlock) ∧ some k_ ≠ (.slice Ao25 t220.length co25 : Value).ownBlock) ∧ some k_ ≠ (.slice Ao28 t223.length co28 : Value).ownBlock) ∧ some k_ ≠ (.slice Ao38 t232.length co38 : Value).ownBlock) ∧ some k_ ≠ (.slice Ao41 t236.length co41 : Value).ownBlock)) (n := t239.length) (c := co44) ?_).2.2;exact (by (with_reducible repeat (first|apply R_alloc|apply R_drewN|apply R_drew));exact (R_mono (R_far (p := ⟨gb244, 1, none⟩) (R_far (p := ⟨gb244, 0, none⟩) (R_types HO241.out BK244.out (by decide)) (fun _ hk => hk.2) (.slice Ao44 t239.length co44)) (fun _ hk => hk.2) (.int .i64 t242)) (fun _ h_ => h_.1))));(case side2 => exact (R_reads' HO241.out).2.1);(case side3 => refine (R_reads' (e := 3) (base := w.heap.size) (ok := fun k_ => (((((True ∧ some k_ ≠ (.slice Ao24 t217.length co24 : Value).ownBlock) ∧ some k_ ≠ (.slice Ao25 t220.length co25 : Value).ownBlock) ∧ some k_ ≠ (.slice Ao38 t232.length co38 : Value).ownBlock) ∧ some k_ ≠ (.slice Ao41 t236.length co41 : Value).ownBlock) ∧ some k_ ≠ (.slice Ao44 t239.length co44 : Value).ownBlock)) (n := t223.length) (c := co28) ?_).2.2;exact (by (with_reducible repeat (first|apply R_alloc|apply R_drewN|apply R_drew));exact (R_mono (R_far (p := ⟨gb244, 1, none⟩) (R_far (p := ⟨gb244, 0, none⟩) (R_types HO225.out BK244.out (by decide)) (fun _ hk => hk.2) (.slice Ao44 t239.length co44)) (fun _ hk => hk.2) (.int .i64 t242)) (fun _ h_ => h_.1))));(case side4 => exact (R_reads' HO225.out).2.1);rintro e w58 ⟨rfl, hb⟩;refine ⟨_, rfl, ?_⟩;have n0_ := Aside0.mk (S_below (by (with_reducible repeat (first|apply S_alloc|apply S_drewN|apply S_drew));exact (S_mono (S_far (p := ⟨gb244, 1, none⟩) (S_far (p := ⟨gb244, 0, none⟩) (S_types HO216.out BK244.out (by decide)) (fun _ hk => hk.2) (.slice Ao44 t239.length co44)) (fun _ hk => hk.2) (.int .i64 t242)) (fun _ h_ => h_.1))) hb);have n1_ := Aside0.mk (R_below (by (with_reducible repeat (first|apply R_alloc|apply R_drewN|apply R_drew));exact (R_mono (R_far (p := ⟨gb244, 1, none⟩) (R_far (p := ⟨gb244, 0, none⟩) (R_types HO219.out BK244.out (by decide)) (fun _ hk => hk.2) (.slice Ao44 t239.length co44)) (fun _ hk => hk.2) (.int .i64 t242)) (fun _ h_ => h_.1))) hb);have n2_ := Aside0.mk (R_below (by (with_reducible repeat (first|apply R_alloc|apply R_drewN|apply R_drew));exact (R_mono (R_far (p := ⟨gb244, 1, none⟩) (R_far (p := ⟨gb244, 0, none⟩) (R_types HO222.out BK244.out (by decide)) (fun _ hk => hk.2) (.slice Ao44 t239.length co44)) (fun _ hk => hk.2) (.int .i64 t242)) (fun _ h_ => h_.1))) hb);have n3_ := Aside0.mk (R_below (by (with_reducible repeat (first|apply R_alloc|apply R_drewN|apply R_drew));exact (R_mono (R_far (p := ⟨gb244, 1, none⟩) (R_far (p := ⟨gb244, 0, none⟩) (R_types HO225.out BK244.out (by decide)) (fun _ hk => hk.2) (.slice Ao44 t239.length co44)) (fun _ hk => hk.2) (.int .i64 t242)) (fun _ h_ => h_.1))) hb);have n4_ := Aside0.mk (S_below (by (with_reducible repeat (first|apply S_alloc|apply S_drewN|apply S_drew));exact (S_mono (S_far (p := ⟨gb244, 1, none⟩) (S_far (p := ⟨gb244, 0, none⟩) (S_types HO231.out BK244.out (by decide)) (fun _ hk => hk.2) (.slice Ao44 t239.length co44)) (fun _ hk => hk.2) (.int .i64 t242)) (fun _ h_ => h_.1))) hb);have n5_ := Aside0.mk (R_below (by (with_reducible repeat (first|apply R_alloc|apply R_drewN|apply R_drew));exact (R_mono (R_far (p := ⟨gb244, 1, none⟩) (R_far (p := ⟨gb244, 0, none⟩) (R_types HO234.out BK244.out (by decide)) (fun _ hk => hk.2) (.slice Ao44 t239.length co44)) (fun _ hk => hk.2) (.int .i64 t242)) (fun _ h_ => h_.1))) hb);have n6_ := Aside0.mk (R_below (by (with_reducible repeat (first|apply R_alloc|apply R_drewN|apply R_drew));exact (R_mono (R_far (p := ⟨gb244, 1, none⟩) (R_far (p := ⟨gb244, 0, none⟩) (R_types HO238.out BK244.out (by decide)) (fun _ hk => hk.2) (.slice Ao44 t239.length co44)) (fun _ hk => hk.2) (.int .i64 t242)) (fun _ h_ => h_.1))) hb);have n7_ := Aside0.mk (R_below (by (with_reducible repeat (first|apply R_alloc|apply R_drewN|apply R_drew));exact (R_mono (R_far (p := ⟨gb244, 1, none⟩) (R_far (p := ⟨gb244, 0, none⟩) (R_types HO241.out BK244.out (by decide)) (fun _ hk => hk.2) (.slice Ao44 t239.length co44)) (fun _ hk => hk.2) (.int .i64 t242)) (fun _ h_ => h_.1))) hb);have n8_ := Aside0.mk (blk_below (g := gb212) (o := .cells #[.slice A0_0 l0_0.length c0_0, .slice A0_1 l0_1.length c0_1] 34 (0, 0)) (by (with_reducible repeat (first|refine blk_drewN ?_ _|refine blk_drew ?_|refine blk_alloc ?_ _));refine blk_far ?_ NB212_244.out _;(with_reducible repeat (first|refine blk_drewN ?_ _|refine blk_drew ?_|refine blk_alloc ?_ _));refine blk_far ?_ NB212_244.out _;(with_reducible repeat (first|refine blk_drewN ?_ _|refine blk_drew ?_|refine blk_alloc ?_ _));exact BK212.out) hb);have n9_ := Aside0.mk (blk_below (g := gb228) (o := .cells #[.slice Ao28 t223.length co28, .int .i64 t226] 54 (0, 0)) (by (with_reducible repeat (first|refine blk_drewN ?_ _|refine blk_drew ?_|refine blk_alloc ?_ _));refine blk_far ?_ NB228_244.out _;(with_reducible repeat (first|refine blk_drewN ?_ _|refine blk_drew ?_|refine blk_alloc ?_ _));refine blk_far ?_ NB228_244.out _;(with_reducible repeat (first|refine blk_drewN ?_ _|refine blk_drew ?_|refine blk_alloc ?_ _));exact BK228.out) hb);have n10_ := Aside0.mk (blk_below (g := gb235) (o := .cells #[.slice Ao34 t229.length co34, .slice Ao38 t232.length co38] 38 (0, 0)) (by (with_reducible repeat (first|refine blk_drewN ?_ _|refine blk_drew ?_|refine blk_alloc ?_ _));refine blk_far ?_ NB235_244.out _;(with_reducible repeat (first|refine blk_drewN ?_ _|refine blk_drew ?_|refine blk_alloc ?_ _));refine blk_far ?_ NB235_244.out _;(with_reducible repeat (first|refine blk_drewN ?_ _|refine blk_drew ?_|refine blk_alloc ?_ _));exact BK235.out) hb);have n11_ := Aside0.mk (blk_below (g := gb244) (o := .cells #[.slice Ao44 t239.length co44, .int .i64 t242] 54 (0, 0)) (by (with_reducible repeat (first|refine blk_drewN ?_ _|refine blk_drew ?_|refine blk_alloc ?_ _));refine blk_put (cs := #[.slice Ao44 t239.length co44, .int .i64 0]) ?_ 1 _ rfl;(with_reducible repeat (first|refine blk_drewN ?_ _|refine blk_drew ?_|refine blk_alloc ?_ _));refine blk_put (cs := #[.slice none 0 0, .int .i64 0]) ?_ 0 _ rfl;(with_reducible repeat (first|refine blk_drewN ?_ _|refine blk_drew ?_|refine blk_alloc ?_ _));exact BK244.out) hb);have n12_ := Aside0.mk (below_step (by repeat (first|(with_reducible first|exact HB.out|apply below_alloc|apply pw_below_drewN|apply below_drew1|refine below_set ?_ GE212.out|refine below_set ?_ GE228.out|refine below_set ?_ GE235.out|refine below_set ?_ GE244.out)|exact HB.out)) hb);clear HO216;clear HO219;clear HO222;clear HO225;clear HO231;clear HO234;clear HO238;clear HO241;clear BK212;clear BK228;clear BK235;clear BK244;clear HB;have HO216 := n0_;have HO219 := n1_;have HO222 := n2_;have HO225 := n3_;have HO231 := n4_;have HO234 := n5_;have HO238 := n6_;have HO241 := n7_;have BK212 := n8_;have BK228 := n9_;have BK235 := n10_;have BK244 := n11_;have HB := n12_;clear n0_ n1_ n2_ n3_ n4_ n5_ n6_ n7_ n8_ n9_ n10_ n11_ n12_;(try clear hb);(try clear hb2);(try clear hk);(try clear hi)))
     go_meet
     case rel => exact ⟨_, ((t243 != t227)), (by first|rfl|(simp;done)|(simp [*];done)), H', ⟨by first|omega|exact Nat.le_refl _⟩, ⟨by (with_reducible repeat (first|apply R_alloc|apply R_drewN|apply R_drew));exact R_mono HO238.out (fun _ hk => by first|exact ⟨hk.1.1.2, ⟨hk.1.2, hk.2⟩⟩|grind)⟩, ⟨by (with_reducible repeat (first|apply R_alloc|apply R_drewN|apply R_drew));exact R_mono HO225.out (fun _ hk => by first|exact ⟨hk.1.2, ⟨hk.1.1.2, hk.2⟩⟩|grind)⟩, ⟨by (with_reducible repeat (first|apply S_alloc|apply S_drewN|apply S_drew));exact S_mono HO231.out (fun _ hk => by first|exact ⟨hk.1.2, ⟨hk.1.1.2, ⟨hk.1.1.1.1.1.1, hk.2⟩⟩⟩|grind)⟩, ⟨by (with_reducible repeat (first|apply R_alloc|apply R_drewN|apply R_drew));exact R_mono HO234.out (fun _ hk => by first|exact ⟨hk.1.2, ⟨hk.1.1.2, hk.2⟩⟩|grind)⟩, ⟨by (with_reducible repeat (first|apply R_alloc|apply R_drewN|apply R_drew));exact R_mono HO241.out (fun _ hk => by first|exact ⟨hk.2, ⟨hk.1.1.2, hk.1.2⟩⟩|grind)⟩, ⟨by (with_reducible repeat (first|refine blk_drewN ?_ _|refine blk_drew ?_|refine blk_alloc ?_ _));exact BK212.out⟩, ⟨by (with_reducible repeat (first|refine blk_drewN ?_ _|refine blk_drew ?_|refine blk_alloc ?_ _));exact BK228.out⟩, ⟨by (with_reducible repeat (first|refine blk_drewN ?_ _|refine blk_drew ?_|refine blk_alloc ?_ _));exact BK235.out⟩, ⟨by (with_reducible repeat (first|refine blk_drewN ?_ _|refine blk_drew ?_|refine blk_alloc ?_ _));exact BK244.out⟩, ⟨by repeat (first|(with_reducible first|exact HB.out|apply below_alloc|apply pw_below_drewN|apply below_drew1|refine below_set ?_ GE212.out|refine below_set ?_ GE228.out|refine below_set ?_ GE235.out|refine below_set ?_ GE244.out)|exact HB.out)⟩⟩
    ·replace c50 := Bool.eq_false_iff.mpr c50
     subst c50
     have H1 : (laws_FnExactPlaneOfCounts.j0 k l1 t227 t236 t243 true l0_0 l0_1 t223 t226 t229 t232 t239 t242) = some r := by rw [if_neg (show ¬ (false = true) by decide)] at H;exact H
     clear H
     have H := H1
     clear H1
     have H' := Aside0.mk H
     clear H
     have hnb59 := NB244_212.out
     have hnc59 := NB212_244.out
     have hnb60 := NB244_228.out
     have hnc60 := NB228_244.out
     have hnb61 := NB244_235.out
     have hnc61 := NB235_244.out
     have hcz62_0 : w43.cell? ⟨gb244, 0, none⟩ = some (.slice none 0 0) := (blk_cell BK244.out 0).trans rfl
     have hcz62_1 : w43.cell? ⟨gb244, 1, none⟩ = some (.int .i64 0) := (blk_cell BK244.out 1).trans rfl
     have hfz62_0 := blk_frozen BK244.out 0
     have hfz62_1 := blk_frozen BK244.out 1
     have hnb63 := NB228_212.out
     have hnc63 := NB212_228.out
     have hnb64 := NB228_235.out
     have hnc64 := NB235_228.out
     have hcz65_0 : w43.cell? ⟨gb228, 0, none⟩ = some (.slice Ao28 t223.length co28) := (blk_cell BK228.out 0).trans rfl
     have hcz65_1 : w43.cell? ⟨gb228, 1, none⟩ = some (.int .i64 t226) := (blk_cell BK228.out 1).trans rfl
     have hfz65_0 := blk_frozen BK228.out 0
     have hfz65_1 := blk_frozen BK228.out 1
     go_wp2_with (first|((with_reducible refine gate_callee (f := 41) rfl ?_);refine goesL_ (some 45) rfl rfl Try.func41 (by kernel_rfl) rfl #[.agg #[.slice Ao44 t239.length co44, .int .i64 t242], .agg #[.slice Ao28 t223.length co28, .int .i64 t226]] rfl (by (try simp only [List.map_toArray, List.map_cons, List.map_nil]);first|done|rfl|(simp only [List.length_drop, List.length_take];rfl)) ?_;(with_reducible refine (laws_eqPlane.calls k _ _ t239 t242 _ _ t223 t226 false _ ?side1 ?side2 ?side3 ?side4 A49.out).mono ?_);(case side1 => refine (R_reads' (e := 3) (base := w.heap.size) (ok := fun k_ => (((((True ∧ some k_ ≠ (.slice Ao24 t217.length co24 : Value).ownBlock) ∧ some k_ ≠ (.slice Ao25 t220.length co25 : Value).ownBlock) ∧ some k_ ≠ (.slice Ao28 t223.length co28 : Value).ownBlock) ∧ some k_ ≠ (.slice Ao38 t232.length co38 : Value).ownBlock) ∧ some k_ ≠ (.slice Ao41 t236.length co41 : Value).ownBlock)) (n := t239.length) (c := co44) ?_).2.2;exact (by (with_reducible repeat (first|apply R_alloc|apply R_drewN|apply R_drew));exact (R_mono (R_far (p := ⟨gb244, 1, none⟩) (R_far (p := ⟨gb244, 0, none⟩) (R_types HO241.out BK244.out (by decide)) (fun _ hk => hk.2) (.slice Ao44 t239.length co44)) (fun _ hk => hk.2) (.int .i64 t242)) (fun _ h_ => h_.1))));(case side2 => exact (R_reads' HO241.out).2.1);(case side3 => refine (R_reads' (e := 3) (base := w.heap.size) (ok := fun k_ => (((((True ∧ some k_ ≠ (.slice Ao24 t217.length co24 : Value).ownBlock) ∧ some k_ ≠ (.slice Ao25 t220.length co25 : Value).ownBlock) ∧ some k_ ≠ (.slice Ao38 t232.length co38 : Value).ownBlock) ∧ some k_ ≠ (.slice Ao41 t236.length co41 : Value).ownBlock) ∧ some k_ ≠ (.slice Ao44 t239.length co44 : Value).ownBlock)) (n := t223.length) (c := co28) ?_).2.2;exact (by (with_reducible repeat (first|apply R_alloc|apply R_drewN|apply R_drew));exact (R_mono (R_far (p := ⟨gb244, 1, none⟩) (R_far (p := ⟨gb244, 0, none⟩) (R_types HO225.out BK244.out (by decide)) (fun _ hk => hk.2) (.slice Ao44 t239.length co44)) (fun _ hk => hk.2) (.int .i64 t242)) (fun _ h_ => h_.1))));(case side4 => exact (R_reads' HO225.out).2.1);rintro e w66 ⟨rfl, hb⟩;refine ⟨_, rfl, ?_⟩;have n0_ := Aside0.mk (S_below (by (with_reducible repeat (first|apply S_alloc|apply S_drewN|apply S_drew));exact (S_mono (S_far (p := ⟨gb244, 1, none⟩) (S_far (p := ⟨gb244, 0, none⟩) (S_types HO216.out BK244.out (by decide)) (fun _ hk => hk.2) (.slice Ao44 t239.length co44)) (fun _ hk => hk.2) (.int .i64 t242)) (fun _ h_ => h_.1))) hb);have n1_ := Aside0.mk (R_below (by (with_reducible repeat (first|apply R_alloc|apply R_drewN|apply R_drew));exact (R_mono (R_far (p := ⟨gb244, 1, none⟩) (R_far (p := ⟨gb244, 0, none⟩) (R_types HO219.out BK244.out (by decide)) (fun _ hk => hk.2) (.slice Ao44 t239.length co44)) (fun _ hk => hk.2) (.int .i64 t242)) (fun _ h_ => h_.1))) hb);have n2_ := Aside0.mk (R_below (by (with_reducible repeat (first|apply R_alloc|apply R_drewN|apply R_drew));exact (R_mono (R_far (p := ⟨gb244, 1, none⟩) (R_far (p := ⟨gb244, 0, none⟩) (R_types HO222.out BK244.out (by decide)) (fun _ hk => hk.2) (.slice Ao44 t239.length co44)) (fun _ hk => hk.2) (.int .i64 t242)) (fun _ h_ => h_.1))) hb);have n3_ := Aside0.mk (R_below (by (with_reducible repeat (first|apply R_alloc|apply R_drewN|apply R_drew));exact (R_mono (R_far (p := ⟨gb244, 1, none⟩) (R_far (p := ⟨gb244, 0, none⟩) (R_types HO225.out BK244.out (by decide)) (fun _ hk => hk.2) (.slice Ao44 t239.length co44)) (fun _ hk => hk.2) (.int .i64 t242)) (fun _ h_ => h_.1))) hb);have n4_ := Aside0.mk (S_below (by (with_reducible repeat (first|apply S_alloc|apply S_drewN|apply S_drew));exact (S_mono (S_far (p := ⟨gb244, 1, none⟩) (S_far (p := ⟨gb244, 0, none⟩) (S_types HO231.out BK244.out (by decide)) (fun _ hk => hk.2) (.slice Ao44 t239.length co44)) (fun _ hk => hk.2) (.int .i64 t242)) (fun _ h_ => h_.1))) hb);have n5_ := Aside0.mk (R_below (by (with_reducible repeat (first|apply R_alloc|apply R_drewN|apply R_drew));exact (R_mono (R_far (p := ⟨gb244, 1, none⟩) (R_far (p := ⟨gb244, 0, none⟩) (R_types HO234.out BK244.out (by decide)) (fun _ hk => hk.2) (.slice Ao44 t239.length co44)) (fun _ hk => hk.2) (.int .i64 t242)) (fun _ h_ => h_.1))) hb);have n6_ := Aside0.mk (R_below (by (with_reducible repeat (first|apply R_alloc|apply R_drewN|apply R_drew));exact (R_mono (R_far (p := ⟨gb244, 1, none⟩) (R_far (p := ⟨gb244, 0, none⟩) (R_types HO238.out BK244.out (by decide)) (fun _ hk => hk.2) (.slice Ao44 t239.length co44)) (fun _ hk => hk.2) (.int .i64 t242)) (fun _ h_ => h_.1))) hb);have n7_ := Aside0.mk (R_below (by (with_reducible repeat (first|apply R_alloc|apply R_drewN|apply R_drew));exact (R_mono (R_far (p := ⟨gb244, 1, none⟩) (R_far (p := ⟨gb244, 0, none⟩) (R_types HO241.out BK244.out (by decide)) (fun _ hk => hk.2) (.slice Ao44 t239.length co44)) (fun _ hk => hk.2) (.int .i64 t242)) (fun _ h_ => h_.1))) hb);have n8_ := Aside0.mk (blk_below (g := gb212) (o := .cells #[.slice A0_0 l0_0.length c0_0, .slice A0_1 l0_1.length c0_1] 34 (0, 0)) (by (with_reducible repeat (first|refine blk_drewN ?_ _|refine blk_drew ?_|refine blk_alloc ?_ _));refine blk_far ?_ NB212_244.out _;(with_reducible repeat (first|refine blk_drewN ?_ _|refine blk_drew ?_|refine blk_alloc ?_ _));refine blk_far ?_ NB212_244.out _;(with_reducible repeat (first|refine blk_drewN ?_ _|refine blk_drew ?_|refine blk_alloc ?_ _));exact BK212.out) hb);have n9_ := Aside0.mk (blk_below (g := gb228) (o := .cells #[.slice Ao28 t223.length co28, .int .i64 t226] 54 (0, 0)) (by (with_reducible repeat (first|refine blk_drewN ?_ _|refine blk_drew ?_|refine blk_alloc ?_ _));refine blk_far ?_ NB228_244.out _;(with_reducible repeat (first|refine blk_drewN ?_ _|refine blk_drew ?_|refine blk_alloc ?_ _));refine blk_far ?_ NB228_244.out _;(with_reducible repeat (first|refine blk_drewN ?_ _|refine blk_drew ?_|refine blk_alloc ?_ _));exact BK228.out) hb);have n10_ := Aside0.mk (blk_below (g := gb235) (o := .cells #[.slice Ao34 t229.length co34, .slice Ao38 t232.length co38] 38 (0, 0)) (by (with_reducible repeat (first|refine blk_drewN ?_ _|refine blk_drew ?_|refine blk_alloc ?_ _));refine blk_far ?_ NB235_244.out _;(with_reducible repeat (first|refine blk_drewN ?_ _|refine blk_drew ?_|refine blk_alloc ?_ _));refine blk_far ?_ NB235_244.out _;(with_reducible repeat (first|refine blk_drewN ?_ _|refine blk_drew ?_|refine blk_alloc ?_ _));exact BK235.out) hb);have n11_ := Aside0.mk (blk_below (g := gb244) (o := .cells #[.slice Ao44 t239.length co44, .int .i64 t242] 54 (0, 0)) (by (with_reducible repeat (first|refine blk_drewN ?_ _|refine blk_drew ?_|refine blk_alloc ?_ _));refine blk_put (cs := #[.slice Ao44 t239.length co44, .int .i64 0]) ?_ 1 _ rfl;(with_reducible repeat (first|refine blk_drewN ?_ _|refine blk_drew ?_|refine blk_alloc ?_ _));refine blk_put (cs := #[.slice none 0 0, .int .i64 0]) ?_ 0 _ rfl;(with_reducible repeat (first|refine blk_drewN ?_ _|refine blk_drew ?_|refine blk_alloc ?_ _));exact BK244.out) hb);have n12_ := Aside0.mk (below_step (by repeat (first|(with_reducible first|exact HB.out|apply below_alloc|apply pw_below_drewN|apply below_drew1|refine below_set ?_ GE212.out|refine below_set ?_ GE228.out|refine below_set ?_ GE235.out|refine below_set ?_ GE244.out)|exact HB.out)) hb);clear HO216;clear HO219;clear HO222;clear HO225;clear HO231;clear HO234;clear HO238;clear HO241;clear BK212;clear BK228;clear BK235;clear BK244;clear HB;have HO216 := n0_;have HO219 := n1_;have HO222 := n2_;have HO225 := n3_;have HO231 := n4_;have HO234 := n5_;have HO238 := n6_;have HO241 := n7_;have BK212 := n8_;have BK228 := n9_;have BK235 := n10_;have BK244 := n11_;have HB := n12_;clear n0_ n1_ n2_ n3_ n4_ n5_ n6_ n7_ n8_ n9_ n10_ n11_ n12_;(try clear hb);(try clear hb2);(try clear hk);(try clear hi)))
     go_meet
     case rel => exact ⟨_, (true), (by first|rfl|(simp;done)|(simp [*];done)), H', ⟨by first|omega|exact Nat.le_refl _⟩, ⟨by (with_reducible repeat (first|apply R_alloc|apply R_drewN|apply R_drew));exact R_mono HO238.out (fun _ hk => by first|exact ⟨hk.1.1.2, ⟨hk.1.2, hk.2⟩⟩|grind)⟩, ⟨by (with_reducible repeat (first|apply R_alloc|apply R_drewN|apply R_drew));exact R_mono HO225.out (fun _ hk => by first|exact ⟨hk.1.2, ⟨hk.1.1.2, hk.2⟩⟩|grind)⟩, ⟨by (with_reducible repeat (first|apply S_alloc|apply S_drewN|apply S_drew));exact S_mono HO231.out (fun _ hk => by first|exact ⟨hk.1.2, ⟨hk.1.1.2, ⟨hk.1.1.1.1.1.1, hk.2⟩⟩⟩|grind)⟩, ⟨by (with_reducible repeat (first|apply R_alloc|apply R_drewN|apply R_drew));exact R_mono HO234.out (fun _ hk => by first|exact ⟨hk.1.2, ⟨hk.1.1.2, hk.2⟩⟩|grind)⟩, ⟨by (with_reducible repeat (first|apply R_alloc|apply R_drewN|apply R_drew));exact R_mono HO241.out (fun _ hk => by first|exact ⟨hk.2, ⟨hk.1.1.2, hk.1.2⟩⟩|grind)⟩, ⟨by (with_reducible repeat (first|refine blk_drewN ?_ _|refine blk_drew ?_|refine blk_alloc ?_ _));exact BK212.out⟩, ⟨by (with_reducible repeat (first|refine blk_drewN ?_ _|refine blk_drew ?_|refine blk_alloc ?_ _));exact BK228.out⟩, ⟨by (with_reducible repeat (first|refine blk_drewN ?_ _|refine blk_drew ?_|refine blk_alloc ?_ _));exact BK235.out⟩, ⟨by (with_reducible repeat (first|refine blk_drewN ?_ _|refine blk_drew ?_|refine blk_alloc ?_ _));exact BK244.out⟩, ⟨by repeat (first|(with_reducible first|exact HB.out|apply below_alloc|apply pw_below_drewN|apply below_drew1|refine below_set ?_ GE212.out|refine below_set ?_ GE228.out|refine below_set ?_ GE235.out|refine below_set ?_ GE244.out)|exact HB.out)⟩⟩
   case rest =>
    clear HC16
    try clear c1
    try clear c2
    try clear p2
    try clear c3
    try clear c3b0
    try clear c3b1
    try clear c4
    try clear c5
    try clear c6
    try clear c6b0
    try clear c11
    try clear c18
    try clear c25
    try clear c27
    try clear c29
    try clear c35
    try clear c36
    try clear c41
    try clear c45
    try clear c46
    try clear c47
    try clear c50
    try clear c51
    try clear c52
    try clear c53
    try clear c55
    try clear c56
    try clear c59
    try clear c60
    try clear c61
    try clear c63
    try clear c64
    try clear hcz18_0
    try clear hcz18_1
    try clear hcz20_0
    try clear hcz20_1
    try clear hcz30_0
    try clear hcz30_1
    try clear hcz31_0
    try clear hcz31_1
    try clear hcz37_0
    try clear hcz37_1
    try clear hcz40_0
    try clear hcz40_1
    try clear hcz48_0
    try clear hcz48_1
    try clear hcz54_0
    try clear hcz54_1
    try clear hcz57_0
    try clear hcz57_1
    try clear hcz62_0
    try clear hcz62_1
    try clear hcz65_0
    try clear hcz65_1
    try clear hcz8_0
    try clear hcz8_1
    try clear hfz18_0
    try clear hfz18_1
    try clear hfz20_0
    try clear hfz20_1
    try clear hfz30_0
    try clear hfz30_1
    try clear hfz31_0
    try clear hfz31_1
    try clear hfz37_0
    try clear hfz37_1
    try clear hfz40_0
    try clear hfz40_1
    try clear hfz48_0
    try clear hfz48_1
    try clear hfz54_0
    try clear hfz54_1
    try clear hfz57_0
    try clear hfz57_1
    try clear hfz62_0
    try clear hfz62_1
    try clear hfz65_0
    try clear hfz65_1
    try clear hfz8_0
    try clear hfz8_1
    obtain ⟨kq, x51_15, rfl, HA, HJ15, HO_9, HO_229000, HO_236000, HO_236001, HO_245000, BK212, BK228, BK235, BK244, HB⟩ := hcut
    cases kq with
   |zero => exact absurd HA.out (by simp [laws_FnExactPlaneOfCounts.j0])
   |succ kj15 =>
     have H := HA.out
     clear HA
     simp only [laws_FnExactPlaneOfCounts.j0] at H
     by_cases c67 : x51_15 = true
     ·subst c67
      have H1 : (some false) = some r := by rw [if_pos rfl] at H;exact H
      clear H
      have H := H1
      clear H1
      obtain rfl := Option.some.inj H
      go_wp2
      go_ret
      exact ⟨by first|rfl|(simp [errW_none, errW_some] <;> rfl)|(simp [*, errW_none, errW_some] <;> rfl), by repeat (first|(with_reducible first|exact HB.out|apply below_alloc|apply pw_below_drewN|apply below_drew1|refine below_set ?_ GE212.out|refine below_set ?_ GE228.out|refine below_set ?_ GE235.out|refine below_set ?_ GE244.out)|exact HB.out)⟩
     ·replace c67 := Bool.eq_false_iff.mpr c67
      subst c67
      have H1 : ((laws_toSample.f kj15 l0_0 l0_1).bind fun bt246 => ((laws_eqSample.f kj15 t229 t232 bt246.1 bt246.2).bind fun t252 => (if t252 = true then ((laws_toIntS.f kj15 l1).bind fun t253 => ((laws_eqIntS.f kj15 t236 t253).bind fun t256 => (if t256 = true then ((laws_markSample.f kj15 t229 t232 1).bind fun bt257 => ((laws_markIntS.f kj15 t236 bt257.1).bind fun bt260 => (if bt260.1 < 0 then (laws_FnExactPlaneOfCounts.j1 kj15 l1 t227 true l0_0 l0_1 t223 t226 t239 t242) else ((laws_eqPlane.f kj15 t239 t242 t223 t226).bind fun t262 => (if t262 = true then (laws_FnExactPlaneOfCounts.j1 kj15 l1 t227 (t243 != t227) l0_0 l0_1 t223 t226 t239 t242) else (laws_FnExactPlaneOfCounts.j1 kj15 l1 t227 true l0_0 l0_1 t223 t226 t239 t242)))))) else (some false)))) else (some false)))) = some r := by rw [if_neg (show ¬ (false = true) by decide)] at H;exact H
      clear H
      have H := H1
      clear H1
      replace H := Option.bind_eq_some_iff.mp H
      obtain ⟨⟨t246, t249⟩, A680, H⟩ := H
      replace H : ((laws_eqSample.f kj15 t229 t232 t246 t249).bind fun t252 => (if t252 = true then ((laws_toIntS.f kj15 l1).bind fun t253 => ((laws_eqIntS.f kj15 t236 t253).bind fun t256 => (if t256 = true then ((laws_markSample.f kj15 t229 t232 1).bind fun bt257 => ((laws_markIntS.f kj15 t236 bt257.1).bind fun bt260 => (if bt260.1 < 0 then (laws_FnExactPlaneOfCounts.j1 kj15 l1 t227 true l0_0 l0_1 t223 t226 t239 t242) else ((laws_eqPlane.f kj15 t239 t242 t223 t226).bind fun t262 => (if t262 = true then (laws_FnExactPlaneOfCounts.j1 kj15 l1 t227 (t243 != t227) l0_0 l0_1 t223 t226 t239 t242) else (laws_FnExactPlaneOfCounts.j1 kj15 l1 t227 true l0_0 l0_1 t223 t226 t239 t242)))))) else (some false)))) else (some false))) = some r := H
      have A68 := Aside0.mk A680
      clear A680
      replace H := Option.bind_eq_some_iff.mp H
      obtain ⟨t252, A690, H⟩ := H
      replace H : (if t252 = true then ((laws_toIntS.f kj15 l1).bind fun t253 => ((laws_eqIntS.f kj15 t236 t253).bind fun t256 => (if t256 = true then ((laws_markSample.f kj15 t229 t232 1).bind fun bt257 => ((laws_markIntS.f kj15 t236 bt257.1).bind fun bt260 => (if bt260.1 < 0 then (laws_FnExactPlaneOfCounts.j1 kj15 l1 t227 true l0_0 l0_1 t223 t226 t239 t242) else ((laws_eqPlane.f kj15 t239 t242 t223 t226).bind fun t262 => (if t262 = true then (laws_FnExactPlaneOfCounts.j1 kj15 l1 t227 (t243 != t227) l0_0 l0_1 t223 t226 t239 t242) else (laws_FnExactPlaneOfCounts.j1 kj15 l1 t227 true l0_0 l0_1 t223 t226 t239 t242)))))) else (some false)))) else (some false)) = some r := H
      have A69 := Aside0.mk A690
      clear A690
      by_cases c70 : t252 = true
      ·subst c70
       have H1 : ((laws_toIntS.f kj15 l1).bind fun t253 => ((laws_eqIntS.f kj15 t236 t253).bind fun t256 => (if t256 = true then ((laws_markSample.f kj15 t229 t232 1).bind fun bt257 => ((laws_markIntS.f kj15 t236 bt257.1).bind fun bt260 => (if bt260.1 < 0 then (laws_FnExactPlaneOfCounts.j1 kj15 l1 t227 true l0_0 l0_1 t223 t226 t239 t242) else ((laws_eqPlane.f kj15 t239 t242 t223 t226).bind fun t262 => (if t262 = true then (laws_FnExactPlaneOfCounts.j1 kj15 l1 t227 (t243 != t227) l0_0 l0_1 t223 t226 t239 t242) else (laws_FnExactPlaneOfCounts.j1 kj15 l1 t227 true l0_0 l0_1 t223 t226 t239 t242)))))) else (some false)))) = some r := by rw [if_pos rfl] at H;exact H
       clear H
       have H := H1
       clear H1
       replace H := Option.bind_eq_some_iff.mp H
       obtain ⟨t253, A710, H⟩ := H
       replace H : ((laws_eqIntS.f kj15 t236 t253).bind fun t256 => (if t256 = true then ((laws_markSample.f kj15 t229 t232 1).bind fun bt257 => ((laws_markIntS.f kj15 t236 bt257.1).bind fun bt260 => (if bt260.1 < 0 then (laws_FnExactPlaneOfCounts.j1 kj15 l1 t227 true l0_0 l0_1 t223 t226 t239 t242) else ((laws_eqPlane.f kj15 t239 t242 t223 t226).bind fun t262 => (if t262 = true then (laws_FnExactPlaneOfCounts.j1 kj15 l1 t227 (t243 != t227) l0_0 l0_1 t223 t226 t239 t242) else (laws_FnExactPlaneOfCounts.j1 kj15 l1 t227 true l0_0 l0_1 t223 t226 t239 t242)))))) else (some false))) = some r := H
       have A71 := Aside0.mk A710
       clear A710
       replace H := Option.bind_eq_some_iff.mp H
       obtain ⟨t256, A720, H⟩ := H
       replace H : (if t256 = true then ((laws_markSample.f kj15 t229 t232 1).bind fun bt257 => ((laws_markIntS.f kj15 t236 bt257.1).bind fun bt260 => (if bt260.1 < 0 then (laws_FnExactPlaneOfCounts.j1 kj15 l1 t227 true l0_0 l0_1 t223 t226 t239 t242) else ((laws_eqPlane.f kj15 t239 t242 t223 t226).bind fun t262 => (if t262 = true then (laws_FnExactPlaneOfCounts.j1 kj15 l1 t227 (t243 != t227) l0_0 l0_1 t223 t226 t239 t242) else (laws_FnExactPlaneOfCounts.j1 kj15 l1 t227 true l0_0 l0_1 t223 t226 t239 t242)))))) else (some false)) = some r := H
       have A72 := Aside0.mk A720
       clear A720
       by_cases c73 : t256 = true
       ·subst c73
        have H1 : ((laws_markSample.f kj15 t229 t232 1).bind fun bt257 => ((laws_markIntS.f kj15 t236 bt257.1).bind fun bt260 => (if bt260.1 < 0 then (laws_FnExactPlaneOfCounts.j1 kj15 l1 t227 true l0_0 l0_1 t223 t226 t239 t242) else ((laws_eqPlane.f kj15 t239 t242 t223 t226).bind fun t262 => (if t262 = true then (laws_FnExactPlaneOfCounts.j1 kj15 l1 t227 (t243 != t227) l0_0 l0_1 t223 t226 t239 t242) else (laws_FnExactPlaneOfCounts.j1 kj15 l1 t227 true l0_0 l0_1 t223 t226 t239 t242)))))) = some r := by rw [if_pos rfl] at H;exact H
        clear H
        have H := H1
        clear H1
        replace H := Option.bind_eq_some_iff.mp H
        obtain ⟨⟨t257, t258, t259⟩, A740, H⟩ := H
        replace H : ((laws_markIntS.f kj15 t236 t257).bind fun bt260 => (if bt260.1 < 0 then (laws_FnExactPlaneOfCounts.j1 kj15 l1 t227 true l0_0 l0_1 t223 t226 t239 t242) else ((laws_eqPlane.f kj15 t239 t242 t223 t226).bind fun t262 => (if t262 = true then (laws_FnExactPlaneOfCounts.j1 kj15 l1 t227 (t243 != t227) l0_0 l0_1 t223 t226 t239 t242) else (laws_FnExactPlaneOfCounts.j1 kj15 l1 t227 true l0_0 l0_1 t223 t226 t239 t242))))) = some r := H
        have A74 := Aside0.mk A740
        clear A740
        replace H := Option.bind_eq_some_iff.mp H
        obtain ⟨⟨t260, t261⟩, A750, H⟩ := H
        replace H : (if t260 < 0 then (laws_FnExactPlaneOfCounts.j1 kj15 l1 t227 true l0_0 l0_1 t223 t226 t239 t242) else ((laws_eqPlane.f kj15 t239 t242 t223 t226).bind fun t262 => (if t262 = true then (laws_FnExactPlaneOfCounts.j1 kj15 l1 t227 (t243 != t227) l0_0 l0_1 t223 t226 t239 t242) else (laws_FnExactPlaneOfCounts.j1 kj15 l1 t227 true l0_0 l0_1 t223 t226 t239 t242)))) = some r := H
        have A75 := Aside0.mk A750
        clear A750
        have HC76 := Aside0.mk H
        clear H
        try go_wp2
        have n0_ := Aside0.mk (R_drew HO_9.out)
        have n1_ := Aside0.mk (R_drew HO_229000.out)
        have n2_ := Aside0.mk (S_drew HO_236000.out)
        have n3_ := Aside0.mk (R_drew HO_236001.out)
        have n4_ := Aside0.mk (R_drew HO_245000.out)
        have n5_ := Aside0.mk (blk_drew BK212.out)
        have n6_ := Aside0.mk (blk_drew BK228.out)
        have n7_ := Aside0.mk (blk_drew BK235.out)
        have n8_ := Aside0.mk (blk_drew BK244.out)
        have n9_ := Aside0.mk (below_drew1 HB.out)
        clear HO_9
        clear HO_229000
        clear HO_236000
        clear HO_236001
        clear HO_245000
        clear BK212
        clear BK228
        clear BK235
        clear BK244
        clear HB
        have HO_9 := n0_
        have HO_229000 := n1_
        have HO_236000 := n2_
        have HO_236001 := n3_
        have HO_245000 := n4_
        have BK212 := n5_
        have BK228 := n6_
        have BK235 := n7_
        have BK244 := n8_
        have HB := n9_
        clear n0_ n1_ n2_ n3_ n4_ n5_ n6_ n7_ n8_ n9_
        refine start_ (n := 5) (S := fun w' => w'.cell? ⟨gb235, 0, none⟩ = some (.slice Ao34 t229.length co34) ∧ w'.cell? ⟨gb235, 1, none⟩ = some (.slice Ao38 t232.length co38) ∧ w'.cell? ⟨gb212, 0, none⟩ = some (.slice A0_0 l0_0.length c0_0) ∧ w'.cell? ⟨gb212, 1, none⟩ = some (.slice A0_1 l0_1.length c0_1)) (ds := []) #[false, false, false, false, false] (by kernel_rfl) rfl rfl ⟨(blk_cell BK235.out 0).trans rfl, (blk_cell BK235.out 1).trans rfl, (blk_cell BK212.out 0).trans rfl, (blk_cell BK212.out 1).trans rfl⟩ (fun hHeld => ?_)
        generalize wc.drew = w77 at HO_9 HO_229000 HO_236000 HO_236001 HO_245000 BK212 BK228 BK235 BK244 HB hHeld ⊢
        refine take_ (i := 0) (N := some 52) (v := ?_) (a' := ?_) #[true, false, false, false, false] rfl rfl (by kernel_rfl) (fun _ _ _ h => h) (Or.inl ⟨by rfl, ?_⟩) hHeld ?_ ?_
        rotate_left
        ·rintro w' ⟨s0, s1, s2, s3⟩
         go_simp
         with_reducible rfl
        rotate_left
        ·simp only [Act.put, List.setIfInBounds_toArray, List.set_cons_zero, List.set_cons_succ, i64_w, i32_w]
         rfl
        refine take_ (i := 1) (N := some 53) (v := ?_) (a' := ?_) #[true, true, false, false, false] rfl rfl (by kernel_rfl) (fun _ _ _ h => h) (Or.inl ⟨by rfl, ?_⟩) hHeld ?_ ?_
        rotate_left
        ·rintro w' ⟨s0, s1, s2, s3⟩
         go_simp
         with_reducible rfl
        rotate_left
        ·simp only [Act.put, List.setIfInBounds_toArray, List.set_cons_zero, List.set_cons_succ, i64_w, i32_w]
         rfl
        refine one_ (i := 2) (N := some 54) #[true, true, true, false, false] rfl rfl (by kernel_rfl) (by decide) (fun K hK => ?_)
        refine goes_ Try.func27 (by kernel_rfl) rfl #[.agg #[.slice A0_0 l0_0.length c0_0, .slice A0_1 l0_1.length c0_1]] (by rfl) rfl rfl (by (try simp only [List.map_toArray, List.map_cons, List.map_nil]);first|done|rfl|(simp only [List.length_drop, List.length_take];rfl)) ?_
        with_reducible refine (laws_toSample.calls kj15 _ _ l0_0 _ _ l0_1 t246 t249 _ ?side1 ?side2 ?side3 ?side4 A68.out).mono ?_
        (case side1 => repeat (first|exact (C_below HR0_0.out HB.out)|(with_reducible refine C_alloc ?_ _)|(with_reducible refine C_drewN ?_ _)|(with_reducible refine C_drew ?_)))
        (case side2 => exact HC0_0.out)
        (case side3 => repeat (first|exact (C_below HR0_1.out HB.out)|(with_reducible refine C_alloc ?_ _)|(with_reducible refine C_drewN ?_ _)|(with_reducible refine C_drew ?_)))
        (case side4 => exact HC0_1.out)
        rintro e w78 ⟨v247, v250, rfl, ho0, ho1, hb⟩
        refine ⟨_, rfl, ?_⟩
        have n0_ := Aside0.mk (R_elder' (by (with_reducible repeat (first|apply R_alloc|apply R_drewN|apply R_drew));exact HO_9.out) (R_base ho1) hb)
        have n1_ := Aside0.mk (R_elder' (by (with_reducible repeat (first|apply R_alloc|apply R_drewN|apply R_drew));exact HO_229000.out) (R_base ho1) hb)
        have n2_ := Aside0.mk (S_mono (S_told (S_told (S_old (by (with_reducible repeat (first|apply S_alloc|apply S_drewN|apply S_drew));exact HO_236000.out) hb) (S_base ho0)) (R_base ho1)) (fun _ h_ => h_.1))
        have n3_ := Aside0.mk (R_elder' (by (with_reducible repeat (first|apply R_alloc|apply R_drewN|apply R_drew));exact HO_236001.out) (R_base ho1) hb)
        have n4_ := Aside0.mk (R_elder' (by (with_reducible repeat (first|apply R_alloc|apply R_drewN|apply R_drew));exact HO_245000.out) (R_base ho1) hb)
        have n5_ := Aside0.mk (S_lower (S_new' (S_new' (S_new' (S_new' (S_new' ho0 (R_lt (by (with_reducible repeat (first|apply R_alloc|apply R_drewN|apply R_drew));exact HO_9.out))) (R_lt (by (with_reducible repeat (first|apply R_alloc|apply R_drewN|apply R_drew));exact HO_229000.out))) (S_lt (by (with_reducible repeat (first|apply S_alloc|apply S_drewN|apply S_drew));exact HO_236000.out))) (R_lt (by (with_reducible repeat (first|apply R_alloc|apply R_drewN|apply R_drew));exact HO_236001.out))) (R_lt (by (with_reducible repeat (first|apply R_alloc|apply R_drewN|apply R_drew));exact HO_245000.out))) (below_size (by repeat (first|(with_reducible first|exact HB.out|apply below_alloc|apply pw_below_drewN|apply below_drew1|refine below_set ?_ GE212.out|refine below_set ?_ GE228.out|refine below_set ?_ GE235.out|refine below_set ?_ GE244.out)|exact HB.out))))
        have n6_ := Aside0.mk (R_lower (R_new' (R_new' (R_new' (R_new' ho1 (R_lt (by (with_reducible repeat (first|apply R_alloc|apply R_drewN|apply R_drew));exact HO_9.out))) (R_lt (by (with_reducible repeat (first|apply R_alloc|apply R_drewN|apply R_drew));exact HO_229000.out))) (R_lt (by (with_reducible repeat (first|apply R_alloc|apply R_drewN|apply R_drew));exact HO_236001.out))) (R_lt (by (with_reducible repeat (first|apply R_alloc|apply R_drewN|apply R_drew));exact HO_245000.out))) (below_size (by repeat (first|(with_reducible first|exact HB.out|apply below_alloc|apply pw_below_drewN|apply below_drew1|refine below_set ?_ GE212.out|refine below_set ?_ GE228.out|refine below_set ?_ GE235.out|refine below_set ?_ GE244.out)|exact HB.out))))
        have n7_ := Aside0.mk (blk_below (g := gb212) (o := .cells #[.slice A0_0 l0_0.length c0_0, .slice A0_1 l0_1.length c0_1] 34 (0, 0)) (by (with_reducible repeat (first|refine blk_drewN ?_ _|refine blk_drew ?_|refine blk_alloc ?_ _));exact BK212.out) hb)
        have n8_ := Aside0.mk (blk_below (g := gb228) (o := .cells #[.slice Ao28 t223.length co28, .int .i64 t226] 54 (0, 0)) (by (with_reducible repeat (first|refine blk_drewN ?_ _|refine blk_drew ?_|refine blk_alloc ?_ _));exact BK228.out) hb)
        have n9_ := Aside0.mk (blk_below (g := gb235) (o := .cells #[.slice Ao34 t229.length co34, .slice Ao38 t232.length co38] 38 (0, 0)) (by (with_reducible repeat (first|refine blk_drewN ?_ _|refine blk_drew ?_|refine blk_alloc ?_ _));exact BK235.out) hb)
        have n10_ := Aside0.mk (blk_below (g := gb244) (o := .cells #[.slice Ao44 t239.length co44, .int .i64 t242] 54 (0, 0)) (by (with_reducible repeat (first|refine blk_drewN ?_ _|refine blk_drew ?_|refine blk_alloc ?_ _));exact BK244.out) hb)
        have n11_ := Aside0.mk (below_step (by repeat (first|(with_reducible first|exact HB.out|apply below_alloc|apply pw_below_drewN|apply below_drew1|refine below_set ?_ GE212.out|refine below_set ?_ GE228.out|refine below_set ?_ GE235.out|refine below_set ?_ GE244.out)|exact HB.out)) hb)
        clear HO_9
        clear HO_229000
        clear HO_236000
        clear HO_236001
        clear HO_245000
        clear BK212
        clear BK228
        clear BK235
        clear BK244
        clear HB
        have HO_9 := n0_
        have HO_229000 := n1_
        have HO_236000 := n2_
        have HO_236001 := n3_
        have HO_245000 := n4_
        have HO248 := n5_
        have HO251 := n6_
        have BK212 := n7_
        have BK228 := n8_
        have BK235 := n9_
        have BK244 := n10_
        have HB := n11_
        clear n0_ n1_ n2_ n3_ n4_ n5_ n6_ n7_ n8_ n9_ n10_ n11_
        (try clear hb)
        (try clear hb2)
        (try clear hk)
        (try clear hi)
        (try clear ho0)
        (try clear ho1)
        obtain ⟨Ao79, co79, eo79⟩ := S_slice HO248.out
        (first|subst eo79|(injection eo79 with f1_ f2_ f3_;have f4_ := f1_.symm;have f5_ := f3_.symm;clear f1_ f2_ f3_;subst f4_;subst f5_))
        obtain ⟨Ao80, co80, eo80⟩ := R_slice HO251.out
        (first|subst eo80|(injection eo80 with f1_ f2_ f3_;have f4_ := f1_.symm;have f5_ := f3_.symm;clear f1_ f2_ f3_;subst f4_;subst f5_))
        refine hK.out _ _ ⟨(blk_cell BK235.out 0).trans rfl, (blk_cell BK235.out 1).trans rfl, (blk_cell BK212.out 0).trans rfl, (blk_cell BK212.out 1).trans rfl⟩ (fun hHeld => ?_)
        clear hK K
        refine norm_ (a' := ?_) ?_ ?_
        rotate_left
        ·show Act.put _ (some 54) _ = _
         simp only [Act.put, List.setIfInBounds_toArray, List.set_cons_zero, List.set_cons_succ, i64_w, i32_w]
         rfl
        refine one_ (i := 3) (N := some 55) #[true, true, true, true, false] rfl rfl (by kernel_rfl) (by decide) (fun K hK => ?_)
        refine goes_ Try.func29 (by kernel_rfl) rfl #[.agg #[.slice Ao34 t229.length co34, .slice Ao38 t232.length co38], .agg #[.slice Ao79 t246.length co79, .slice Ao80 t249.length co80]] (by rfl) rfl rfl (by (try simp only [List.map_toArray, List.map_cons, List.map_nil]);first|done|rfl|(simp only [List.length_drop, List.length_take];rfl)) ?_
        with_reducible refine (laws_eqSample.calls kj15 _ _ t229 _ _ t232 _ _ t246 _ _ t249 true _ ?side1 ?side2 ?side3 ?side4 ?side5 ?side6 ?side7 ?side8 A69.out).mono ?_
        (case side1 => repeat (first|exact (S_reads' HO_236000.out).2.2|(with_reducible refine C_alloc ?_ _)|(with_reducible refine C_drewN ?_ _)|(with_reducible refine C_drew ?_)))
        (case side2 => exact (S_reads' HO_236000.out).2.1)
        (case side3 => repeat (first|exact (R_reads' HO_236001.out).2.2|(with_reducible refine C_alloc ?_ _)|(with_reducible refine C_drewN ?_ _)|(with_reducible refine C_drew ?_)))
        (case side4 => exact (R_reads' HO_236001.out).2.1)
        (case side5 => repeat (first|exact (S_reads' HO248.out).2.2|(with_reducible refine C_alloc ?_ _)|(with_reducible refine C_drewN ?_ _)|(with_reducible refine C_drew ?_)))
        (case side6 => exact (S_reads' HO248.out).2.1)
        (case side7 => repeat (first|exact (R_reads' HO251.out).2.2|(with_reducible refine C_alloc ?_ _)|(with_reducible refine C_drewN ?_ _)|(with_reducible refine C_drew ?_)))
        (case side8 => exact (R_reads' HO251.out).2.1)
        rintro e w81 ⟨rfl, hb⟩
        refine ⟨_, rfl, ?_⟩
        have n0_ := Aside0.mk (R_below (by (with_reducible repeat (first|apply R_alloc|apply R_drewN|apply R_drew));exact HO_9.out) hb)
        have n1_ := Aside0.mk (R_below (by (with_reducible repeat (first|apply R_alloc|apply R_drewN|apply R_drew));exact HO_229000.out) hb)
        have n2_ := Aside0.mk (S_below (by (with_reducible repeat (first|apply S_alloc|apply S_drewN|apply S_drew));exact HO_236000.out) hb)
        have n3_ := Aside0.mk (R_below (by (with_reducible repeat (first|apply R_alloc|apply R_drewN|apply R_drew));exact HO_236001.out) hb)
        have n4_ := Aside0.mk (R_below (by (with_reducible repeat (first|apply R_alloc|apply R_drewN|apply R_drew));exact HO_245000.out) hb)
        have n5_ := Aside0.mk (S_below (by (with_reducible repeat (first|apply S_alloc|apply S_drewN|apply S_drew));exact HO248.out) hb)
        have n6_ := Aside0.mk (R_below (by (with_reducible repeat (first|apply R_alloc|apply R_drewN|apply R_drew));exact HO251.out) hb)
        have n7_ := Aside0.mk (blk_below (g := gb212) (o := .cells #[.slice A0_0 l0_0.length c0_0, .slice A0_1 l0_1.length c0_1] 34 (0, 0)) (by (with_reducible repeat (first|refine blk_drewN ?_ _|refine blk_drew ?_|refine blk_alloc ?_ _));exact BK212.out) hb)
        have n8_ := Aside0.mk (blk_below (g := gb228) (o := .cells #[.slice Ao28 t223.length co28, .int .i64 t226] 54 (0, 0)) (by (with_reducible repeat (first|refine blk_drewN ?_ _|refine blk_drew ?_|refine blk_alloc ?_ _));exact BK228.out) hb)
        have n9_ := Aside0.mk (blk_below (g := gb235) (o := .cells #[.slice Ao34 t229.length co34, .slice Ao38 t232.length co38] 38 (0, 0)) (by (with_reducible repeat (first|refine blk_drewN ?_ _|refine blk_drew ?_|refine blk_alloc ?_ _));exact BK235.out) hb)
        have n10_ := Aside0.mk (blk_below (g := gb244) (o := .cells #[.slice Ao44 t239.length co44, .int .i64 t242] 54 (0, 0)) (by (with_reducible repeat (first|refine blk_drewN ?_ _|refine blk_drew ?_|refine blk_alloc ?_ _));exact BK244.out) hb)
        have n11_ := Aside0.mk (below_step (by repeat (first|(with_reducible first|exact HB.out|apply below_alloc|apply pw_below_drewN|apply below_drew1|refine below_set ?_ GE212.out|refine below_set ?_ GE228.out|refine below_set ?_ GE235.out|refine below_set ?_ GE244.out)|exact HB.out)) hb)
        clear HO_9
        clear HO_229000
        clear HO_236000
        clear HO_236001
        clear HO_245000
        clear HO248
        clear HO251
        clear BK212
        clear BK228
        clear BK235
        clear BK244
        clear HB
        have HO_9 := n0_
        have HO_229000 := n1_
        have HO_236000 := n2_
        have HO_236001 := n3_
        have HO_245000 := n4_
        have HO248 := n5_
        have HO251 := n6_
        have BK212 := n7_
        have BK228 := n8_
        have BK235 := n9_
        have BK244 := n10_
        have HB := n11_
        clear n0_ n1_ n2_ n3_ n4_ n5_ n6_ n7_ n8_ n9_ n10_ n11_
        (try clear hb)
        (try clear hb2)
        (try clear hk)
        (try clear hi)
        refine hK.out _ _ ⟨(blk_cell BK235.out 0).trans rfl, (blk_cell BK235.out 1).trans rfl, (blk_cell BK212.out 0).trans rfl, (blk_cell BK212.out 1).trans rfl⟩ (fun hHeld => ?_)
        clear hK K
        refine norm_ (a' := ?_) ?_ ?_
        rotate_left
        ·show Act.put _ (some 55) _ = _
         simp only [Act.put, List.setIfInBounds_toArray, List.set_cons_zero, List.set_cons_succ, i64_w, i32_w]
         rfl
        refine pure_ (i := 4) (N := some 56) (v := ?_) (a' := ?_) #[true, true, true, true, true] rfl rfl (by kernel_rfl) (fun _ _ _ h => h) (Or.inl ⟨by rfl, ?_⟩) ?_ ?_
        rotate_left
        ·intro w'
         go_simp
         with_reducible rfl
        rotate_left
        ·simp only [Act.put, List.setIfInBounds_toArray, List.set_cons_zero, List.set_cons_succ, i64_w, i32_w]
         rfl
        refine done_ (by kernel_rfl) ?_
        go_upto_region 20 with (first|((with_reducible refine gate_callee (f := 18) rfl ?_);refine goesL_ (some 59) rfl rfl Try.func18 (by kernel_rfl) rfl #[.slice A1 l1.length c1] rfl (by (try simp only [List.map_toArray, List.map_cons, List.map_nil]);first|done|rfl|(simp only [List.length_drop, List.length_take];rfl)) ?_;(with_reducible refine (laws_toIntS.calls kj15 _ _ l1 t253 _ ?side1 ?side2 A71.out).mono ?_);(case side1 => repeat (first|exact (C_below HR1.out HB.out)|(with_reducible refine C_alloc ?_ _)|(with_reducible refine C_drewN ?_ _)|(with_reducible refine C_drew ?_)));(case side2 => exact HC1.out);rintro e w82 ⟨v254, rfl, ho0, hb⟩;refine ⟨_, rfl, ?_⟩;have n0_ := Aside0.mk (R_elder' (by (with_reducible repeat (first|apply R_alloc|apply R_drewN|apply R_drew));exact HO_9.out) (R_base ho0) hb);have n1_ := Aside0.mk (R_elder' (by (with_reducible repeat (first|apply R_alloc|apply R_drewN|apply R_drew));exact HO_229000.out) (R_base ho0) hb);have n2_ := Aside0.mk (S_elder' (by (with_reducible repeat (first|apply S_alloc|apply S_drewN|apply S_drew));exact HO_236000.out) (R_base ho0) hb);have n3_ := Aside0.mk (R_elder' (by (with_reducible repeat (first|apply R_alloc|apply R_drewN|apply R_drew));exact HO_236001.out) (R_base ho0) hb);have n4_ := Aside0.mk (R_elder' (by (with_reducible repeat (first|apply R_alloc|apply R_drewN|apply R_drew));exact HO_245000.out) (R_base ho0) hb);have n5_ := Aside0.mk (S_elder' (by (with_reducible repeat (first|apply S_alloc|apply S_drewN|apply S_drew));exact HO248.out) (R_base ho0) hb);have n6_ := Aside0.mk (R_elder' (by (with_reducible repeat (first|apply R_alloc|apply R_drewN|apply R_drew));exact HO251.out) (R_base ho0) hb);have n7_ := Aside0.mk (R_lower (R_new' (R_new' (R_new' (R_new' (R_new' ho0 (R_lt (by (with_reducible repeat (first|apply R_alloc|apply R_drewN|apply R_drew));exact HO_9.out))) (R_lt (by (with_reducible repeat (first|apply R_alloc|apply R_drewN|apply R_drew));exact HO_229000.out))) (R_lt (by (with_reducible repeat (first|apply R_alloc|apply R_drewN|apply R_drew));exact HO_236001.out))) (R_lt (by (with_reducible repeat (first|apply R_alloc|apply R_drewN|apply R_drew));exact HO_245000.out))) (R_lt (by (with_reducible repeat (first|apply R_alloc|apply R_drewN|apply R_drew));exact HO251.out))) (below_size (by repeat (first|(with_reducible first|exact HB.out|apply below_alloc|apply pw_below_drewN|apply below_drew1|refine below_set ?_ GE212.out|refine below_set ?_ GE228.out|refine below_set ?_ GE235.out|refine below_set ?_ GE244.out)|exact HB.out))));have n8_ := Aside0.mk (blk_below (g := gb212) (o := .cells #[.slice A0_0 l0_0.length c0_0, .slice A0_1 l0_1.length c0_1] 34 (0, 0)) (by (with_reducible repeat (first|refine blk_drewN ?_ _|refine blk_drew ?_|refine blk_alloc ?_ _));exact BK212.out) hb);have n9_ := Aside0.mk (blk_below (g := gb228) (o := .cells #[.slice Ao28 t223.length co28, .int .i64 t226] 54 (0, 0)) (by (with_reducible repeat (first|refine blk_drewN ?_ _|refine blk_drew ?_|refine blk_alloc ?_ _));exact BK228.out) hb);have n10_ := Aside0.mk (blk_below (g := gb235) (o := .cells #[.slice Ao34 t229.length co34, .slice Ao38 t232.length co38] 38 (0, 0)) (by (with_reducible repeat (first|refine blk_drewN ?_ _|refine blk_drew ?_|refine blk_alloc ?_ _));exact BK235.out) hb);have n11_ := Aside0.mk (blk_below (g := gb244) (o := .cells #[.slice Ao44 t239.length co44, .int .i64 t242] 54 (0, 0)) (by (with_reducible repeat (first|refine blk_drewN ?_ _|refine blk_drew ?_|refine blk_alloc ?_ _));exact BK244.out) hb);have n12_ := Aside0.mk (below_step (by repeat (first|(with_reducible first|exact HB.out|apply below_alloc|apply pw_below_drewN|apply below_drew1|refine below_set ?_ GE212.out|refine below_set ?_ GE228.out|refine below_set ?_ GE235.out|refine below_set ?_ GE244.out)|exact HB.out)) hb);clear HO_9;clear HO_229000;clear HO_236000;clear HO_236001;clear HO_245000;clear HO248;clear HO251;clear BK212;clear BK228;clear BK235;clear BK244;clear HB;have HO_9 := n0_;have HO_229000 := n1_;have HO_236000 := n2_;have HO_236001 := n3_;have HO_245000 := n4_;have HO248 := n5_;have HO251 := n6_;have HO255 := n7_;have BK212 := n8_;have BK228 := n9_;have BK235 := n10_;have BK244 := n11_;have HB := n12_;clear n0_ n1_ n2_ n3_ n4_ n5_ n6_ n7_ n8_ n9_ n10_ n11_ n12_;(try clear hb);(try clear hb2);(try clear hk);(try clear hi);(try clear ho0);obtain ⟨Ao83, co83, eo83⟩ := R_slice HO255.out;subst eo83)|((with_reducible refine gate_callee (f := 20) rfl ?_);refine goesL_ (some 60) rfl rfl Try.func20 (by kernel_rfl) rfl #[.slice Ao41 t236.length co41, .slice Ao83 t253.length co83] rfl (by (try simp only [List.map_toArray, List.map_cons, List.map_nil]);first|done|rfl|(simp only [List.length_drop, List.length_take];rfl)) ?_;(with_reducible refine (laws_eqIntS.calls kj15 _ _ t236 _ _ t253 true _ ?side1 ?side2 ?side3 ?side4 A72.out).mono ?_);(case side1 => repeat (first|exact (R_reads' HO_9.out).2.2|(with_reducible refine C_alloc ?_ _)|(with_reducible refine C_drewN ?_ _)|(with_reducible refine C_drew ?_)));(case side2 => exact (R_reads' HO_9.out).2.1);(case side3 => repeat (first|exact (R_reads' HO255.out).2.2|(with_reducible refine C_alloc ?_ _)|(with_reducible refine C_drewN ?_ _)|(with_reducible refine C_drew ?_)));(case side4 => exact (R_reads' HO255.out).2.1);rintro e w' ⟨rfl, ⟨nd, rfl⟩⟩;refine ⟨_, rfl, ?_⟩;have hnb84 := NB235_212.out;have hnc84 := NB212_235.out;have hnb85 := NB235_228.out;have hnc85 := NB228_235.out;have hnb86 := NB235_244.out;have hnc86 := NB244_235.out;have hcz87_0 : w82.cell? ⟨gb235, 0, none⟩ = some (.slice Ao34 t229.length co34) := (blk_cell BK235.out 0).trans rfl;have hcz87_1 : w82.cell? ⟨gb235, 1, none⟩ = some (.slice Ao38 t232.length co38) := (blk_cell BK235.out 1).trans rfl;have hfz87_0 := blk_frozen BK235.out 0;have hfz87_1 := blk_frozen BK235.out 1)|((with_reducible refine gate_callee (f := 32) rfl ?_);refine goesL_ (some 64) rfl rfl Try.func32 (by kernel_rfl) rfl #[.agg #[.slice Ao34 t229.length co34, .slice Ao38 t232.length co38], .int .i64 1] rfl (by (try simp only [List.map_toArray, List.map_cons, List.map_nil]);first|done|rfl|(simp only [List.length_drop, List.length_take];rfl)) ?_;(with_reducible refine (laws_markSample.calls kj15 (fun k_ => w.heap.size ≤ k_ ∧ ((((((((some k_ ≠ (.slice Ao41 t236.length co41 : Value).ownBlock ∧ (some k_ ≠ (.slice Ao28 t223.length co28 : Value).ownBlock ∧ (some k_ ≠ (.slice Ao38 t232.length co38 : Value).ownBlock ∧ some k_ ≠ (.slice Ao44 t239.length co44 : Value).ownBlock))) ∧ some k_ ≠ (.slice Ao79 t246.length co79 : Value).ownBlock) ∧ some k_ ≠ (.slice Ao80 t249.length co80 : Value).ownBlock) ∧ some k_ ≠ (.slice Ao83 t253.length co83 : Value).ownBlock) ∧ k_ ≠ gb212) ∧ k_ ≠ gb228) ∧ k_ ≠ gb235) ∧ k_ ≠ gb244)) (.slice Ao34 t229.length co34) t229 (fun k_ => some k_ = (.slice Ao38 t232.length co38 : Value).ownBlock) (.slice Ao38 t232.length co38) t232 1 t257 t258 t259 w _ ?side1 ?side2 ?side3 ?side4 A74.out).mono ?_);(case side1 => repeat (first|(with_reducible first|exact HB.out|apply below_alloc|apply pw_below_drewN|apply below_drew1|refine below_set ?_ GE212.out|refine below_set ?_ GE228.out|refine below_set ?_ GE235.out|refine below_set ?_ GE244.out)|exact HB.out));(case side2 => exact S_mono (S_bound (S_types (S_types (S_types (S_types (HO_236000.out) BK212.out (by decide)) BK228.out (by decide)) BK235.out (by decide)) BK244.out (by decide))) (fun k_ hk => by first|exact ⟨hk.2.1, hk.1⟩|grind));(case side3 => exact R_tight rfl HO_236001.out);(case side4 => exact fun k_ e_ e2_ => (e_.2.1.1.1.1.1.1.1.2.2.1) e2_);rintro e w88 ⟨rfl, hy0, hy1, hb, hkp⟩;refine ⟨_, rfl, ?_⟩;have n0_ := Aside0.mk (R_mono (ok' := fun k_ => some k_ ≠ (.slice Ao28 t223.length co28 : Value).ownBlock ∧ some k_ ≠ (.slice Ao38 t232.length co38 : Value).ownBlock ∧ some k_ ≠ (.slice Ao44 t239.length co44 : Value).ownBlock ∧ some k_ ≠ (.slice Ao80 t249.length co80 : Value).ownBlock ∧ some k_ ≠ (.slice Ao83 t253.length co83 : Value).ownBlock) (R_keptB ((R_mono (ok' := fun k_ => ((((some k_ ≠ (.slice Ao28 t223.length co28 : Value).ownBlock ∧ (some k_ ≠ (.slice Ao38 t232.length co38 : Value).ownBlock ∧ some k_ ≠ (.slice Ao44 t239.length co44 : Value).ownBlock)) ∧ some k_ ≠ (.slice Ao80 t249.length co80 : Value).ownBlock) ∧ some k_ ≠ (.slice Ao83 t253.length co83 : Value).ownBlock)) ∧ ¬ (fun k_ => w.heap.size ≤ k_ ∧ ((((((((some k_ ≠ (.slice Ao41 t236.length co41 : Value).ownBlock ∧ (some k_ ≠ (.slice Ao28 t223.length co28 : Value).ownBlock ∧ (some k_ ≠ (.slice Ao38 t232.length co38 : Value).ownBlock ∧ some k_ ≠ (.slice Ao44 t239.length co44 : Value).ownBlock))) ∧ some k_ ≠ (.slice Ao79 t246.length co79 : Value).ownBlock) ∧ some k_ ≠ (.slice Ao80 t249.length co80 : Value).ownBlock) ∧ some k_ ≠ (.slice Ao83 t253.length co83 : Value).ownBlock) ∧ k_ ≠ gb212) ∧ k_ ≠ gb228) ∧ k_ ≠ gb235) ∧ k_ ≠ gb244)) k_) (R_tight2 rfl HO_9.out) (fun k_ hk => ⟨hk.2, fun e_ => (e_.2.1.1.1.1.1.1.1.1) hk.1⟩))) hkp (fun k_ hk_ hs_ => Or.elim hs_ (fun e_ => (hk_.2) e_) (fun e_ => (hk_.1.1.1.2.1) e_))) (fun k_ hk_ => by first|exact ⟨hk_.1.1.1.1.1, hk_.1.1.1.1.2.1, hk_.1.1.1.1.2.2, hk_.1.1.1.2, hk_.1.1.2⟩|grind));have n1_ := Aside0.mk (R_mono (ok' := fun k_ => some k_ ≠ (.slice Ao41 t236.length co41 : Value).ownBlock ∧ some k_ ≠ (.slice Ao38 t232.length co38 : Value).ownBlock ∧ some k_ ≠ (.slice Ao44 t239.length co44 : Value).ownBlock ∧ some k_ ≠ (.slice Ao80 t249.length co80 : Value).ownBlock ∧ some k_ ≠ (.slice Ao83 t253.length co83 : Value).ownBlock) (R_keptB ((R_mono (ok' := fun k_ => ((((some k_ ≠ (.slice Ao41 t236.length co41 : Value).ownBlock ∧ (some k_ ≠ (.slice Ao38 t232.length co38 : Value).ownBlock ∧ some k_ ≠ (.slice Ao44 t239.length co44 : Value).ownBlock)) ∧ some k_ ≠ (.slice Ao80 t249.length co80 : Value).ownBlock) ∧ some k_ ≠ (.slice Ao83 t253.length co83 : Value).ownBlock)) ∧ ¬ (fun k_ => w.heap.size ≤ k_ ∧ ((((((((some k_ ≠ (.slice Ao41 t236.length co41 : Value).ownBlock ∧ (some k_ ≠ (.slice Ao28 t223.length co28 : Value).ownBlock ∧ (some k_ ≠ (.slice Ao38 t232.length co38 : Value).ownBlock ∧ some k_ ≠ (.slice Ao44 t239.length co44 : Value).ownBlock))) ∧ some k_ ≠ (.slice Ao79 t246.length co79 : Value).ownBlock) ∧ some k_ ≠ (.slice Ao80 t249.length co80 : Value).ownBlock) ∧ some k_ ≠ (.slice Ao83 t253.length co83 : Value).ownBlock) ∧ k_ ≠ gb212) ∧ k_ ≠ gb228) ∧ k_ ≠ gb235) ∧ k_ ≠ gb244)) k_) (R_tight2 rfl HO_229000.out) (fun k_ hk => ⟨hk.2, fun e_ => (e_.2.1.1.1.1.1.1.1.2.1) hk.1⟩))) hkp (fun k_ hk_ hs_ => Or.elim hs_ (fun e_ => (hk_.2) e_) (fun e_ => (hk_.1.1.1.2.1) e_))) (fun k_ hk_ => by first|exact ⟨hk_.1.1.1.1.1, hk_.1.1.1.1.2.1, hk_.1.1.1.1.2.2, hk_.1.1.1.2, hk_.1.1.2⟩|grind));have n2_ := Aside0.mk (S_mono (ok' := fun k_ => some k_ ≠ (.slice Ao41 t236.length co41 : Value).ownBlock ∧ some k_ ≠ (.slice Ao28 t223.length co28 : Value).ownBlock ∧ some k_ ≠ (.slice Ao38 t232.length co38 : Value).ownBlock ∧ some k_ ≠ (.slice Ao44 t239.length co44 : Value).ownBlock ∧ some k_ ≠ (.slice Ao80 t249.length co80 : Value).ownBlock ∧ some k_ ≠ (.slice Ao83 t253.length co83 : Value).ownBlock) hy0 (fun k_ hk => by first|exact ⟨hk.2.1.1.1.1.1.1.1.1, ⟨hk.2.1.1.1.1.1.1.1.2.1, ⟨hk.2.1.1.1.1.1.1.1.2.2.1, ⟨hk.2.1.1.1.1.1.1.1.2.2.2, ⟨hk.2.1.1.1.1.1.2, hk.2.1.1.1.1.2⟩⟩⟩⟩⟩|grind));have n3_ := Aside0.mk (R_reok rfl hy1 (fun k_ e_ => HO_236001.out.1 k_ e_));have n4_ := Aside0.mk (R_mono (ok' := fun k_ => some k_ ≠ (.slice Ao41 t236.length co41 : Value).ownBlock ∧ some k_ ≠ (.slice Ao28 t223.length co28 : Value).ownBlock ∧ some k_ ≠ (.slice Ao38 t232.length co38 : Value).ownBlock ∧ some k_ ≠ (.slice Ao80 t249.length co80 : Value).ownBlock ∧ some k_ ≠ (.slice Ao83 t253.length co83 : Value).ownBlock) (R_keptB ((R_mono (ok' := fun k_ => ((((some k_ ≠ (.slice Ao41 t236.length co41 : Value).ownBlock ∧ (some k_ ≠ (.slice Ao28 t223.length co28 : Value).ownBlock ∧ some k_ ≠ (.slice Ao38 t232.length co38 : Value).ownBlock)) ∧ some k_ ≠ (.slice Ao80 t249.length co80 : Value).ownBlock) ∧ some k_ ≠ (.slice Ao83 t253.length co83 : Value).ownBlock)) ∧ ¬ (fun k_ => w.heap.size ≤ k_ ∧ ((((((((some k_ ≠ (.slice Ao41 t236.length co41 : Value).ownBlock ∧ (some k_ ≠ (.slice Ao28 t223.length co28 : Value).ownBlock ∧ (some k_ ≠ (.slice Ao38 t232.length co38 : Value).ownBlock ∧ some k_ ≠ (.slice Ao44 t239.length co44 : Value).ownBlock))) ∧ some k_ ≠ (.slice Ao79 t246.length co79 : Value).ownBlock) ∧ some k_ ≠ (.slice Ao80 t249.length co80 : Value).ownBlock) ∧ some k_ ≠ (.slice Ao83 t253.length co83 : Value).ownBlock) ∧ k_ ≠ gb212) ∧ k_ ≠ gb228) ∧ k_ ≠ gb235) ∧ k_ ≠ gb244)) k_) (R_tight2 rfl HO_245000.out) (fun k_ hk => ⟨hk.2, fun e_ => (e_.2.1.1.1.1.1.1.1.2.2.2) hk.1⟩))) hkp (fun k_ hk_ hs_ => Or.elim hs_ (fun e_ => (hk_.2) e_) (fun e_ => (hk_.1.1.1.2.2) e_))) (fun k_ hk_ => by first|exact ⟨hk_.1.1.1.1.1, hk_.1.1.1.1.2.1, hk_.1.1.1.1.2.2, hk_.1.1.1.2, hk_.1.1.2⟩|grind));have n5_ := Aside0.mk (blk_kept (by (with_reducible repeat (first|refine blk_drewN ?_ _|refine blk_drew ?_|refine blk_alloc ?_ _));exact BK212.out) hkp (fun hs_ => Or.elim hs_ (fun e_ => (fun e_ => (e_.2.1.1.1.2) rfl) e_) (fun e_ => (fun e_ => (R_ne HO_236001.out BK212.out (by decide)) e_) e_)));have n6_ := Aside0.mk (blk_kept (by (with_reducible repeat (first|refine blk_drewN ?_ _|refine blk_drew ?_|refine blk_alloc ?_ _));exact BK228.out) hkp (fun hs_ => Or.elim hs_ (fun e_ => (fun e_ => (e_.2.1.1.2) rfl) e_) (fun e_ => (fun e_ => (R_ne HO_236001.out BK228.out (by decide)) e_) e_)));have n7_ := Aside0.mk (blk_kept (by (with_reducible repeat (first|refine blk_drewN ?_ _|refine blk_drew ?_|refine blk_alloc ?_ _));exact BK235.out) hkp (fun hs_ => Or.elim hs_ (fun e_ => (fun e_ => (e_.2.1.2) rfl) e_) (fun e_ => (fun e_ => (R_ne HO_236001.out BK235.out (by decide)) e_) e_)));have n8_ := Aside0.mk (blk_kept (by (with_reducible repeat (first|refine blk_drewN ?_ _|refine blk_drew ?_|refine blk_alloc ?_ _));exact BK244.out) hkp (fun hs_ => Or.elim hs_ (fun e_ => (fun e_ => (e_.2.2) rfl) e_) (fun e_ => (fun e_ => (R_ne HO_236001.out BK244.out (by decide)) e_) e_)));have n9_ := Aside0.mk (R_mono (ok' := fun k_ => some k_ ≠ (.slice Ao41 t236.length co41 : Value).ownBlock ∧ some k_ ≠ (.slice Ao28 t223.length co28 : Value).ownBlock ∧ some k_ ≠ (.slice Ao38 t232.length co38 : Value).ownBlock ∧ some k_ ≠ (.slice Ao44 t239.length co44 : Value).ownBlock ∧ some k_ ≠ (.slice Ao83 t253.length co83 : Value).ownBlock) (R_keptB ((R_mono (ok' := fun k_ => ((((((True ∧ some k_ ≠ (.slice Ao41 t236.length co41 : Value).ownBlock) ∧ some k_ ≠ (.slice Ao28 t223.length co28 : Value).ownBlock) ∧ some k_ ≠ (.slice Ao38 t232.length co38 : Value).ownBlock) ∧ some k_ ≠ (.slice Ao44 t239.length co44 : Value).ownBlock) ∧ some k_ ≠ (.slice Ao83 t253.length co83 : Value).ownBlock)) ∧ ¬ (fun k_ => w.heap.size ≤ k_ ∧ ((((((((some k_ ≠ (.slice Ao41 t236.length co41 : Value).ownBlock ∧ (some k_ ≠ (.slice Ao28 t223.length co28 : Value).ownBlock ∧ (some k_ ≠ (.slice Ao38 t232.length co38 : Value).ownBlock ∧ some k_ ≠ (.slice Ao44 t239.length co44 : Value).ownBlock))) ∧ some k_ ≠ (.slice Ao79 t246.length co79 : Value).ownBlock) ∧ some k_ ≠ (.slice Ao80 t249.length co80 : Value).ownBlock) ∧ some k_ ≠ (.slice Ao83 t253.length co83 : Value).ownBlock) ∧ k_ ≠ gb212) ∧ k_ ≠ gb228) ∧ k_ ≠ gb235) ∧ k_ ≠ gb244)) k_) (R_tight2 rfl HO251.out) (fun k_ hk => ⟨hk.2, fun e_ => (e_.2.1.1.1.1.1.2) hk.1⟩))) hkp (fun k_ hk_ hs_ => Or.elim hs_ (fun e_ => (hk_.2) e_) (fun e_ => (hk_.1.1.1.2) e_))) (fun k_ hk_ => by first|exact ⟨hk_.1.1.1.1.1.1.2, hk_.1.1.1.1.1.2, hk_.1.1.1.1.2, hk_.1.1.1.2, hk_.1.1.2⟩|grind));have n10_ := Aside0.mk (R_mono (ok' := fun k_ => some k_ ≠ (.slice Ao41 t236.length co41 : Value).ownBlock ∧ some k_ ≠ (.slice Ao28 t223.length co28 : Value).ownBlock ∧ some k_ ≠ (.slice Ao38 t232.length co38 : Value).ownBlock ∧ some k_ ≠ (.slice Ao44 t239.length co44 : Value).ownBlock ∧ some k_ ≠ (.slice Ao80 t249.length co80 : Value).ownBlock) (R_keptB ((R_mono (ok' := fun k_ => ((((((True ∧ some k_ ≠ (.slice Ao41 t236.length co41 : Value).ownBlock) ∧ some k_ ≠ (.slice Ao28 t223.length co28 : Value).ownBlock) ∧ some k_ ≠ (.slice Ao38 t232.length co38 : Value).ownBlock) ∧ some k_ ≠ (.slice Ao44 t239.length co44 : Value).ownBlock) ∧ some k_ ≠ (.slice Ao80 t249.length co80 : Value).ownBlock)) ∧ ¬ (fun k_ => w.heap.size ≤ k_ ∧ ((((((((some k_ ≠ (.slice Ao41 t236.length co41 : Value).ownBlock ∧ (some k_ ≠ (.slice Ao28 t223.length co28 : Value).ownBlock ∧ (some k_ ≠ (.slice Ao38 t232.length co38 : Value).ownBlock ∧ some k_ ≠ (.slice Ao44 t239.length co44 : Value).ownBlock))) ∧ some k_ ≠ (.slice Ao79 t246.length co79 : Value).ownBlock) ∧ some k_ ≠ (.slice Ao80 t249.length co80 : Value).ownBlock) ∧ some k_ ≠ (.slice Ao83 t253.length co83 : Value).ownBlock) ∧ k_ ≠ gb212) ∧ k_ ≠ gb228) ∧ k_ ≠ gb235) ∧ k_ ≠ gb244)) k_) (R_tight2 rfl HO255.out) (fun k_ hk => ⟨hk.2, fun e_ => (e_.2.1.1.1.1.2) hk.1⟩))) hkp (fun k_ hk_ hs_ => Or.elim hs_ (fun e_ => (hk_.2) e_) (fun e_ => (hk_.1.1.1.2) e_))) (fun k_ hk_ => by first|exact ⟨hk_.1.1.1.1.1.1.2, hk_.1.1.1.1.1.2, hk_.1.1.1.1.2, hk_.1.1.1.2, hk_.1.1.2⟩|grind));have n11_ := Aside0.mk (hb);clear HO_9;clear HO_229000;clear HO_236000;clear HO_236001;clear HO_245000;clear BK212;clear BK228;clear BK235;clear BK244;clear HO251;clear HO255;clear HB;clear HO248;have HO_9 := n0_;have HO_229000 := n1_;have HO_236000 := n2_;have HO_236001 := n3_;have HO_245000 := n4_;have BK212 := n5_;have BK228 := n6_;have BK235 := n7_;have BK244 := n8_;have HO251 := n9_;have HO255 := n10_;have HB := n11_;clear n0_ n1_ n2_ n3_ n4_ n5_ n6_ n7_ n8_ n9_ n10_ n11_;(try clear hb);(try clear hkp);(try clear hy0);(try clear hy1))|((with_reducible refine gate_callee (f := 23) rfl ?_);refine goesL_ (some 67) rfl rfl Try.func23 (by kernel_rfl) rfl #[.slice Ao41 t236.length co41, .int .i64 t257] rfl (by (try simp only [List.map_toArray, List.map_cons, List.map_nil]);first|done|rfl|(simp only [List.length_drop, List.length_take];rfl)) ?_;(with_reducible refine (laws_markIntS.calls kj15 (fun k_ => some k_ = (.slice Ao41 t236.length co41 : Value).ownBlock) (.slice Ao41 t236.length co41) t236 t257 t260 t261 w _ ?side1 ?side2 A75.out).mono ?_);(case side1 => repeat (first|(with_reducible first|exact HB.out|apply below_alloc|apply pw_below_drewN|apply below_drew1|refine below_set ?_ GE212.out|refine below_set ?_ GE228.out|refine below_set ?_ GE235.out|refine below_set ?_ GE244.out)|exact HB.out));(case side2 => exact R_tight rfl HO_9.out);rintro e w89 ⟨rfl, hy0, hb, hkp⟩;refine ⟨_, rfl, ?_⟩;have n0_ := Aside0.mk (R_reok rfl hy0 (fun k_ e_ => HO_9.out.1 k_ e_));have n1_ := Aside0.mk (R_mono (ok' := fun k_ => some k_ ≠ (.slice Ao41 t236.length co41 : Value).ownBlock ∧ some k_ ≠ (.slice Ao38 t232.length co38 : Value).ownBlock ∧ some k_ ≠ (.slice Ao44 t239.length co44 : Value).ownBlock ∧ some k_ ≠ (.slice Ao80 t249.length co80 : Value).ownBlock ∧ some k_ ≠ (.slice Ao83 t253.length co83 : Value).ownBlock) (R_keptB (HO_229000.out) hkp (fun k_ hk_ hs_ => (hk_.1) hs_)) (fun k_ hk_ => by first|exact ⟨hk_.1.1, hk_.1.2.1, hk_.1.2.2.1, hk_.1.2.2.2.1, hk_.1.2.2.2.2⟩|grind));have n2_ := Aside0.mk (S_mono (ok' := fun k_ => some k_ ≠ (.slice Ao41 t236.length co41 : Value).ownBlock ∧ some k_ ≠ (.slice Ao28 t223.length co28 : Value).ownBlock ∧ some k_ ≠ (.slice Ao38 t232.length co38 : Value).ownBlock ∧ some k_ ≠ (.slice Ao44 t239.length co44 : Value).ownBlock ∧ some k_ ≠ (.slice Ao80 t249.length co80 : Value).ownBlock ∧ some k_ ≠ (.slice Ao83 t253.length co83 : Value).ownBlock) (S_keptB (HO_236000.out) hkp (fun k_ hk_ hs_ => (hk_.1) hs_)) (fun k_ hk_ => by first|exact ⟨hk_.1.1, hk_.1.2.1, hk_.1.2.2.1, hk_.1.2.2.2.1, hk_.1.2.2.2.2.1, hk_.1.2.2.2.2.2⟩|grind));have n3_ := Aside0.mk (R_mono (ok' := fun k_ => some k_ ≠ (.slice Ao41 t236.length co41 : Value).ownBlock ∧ some k_ ≠ (.slice Ao28 t223.length co28 : Value).ownBlock ∧ some k_ ≠ (.slice Ao44 t239.length co44 : Value).ownBlock ∧ some k_ ≠ (.slice Ao80 t249.length co80 : Value).ownBlock ∧ some k_ ≠ (.slice Ao83 t253.length co83 : Value).ownBlock) (R_keptB (HO_236001.out) hkp (fun k_ hk_ hs_ => (hk_.1.1.1) hs_)) (fun k_ hk_ => by first|exact ⟨hk_.1.1.1.1, hk_.1.1.1.2.1, hk_.1.1.1.2.2, hk_.1.1.2, hk_.1.2⟩|grind));have n4_ := Aside0.mk (R_mono (ok' := fun k_ => some k_ ≠ (.slice Ao41 t236.length co41 : Value).ownBlock ∧ some k_ ≠ (.slice Ao28 t223.length co28 : Value).ownBlock ∧ some k_ ≠ (.slice Ao38 t232.length co38 : Value).ownBlock ∧ some k_ ≠ (.slice Ao80 t249.length co80 : Value).ownBlock ∧ some k_ ≠ (.slice Ao83 t253.length co83 : Value).ownBlock) (R_keptB (HO_245000.out) hkp (fun k_ hk_ hs_ => (hk_.1) hs_)) (fun k_ hk_ => by first|exact ⟨hk_.1.1, hk_.1.2.1, hk_.1.2.2.1, hk_.1.2.2.2.1, hk_.1.2.2.2.2⟩|grind));have n5_ := Aside0.mk (blk_kept (by (with_reducible repeat (first|refine blk_drewN ?_ _|refine blk_drew ?_|refine blk_alloc ?_ _));exact BK212.out) hkp (fun hs_ => (fun e_ => (R_ne HO_9.out BK212.out (by decide)) e_) hs_));have n6_ := Aside0.mk (blk_kept (by (with_reducible repeat (first|refine blk_drewN ?_ _|refine blk_drew ?_|refine blk_alloc ?_ _));exact BK228.out) hkp (fun hs_ => (fun e_ => (R_ne HO_9.out BK228.out (by decide)) e_) hs_));have n7_ := Aside0.mk (blk_kept (by (with_reducible repeat (first|refine blk_drewN ?_ _|refine blk_drew ?_|refine blk_alloc ?_ _));exact BK235.out) hkp (fun hs_ => (fun e_ => (R_ne HO_9.out BK235.out (by decide)) e_) hs_));have n8_ := Aside0.mk (blk_kept (by (with_reducible repeat (first|refine blk_drewN ?_ _|refine blk_drew ?_|refine blk_alloc ?_ _));exact BK244.out) hkp (fun hs_ => (fun e_ => (R_ne HO_9.out BK244.out (by decide)) e_) hs_));have n9_ := Aside0.mk (R_mono (ok' := fun k_ => some k_ ≠ (.slice Ao41 t236.length co41 : Value).ownBlock ∧ some k_ ≠ (.slice Ao28 t223.length co28 : Value).ownBlock ∧ some k_ ≠ (.slice Ao38 t232.length co38 : Value).ownBlock ∧ some k_ ≠ (.slice Ao44 t239.length co44 : Value).ownBlock ∧ some k_ ≠ (.slice Ao83 t253.length co83 : Value).ownBlock) (R_keptB (HO251.out) hkp (fun k_ hk_ hs_ => (hk_.1) hs_)) (fun k_ hk_ => by first|exact ⟨hk_.1.1, hk_.1.2.1, hk_.1.2.2.1, hk_.1.2.2.2.1, hk_.1.2.2.2.2⟩|grind));have n10_ := Aside0.mk (R_mono (ok' := fun k_ => some k_ ≠ (.slice Ao41 t236.length co41 : Value).ownBlock ∧ some k_ ≠ (.slice Ao28 t223.length co28 : Value).ownBlock ∧ some k_ ≠ (.slice Ao38 t232.length co38 : Value).ownBlock ∧ some k_ ≠ (.slice Ao44 t239.length co44 : Value).ownBlock ∧ some k_ ≠ (.slice Ao80 t249.length co80 : Value).ownBlock) (R_keptB (HO255.out) hkp (fun k_ hk_ hs_ => (hk_.1) hs_)) (fun k_ hk_ => by first|exact ⟨hk_.1.1, hk_.1.2.1, hk_.1.2.2.1, hk_.1.2.2.2.1, hk_.1.2.2.2.2⟩|grind));have n11_ := Aside0.mk (hb);clear HO_9;clear HO_229000;clear HO_236000;clear HO_236001;clear HO_245000;clear BK212;clear BK228;clear BK235;clear BK244;clear HO251;clear HO255;clear HB;have HO_9 := n0_;have HO_229000 := n1_;have HO_236000 := n2_;have HO_236001 := n3_;have HO_245000 := n4_;have BK212 := n5_;have BK228 := n6_;have BK235 := n7_;have BK244 := n8_;have HO251 := n9_;have HO255 := n10_;have HB := n11_;clear n0_ n1_ n2_ n3_ n4_ n5_ n6_ n7_ n8_ n9_ n10_ n11_;(try clear hb);(try clear hkp);(try clear hy0)))
        (try simp only [Act.put, List.setIfInBounds_toArray, List.set_cons_zero, List.set_cons_succ])
        go_cut [80] (fun v80 wc => ∃ (kq : Nat) (x80_75 : Bool), v80 = .bool x80_75 ∧ Aside0 (laws_FnExactPlaneOfCounts.j1 kq l1 t227 x80_75 l0_0 l0_1 t223 t226 t239 t242 = some r) ∧ Aside0 (kq ≤ kj15) ∧ Aside0 (Kd.R (Kd.int .i64) 3 wc w.heap.size (fun k_ => some k_ ≠ ((.slice Ao38 t232.length co38) : Value).ownBlock ∧ some k_ ≠ ((.slice Ao44 t239.length co44) : Value).ownBlock) (.slice Ao28 t223.length co28) t223) ∧ Aside0 (Kd.S (Kd.slice 3 (Kd.int .i64)) 23 wc w.heap.size (fun k_ => some k_ ≠ ((.slice Ao28 t223.length co28) : Value).ownBlock ∧ some k_ ≠ ((.slice Ao38 t232.length co38) : Value).ownBlock ∧ some k_ ≠ ((.slice Ao44 t239.length co44) : Value).ownBlock) (.slice Ao34 t229.length co34) t258) ∧ Aside0 (Kd.R (Kd.int .i64) 3 wc w.heap.size (fun k_ => some k_ ≠ ((.slice Ao28 t223.length co28) : Value).ownBlock ∧ some k_ ≠ ((.slice Ao44 t239.length co44) : Value).ownBlock) (.slice Ao38 t232.length co38) t259) ∧ Aside0 (Kd.R (Kd.int .i64) 3 wc w.heap.size (fun k_ => some k_ ≠ ((.slice Ao28 t223.length co28) : Value).ownBlock ∧ some k_ ≠ ((.slice Ao38 t232.length co38) : Value).ownBlock) (.slice Ao44 t239.length co44) t239) ∧ Aside0 (wc.heap[gb212]? = some (.cells #[(.slice A0_0 l0_0.length c0_0), (.slice A0_1 l0_1.length c0_1)] 34 (0, 0))) ∧ Aside0 (wc.heap[gb228]? = some (.cells #[(.slice Ao28 t223.length co28), .int .i64 t226] 54 (0, 0))) ∧ Aside0 (wc.heap[gb235]? = some (.cells #[(.slice Ao34 t229.length co34), (.slice Ao38 t232.length co38)] 38 (0, 0))) ∧ Aside0 (wc.heap[gb244]? = some (.cells #[(.slice Ao44 t239.length co44), .int .i64 t242] 54 (0, 0))) ∧ Aside0 (Below w.heap.size w wc))
        case first =>
         have H := HC76.out
         clear HC76
         by_cases c90 : t260 < 0
         ·rw [if_pos c90] at H
          have c90b0 : decide (t260 < 0) = true := decide_eq_true c90
          clear c90
          (first|rw [c90b0]|(simp only [i64_w, i32_w];rw [c90b0])|skip)
          have H' := Aside0.mk H
          clear H
          go_wp2
          go_meet
          case rel => exact ⟨_, (true), (by first|rfl|(simp;done)|(simp [*];done)), H', ⟨by have := HJ15.out;first|omega|exact Nat.le_refl _⟩, ⟨by (with_reducible repeat (first|apply R_alloc|apply R_drewN|apply R_drew));exact R_mono HO_229000.out (fun _ hk => by first|exact ⟨hk.2.1, hk.2.2.1⟩|grind)⟩, ⟨by (with_reducible repeat (first|apply S_alloc|apply S_drewN|apply S_drew));exact S_mono HO_236000.out (fun _ hk => by first|exact ⟨hk.2.1, ⟨hk.2.2.1, hk.2.2.2.1⟩⟩|grind)⟩, ⟨by (with_reducible repeat (first|apply R_alloc|apply R_drewN|apply R_drew));exact R_mono HO_236001.out (fun _ hk => by first|exact ⟨hk.2.1, hk.2.2.1⟩|grind)⟩, ⟨by (with_reducible repeat (first|apply R_alloc|apply R_drewN|apply R_drew));exact R_mono HO_245000.out (fun _ hk => by first|exact ⟨hk.2.1, hk.2.2.1⟩|grind)⟩, ⟨by (with_reducible repeat (first|refine blk_drewN ?_ _|refine blk_drew ?_|refine blk_alloc ?_ _));exact BK212.out⟩, ⟨by (with_reducible repeat (first|refine blk_drewN ?_ _|refine blk_drew ?_|refine blk_alloc ?_ _));exact BK228.out⟩, ⟨by (with_reducible repeat (first|refine blk_drewN ?_ _|refine blk_drew ?_|refine blk_alloc ?_ _));exact BK235.out⟩, ⟨by (with_reducible repeat (first|refine blk_drewN ?_ _|refine blk_drew ?_|refine blk_alloc ?_ _));exact BK244.out⟩, ⟨by repeat (first|(with_reducible first|exact HB.out|apply below_alloc|apply pw_below_drewN|apply below_drew1|refine below_set ?_ GE212.out|refine below_set ?_ GE228.out|refine below_set ?_ GE235.out|refine below_set ?_ GE244.out)|exact HB.out)⟩⟩
         ·rw [if_neg c90] at H
          have c90b0 : decide (t260 < 0) = false := decide_eq_false c90
          clear c90
          (first|rw [c90b0]|(simp only [i64_w, i32_w];rw [c90b0])|skip)
          replace H := Option.bind_eq_some_iff.mp H
          obtain ⟨t262, A910, H⟩ := H
          replace H : (if t262 = true then (laws_FnExactPlaneOfCounts.j1 kj15 l1 t227 (t243 != t227) l0_0 l0_1 t223 t226 t239 t242) else (laws_FnExactPlaneOfCounts.j1 kj15 l1 t227 true l0_0 l0_1 t223 t226 t239 t242)) = some r := H
          have A91 := Aside0.mk A910
          clear A910
          by_cases c92 : t262 = true
          ·subst c92
           have H1 : (laws_FnExactPlaneOfCounts.j1 kj15 l1 t227 (t243 != t227) l0_0 l0_1 t223 t226 t239 t242) = some r := by rw [if_pos rfl] at H;exact H
           clear H
           have H := H1
           clear H1
           have H' := Aside0.mk H
           clear H
           have hnb93 := NB244_212.out
           have hnc93 := NB212_244.out
           have hnb94 := NB244_228.out
           have hnc94 := NB228_244.out
           have hnb95 := NB244_235.out
           have hnc95 := NB235_244.out
           have hcz96_0 : w89.cell? ⟨gb244, 0, none⟩ = some (.slice Ao44 t239.length co44) := (blk_cell BK244.out 0).trans rfl
           have hcz96_1 : w89.cell? ⟨gb244, 1, none⟩ = some (.int .i64 t242) := (blk_cell BK244.out 1).trans rfl
           have hfz96_0 := blk_frozen BK244.out 0
           have hfz96_1 := blk_frozen BK244.out 1
           have hnb97 := NB228_212.out
           have hnc97 := NB212_228.out
           have hnb98 := NB228_235.out
           have hnc98 := NB235_228.out
           have hcz99_0 : w89.cell? ⟨gb228, 0, none⟩ = some (.slice Ao28 t223.length co28) := (blk_cell BK228.out 0).trans rfl
           have hcz99_1 : w89.cell? ⟨gb228, 1, none⟩ = some (.int .i64 t226) := (blk_cell BK228.out 1).trans rfl
           have hfz99_0 := blk_frozen BK228.out 0
           have hfz99_1 := blk_frozen BK228.out 1
           go_wp2_with (first|(go_at_call 41;(with_reducible refine (laws_eqPlane.calls kj15 _ _ t239 t242 _ _ t223 t226 true _ ?side1 ?side2 ?side3 ?side4 A91.out).mono ?_);(case side1 => repeat (first|exact (R_reads' HO_245000.out).2.2|(with_reducible refine C_alloc ?_ _)|(with_reducible refine C_drewN ?_ _)|(with_reducible refine C_drew ?_)));(case side2 => exact (R_reads' HO_245000.out).2.1);(case side3 => repeat (first|exact (R_reads' HO_229000.out).2.2|(with_reducible refine C_alloc ?_ _)|(with_reducible refine C_drewN ?_ _)|(with_reducible refine C_drew ?_)));(case side4 => exact (R_reads' HO_229000.out).2.1);rintro e w100 ⟨rfl, hb⟩;have n0_ := Aside0.mk (R_below (by (with_reducible repeat (first|apply R_alloc|apply R_drewN|apply R_drew));exact HO_9.out) hb);have n1_ := Aside0.mk (R_below (by (with_reducible repeat (first|apply R_alloc|apply R_drewN|apply R_drew));exact HO_229000.out) hb);have n2_ := Aside0.mk (S_below (by (with_reducible repeat (first|apply S_alloc|apply S_drewN|apply S_drew));exact HO_236000.out) hb);have n3_ := Aside0.mk (R_below (by (with_reducible repeat (first|apply R_alloc|apply R_drewN|apply R_drew));exact HO_236001.out) hb);have n4_ := Aside0.mk (R_below (by (with_reducible repeat (first|apply R_alloc|apply R_drewN|apply R_drew));exact HO_245000.out) hb);have n5_ := Aside0.mk (R_below (by (with_reducible repeat (first|apply R_alloc|apply R_drewN|apply R_drew));exact HO251.out) hb);have n6_ := Aside0.mk (R_below (by (with_reducible repeat (first|apply R_alloc|apply R_drewN|apply R_drew));exact HO255.out) hb);have n7_ := Aside0.mk (blk_below (g := gb212) (o := .cells #[.slice A0_0 l0_0.length c0_0, .slice A0_1 l0_1.length c0_1] 34 (0, 0)) (by (with_reducible repeat (first|refine blk_drewN ?_ _|refine blk_drew ?_|refine blk_alloc ?_ _));exact BK212.out) hb);have n8_ := Aside0.mk (blk_below (g := gb228) (o := .cells #[.slice Ao28 t223.length co28, .int .i64 t226] 54 (0, 0)) (by (with_reducible repeat (first|refine blk_drewN ?_ _|refine blk_drew ?_|refine blk_alloc ?_ _));exact BK228.out) hb);have n9_ := Aside0.mk (blk_below (g := gb235) (o := .cells #[.slice Ao34 t229.length co34, .slice Ao38 t232.length co38] 38 (0, 0)) (by (with_reducible repeat (first|refine blk_drewN ?_ _|refine blk_drew ?_|refine blk_alloc ?_ _));exact BK235.out) hb);have n10_ := Aside0.mk (blk_below (g := gb244) (o := .cells #[.slice Ao44 t239.length co44, .int .i64 t242] 54 (0, 0)) (by (with_reducible repeat (first|refine blk_drewN ?_ _|refine blk_drew ?_|refine blk_alloc ?_ _));exact BK244.out) hb);have n11_ := Aside0.mk (below_step (by repeat (first|(with_reducible first|exact HB.out|apply below_alloc|apply pw_below_drewN|apply below_drew1|refine below_set ?_ GE212.out|refine below_set ?_ GE228.out|refine below_set ?_ GE235.out|refine below_set ?_ GE244.out)|exact HB.out)) hb);clear HO_9;clear HO_229000;clear HO_236000;clear HO_236001;clear HO_245000;clear HO251;clear HO255;clear BK212;clear BK228;clear BK235;clear BK244;clear HB;have HO_9 := n0_;have HO_229000 := n1_;have HO_236000 := n2_;have HO_236001 := n3_;have HO_245000 := n4_;have HO251 := n5_;have HO255 := n6_;have BK212 := n7_;have BK228 := n8_;have BK235 := n9_;have BK244 := n10_;have HB := n11_;clear n0_ n1_ n2_ n3_ n4_ n5_ n6_ n7_ n8_ n9_ n10_ n11_;(try clear hb);(try clear hb2);(try clear hk);(try clear hi)))
           go_meet
           case rel => exact ⟨_, ((t243 != t227)), (by first|rfl|(simp;done)|(simp [*];done)), H', ⟨by have := HJ15.out;first|omega|exact Nat.le_refl _⟩, ⟨by (with_reducible repeat (first|apply R_alloc|apply R_drewN|apply R_drew));exact R_mono HO_229000.out (fun _ hk => by first|exact ⟨hk.2.1, hk.2.2.1⟩|grind)⟩, ⟨by (with_reducible repeat (first|apply S_alloc|apply S_drewN|apply S_drew));exact S_mono HO_236000.out (fun _ hk => by first|exact ⟨hk.2.1, ⟨hk.2.2.1, hk.2.2.2.1⟩⟩|grind)⟩, ⟨by (with_reducible repeat (first|apply R_alloc|apply R_drewN|apply R_drew));exact R_mono HO_236001.out (fun _ hk => by first|exact ⟨hk.2.1, hk.2.2.1⟩|grind)⟩, ⟨by (with_reducible repeat (first|apply R_alloc|apply R_drewN|apply R_drew));exact R_mono HO_245000.out (fun _ hk => by first|exact ⟨hk.2.1, hk.2.2.1⟩|grind)⟩, ⟨by (with_reducible repeat (first|refine blk_drewN ?_ _|refine blk_drew ?_|refine blk_alloc ?_ _));exact BK212.out⟩, ⟨by (with_reducible repeat (first|refine blk_drewN ?_ _|refine blk_drew ?_|refine blk_alloc ?_ _));exact BK228.out⟩, ⟨by (with_reducible repeat (first|refine blk_drewN ?_ _|refine blk_drew ?_|refine blk_alloc ?_ _));exact BK235.out⟩, ⟨by (with_reducible repeat (first|refine blk_drewN ?_ _|refine blk_drew ?_|refine blk_alloc ?_ _));exact BK244.out⟩, ⟨by repeat (first|(with_reducible first|exact HB.out|apply below_alloc|apply pw_below_drewN|apply below_drew1|refine below_set ?_ GE212.out|refine below_set ?_ GE228.out|refine below_set ?_ GE235.out|refine below_set ?_ GE244.out)|exact HB.out)⟩⟩
          ·replace c92 := Bool.eq_false_iff.mpr c92
           subst c92
           have H1 : (laws_FnExactPlaneOfCounts.j1 kj15 l1 t227 true l0_0 l0_1 t223 t226 t239 t242) = some r := by rw [if_neg (show ¬ (false = true) by decide)] at H;exact H
           clear H
           have H := H1
           clear H1
           have H' := Aside0.mk H
           clear H
           have hnb101 := NB244_212.out
           have hnc101 := NB212_244.out
           have hnb102 := NB244_228.out
           have hnc102 := NB228_244.out
           have hnb103 := NB244_235.out
           have hnc103 := NB235_244.out
           have hcz104_0 : w89.cell? ⟨gb244, 0, none⟩ = some (.slice Ao44 t239.length co44) := (blk_cell BK244.out 0).trans rfl
           have hcz104_1 : w89.cell? ⟨gb244, 1, none⟩ = some (.int .i64 t242) := (blk_cell BK244.out 1).trans rfl
           have hfz104_0 := blk_frozen BK244.out 0
           have hfz104_1 := blk_frozen BK244.out 1
           have hnb105 := NB228_212.out
           have hnc105 := NB212_228.out
           have hnb106 := NB228_235.out
           have hnc106 := NB235_228.out
           have hcz107_0 : w89.cell? ⟨gb228, 0, none⟩ = some (.slice Ao28 t223.length co28) := (blk_cell BK228.out 0).trans rfl
           have hcz107_1 : w89.cell? ⟨gb228, 1, none⟩ = some (.int .i64 t226) := (blk_cell BK228.out 1).trans rfl
           have hfz107_0 := blk_frozen BK228.out 0
           have hfz107_1 := blk_frozen BK228.out 1
           go_wp2_with (first|(go_at_call 41;(with_reducible refine (laws_eqPlane.calls kj15 _ _ t239 t242 _ _ t223 t226 false _ ?side1 ?side2 ?side3 ?side4 A91.out).mono ?_);(case side1 => repeat (first|exact (R_reads' HO_245000.out).2.2|(with_reducible refine C_alloc ?_ _)|(with_reducible refine C_drewN ?_ _)|(with_reducible refine C_drew ?_)));(case side2 => exact (R_reads' HO_245000.out).2.1);(case side3 => repeat (first|exact (R_reads' HO_229000.out).2.2|(with_reducible refine C_alloc ?_ _)|(with_reducible refine C_drewN ?_ _)|(with_reducible refine C_drew ?_)));(case side4 => exact (R_reads' HO_229000.out).2.1);rintro e w108 ⟨rfl, hb⟩;have n0_ := Aside0.mk (R_below (by (with_reducible repeat (first|apply R_alloc|apply R_drewN|apply R_drew));exact HO_9.out) hb);have n1_ := Aside0.mk (R_below (by (with_reducible repeat (first|apply R_alloc|apply R_drewN|apply R_drew));exact HO_229000.out) hb);have n2_ := Aside0.mk (S_below (by (with_reducible repeat (first|apply S_alloc|apply S_drewN|apply S_drew));exact HO_236000.out) hb);have n3_ := Aside0.mk (R_below (by (with_reducible repeat (first|apply R_alloc|apply R_drewN|apply R_drew));exact HO_236001.out) hb);have n4_ := Aside0.mk (R_below (by (with_reducible repeat (first|apply R_alloc|apply R_drewN|apply R_drew));exact HO_245000.out) hb);have n5_ := Aside0.mk (R_below (by (with_reducible repeat (first|apply R_alloc|apply R_drewN|apply R_drew));exact HO251.out) hb);have n6_ := Aside0.mk (R_below (by (with_reducible repeat (first|apply R_alloc|apply R_drewN|apply R_drew));exact HO255.out) hb);have n7_ := Aside0.mk (blk_below (g := gb212) (o := .cells #[.slice A0_0 l0_0.length c0_0, .slice A0_1 l0_1.length c0_1] 34 (0, 0)) (by (with_reducible repeat (first|refine blk_drewN ?_ _|refine blk_drew ?_|refine blk_alloc ?_ _));exact BK212.out) hb);have n8_ := Aside0.mk (blk_below (g := gb228) (o := .cells #[.slice Ao28 t223.length co28, .int .i64 t226] 54 (0, 0)) (by (with_reducible repeat (first|refine blk_drewN ?_ _|refine blk_drew ?_|refine blk_alloc ?_ _));exact BK228.out) hb);have n9_ := Aside0.mk (blk_below (g := gb235) (o := .cells #[.slice Ao34 t229.length co34, .slice Ao38 t232.length co38] 38 (0, 0)) (by (with_reducible repeat (first|refine blk_drewN ?_ _|refine blk_drew ?_|refine blk_alloc ?_ _));exact BK235.out) hb);have n10_ := Aside0.mk (blk_below (g := gb244) (o := .cells #[.slice Ao44 t239.length co44, .int .i64 t242] 54 (0, 0)) (by (with_reducible repeat (first|refine blk_drewN ?_ _|refine blk_drew ?_|refine blk_alloc ?_ _));exact BK244.out) hb);have n11_ := Aside0.mk (below_step (by repeat (first|(with_reducible first|exact HB.out|apply below_alloc|apply pw_below_drewN|apply below_drew1|refine below_set ?_ GE212.out|refine below_set ?_ GE228.out|refine below_set ?_ GE235.out|refine below_set ?_ GE244.out)|exact HB.out)) hb);clear HO_9;clear HO_229000;clear HO_236000;clear HO_236001;clear HO_245000;clear HO251;clear HO255;clear BK212;clear BK228;clear BK235;clear BK244;clear HB;have HO_9 := n0_;have HO_229000 := n1_;have HO_236000 := n2_;have HO_236001 := n3_;have HO_245000 := n4_;have HO251 := n5_;have HO255 := n6_;have BK212 := n7_;have BK228 := n8_;have BK235 := n9_;have BK244 := n10_;have HB := n11_;clear n0_ n1_ n2_ n3_ n4_ n5_ n6_ n7_ n8_ n9_ n10_ n11_;(try clear hb);(try clear hb2);(try clear hk);(try clear hi)))
           go_meet
           case rel => exact ⟨_, (true), (by first|rfl|(simp;done)|(simp [*];done)), H', ⟨by have := HJ15.out;first|omega|exact Nat.le_refl _⟩, ⟨by (with_reducible repeat (first|apply R_alloc|apply R_drewN|apply R_drew));exact R_mono HO_229000.out (fun _ hk => by first|exact ⟨hk.2.1, hk.2.2.1⟩|grind)⟩, ⟨by (with_reducible repeat (first|apply S_alloc|apply S_drewN|apply S_drew));exact S_mono HO_236000.out (fun _ hk => by first|exact ⟨hk.2.1, ⟨hk.2.2.1, hk.2.2.2.1⟩⟩|grind)⟩, ⟨by (with_reducible repeat (first|apply R_alloc|apply R_drewN|apply R_drew));exact R_mono HO_236001.out (fun _ hk => by first|exact ⟨hk.2.1, hk.2.2.1⟩|grind)⟩, ⟨by (with_reducible repeat (first|apply R_alloc|apply R_drewN|apply R_drew));exact R_mono HO_245000.out (fun _ hk => by first|exact ⟨hk.2.1, hk.2.2.1⟩|grind)⟩, ⟨by (with_reducible repeat (first|refine blk_drewN ?_ _|refine blk_drew ?_|refine blk_alloc ?_ _));exact BK212.out⟩, ⟨by (with_reducible repeat (first|refine blk_drewN ?_ _|refine blk_drew ?_|refine blk_alloc ?_ _));exact BK228.out⟩, ⟨by (with_reducible repeat (first|refine blk_drewN ?_ _|refine blk_drew ?_|refine blk_alloc ?_ _));exact BK235.out⟩, ⟨by (with_reducible repeat (first|refine blk_drewN ?_ _|refine blk_drew ?_|refine blk_alloc ?_ _));exact BK244.out⟩, ⟨by repeat (first|(with_reducible first|exact HB.out|apply below_alloc|apply pw_below_drewN|apply below_drew1|refine below_set ?_ GE212.out|refine below_set ?_ GE228.out|refine below_set ?_ GE235.out|refine below_set ?_ GE244.out)|exact HB.out)⟩⟩
        case rest =>
         clear HC76
         try clear c1
         try clear c2
         try clear p2
         try clear c3
         try clear c3b0
         try clear c3b1
         try clear c4
         try clear c5
         try clear c6
         try clear c6b0
         try clear c7
         try clear c8
         try clear c9
         try clear c10
         try clear c11
         try clear c18
         try clear c20
         try clear c23
         try clear c25
         try clear c27
         try clear c29
         try clear c32
         try clear c35
         try clear c36
         try clear c41
         try clear c45
         try clear c46
         try clear c47
         try clear c50
         try clear c51
         try clear c52
         try clear c53
         try clear c55
         try clear c56
         try clear c59
         try clear c60
         try clear c61
         try clear c63
         try clear c64
         try clear c67
         try clear c70
         try clear c73
         try clear c84
         try clear c85
         try clear c86
         try clear c90
         try clear c90b0
         try clear c92
         try clear c93
         try clear c94
         try clear c95
         try clear c97
         try clear c98
         try clear c101
         try clear c102
         try clear c103
         try clear c105
         try clear c106
         try clear hcz104_0
         try clear hcz104_1
         try clear hcz107_0
         try clear hcz107_1
         try clear hcz18_0
         try clear hcz18_1
         try clear hcz20_0
         try clear hcz20_1
         try clear hcz30_0
         try clear hcz30_1
         try clear hcz31_0
         try clear hcz31_1
         try clear hcz37_0
         try clear hcz37_1
         try clear hcz40_0
         try clear hcz40_1
         try clear hcz48_0
         try clear hcz48_1
         try clear hcz54_0
         try clear hcz54_1
         try clear hcz57_0
         try clear hcz57_1
         try clear hcz62_0
         try clear hcz62_1
         try clear hcz65_0
         try clear hcz65_1
         try clear hcz87_0
         try clear hcz87_1
         try clear hcz8_0
         try clear hcz8_1
         try clear hcz96_0
         try clear hcz96_1
         try clear hcz99_0
         try clear hcz99_1
         try clear hfz104_0
         try clear hfz104_1
         try clear hfz107_0
         try clear hfz107_1
         try clear hfz18_0
         try clear hfz18_1
         try clear hfz20_0
         try clear hfz20_1
         try clear hfz30_0
         try clear hfz30_1
         try clear hfz31_0
         try clear hfz31_1
         try clear hfz37_0
         try clear hfz37_1
         try clear hfz40_0
         try clear hfz40_1
         try clear hfz48_0
         try clear hfz48_1
         try clear hfz54_0
         try clear hfz54_1
         try clear hfz57_0
         try clear hfz57_1
         try clear hfz62_0
         try clear hfz62_1
         try clear hfz65_0
         try clear hfz65_1
         try clear hfz87_0
         try clear hfz87_1
         try clear hfz8_0
         try clear hfz8_1
         try clear hfz96_0
         try clear hfz96_1
         try clear hfz99_0
         try clear hfz99_1
         try clear p2
         obtain ⟨kq, x80_75, rfl, HA, HJ75, HO_229000, HO_236000, HO_236001, HO_245000, BK212, BK228, BK235, BK244, HB⟩ := hcut
         have hl236000_75 := (S_reads' HO_236000.out).1
         rw [hl236000_75] at HO_236000
         (try simp only [hl236000_75])
         (try simp only [hl236000_75] at BK212)
         (try simp only [hl236000_75] at BK228)
         (try simp only [hl236000_75] at BK235)
         (try simp only [hl236000_75] at BK244)
         (try simp only [hl236000_75] at HO_229000)
         (try simp only [hl236000_75] at HO_236001)
         (try simp only [hl236000_75] at HO_245000)
         have hl236001_75 := (R_reads' HO_236001.out).1
         rw [hl236001_75] at HO_236001
         (try simp only [hl236001_75])
         (try simp only [hl236001_75] at BK212)
         (try simp only [hl236001_75] at BK228)
         (try simp only [hl236001_75] at BK235)
         (try simp only [hl236001_75] at BK244)
         (try simp only [hl236001_75] at HO_229000)
         (try simp only [hl236001_75] at HO_236000)
         (try simp only [hl236001_75] at HO_245000)
         cases kq with
        |zero => exact absurd HA.out (by simp [laws_FnExactPlaneOfCounts.j1])
        |succ kj75 =>
          have H := HA.out
          clear HA
          simp only [laws_FnExactPlaneOfCounts.j1] at H
          by_cases c109 : x80_75 = true
          ·subst c109
           have H1 : (some false) = some r := by rw [if_pos rfl] at H;exact H
           clear H
           have H := H1
           clear H1
           obtain rfl := Option.some.inj H
           go_wp2
           go_ret
           exact ⟨by first|rfl|(simp [errW_none, errW_some] <;> rfl)|(simp [*, errW_none, errW_some] <;> rfl), by repeat (first|(with_reducible first|exact HB.out|apply below_alloc|apply pw_below_drewN|apply below_drew1|refine below_set ?_ GE212.out|refine below_set ?_ GE228.out|refine below_set ?_ GE235.out|refine below_set ?_ GE244.out)|exact HB.out)⟩
          ·replace c109 := Bool.eq_false_iff.mpr c109
           subst c109
           have H1 : ((laws_markPlane.f kj75 t239 t242 1).bind fun bt263 => ((laws_heldPlane.f kj75 bt263.2 t242 1).bind fun t265 => (if t265 < 0 then (some false) else (if t265 = bt263.1 then ((laws_toSample.f kj75 l0_0 l0_1).bind fun bt266 => ((laws_toIntS.f kj75 l1).bind fun t272 => ((impl_PlaneOfCounts.f kj75 bt266.1 bt266.2 t272).bind fun bt275 => ((laws_eqPlane.f kj75 bt275.1 bt275.2.1 t223 t226).bind fun t281 => (if t281 = true then (laws_FnExactPlaneOfCounts.j2 kj75 bt263.1 (bt275.2.2 != t227) bt263.2 t242) else (laws_FnExactPlaneOfCounts.j2 kj75 bt263.1 true bt263.2 t242)))))) else (some false))))) = some r := by rw [if_neg (show ¬ (false = true) by decide)] at H;exact H
           clear H
           have H := H1
           clear H1
           replace H := Option.bind_eq_some_iff.mp H
           obtain ⟨⟨t263, t264⟩, A1100, H⟩ := H
           replace H : ((laws_heldPlane.f kj75 t264 t242 1).bind fun t265 => (if t265 < 0 then (some false) else (if t265 = t263 then ((laws_toSample.f kj75 l0_0 l0_1).bind fun bt266 => ((laws_toIntS.f kj75 l1).bind fun t272 => ((impl_PlaneOfCounts.f kj75 bt266.1 bt266.2 t272).bind fun bt275 => ((laws_eqPlane.f kj75 bt275.1 bt275.2.1 t223 t226).bind fun t281 => (if t281 = true then (laws_FnExactPlaneOfCounts.j2 kj75 t263 (bt275.2.2 != t227) t264 t242) else (laws_FnExactPlaneOfCounts.j2 kj75 t263 true t264 t242)))))) else (some false)))) = some r := H
           have A110 := Aside0.mk A1100
           clear A1100
           replace H := Option.bind_eq_some_iff.mp H
           obtain ⟨t265, A1110, H⟩ := H
           replace H : (if t265 < 0 then (some false) else (if t265 = t263 then ((laws_toSample.f kj75 l0_0 l0_1).bind fun bt266 => ((laws_toIntS.f kj75 l1).bind fun t272 => ((impl_PlaneOfCounts.f kj75 bt266.1 bt266.2 t272).bind fun bt275 => ((laws_eqPlane.f kj75 bt275.1 bt275.2.1 t223 t226).bind fun t281 => (if t281 = true then (laws_FnExactPlaneOfCounts.j2 kj75 t263 (bt275.2.2 != t227) t264 t242) else (laws_FnExactPlaneOfCounts.j2 kj75 t263 true t264 t242)))))) else (some false))) = some r := H
           have A111 := Aside0.mk A1110
           clear A1110
           by_cases c112 : t265 < 0
           ·rw [if_pos c112] at H
            have c112b0 : decide (t265 < 0) = true := decide_eq_true c112
            clear c112
            obtain rfl := Option.some.inj H
            have hnb113 := NB244_212.out
            have hnc113 := NB212_244.out
            have hnb114 := NB244_228.out
            have hnc114 := NB228_244.out
            have hnb115 := NB244_235.out
            have hnc115 := NB235_244.out
            have hcz116_0 : wc.cell? ⟨gb244, 0, none⟩ = some (.slice Ao44 t239.length co44) := (blk_cell BK244.out 0).trans rfl
            have hcz116_1 : wc.cell? ⟨gb244, 1, none⟩ = some (.int .i64 t242) := (blk_cell BK244.out 1).trans rfl
            have hfz116_0 := blk_frozen BK244.out 0
            have hfz116_1 := blk_frozen BK244.out 1
            go_wp2_with (first|((with_reducible refine gate_callee (f := 48) rfl ?_);refine goesL_ (some 83) rfl rfl Try.func48 (by kernel_rfl) rfl #[.agg #[.slice Ao44 t239.length co44, .int .i64 t242], .int .i64 1] rfl (by (try simp only [List.map_toArray, List.map_cons, List.map_nil]);first|done|rfl|(simp only [List.length_drop, List.length_take];rfl)) ?_;(with_reducible refine (laws_markPlane.calls kj75 (fun k_ => some k_ = (.slice Ao44 t239.length co44 : Value).ownBlock) (.slice Ao44 t239.length co44) t239 t242 1 t263 t264 w _ ?side1 ?side2 A110.out).mono ?_);(case side1 => repeat (first|(with_reducible first|exact HB.out|apply below_alloc|apply pw_below_drewN|apply below_drew1|refine below_set ?_ GE212.out|refine below_set ?_ GE228.out|refine below_set ?_ GE235.out|refine below_set ?_ GE244.out)|exact HB.out));(case side2 => exact R_tight rfl HO_245000.out);rintro e w117 ⟨rfl, hy0, hb, hkp⟩;refine ⟨_, rfl, ?_⟩;have n0_ := Aside0.mk (R_mono (ok' := fun k_ => some k_ ≠ (.slice Ao38 t259.length co38 : Value).ownBlock ∧ some k_ ≠ (.slice Ao44 t239.length co44 : Value).ownBlock) (R_keptB (HO_229000.out) hkp (fun k_ hk_ hs_ => (hk_.2) hs_)) (fun k_ hk_ => by first|exact ⟨hk_.1.1, hk_.1.2⟩|grind));have n1_ := Aside0.mk (S_mono (ok' := fun k_ => some k_ ≠ (.slice Ao28 t223.length co28 : Value).ownBlock ∧ some k_ ≠ (.slice Ao38 t259.length co38 : Value).ownBlock ∧ some k_ ≠ (.slice Ao44 t239.length co44 : Value).ownBlock) (S_keptB (HO_236000.out) hkp (fun k_ hk_ hs_ => (hk_.2.2) hs_)) (fun k_ hk_ => by first|exact ⟨hk_.1.1, hk_.1.2.1, hk_.1.2.2⟩|grind));have n2_ := Aside0.mk (R_mono (ok' := fun k_ => some k_ ≠ (.slice Ao28 t223.length co28 : Value).ownBlock ∧ some k_ ≠ (.slice Ao44 t239.length co44 : Value).ownBlock) (R_keptB (HO_236001.out) hkp (fun k_ hk_ hs_ => (hk_.2) hs_)) (fun k_ hk_ => by first|exact ⟨hk_.1.1, hk_.1.2⟩|grind));have n3_ := Aside0.mk (R_reok rfl hy0 (fun k_ e_ => HO_245000.out.1 k_ e_));have n4_ := Aside0.mk (blk_kept (by (with_reducible repeat (first|refine blk_drewN ?_ _|refine blk_drew ?_|refine blk_alloc ?_ _));exact BK212.out) hkp (fun hs_ => (fun e_ => (R_ne HO_245000.out BK212.out (by decide)) e_) hs_));have n5_ := Aside0.mk (blk_kept (by (with_reducible repeat (first|refine blk_drewN ?_ _|refine blk_drew ?_|refine blk_alloc ?_ _));exact BK228.out) hkp (fun hs_ => (fun e_ => (R_ne HO_245000.out BK228.out (by decide)) e_) hs_));have n6_ := Aside0.mk (blk_kept (by (with_reducible repeat (first|refine blk_drewN ?_ _|refine blk_drew ?_|refine blk_alloc ?_ _));exact BK235.out) hkp (fun hs_ => (fun e_ => (R_ne HO_245000.out BK235.out (by decide)) e_) hs_));have n7_ := Aside0.mk (blk_kept (by (with_reducible repeat (first|refine blk_drewN ?_ _|refine blk_drew ?_|refine blk_alloc ?_ _));exact BK244.out) hkp (fun hs_ => (fun e_ => (R_ne HO_245000.out BK244.out (by decide)) e_) hs_));have n8_ := Aside0.mk (hb);clear HO_229000;clear HO_236000;clear HO_236001;clear HO_245000;clear BK212;clear BK228;clear BK235;clear BK244;clear HB;have HO_229000 := n0_;have HO_236000 := n1_;have HO_236001 := n2_;have HO_245000 := n3_;have BK212 := n4_;have BK228 := n5_;have BK235 := n6_;have BK244 := n7_;have HB := n8_;clear n0_ n1_ n2_ n3_ n4_ n5_ n6_ n7_ n8_;(try clear hb);(try clear hkp);(try clear hy0);have hcz118_0 : w117.cell? ⟨gb244, 0, none⟩ = some (.slice Ao44 t239.length co44) := (blk_cell BK244.out 0).trans rfl;have hcz118_1 : w117.cell? ⟨gb244, 1, none⟩ = some (.int .i64 t242) := (blk_cell BK244.out 1).trans rfl;have hfz118_0 := blk_frozen BK244.out 0;have hfz118_1 := blk_frozen BK244.out 1)|((with_reducible refine gate_callee (f := 49) rfl ?_);refine goesL_ (some 86) rfl rfl Try.func49 (by kernel_rfl) rfl #[.agg #[.slice Ao44 t264.length co44, .int .i64 t242], .int .i64 1] rfl (by (try simp only [List.map_toArray, List.map_cons, List.map_nil]);first|done|(rw [show t264.length = t239.length from (R_reads' HO_245000.out).1.symm] <;> rfl)|rfl|(simp only [List.length_drop, List.length_take];rfl)) ?_;(with_reducible refine (laws_heldPlane.calls kj75 _ _ t264 t242 1 t265 _ ?side1 ?side2 A111.out).mono ?_);(case side1 => repeat (first|exact (R_reads' HO_245000.out).2.2|(with_reducible refine C_alloc ?_ _)|(with_reducible refine C_drewN ?_ _)|(with_reducible refine C_drew ?_)));(case side2 => rw [show t264.length = t239.length from (R_reads' HO_245000.out).1.symm];exact (R_reads' HO_245000.out).2.1);rintro e w119 ⟨rfl, hb⟩;refine ⟨_, rfl, ?_⟩;have n0_ := Aside0.mk (R_below (by (with_reducible repeat (first|apply R_alloc|apply R_drewN|apply R_drew));exact HO_229000.out) hb);have n1_ := Aside0.mk (S_below (by (with_reducible repeat (first|apply S_alloc|apply S_drewN|apply S_drew));exact HO_236000.out) hb);have n2_ := Aside0.mk (R_below (by (with_reducible repeat (first|apply R_alloc|apply R_drewN|apply R_drew));exact HO_236001.out) hb);have n3_ := Aside0.mk (R_below (by (with_reducible repeat (first|apply R_alloc|apply R_drewN|apply R_drew));exact HO_245000.out) hb);have n4_ := Aside0.mk (blk_below (g := gb212) (o := .cells #[.slice A0_0 l0_0.length c0_0, .slice A0_1 l0_1.length c0_1] 34 (0, 0)) (by (with_reducible repeat (first|refine blk_drewN ?_ _|refine blk_drew ?_|refine blk_alloc ?_ _));exact BK212.out) hb);have n5_ := Aside0.mk (blk_below (g := gb228) (o := .cells #[.slice Ao28 t223.length co28, .int .i64 t226] 54 (0, 0)) (by (with_reducible repeat (first|refine blk_drewN ?_ _|refine blk_drew ?_|refine blk_alloc ?_ _));exact BK228.out) hb);have n6_ := Aside0.mk (blk_below (g := gb235) (o := .cells #[.slice Ao34 t258.length co34, .slice Ao38 t259.length co38] 38 (0, 0)) (by (with_reducible repeat (first|refine blk_drewN ?_ _|refine blk_drew ?_|refine blk_alloc ?_ _));exact BK235.out) hb);have n7_ := Aside0.mk (blk_below (g := gb244) (o := .cells #[.slice Ao44 t239.length co44, .int .i64 t242] 54 (0, 0)) (by (with_reducible repeat (first|refine blk_drewN ?_ _|refine blk_drew ?_|refine blk_alloc ?_ _));exact BK244.out) hb);have n8_ := Aside0.mk (below_step (by repeat (first|(with_reducible first|exact HB.out|apply below_alloc|apply pw_below_drewN|apply below_drew1|refine below_set ?_ GE212.out|refine below_set ?_ GE228.out|refine below_set ?_ GE235.out|refine below_set ?_ GE244.out)|exact HB.out)) hb);clear HO_229000;clear HO_236000;clear HO_236001;clear HO_245000;clear BK212;clear BK228;clear BK235;clear BK244;clear HB;have HO_229000 := n0_;have HO_236000 := n1_;have HO_236001 := n2_;have HO_245000 := n3_;have BK212 := n4_;have BK228 := n5_;have BK235 := n6_;have BK244 := n7_;have HB := n8_;clear n0_ n1_ n2_ n3_ n4_ n5_ n6_ n7_ n8_;(try clear hb);(try clear hb2);(try clear hk);(try clear hi)))
            go_ret
            exact ⟨by first|rfl|(simp [errW_none, errW_some] <;> rfl)|(simp [*, errW_none, errW_some] <;> rfl), by repeat (first|(with_reducible first|exact HB.out|apply below_alloc|apply pw_below_drewN|apply below_drew1|refine below_set ?_ GE212.out|refine below_set ?_ GE228.out|refine below_set ?_ GE235.out|refine below_set ?_ GE244.out)|exact HB.out)⟩
           ·rw [if_neg c112] at H
            have c112b0 : decide (t265 < 0) = false := decide_eq_false c112
            clear c112
            by_cases c120 : t265 = t263
            ·rw [if_pos c120] at H
             have c120b0 : (t265 == t263) = true := beq_iff_eq.mpr c120
             have c120b1 : (t265 != t263) = false := bne_eq_false_iff_eq.mpr c120
             clear c120
             replace H := Option.bind_eq_some_iff.mp H
             obtain ⟨⟨t266, t269⟩, A1210, H⟩ := H
             replace H : ((laws_toIntS.f kj75 l1).bind fun t272 => ((impl_PlaneOfCounts.f kj75 t266 t269 t272).bind fun bt275 => ((laws_eqPlane.f kj75 bt275.1 bt275.2.1 t223 t226).bind fun t281 => (if t281 = true then (laws_FnExactPlaneOfCounts.j2 kj75 t263 (bt275.2.2 != t227) t264 t242) else (laws_FnExactPlaneOfCounts.j2 kj75 t263 true t264 t242))))) = some r := H
             have A121 := Aside0.mk A1210
             clear A1210
             replace H := Option.bind_eq_some_iff.mp H
             obtain ⟨t272, A1220, H⟩ := H
             replace H : ((impl_PlaneOfCounts.f kj75 t266 t269 t272).bind fun bt275 => ((laws_eqPlane.f kj75 bt275.1 bt275.2.1 t223 t226).bind fun t281 => (if t281 = true then (laws_FnExactPlaneOfCounts.j2 kj75 t263 (bt275.2.2 != t227) t264 t242) else (laws_FnExactPlaneOfCounts.j2 kj75 t263 true t264 t242)))) = some r := H
             have A122 := Aside0.mk A1220
             clear A1220
             replace H := Option.bind_eq_some_iff.mp H
             obtain ⟨⟨t275, t278, t279⟩, A1230, H⟩ := H
             replace H : ((laws_eqPlane.f kj75 t275 t278 t223 t226).bind fun t281 => (if t281 = true then (laws_FnExactPlaneOfCounts.j2 kj75 t263 (t279 != t227) t264 t242) else (laws_FnExactPlaneOfCounts.j2 kj75 t263 true t264 t242))) = some r := H
             have A123 := Aside0.mk A1230
             clear A1230
             have HC124 := Aside0.mk H
             clear H
             have hnb125 := NB244_212.out
             have hnc125 := NB212_244.out
             have hnb126 := NB244_228.out
             have hnc126 := NB228_244.out
             have hnb127 := NB244_235.out
             have hnc127 := NB235_244.out
             have hcz128_0 : wc.cell? ⟨gb244, 0, none⟩ = some (.slice Ao44 t239.length co44) := (blk_cell BK244.out 0).trans rfl
             have hcz128_1 : wc.cell? ⟨gb244, 1, none⟩ = some (.int .i64 t242) := (blk_cell BK244.out 1).trans rfl
             have hfz128_0 := blk_frozen BK244.out 0
             have hfz128_1 := blk_frozen BK244.out 1
             go_upto_region 31 with (first|((with_reducible refine gate_callee (f := 48) rfl ?_);refine goesL_ (some 83) rfl rfl Try.func48 (by kernel_rfl) rfl #[.agg #[.slice Ao44 t239.length co44, .int .i64 t242], .int .i64 1] rfl (by (try simp only [List.map_toArray, List.map_cons, List.map_nil]);first|done|rfl|(simp only [List.length_drop, List.length_take];rfl)) ?_;(with_reducible refine (laws_markPlane.calls kj75 (fun k_ => some k_ = (.slice Ao44 t239.length co44 : Value).ownBlock) (.slice Ao44 t239.length co44) t239 t242 1 t263 t264 w _ ?side1 ?side2 A110.out).mono ?_);(case side1 => repeat (first|(with_reducible first|exact HB.out|apply below_alloc|apply pw_below_drewN|apply below_drew1|refine below_set ?_ GE212.out|refine below_set ?_ GE228.out|refine below_set ?_ GE235.out|refine below_set ?_ GE244.out)|exact HB.out));(case side2 => exact R_tight rfl HO_245000.out);rintro e w129 ⟨rfl, hy0, hb, hkp⟩;refine ⟨_, rfl, ?_⟩;have n0_ := Aside0.mk (R_mono (ok' := fun k_ => some k_ ≠ (.slice Ao38 t259.length co38 : Value).ownBlock ∧ some k_ ≠ (.slice Ao44 t239.length co44 : Value).ownBlock) (R_keptB (HO_229000.out) hkp (fun k_ hk_ hs_ => (hk_.2) hs_)) (fun k_ hk_ => by first|exact ⟨hk_.1.1, hk_.1.2⟩|grind));have n1_ := Aside0.mk (S_mono (ok' := fun k_ => some k_ ≠ (.slice Ao28 t223.length co28 : Value).ownBlock ∧ some k_ ≠ (.slice Ao38 t259.length co38 : Value).ownBlock ∧ some k_ ≠ (.slice Ao44 t239.length co44 : Value).ownBlock) (S_keptB (HO_236000.out) hkp (fun k_ hk_ hs_ => (hk_.2.2) hs_)) (fun k_ hk_ => by first|exact ⟨hk_.1.1, hk_.1.2.1, hk_.1.2.2⟩|grind));have n2_ := Aside0.mk (R_mono (ok' := fun k_ => some k_ ≠ (.slice Ao28 t223.length co28 : Value).ownBlock ∧ some k_ ≠ (.slice Ao44 t239.length co44 : Value).ownBlock) (R_keptB (HO_236001.out) hkp (fun k_ hk_ hs_ => (hk_.2) hs_)) (fun k_ hk_ => by first|exact ⟨hk_.1.1, hk_.1.2⟩|grind));have n3_ := Aside0.mk (R_reok rfl hy0 (fun k_ e_ => HO_245000.out.1 k_ e_));have n4_ := Aside0.mk (blk_kept (by (with_reducible repeat (first|refine blk_drewN ?_ _|refine blk_drew ?_|refine blk_alloc ?_ _));exact BK212.out) hkp (fun hs_ => (fun e_ => (R_ne HO_245000.out BK212.out (by decide)) e_) hs_));have n5_ := Aside0.mk (blk_kept (by (with_reducible repeat (first|refine blk_drewN ?_ _|refine blk_drew ?_|refine blk_alloc ?_ _));exact BK228.out) hkp (fun hs_ => (fun e_ => (R_ne HO_245000.out BK228.out (by decide)) e_) hs_));have n6_ := Aside0.mk (blk_kept (by (with_reducible repeat (first|refine blk_drewN ?_ _|refine blk_drew ?_|refine blk_alloc ?_ _));exact BK235.out) hkp (fun hs_ => (fun e_ => (R_ne HO_245000.out BK235.out (by decide)) e_) hs_));have n7_ := Aside0.mk (blk_kept (by (with_reducible repeat (first|refine blk_drewN ?_ _|refine blk_drew ?_|refine blk_alloc ?_ _));exact BK244.out) hkp (fun hs_ => (fun e_ => (R_ne HO_245000.out BK244.out (by decide)) e_) hs_));have n8_ := Aside0.mk (hb);clear HO_229000;clear HO_236000;clear HO_236001;clear HO_245000;clear BK212;clear BK228;clear BK235;clear BK244;clear HB;have HO_229000 := n0_;have HO_236000 := n1_;have HO_236001 := n2_;have HO_245000 := n3_;have BK212 := n4_;have BK228 := n5_;have BK235 := n6_;have BK244 := n7_;have HB := n8_;clear n0_ n1_ n2_ n3_ n4_ n5_ n6_ n7_ n8_;(try clear hb);(try clear hkp);(try clear hy0);have hcz130_0 : w129.cell? ⟨gb244, 0, none⟩ = some (.slice Ao44 t239.length co44) := (blk_cell BK244.out 0).trans rfl;have hcz130_1 : w129.cell? ⟨gb244, 1, none⟩ = some (.int .i64 t242) := (blk_cell BK244.out 1).trans rfl;have hfz130_0 := blk_frozen BK244.out 0;have hfz130_1 := blk_frozen BK244.out 1)|((with_reducible refine gate_callee (f := 49) rfl ?_);refine goesL_ (some 86) rfl rfl Try.func49 (by kernel_rfl) rfl #[.agg #[.slice Ao44 t264.length co44, .int .i64 t242], .int .i64 1] rfl (by (try simp only [List.map_toArray, List.map_cons, List.map_nil]);first|done|(rw [show t264.length = t239.length from (R_reads' HO_245000.out).1.symm] <;> rfl)|rfl|(simp only [List.length_drop, List.length_take];rfl)) ?_;(with_reducible refine (laws_heldPlane.calls kj75 _ _ t264 t242 1 t265 _ ?side1 ?side2 A111.out).mono ?_);(case side1 => repeat (first|exact (R_reads' HO_245000.out).2.2|(with_reducible refine C_alloc ?_ _)|(with_reducible refine C_drewN ?_ _)|(with_reducible refine C_drew ?_)));(case side2 => rw [show t264.length = t239.length from (R_reads' HO_245000.out).1.symm];exact (R_reads' HO_245000.out).2.1);rintro e w131 ⟨rfl, hb⟩;refine ⟨_, rfl, ?_⟩;have n0_ := Aside0.mk (R_below (by (with_reducible repeat (first|apply R_alloc|apply R_drewN|apply R_drew));exact HO_229000.out) hb);have n1_ := Aside0.mk (S_below (by (with_reducible repeat (first|apply S_alloc|apply S_drewN|apply S_drew));exact HO_236000.out) hb);have n2_ := Aside0.mk (R_below (by (with_reducible repeat (first|apply R_alloc|apply R_drewN|apply R_drew));exact HO_236001.out) hb);have n3_ := Aside0.mk (R_below (by (with_reducible repeat (first|apply R_alloc|apply R_drewN|apply R_drew));exact HO_245000.out) hb);have n4_ := Aside0.mk (blk_below (g := gb212) (o := .cells #[.slice A0_0 l0_0.length c0_0, .slice A0_1 l0_1.length c0_1] 34 (0, 0)) (by (with_reducible repeat (first|refine blk_drewN ?_ _|refine blk_drew ?_|refine blk_alloc ?_ _));exact BK212.out) hb);have n5_ := Aside0.mk (blk_below (g := gb228) (o := .cells #[.slice Ao28 t223.length co28, .int .i64 t226] 54 (0, 0)) (by (with_reducible repeat (first|refine blk_drewN ?_ _|refine blk_drew ?_|refine blk_alloc ?_ _));exact BK228.out) hb);have n6_ := Aside0.mk (blk_below (g := gb235) (o := .cells #[.slice Ao34 t258.length co34, .slice Ao38 t259.length co38] 38 (0, 0)) (by (with_reducible repeat (first|refine blk_drewN ?_ _|refine blk_drew ?_|refine blk_alloc ?_ _));exact BK235.out) hb);have n7_ := Aside0.mk (blk_below (g := gb244) (o := .cells #[.slice Ao44 t239.length co44, .int .i64 t242] 54 (0, 0)) (by (with_reducible repeat (first|refine blk_drewN ?_ _|refine blk_drew ?_|refine blk_alloc ?_ _));exact BK244.out) hb);have n8_ := Aside0.mk (below_step (by repeat (first|(with_reducible first|exact HB.out|apply below_alloc|apply pw_below_drewN|apply below_drew1|refine below_set ?_ GE212.out|refine below_set ?_ GE228.out|refine below_set ?_ GE235.out|refine below_set ?_ GE244.out)|exact HB.out)) hb);clear HO_229000;clear HO_236000;clear HO_236001;clear HO_245000;clear BK212;clear BK228;clear BK235;clear BK244;clear HB;have HO_229000 := n0_;have HO_236000 := n1_;have HO_236001 := n2_;have HO_245000 := n3_;have BK212 := n4_;have BK228 := n5_;have BK235 := n6_;have BK244 := n7_;have HB := n8_;clear n0_ n1_ n2_ n3_ n4_ n5_ n6_ n7_ n8_;(try clear hb);(try clear hb2);(try clear hk);(try clear hi);have hnb132 := NB212_228.out;have hnc132 := NB228_212.out;have hnb133 := NB212_235.out;have hnc133 := NB235_212.out;have hcz134_0 : w131.cell? ⟨gb212, 0, none⟩ = some (.slice A0_0 l0_0.length c0_0) := (blk_cell BK212.out 0).trans rfl;have hcz134_1 : w131.cell? ⟨gb212, 1, none⟩ = some (.slice A0_1 l0_1.length c0_1) := (blk_cell BK212.out 1).trans rfl;have hfz134_0 := blk_frozen BK212.out 0;have hfz134_1 := blk_frozen BK212.out 1)|((with_reducible refine gate_callee (f := 27) rfl ?_);refine goesL_ (some 94) rfl rfl Try.func27 (by kernel_rfl) rfl #[.agg #[.slice A0_0 l0_0.length c0_0, .slice A0_1 l0_1.length c0_1]] rfl (by (try simp only [List.map_toArray, List.map_cons, List.map_nil]);first|done|rfl|(simp only [List.length_drop, List.length_take];rfl)) ?_;(with_reducible refine (laws_toSample.calls kj75 _ _ l0_0 _ _ l0_1 t266 t269 _ ?side1 ?side2 ?side3 ?side4 A121.out).mono ?_);(case side1 => repeat (first|exact (C_below HR0_0.out HB.out)|(with_reducible refine C_alloc ?_ _)|(with_reducible refine C_drewN ?_ _)|(with_reducible refine C_drew ?_)));(case side2 => exact HC0_0.out);(case side3 => repeat (first|exact (C_below HR0_1.out HB.out)|(with_reducible refine C_alloc ?_ _)|(with_reducible refine C_drewN ?_ _)|(with_reducible refine C_drew ?_)));(case side4 => exact HC0_1.out);rintro e w135 ⟨v267, v270, rfl, ho0, ho1, hb⟩;refine ⟨_, rfl, ?_⟩;have n0_ := Aside0.mk (R_elder' (by (with_reducible repeat (first|apply R_alloc|apply R_drewN|apply R_drew));exact HO_229000.out) (R_base ho1) hb);have n1_ := Aside0.mk (S_mono (S_told (S_told (S_old (by (with_reducible repeat (first|apply S_alloc|apply S_drewN|apply S_drew));exact HO_236000.out) hb) (S_base ho0)) (R_base ho1)) (fun _ h_ => h_.1));have n2_ := Aside0.mk (R_elder' (by (with_reducible repeat (first|apply R_alloc|apply R_drewN|apply R_drew));exact HO_236001.out) (R_base ho1) hb);have n3_ := Aside0.mk (R_elder' (by (with_reducible repeat (first|apply R_alloc|apply R_drewN|apply R_drew));exact HO_245000.out) (R_base ho1) hb);have n4_ := Aside0.mk (S_lower (S_new' (S_new' (S_new' (S_new' ho0 (R_lt (by (with_reducible repeat (first|apply R_alloc|apply R_drewN|apply R_drew));exact HO_229000.out))) (S_lt (by (with_reducible repeat (first|apply S_alloc|apply S_drewN|apply S_drew));exact HO_236000.out))) (R_lt (by (with_reducible repeat (first|apply R_alloc|apply R_drewN|apply R_drew));exact HO_236001.out))) (R_lt (by (with_reducible repeat (first|apply R_alloc|apply R_drewN|apply R_drew));exact HO_245000.out))) (below_size (by repeat (first|(with_reducible first|exact HB.out|apply below_alloc|apply pw_below_drewN|apply below_drew1|refine below_set ?_ GE212.out|refine below_set ?_ GE228.out|refine below_set ?_ GE235.out|refine below_set ?_ GE244.out)|exact HB.out))));have n5_ := Aside0.mk (R_lower (R_new' (R_new' (R_new' ho1 (R_lt (by (with_reducible repeat (first|apply R_alloc|apply R_drewN|apply R_drew));exact HO_229000.out))) (R_lt (by (with_reducible repeat (first|apply R_alloc|apply R_drewN|apply R_drew));exact HO_236001.out))) (R_lt (by (with_reducible repeat (first|apply R_alloc|apply R_drewN|apply R_drew));exact HO_245000.out))) (below_size (by repeat (first|(with_reducible first|exact HB.out|apply below_alloc|apply pw_below_drewN|apply below_drew1|refine below_set ?_ GE212.out|refine below_set ?_ GE228.out|refine below_set ?_ GE235.out|refine below_set ?_ GE244.out)|exact HB.out))));have n6_ := Aside0.mk (blk_below (g := gb212) (o := .cells #[.slice A0_0 l0_0.length c0_0, .slice A0_1 l0_1.length c0_1] 34 (0, 0)) (by (with_reducible repeat (first|refine blk_drewN ?_ _|refine blk_drew ?_|refine blk_alloc ?_ _));exact BK212.out) hb);have n7_ := Aside0.mk (blk_below (g := gb228) (o := .cells #[.slice Ao28 t223.length co28, .int .i64 t226] 54 (0, 0)) (by (with_reducible repeat (first|refine blk_drewN ?_ _|refine blk_drew ?_|refine blk_alloc ?_ _));exact BK228.out) hb);have n8_ := Aside0.mk (blk_below (g := gb235) (o := .cells #[.slice Ao34 t258.length co34, .slice Ao38 t259.length co38] 38 (0, 0)) (by (with_reducible repeat (first|refine blk_drewN ?_ _|refine blk_drew ?_|refine blk_alloc ?_ _));exact BK235.out) hb);have n9_ := Aside0.mk (blk_below (g := gb244) (o := .cells #[.slice Ao44 t239.length co44, .int .i64 t242] 54 (0, 0)) (by (with_reducible repeat (first|refine blk_drewN ?_ _|refine blk_drew ?_|refine blk_alloc ?_ _));exact BK244.out) hb);have n10_ := Aside0.mk (below_step (by repeat (first|(with_reducible first|exact HB.out|apply below_alloc|apply pw_below_drewN|apply below_drew1|refine below_set ?_ GE212.out|refine below_set ?_ GE228.out|refine below_set ?_ GE235.out|refine below_set ?_ GE244.out)|exact HB.out)) hb);clear HO_229000;clear HO_236000;clear HO_236001;clear HO_245000;clear BK212;clear BK228;clear BK235;clear BK244;clear HB;have HO_229000 := n0_;have HO_236000 := n1_;have HO_236001 := n2_;have HO_245000 := n3_;have HO268 := n4_;have HO271 := n5_;have BK212 := n6_;have BK228 := n7_;have BK235 := n8_;have BK244 := n9_;have HB := n10_;clear n0_ n1_ n2_ n3_ n4_ n5_ n6_ n7_ n8_ n9_ n10_;(try clear hb);(try clear hb2);(try clear hk);(try clear hi);(try clear ho0);(try clear ho1))|((with_reducible refine gate_callee (f := 18) rfl ?_);refine goesL_ (some 96) rfl rfl Try.func18 (by kernel_rfl) rfl #[.slice A1 l1.length c1] rfl (by (try simp only [List.map_toArray, List.map_cons, List.map_nil]);first|done|rfl|(simp only [List.length_drop, List.length_take];rfl)) ?_;(with_reducible refine (laws_toIntS.calls kj75 _ _ l1 t272 _ ?side1 ?side2 A122.out).mono ?_);(case side1 => repeat (first|exact (C_below HR1.out HB.out)|(with_reducible refine C_alloc ?_ _)|(with_reducible refine C_drewN ?_ _)|(with_reducible refine C_drew ?_)));(case side2 => exact HC1.out);rintro e w136 ⟨v273, rfl, ho0, hb⟩;refine ⟨_, rfl, ?_⟩;have n0_ := Aside0.mk (R_elder' (by (with_reducible repeat (first|apply R_alloc|apply R_drewN|apply R_drew));exact HO_229000.out) (R_base ho0) hb);have n1_ := Aside0.mk (S_elder' (by (with_reducible repeat (first|apply S_alloc|apply S_drewN|apply S_drew));exact HO_236000.out) (R_base ho0) hb);have n2_ := Aside0.mk (R_elder' (by (with_reducible repeat (first|apply R_alloc|apply R_drewN|apply R_drew));exact HO_236001.out) (R_base ho0) hb);have n3_ := Aside0.mk (R_elder' (by (with_reducible repeat (first|apply R_alloc|apply R_drewN|apply R_drew));exact HO_245000.out) (R_base ho0) hb);have n4_ := Aside0.mk (S_elder' (by (with_reducible repeat (first|apply S_alloc|apply S_drewN|apply S_drew));exact HO268.out) (R_base ho0) hb);have n5_ := Aside0.mk (R_elder' (by (with_reducible repeat (first|apply R_alloc|apply R_drewN|apply R_drew));exact HO271.out) (R_base ho0) hb);have n6_ := Aside0.mk (R_lower (R_new' (R_new' (R_new' (R_new' ho0 (R_lt (by (with_reducible repeat (first|apply R_alloc|apply R_drewN|apply R_drew));exact HO_229000.out))) (R_lt (by (with_reducible repeat (first|apply R_alloc|apply R_drewN|apply R_drew));exact HO_236001.out))) (R_lt (by (with_reducible repeat (first|apply R_alloc|apply R_drewN|apply R_drew));exact HO_245000.out))) (R_lt (by (with_reducible repeat (first|apply R_alloc|apply R_drewN|apply R_drew));exact HO271.out))) (below_size (by repeat (first|(with_reducible first|exact HB.out|apply below_alloc|apply pw_below_drewN|apply below_drew1|refine below_set ?_ GE212.out|refine below_set ?_ GE228.out|refine below_set ?_ GE235.out|refine below_set ?_ GE244.out)|exact HB.out))));have n7_ := Aside0.mk (blk_below (g := gb212) (o := .cells #[.slice A0_0 l0_0.length c0_0, .slice A0_1 l0_1.length c0_1] 34 (0, 0)) (by (with_reducible repeat (first|refine blk_drewN ?_ _|refine blk_drew ?_|refine blk_alloc ?_ _));exact BK212.out) hb);have n8_ := Aside0.mk (blk_below (g := gb228) (o := .cells #[.slice Ao28 t223.length co28, .int .i64 t226] 54 (0, 0)) (by (with_reducible repeat (first|refine blk_drewN ?_ _|refine blk_drew ?_|refine blk_alloc ?_ _));exact BK228.out) hb);have n9_ := Aside0.mk (blk_below (g := gb235) (o := .cells #[.slice Ao34 t258.length co34, .slice Ao38 t259.length co38] 38 (0, 0)) (by (with_reducible repeat (first|refine blk_drewN ?_ _|refine blk_drew ?_|refine blk_alloc ?_ _));exact BK235.out) hb);have n10_ := Aside0.mk (blk_below (g := gb244) (o := .cells #[.slice Ao44 t239.length co44, .int .i64 t242] 54 (0, 0)) (by (with_reducible repeat (first|refine blk_drewN ?_ _|refine blk_drew ?_|refine blk_alloc ?_ _));exact BK244.out) hb);have n11_ := Aside0.mk (below_step (by repeat (first|(with_reducible first|exact HB.out|apply below_alloc|apply pw_below_drewN|apply below_drew1|refine below_set ?_ GE212.out|refine below_set ?_ GE228.out|refine below_set ?_ GE235.out|refine below_set ?_ GE244.out)|exact HB.out)) hb);clear HO_229000;clear HO_236000;clear HO_236001;clear HO_245000;clear HO268;clear HO271;clear BK212;clear BK228;clear BK235;clear BK244;clear HB;have HO_229000 := n0_;have HO_236000 := n1_;have HO_236001 := n2_;have HO_245000 := n3_;have HO268 := n4_;have HO271 := n5_;have HO274 := n6_;have BK212 := n7_;have BK228 := n8_;have BK235 := n9_;have BK244 := n10_;have HB := n11_;clear n0_ n1_ n2_ n3_ n4_ n5_ n6_ n7_ n8_ n9_ n10_ n11_;(try clear hb);(try clear hb2);(try clear hk);(try clear hi);(try clear ho0);obtain ⟨Ao137, co137, eo137⟩ := S_slice HO268.out;subst eo137;obtain ⟨Ao138, co138, eo138⟩ := R_slice HO271.out;subst eo138;obtain ⟨Ao139, co139, eo139⟩ := R_slice HO274.out;subst eo139)|((with_reducible refine gate_callee (f := 47) rfl ?_);refine goesL_ (some 97) rfl rfl Try.func47 (by kernel_rfl) rfl #[.agg #[.slice Ao137 t266.length co137, .slice Ao138 t269.length co138], .slice Ao139 t272.length co139] rfl (by (try simp only [List.map_toArray, List.map_cons, List.map_nil]);first|done|rfl|(simp only [List.length_drop, List.length_take];rfl)) ?_;(with_reducible refine (impl_PlaneOfCounts.calls kj75 _ _ t266 _ _ t269 _ _ t272 t275 t278 t279 _ ?side1 ?side2 ?side3 ?side4 ?side5 ?side6 A123.out).mono ?_);(case side1 => repeat (first|exact (S_reads' HO268.out).2.2|(with_reducible refine C_alloc ?_ _)|(with_reducible refine C_drewN ?_ _)|(with_reducible refine C_drew ?_)));(case side2 => exact (S_reads' HO268.out).2.1);(case side3 => repeat (first|exact (R_reads' HO271.out).2.2|(with_reducible refine C_alloc ?_ _)|(with_reducible refine C_drewN ?_ _)|(with_reducible refine C_drew ?_)));(case side4 => exact (R_reads' HO271.out).2.1);(case side5 => repeat (first|exact (R_reads' HO274.out).2.2|(with_reducible refine C_alloc ?_ _)|(with_reducible refine C_drewN ?_ _)|(with_reducible refine C_drew ?_)));(case side6 => exact (R_reads' HO274.out).2.1);rintro e w140 ⟨v276, rfl, ho0, hb⟩;refine ⟨_, rfl, ?_⟩;have n0_ := Aside0.mk (R_elder' (by (with_reducible repeat (first|apply R_alloc|apply R_drewN|apply R_drew));exact HO_229000.out) (R_base ho0) hb);have n1_ := Aside0.mk (S_elder' (by (with_reducible repeat (first|apply S_alloc|apply S_drewN|apply S_drew));exact HO_236000.out) (R_base ho0) hb);have n2_ := Aside0.mk (R_elder' (by (with_reducible repeat (first|apply R_alloc|apply R_drewN|apply R_drew));exact HO_236001.out) (R_base ho0) hb);have n3_ := Aside0.mk (R_elder' (by (with_reducible repeat (first|apply R_alloc|apply R_drewN|apply R_drew));exact HO_245000.out) (R_base ho0) hb);have n4_ := Aside0.mk (S_elder' (by (with_reducible repeat (first|apply S_alloc|apply S_drewN|apply S_drew));exact HO268.out) (R_base ho0) hb);have n5_ := Aside0.mk (R_elder' (by (with_reducible repeat (first|apply R_alloc|apply R_drewN|apply R_drew));exact HO271.out) (R_base ho0) hb);have n6_ := Aside0.mk (R_elder' (by (with_reducible repeat (first|apply R_alloc|apply R_drewN|apply R_drew));exact HO274.out) (R_base ho0) hb);have n7_ := Aside0.mk (R_lower (R_new' (R_new' (R_new' (R_new' (R_new' ho0 (R_lt (by (with_reducible repeat (first|apply R_alloc|apply R_drewN|apply R_drew));exact HO_229000.out))) (R_lt (by (with_reducible repeat (first|apply R_alloc|apply R_drewN|apply R_drew));exact HO_236001.out))) (R_lt (by (with_reducible repeat (first|apply R_alloc|apply R_drewN|apply R_drew));exact HO_245000.out))) (R_lt (by (with_reducible repeat (first|apply R_alloc|apply R_drewN|apply R_drew));exact HO271.out))) (R_lt (by (with_reducible repeat (first|apply R_alloc|apply R_drewN|apply R_drew));exact HO274.out))) (below_size (by repeat (first|(with_reducible first|exact HB.out|apply below_alloc|apply pw_below_drewN|apply below_drew1|refine below_set ?_ GE212.out|refine below_set ?_ GE228.out|refine below_set ?_ GE235.out|refine below_set ?_ GE244.out)|exact HB.out))));have n8_ := Aside0.mk (blk_below (g := gb212) (o := .cells #[.slice A0_0 l0_0.length c0_0, .slice A0_1 l0_1.length c0_1] 34 (0, 0)) (by (with_reducible repeat (first|refine blk_drewN ?_ _|refine blk_drew ?_|refine blk_alloc ?_ _));exact BK212.out) hb);have n9_ := Aside0.mk (blk_below (g := gb228) (o := .cells #[.slice Ao28 t223.length co28, .int .i64 t226] 54 (0, 0)) (by (with_reducible repeat (first|refine blk_drewN ?_ _|refine blk_drew ?_|refine blk_alloc ?_ _));exact BK228.out) hb);have n10_ := Aside0.mk (blk_below (g := gb235) (o := .cells #[.slice Ao34 t258.length co34, .slice Ao38 t259.length co38] 38 (0, 0)) (by (with_reducible repeat (first|refine blk_drewN ?_ _|refine blk_drew ?_|refine blk_alloc ?_ _));exact BK235.out) hb);have n11_ := Aside0.mk (blk_below (g := gb244) (o := .cells #[.slice Ao44 t239.length co44, .int .i64 t242] 54 (0, 0)) (by (with_reducible repeat (first|refine blk_drewN ?_ _|refine blk_drew ?_|refine blk_alloc ?_ _));exact BK244.out) hb);have n12_ := Aside0.mk (below_step (by repeat (first|(with_reducible first|exact HB.out|apply below_alloc|apply pw_below_drewN|apply below_drew1|refine below_set ?_ GE212.out|refine below_set ?_ GE228.out|refine below_set ?_ GE235.out|refine below_set ?_ GE244.out)|exact HB.out)) hb);clear HO_229000;clear HO_236000;clear HO_236001;clear HO_245000;clear HO268;clear HO271;clear HO274;clear BK212;clear BK228;clear BK235;clear BK244;clear HB;have HO_229000 := n0_;have HO_236000 := n1_;have HO_236001 := n2_;have HO_245000 := n3_;have HO268 := n4_;have HO271 := n5_;have HO274 := n6_;have HO277 := n7_;have BK212 := n8_;have BK228 := n9_;have BK235 := n10_;have BK244 := n11_;have HB := n12_;clear n0_ n1_ n2_ n3_ n4_ n5_ n6_ n7_ n8_ n9_ n10_ n11_ n12_;(try clear hb);(try clear hb2);(try clear hk);(try clear hi);(try clear ho0))|((with_reducible refine gate_dst (N := 15) rfl ?_);refine box_event ?hg (N := 15) ?hd (cs := #[.slice none 0 0, .int .i64 0]) (t := 54) ?hr ?_;(case hd => rfl);(case hg => rfl);(case hr => first|(go_simp;done)|(go_simp;rfl));intro gb280 hg w141 hbox hb;have n0_ := Aside0.mk (R_below (by (with_reducible repeat (first|apply R_alloc|apply R_drewN|apply R_drew));exact HO_229000.out) hb);have n1_ := Aside0.mk (S_below (by (with_reducible repeat (first|apply S_alloc|apply S_drewN|apply S_drew));exact HO_236000.out) hb);have n2_ := Aside0.mk (R_below (by (with_reducible repeat (first|apply R_alloc|apply R_drewN|apply R_drew));exact HO_236001.out) hb);have n3_ := Aside0.mk (R_below (by (with_reducible repeat (first|apply R_alloc|apply R_drewN|apply R_drew));exact HO_245000.out) hb);have n4_ := Aside0.mk (S_below (by (with_reducible repeat (first|apply S_alloc|apply S_drewN|apply S_drew));exact HO268.out) hb);have n5_ := Aside0.mk (R_below (by (with_reducible repeat (first|apply R_alloc|apply R_drewN|apply R_drew));exact HO271.out) hb);have n6_ := Aside0.mk (R_below (by (with_reducible repeat (first|apply R_alloc|apply R_drewN|apply R_drew));exact HO274.out) hb);have n7_ := Aside0.mk (R_below (by (with_reducible repeat (first|apply R_alloc|apply R_drewN|apply R_drew));exact HO277.out) hb);have n8_ := Aside0.mk (blk_below (g := gb212) (o := .cells #[.slice A0_0 l0_0.length c0_0, .slice A0_1 l0_1.length c0_1] 34 (0, 0)) (by (with_reducible repeat (first|refine blk_drewN ?_ _|refine blk_drew ?_|refine blk_alloc ?_ _));exact BK212.out) hb);have n9_ := Aside0.mk (blk_below (g := gb228) (o := .cells #[.slice Ao28 t223.length co28, .int .i64 t226] 54 (0, 0)) (by (with_reducible repeat (first|refine blk_drewN ?_ _|refine blk_drew ?_|refine blk_alloc ?_ _));exact BK228.out) hb);have n10_ := Aside0.mk (blk_below (g := gb235) (o := .cells #[.slice Ao34 t258.length co34, .slice Ao38 t259.length co38] 38 (0, 0)) (by (with_reducible repeat (first|refine blk_drewN ?_ _|refine blk_drew ?_|refine blk_alloc ?_ _));exact BK235.out) hb);have n11_ := Aside0.mk (blk_below (g := gb244) (o := .cells #[.slice Ao44 t239.length co44, .int .i64 t242] 54 (0, 0)) (by (with_reducible repeat (first|refine blk_drewN ?_ _|refine blk_drew ?_|refine blk_alloc ?_ _));exact BK244.out) hb);have n12_ := Aside0.mk (below_step (by repeat (first|(with_reducible first|exact HB.out|apply below_alloc|apply pw_below_drewN|apply below_drew1|refine below_set ?_ GE212.out|refine below_set ?_ GE228.out|refine below_set ?_ GE235.out|refine below_set ?_ GE244.out)|exact HB.out)) hb);have n13_ := Aside0.mk (hbox);have n14_ := Aside0.mk ((by rw [hg];exact (below_size (by repeat (first|(with_reducible first|exact HB.out|apply below_alloc|apply pw_below_drewN|apply below_drew1|refine below_set ?_ GE212.out|refine below_set ?_ GE228.out|refine below_set ?_ GE235.out|refine below_set ?_ GE244.out)|exact HB.out))) : w.heap.size ≤ gb280));have n15_ := Aside0.mk ((by rw [hg];exact (below_size (by repeat (first|(with_reducible first|exact HB.out|apply below_alloc|apply pw_below_drewN|apply below_drew1|refine below_set ?_ GE212.out|refine below_set ?_ GE228.out|refine below_set ?_ GE235.out|refine below_set ?_ GE244.out)|exact HB.out))) : w.heap.size ≤ gb280));have n16_ := Aside0.mk ((by rw [hg];exact Nat.ne_of_lt (blk_lt (g := gb212) (o := .cells #[.slice A0_0 l0_0.length c0_0, .slice A0_1 l0_1.length c0_1] 34 (0, 0)) (by (with_reducible repeat (first|refine blk_drewN ?_ _|refine blk_drew ?_|refine blk_alloc ?_ _));exact BK212.out)) : gb212 ≠ gb280));have n17_ := Aside0.mk ((by rw [hg];exact Nat.ne_of_gt (blk_lt (g := gb212) (o := .cells #[.slice A0_0 l0_0.length c0_0, .slice A0_1 l0_1.length c0_1] 34 (0, 0)) (by (with_reducible repeat (first|refine blk_drewN ?_ _|refine blk_drew ?_|refine blk_alloc ?_ _));exact BK212.out)) : gb280 ≠ gb212));have n18_ := Aside0.mk ((by rw [hg];exact Nat.ne_of_lt (blk_lt (g := gb228) (o := .cells #[.slice Ao28 t223.length co28, .int .i64 t226] 54 (0, 0)) (by (with_reducible repeat (first|refine blk_drewN ?_ _|refine blk_drew ?_|refine blk_alloc ?_ _));exact BK228.out)) : gb228 ≠ gb280));have n19_ := Aside0.mk ((by rw [hg];exact Nat.ne_of_gt (blk_lt (g := gb228) (o := .cells #[.slice Ao28 t223.length co28, .int .i64 t226] 54 (0, 0)) (by (with_reducible repeat (first|refine blk_drewN ?_ _|refine blk_drew ?_|refine blk_alloc ?_ _));exact BK228.out)) : gb280 ≠ gb228));have n20_ := Aside0.mk ((by rw [hg];exact Nat.ne_of_lt (blk_lt (g := gb235) (o := .cells #[.slice Ao34 t258.length co34, .slice Ao38 t259.length co38] 38 (0, 0)) (by (with_reducible repeat (first|refine blk_drewN ?_ _|refine blk_drew ?_|refine blk_alloc ?_ _));exact BK235.out)) : gb235 ≠ gb280));have n21_ := Aside0.mk ((by rw [hg];exact Nat.ne_of_gt (blk_lt (g := gb235) (o := .cells #[.slice Ao34 t258.length co34, .slice Ao38 t259.length co38] 38 (0, 0)) (by (with_reducible repeat (first|refine blk_drewN ?_ _|refine blk_drew ?_|refine blk_alloc ?_ _));exact BK235.out)) : gb280 ≠ gb235));have n22_ := Aside0.mk ((by rw [hg];exact Nat.ne_of_lt (blk_lt (g := gb244) (o := .cells #[.slice Ao44 t239.length co44, .int .i64 t242] 54 (0, 0)) (by (with_reducible repeat (first|refine blk_drewN ?_ _|refine blk_drew ?_|refine blk_alloc ?_ _));exact BK244.out)) : gb244 ≠ gb280));have n23_ := Aside0.mk ((by rw [hg];exact Nat.ne_of_gt (blk_lt (g := gb244) (o := .cells #[.slice Ao44 t239.length co44, .int .i64 t242] 54 (0, 0)) (by (with_reducible repeat (first|refine blk_drewN ?_ _|refine blk_drew ?_|refine blk_alloc ?_ _));exact BK244.out)) : gb280 ≠ gb244));clear HO_229000;clear HO_236000;clear HO_236001;clear HO_245000;clear HO268;clear HO271;clear HO274;clear HO277;clear BK212;clear BK228;clear BK235;clear BK244;clear HB;have HO_229000 := n0_;have HO_236000 := n1_;have HO_236001 := n2_;have HO_245000 := n3_;have HO268 := n4_;have HO271 := n5_;have HO274 := n6_;have HO277 := n7_;have BK212 := n8_;have BK228 := n9_;have BK235 := n10_;have BK244 := n11_;have HB := n12_;have BK280 := n13_;have GW280 := n14_;have GE280 := n15_;have NB212_280 := n16_;have NB280_212 := n17_;have NB228_280 := n18_;have NB280_228 := n19_;have NB235_280 := n20_;have NB280_235 := n21_;have NB244_280 := n22_;have NB280_244 := n23_;clear n0_ n1_ n2_ n3_ n4_ n5_ n6_ n7_ n8_ n9_ n10_ n11_ n12_ n13_ n14_ n15_ n16_ n17_ n18_ n19_ n20_ n21_ n22_ n23_;clear hb hbox hg;obtain ⟨Ao142, co142, eo142⟩ := R_slice HO277.out;subst eo142;have hnb143 := NB280_212.out;have hnc143 := NB212_280.out;have hnb144 := NB280_228.out;have hnc144 := NB228_280.out;have hnb145 := NB280_235.out;have hnc145 := NB235_280.out;have hnb146 := NB280_244.out;have hnc146 := NB244_280.out;have hcz147_0 : w141.cell? ⟨gb280, 0, none⟩ = some (.slice none 0 0) := (blk_cell BK280.out 0).trans rfl;have hcz147_1 : w141.cell? ⟨gb280, 1, none⟩ = some (.int .i64 0) := (blk_cell BK280.out 1).trans rfl;have hfz147_0 := blk_frozen BK280.out 0;have hfz147_1 := blk_frozen BK280.out 1))
             (try simp only [Act.put, List.setIfInBounds_toArray, List.set_cons_zero, List.set_cons_succ])
             go_cut [108] (fun v108 wc => ∃ (kq : Nat) (x108_123 : Bool), v108 = .bool x108_123 ∧ Aside0 (laws_FnExactPlaneOfCounts.j2 kq t263 x108_123 t264 t242 = some r) ∧ Aside0 (kq ≤ kj75) ∧ Aside0 (Kd.R (Kd.int .i64) 3 wc w.heap.size (fun k_ => some k_ ≠ ((.slice Ao38 t259.length co38) : Value).ownBlock ∧ some k_ ≠ ((.slice Ao44 t239.length co44) : Value).ownBlock ∧ some k_ ≠ ((.slice Ao142 t275.length co142) : Value).ownBlock) (.slice Ao28 t223.length co28) t223) ∧ Aside0 (Kd.S (Kd.slice 3 (Kd.int .i64)) 23 wc w.heap.size (fun k_ => some k_ ≠ ((.slice Ao28 t223.length co28) : Value).ownBlock ∧ some k_ ≠ ((.slice Ao38 t259.length co38) : Value).ownBlock ∧ some k_ ≠ ((.slice Ao44 t239.length co44) : Value).ownBlock ∧ some k_ ≠ ((.slice Ao142 t275.length co142) : Value).ownBlock) (.slice Ao34 t258.length co34) t258) ∧ Aside0 (Kd.R (Kd.int .i64) 3 wc w.heap.size (fun k_ => some k_ ≠ ((.slice Ao28 t223.length co28) : Value).ownBlock ∧ some k_ ≠ ((.slice Ao44 t239.length co44) : Value).ownBlock ∧ some k_ ≠ ((.slice Ao142 t275.length co142) : Value).ownBlock) (.slice Ao38 t259.length co38) t259) ∧ Aside0 (Kd.R (Kd.int .i64) 3 wc w.heap.size (fun k_ => some k_ ≠ ((.slice Ao28 t223.length co28) : Value).ownBlock ∧ some k_ ≠ ((.slice Ao38 t259.length co38) : Value).ownBlock ∧ some k_ ≠ ((.slice Ao142 t275.length co142) : Value).ownBlock) (.slice Ao44 t239.length co44) t264) ∧ Aside0 (Kd.R (Kd.int .i64) 3 wc w.heap.size (fun k_ => some k_ ≠ ((.slice Ao28 t223.length co28) : Value).ownBlock ∧ some k_ ≠ ((.slice Ao38 t259.length co38) : Value).ownBlock ∧ some k_ ≠ ((.slice Ao44 t239.length co44) : Value).ownBlock) (.slice Ao142 t275.length co142) t275) ∧ Aside0 (wc.heap[gb212]? = some (.cells #[(.slice A0_0 l0_0.length c0_0), (.slice A0_1 l0_1.length c0_1)] 34 (0, 0))) ∧ Aside0 (wc.heap[gb228]? = some (.cells #[(.slice Ao28 t223.length co28), .int .i64 t226] 54 (0, 0))) ∧ Aside0 (wc.heap[gb235]? = some (.cells #[(.slice Ao34 t258.length co34), (.slice Ao38 t259.length co38)] 38 (0, 0))) ∧ Aside0 (wc.heap[gb244]? = some (.cells #[(.slice Ao44 t239.length co44), .int .i64 t242] 54 (0, 0))) ∧ Aside0 (wc.heap[gb280]? = some (.cells #[(.slice Ao142 t275.length co142), .int .i64 t278] 54 (0, 0))) ∧ Aside0 (Below w.heap.size w wc))
             case first =>
              have H := HC124.out
              clear HC124
              replace H := Option.bind_eq_some_iff.mp H
              obtain ⟨t281, A1480, H⟩ := H
              replace H : (if t281 = true then (laws_FnExactPlaneOfCounts.j2 kj75 t263 (t279 != t227) t264 t242) else (laws_FnExactPlaneOfCounts.j2 kj75 t263 true t264 t242)) = some r := H
              have A148 := Aside0.mk A1480
              clear A1480
              by_cases c149 : t281 = true
              ·subst c149
               have H1 : (laws_FnExactPlaneOfCounts.j2 kj75 t263 (t279 != t227) t264 t242) = some r := by rw [if_pos rfl] at H;exact H
               clear H
               have H := H1
               clear H1
               have H' := Aside0.mk H
               clear H
               have hnb150 := NB280_212.out
               have hnc150 := NB212_280.out
               have hnb151 := NB280_228.out
               have hnc151 := NB228_280.out
               have hnb152 := NB280_235.out
               have hnc152 := NB235_280.out
               have hnb153 := NB280_244.out
               have hnc153 := NB244_280.out
               have hcz154_0 : w141.cell? ⟨gb280, 0, none⟩ = some (.slice none 0 0) := (blk_cell BK280.out 0).trans rfl
               have hcz154_1 : w141.cell? ⟨gb280, 1, none⟩ = some (.int .i64 0) := (blk_cell BK280.out 1).trans rfl
               have hfz154_0 := blk_frozen BK280.out 0
               have hfz154_1 := blk_frozen BK280.out 1
               have hnb155 := NB228_212.out
               have hnc155 := NB212_228.out
               have hnb156 := NB228_235.out
               have hnc156 := NB235_228.out
               have hnb157 := NB228_244.out
               have hnc157 := NB244_228.out
               have hcz158_0 : w141.cell? ⟨gb228, 0, none⟩ = some (.slice Ao28 t223.length co28) := (blk_cell BK228.out 0).trans rfl
               have hcz158_1 : w141.cell? ⟨gb228, 1, none⟩ = some (.int .i64 t226) := (blk_cell BK228.out 1).trans rfl
               have hfz158_0 := blk_frozen BK228.out 0
               have hfz158_1 := blk_frozen BK228.out 1
               go_wp2_with (first|((with_reducible refine gate_callee (f := 41) rfl ?_);refine goesL_ (some 102) rfl rfl Try.func41 (by kernel_rfl) rfl #[.agg #[.slice Ao142 t275.length co142, .int .i64 t278], .agg #[.slice Ao28 t223.length co28, .int .i64 t226]] rfl (by (try simp only [List.map_toArray, List.map_cons, List.map_nil]);first|done|rfl|(simp only [List.length_drop, List.length_take];rfl)) ?_;(with_reducible refine (laws_eqPlane.calls kj75 _ _ t275 t278 _ _ t223 t226 true _ ?side1 ?side2 ?side3 ?side4 A148.out).mono ?_);(case side1 => refine (R_reads' (e := 3) (base := w.heap.size) (ok := fun k_ => (((((True ∧ some k_ ≠ (.slice Ao28 t223.length co28 : Value).ownBlock) ∧ some k_ ≠ (.slice Ao38 t259.length co38 : Value).ownBlock) ∧ some k_ ≠ (.slice Ao44 t239.length co44 : Value).ownBlock) ∧ some k_ ≠ (.slice Ao138 t269.length co138 : Value).ownBlock) ∧ some k_ ≠ (.slice Ao139 t272.length co139 : Value).ownBlock)) (n := t275.length) (c := co142) ?_).2.2;exact (by (with_reducible repeat (first|apply R_alloc|apply R_drewN|apply R_drew));exact (R_mono (R_far (p := ⟨gb280, 1, none⟩) (R_far (p := ⟨gb280, 0, none⟩) (R_types HO277.out BK280.out (by decide)) (fun _ hk => hk.2) (.slice Ao142 t275.length co142)) (fun _ hk => hk.2) (.int .i64 t278)) (fun _ h_ => h_.1))));(case side2 => exact (R_reads' HO277.out).2.1);(case side3 => refine (R_reads' (e := 3) (base := w.heap.size) (ok := fun k_ => ((((some k_ ≠ (.slice Ao38 t259.length co38 : Value).ownBlock ∧ some k_ ≠ (.slice Ao44 t239.length co44 : Value).ownBlock) ∧ some k_ ≠ (.slice Ao138 t269.length co138 : Value).ownBlock) ∧ some k_ ≠ (.slice Ao139 t272.length co139 : Value).ownBlock) ∧ some k_ ≠ (.slice Ao142 t275.length co142 : Value).ownBlock)) (n := t223.length) (c := co28) ?_).2.2;exact (by (with_reducible repeat (first|apply R_alloc|apply R_drewN|apply R_drew));exact (R_mono (R_far (p := ⟨gb280, 1, none⟩) (R_far (p := ⟨gb280, 0, none⟩) (R_types HO_229000.out BK280.out (by decide)) (fun _ hk => hk.2) (.slice Ao142 t275.length co142)) (fun _ hk => hk.2) (.int .i64 t278)) (fun _ h_ => h_.1))));(case side4 => exact (R_reads' HO_229000.out).2.1);rintro e w159 ⟨rfl, hb⟩;refine ⟨_, rfl, ?_⟩;have n0_ := Aside0.mk (R_below (by (with_reducible repeat (first|apply R_alloc|apply R_drewN|apply R_drew));exact (R_mono (R_far (p := ⟨gb280, 1, none⟩) (R_far (p := ⟨gb280, 0, none⟩) (R_types HO_229000.out BK280.out (by decide)) (fun _ hk => hk.2) (.slice Ao142 t275.length co142)) (fun _ hk => hk.2) (.int .i64 t278)) (fun _ h_ => h_.1))) hb);have n1_ := Aside0.mk (S_below (by (with_reducible repeat (first|apply S_alloc|apply S_drewN|apply S_drew));exact (S_mono (S_far (p := ⟨gb280, 1, none⟩) (S_far (p := ⟨gb280, 0, none⟩) (S_types HO_236000.out BK280.out (by decide)) (fun _ hk => hk.2) (.slice Ao142 t275.length co142)) (fun _ hk => hk.2) (.int .i64 t278)) (fun _ h_ => h_.1))) hb);have n2_ := Aside0.mk (R_below (by (with_reducible repeat (first|apply R_alloc|apply R_drewN|apply R_drew));exact (R_mono (R_far (p := ⟨gb280, 1, none⟩) (R_far (p := ⟨gb280, 0, none⟩) (R_types HO_236001.out BK280.out (by decide)) (fun _ hk => hk.2) (.slice Ao142 t275.length co142)) (fun _ hk => hk.2) (.int .i64 t278)) (fun _ h_ => h_.1))) hb);have n3_ := Aside0.mk (R_below (by (with_reducible repeat (first|apply R_alloc|apply R_drewN|apply R_drew));exact (R_mono (R_far (p := ⟨gb280, 1, none⟩) (R_far (p := ⟨gb280, 0, none⟩) (R_types HO_245000.out BK280.out (by decide)) (fun _ hk => hk.2) (.slice Ao142 t275.length co142)) (fun _ hk => hk.2) (.int .i64 t278)) (fun _ h_ => h_.1))) hb);have n4_ := Aside0.mk (S_below (by (with_reducible repeat (first|apply S_alloc|apply S_drewN|apply S_drew));exact (S_mono (S_far (p := ⟨gb280, 1, none⟩) (S_far (p := ⟨gb280, 0, none⟩) (S_types HO268.out BK280.out (by decide)) (fun _ hk => hk.2) (.slice Ao142 t275.length co142)) (fun _ hk => hk.2) (.int .i64 t278)) (fun _ h_ => h_.1))) hb);have n5_ := Aside0.mk (R_below (by (with_reducible repeat (first|apply R_alloc|apply R_drewN|apply R_drew));exact (R_mono (R_far (p := ⟨gb280, 1, none⟩) (R_far (p := ⟨gb280, 0, none⟩) (R_types HO271.out BK280.out (by decide)) (fun _ hk => hk.2) (.slice Ao142 t275.length co142)) (fun _ hk => hk.2) (.int .i64 t278)) (fun _ h_ => h_.1))) hb);have n6_ := Aside0.mk (R_below (by (with_reducible repeat (first|apply R_alloc|apply R_drewN|apply R_drew));exact (R_mono (R_far (p := ⟨gb280, 1, none⟩) (R_far (p := ⟨gb280, 0, none⟩) (R_types HO274.out BK280.out (by decide)) (fun _ hk => hk.2) (.slice Ao142 t275.length co142)) (fun _ hk => hk.2) (.int .i64 t278)) (fun _ h_ => h_.1))) hb);have n7_ := Aside0.mk (R_below (by (with_reducible repeat (first|apply R_alloc|apply R_drewN|apply R_drew));exact (R_mono (R_far (p := ⟨gb280, 1, none⟩) (R_far (p := ⟨gb280, 0, none⟩) (R_types HO277.out BK280.out (by decide)) (fun _ hk => hk.2) (.slice Ao142 t275.length co142)) (fun _ hk => hk.2) (.int .i64 t278)) (fun _ h_ => h_.1))) hb);have n8_ := Aside0.mk (blk_below (g := gb212) (o := .cells #[.slice A0_0 l0_0.length c0_0, .slice A0_1 l0_1.length c0_1] 34 (0, 0)) (by (with_reducible repeat (first|refine blk_drewN ?_ _|refine blk_drew ?_|refine blk_alloc ?_ _));refine blk_far ?_ NB212_280.out _;(with_reducible repeat (first|refine blk_drewN ?_ _|refine blk_drew ?_|refine blk_alloc ?_ _));refine blk_far ?_ NB212_280.out _;(with_reducible repeat (first|refine blk_drewN ?_ _|refine blk_drew ?_|refine blk_alloc ?_ _));exact BK212.out) hb);have n9_ := Aside0.mk (blk_below (g := gb228) (o := .cells #[.slice Ao28 t223.length co28, .int .i64 t226] 54 (0, 0)) (by (with_reducible repeat (first|refine blk_drewN ?_ _|refine blk_drew ?_|refine blk_alloc ?_ _));refine blk_far ?_ NB228_280.out _;(with_reducible repeat (first|refine blk_drewN ?_ _|refine blk_drew ?_|refine blk_alloc ?_ _));refine blk_far ?_ NB228_280.out _;(with_reducible repeat (first|refine blk_drewN ?_ _|refine blk_drew ?_|refine blk_alloc ?_ _));exact BK228.out) hb);have n10_ := Aside0.mk (blk_below (g := gb235) (o := .cells #[.slice Ao34 t258.length co34, .slice Ao38 t259.length co38] 38 (0, 0)) (by (with_reducible repeat (first|refine blk_drewN ?_ _|refine blk_drew ?_|refine blk_alloc ?_ _));refine blk_far ?_ NB235_280.out _;(with_reducible repeat (first|refine blk_drewN ?_ _|refine blk_drew ?_|refine blk_alloc ?_ _));refine blk_far ?_ NB235_280.out _;(with_reducible repeat (first|refine blk_drewN ?_ _|refine blk_drew ?_|refine blk_alloc ?_ _));exact BK235.out) hb);have n11_ := Aside0.mk (blk_below (g := gb244) (o := .cells #[.slice Ao44 t239.length co44, .int .i64 t242] 54 (0, 0)) (by (with_reducible repeat (first|refine blk_drewN ?_ _|refine blk_drew ?_|refine blk_alloc ?_ _));refine blk_far ?_ NB244_280.out _;(with_reducible repeat (first|refine blk_drewN ?_ _|refine blk_drew ?_|refine blk_alloc ?_ _));refine blk_far ?_ NB244_280.out _;(with_reducible repeat (first|refine blk_drewN ?_ _|refine blk_drew ?_|refine blk_alloc ?_ _));exact BK244.out) hb);have n12_ := Aside0.mk (blk_below (g := gb280) (o := .cells #[.slice Ao142 t275.length co142, .int .i64 t278] 54 (0, 0)) (by (with_reducible repeat (first|refine blk_drewN ?_ _|refine blk_drew ?_|refine blk_alloc ?_ _));refine blk_put (cs := #[.slice Ao142 t275.length co142, .int .i64 0]) ?_ 1 _ rfl;(with_reducible repeat (first|refine blk_drewN ?_ _|refine blk_drew ?_|refine blk_alloc ?_ _));refine blk_put (cs := #[.slice none 0 0, .int .i64 0]) ?_ 0 _ rfl;(with_reducible repeat (first|refine blk_drewN ?_ _|refine blk_drew ?_|refine blk_alloc ?_ _));exact BK280.out) hb);have n13_ := Aside0.mk (below_step (by repeat (first|(with_reducible first|exact HB.out|apply below_alloc|apply pw_below_drewN|apply below_drew1|refine below_set ?_ GE212.out|refine below_set ?_ GE228.out|refine below_set ?_ GE235.out|refine below_set ?_ GE244.out|refine below_set ?_ GE280.out)|exact HB.out)) hb);clear HO_229000;clear HO_236000;clear HO_236001;clear HO_245000;clear HO268;clear HO271;clear HO274;clear HO277;clear BK212;clear BK228;clear BK235;clear BK244;clear BK280;clear HB;have HO_229000 := n0_;have HO_236000 := n1_;have HO_236001 := n2_;have HO_245000 := n3_;have HO268 := n4_;have HO271 := n5_;have HO274 := n6_;have HO277 := n7_;have BK212 := n8_;have BK228 := n9_;have BK235 := n10_;have BK244 := n11_;have BK280 := n12_;have HB := n13_;clear n0_ n1_ n2_ n3_ n4_ n5_ n6_ n7_ n8_ n9_ n10_ n11_ n12_ n13_;(try clear hb);(try clear hb2);(try clear hk);(try clear hi)))
               go_meet
               case rel => exact ⟨_, ((t279 != t227)), (by first|rfl|(simp;done)|(simp [*];done)), H', ⟨by have := HJ15.out;have := HJ75.out;first|omega|exact Nat.le_refl _⟩, ⟨by (try simp only [hl236000_75]);(try simp only [hl236001_75]);(with_reducible repeat (first|apply R_alloc|apply R_drewN|apply R_drew));exact R_mono HO_229000.out (fun _ hk => by first|exact ⟨hk.1.1.1.1, ⟨hk.1.1.1.2, hk.2⟩⟩|grind)⟩, ⟨by (try simp only [hl236000_75]);(try simp only [hl236001_75]);(with_reducible repeat (first|apply S_alloc|apply S_drewN|apply S_drew));exact S_mono HO_236000.out (fun _ hk => by first|exact ⟨hk.1.1.1.1.1, ⟨hk.1.1.1.1.2.1, ⟨hk.1.1.1.1.2.2, hk.2⟩⟩⟩|grind)⟩, ⟨by (try simp only [hl236000_75]);(try simp only [hl236001_75]);(with_reducible repeat (first|apply R_alloc|apply R_drewN|apply R_drew));exact R_mono HO_236001.out (fun _ hk => by first|exact ⟨hk.1.1.1.1, ⟨hk.1.1.1.2, hk.2⟩⟩|grind)⟩, ⟨by (try simp only [hl236000_75]);(try simp only [hl236001_75]);(with_reducible repeat (first|apply R_alloc|apply R_drewN|apply R_drew));exact R_mono HO_245000.out (fun _ hk => by first|exact ⟨hk.1.1.1.1, ⟨hk.1.1.1.2, hk.2⟩⟩|grind)⟩, ⟨by (try simp only [hl236000_75]);(try simp only [hl236001_75]);(with_reducible repeat (first|apply R_alloc|apply R_drewN|apply R_drew));exact R_mono HO277.out (fun _ hk => by first|exact ⟨hk.1.1.1.1.2, ⟨hk.1.1.1.2, hk.1.1.2⟩⟩|grind)⟩, ⟨by (try simp only [hl236000_75]);(try simp only [hl236001_75]);(with_reducible repeat (first|refine blk_drewN ?_ _|refine blk_drew ?_|refine blk_alloc ?_ _));exact BK212.out⟩, ⟨by (try simp only [hl236000_75]);(try simp only [hl236001_75]);(with_reducible repeat (first|refine blk_drewN ?_ _|refine blk_drew ?_|refine blk_alloc ?_ _));exact BK228.out⟩, ⟨by (try simp only [hl236000_75]);(try simp only [hl236001_75]);(with_reducible repeat (first|refine blk_drewN ?_ _|refine blk_drew ?_|refine blk_alloc ?_ _));exact BK235.out⟩, ⟨by (try simp only [hl236000_75]);(try simp only [hl236001_75]);(with_reducible repeat (first|refine blk_drewN ?_ _|refine blk_drew ?_|refine blk_alloc ?_ _));exact BK244.out⟩, ⟨by (try simp only [hl236000_75]);(try simp only [hl236001_75]);(with_reducible repeat (first|refine blk_drewN ?_ _|refine blk_drew ?_|refine blk_alloc ?_ _));exact BK280.out⟩, ⟨by repeat (first|(with_reducible first|exact HB.out|apply below_alloc|apply pw_below_drewN|apply below_drew1|refine below_set ?_ GE212.out|refine below_set ?_ GE228.out|refine below_set ?_ GE235.out|refine below_set ?_ GE244.out|refine below_set ?_ GE280.out)|exact HB.out)⟩⟩
              ·replace c149 := Bool.eq_false_iff.mpr c149
               subst c149
               have H1 : (laws_FnExactPlaneOfCounts.j2 kj75 t263 true t264 t242) = some r := by rw [if_neg (show ¬ (false = true) by decide)] at H;exact H
               clear H
               have H := H1
               clear H1
               have H' := Aside0.mk H
               clear H
               have hnb160 := NB280_212.out
               have hnc160 := NB212_280.out
               have hnb161 := NB280_228.out
               have hnc161 := NB228_280.out
               have hnb162 := NB280_235.out
               have hnc162 := NB235_280.out
               have hnb163 := NB280_244.out
               have hnc163 := NB244_280.out
               have hcz164_0 : w141.cell? ⟨gb280, 0, none⟩ = some (.slice none 0 0) := (blk_cell BK280.out 0).trans rfl
               have hcz164_1 : w141.cell? ⟨gb280, 1, none⟩ = some (.int .i64 0) := (blk_cell BK280.out 1).trans rfl
               have hfz164_0 := blk_frozen BK280.out 0
               have hfz164_1 := blk_frozen BK280.out 1
               have hnb165 := NB228_212.out
               have hnc165 := NB212_228.out
               have hnb166 := NB228_235.out
               have hnc166 := NB235_228.out
               have hnb167 := NB228_244.out
               have hnc167 := NB244_228.out
               have hcz168_0 : w141.cell? ⟨gb228, 0, none⟩ = some (.slice Ao28 t223.length co28) := (blk_cell BK228.out 0).trans rfl
               have hcz168_1 : w141.cell? ⟨gb228, 1, none⟩ = some (.int .i64 t226) := (blk_cell BK228.out 1).trans rfl
               have hfz168_0 := blk_frozen BK228.out 0
               have hfz168_1 := blk_frozen BK228.out 1
               go_wp2_with (first|((with_reducible refine gate_callee (f := 41) rfl ?_);refine goesL_ (some 102) rfl rfl Try.func41 (by kernel_rfl) rfl #[.agg #[.slice Ao142 t275.length co142, .int .i64 t278], .agg #[.slice Ao28 t223.length co28, .int .i64 t226]] rfl (by (try simp only [List.map_toArray, List.map_cons, List.map_nil]);first|done|rfl|(simp only [List.length_drop, List.length_take];rfl)) ?_;(with_reducible refine (laws_eqPlane.calls kj75 _ _ t275 t278 _ _ t223 t226 false _ ?side1 ?side2 ?side3 ?side4 A148.out).mono ?_);(case side1 => refine (R_reads' (e := 3) (base := w.heap.size) (ok := fun k_ => (((((True ∧ some k_ ≠ (.slice Ao28 t223.length co28 : Value).ownBlock) ∧ some k_ ≠ (.slice Ao38 t259.length co38 : Value).ownBlock) ∧ some k_ ≠ (.slice Ao44 t239.length co44 : Value).ownBlock) ∧ some k_ ≠ (.slice Ao138 t269.length co138 : Value).ownBlock) ∧ some k_ ≠ (.slice Ao139 t272.length co139 : Value).ownBlock)) (n := t275.length) (c := co142) ?_).2.2;exact (by (with_reducible repeat (first|apply R_alloc|apply R_drewN|apply R_drew));exact (R_mono (R_far (p := ⟨gb280, 1, none⟩) (R_far (p := ⟨gb280, 0, none⟩) (R_types HO277.out BK280.out (by decide)) (fun _ hk => hk.2) (.slice Ao142 t275.length co142)) (fun _ hk => hk.2) (.int .i64 t278)) (fun _ h_ => h_.1))));(case side2 => exact (R_reads' HO277.out).2.1);(case side3 => refine (R_reads' (e := 3) (base := w.heap.size) (ok := fun k_ => ((((some k_ ≠ (.slice Ao38 t259.length co38 : Value).ownBlock ∧ some k_ ≠ (.slice Ao44 t239.length co44 : Value).ownBlock) ∧ some k_ ≠ (.slice Ao138 t269.length co138 : Value).ownBlock) ∧ some k_ ≠ (.slice Ao139 t272.length co139 : Value).ownBlock) ∧ some k_ ≠ (.slice Ao142 t275.length co142 : Value).ownBlock)) (n := t223.length) (c := co28) ?_).2.2;exact (by (with_reducible repeat (first|apply R_alloc|apply R_drewN|apply R_drew));exact (R_mono (R_far (p := ⟨gb280, 1, none⟩) (R_far (p := ⟨gb280, 0, none⟩) (R_types HO_229000.out BK280.out (by decide)) (fun _ hk => hk.2) (.slice Ao142 t275.length co142)) (fun _ hk => hk.2) (.int .i64 t278)) (fun _ h_ => h_.1))));(case side4 => exact (R_reads' HO_229000.out).2.1);rintro e w169 ⟨rfl, hb⟩;refine ⟨_, rfl, ?_⟩;have n0_ := Aside0.mk (R_below (by (with_reducible repeat (first|apply R_alloc|apply R_drewN|apply R_drew));exact (R_mono (R_far (p := ⟨gb280, 1, none⟩) (R_far (p := ⟨gb280, 0, none⟩) (R_types HO_229000.out BK280.out (by decide)) (fun _ hk => hk.2) (.slice Ao142 t275.length co142)) (fun _ hk => hk.2) (.int .i64 t278)) (fun _ h_ => h_.1))) hb);have n1_ := Aside0.mk (S_below (by (with_reducible repeat (first|apply S_alloc|apply S_drewN|apply S_drew));exact (S_mono (S_far (p := ⟨gb280, 1, none⟩) (S_far (p := ⟨gb280, 0, none⟩) (S_types HO_236000.out BK280.out (by decide)) (fun _ hk => hk.2) (.slice Ao142 t275.length co142)) (fun _ hk => hk.2) (.int .i64 t278)) (fun _ h_ => h_.1))) hb);have n2_ := Aside0.mk (R_below (by (with_reducible repeat (first|apply R_alloc|apply R_drewN|apply R_drew));exact (R_mono (R_far (p := ⟨gb280, 1, none⟩) (R_far (p := ⟨gb280, 0, none⟩) (R_types HO_236001.out BK280.out (by decide)) (fun _ hk => hk.2) (.slice Ao142 t275.length co142)) (fun _ hk => hk.2) (.int .i64 t278)) (fun _ h_ => h_.1))) hb);have n3_ := Aside0.mk (R_below (by (with_reducible repeat (first|apply R_alloc|apply R_drewN|apply R_drew));exact (R_mono (R_far (p := ⟨gb280, 1, none⟩) (R_far (p := ⟨gb280, 0, none⟩) (R_types HO_245000.out BK280.out (by decide)) (fun _ hk => hk.2) (.slice Ao142 t275.length co142)) (fun _ hk => hk.2) (.int .i64 t278)) (fun _ h_ => h_.1))) hb);have n4_ := Aside0.mk (S_below (by (with_reducible repeat (first|apply S_alloc|apply S_drewN|apply S_drew));exact (S_mono (S_far (p := ⟨gb280, 1, none⟩) (S_far (p := ⟨gb280, 0, none⟩) (S_types HO268.out BK280.out (by decide)) (fun _ hk => hk.2) (.slice Ao142 t275.length co142)) (fun _ hk => hk.2) (.int .i64 t278)) (fun _ h_ => h_.1))) hb);have n5_ := Aside0.mk (R_below (by (with_reducible repeat (first|apply R_alloc|apply R_drewN|apply R_drew));exact (R_mono (R_far (p := ⟨gb280, 1, none⟩) (R_far (p := ⟨gb280, 0, none⟩) (R_types HO271.out BK280.out (by decide)) (fun _ hk => hk.2) (.slice Ao142 t275.length co142)) (fun _ hk => hk.2) (.int .i64 t278)) (fun _ h_ => h_.1))) hb);have n6_ := Aside0.mk (R_below (by (with_reducible repeat (first|apply R_alloc|apply R_drewN|apply R_drew));exact (R_mono (R_far (p := ⟨gb280, 1, none⟩) (R_far (p := ⟨gb280, 0, none⟩) (R_types HO274.out BK280.out (by decide)) (fun _ hk => hk.2) (.slice Ao142 t275.length co142)) (fun _ hk => hk.2) (.int .i64 t278)) (fun _ h_ => h_.1))) hb);have n7_ := Aside0.mk (R_below (by (with_reducible repeat (first|apply R_alloc|apply R_drewN|apply R_drew));exact (R_mono (R_far (p := ⟨gb280, 1, none⟩) (R_far (p := ⟨gb280, 0, none⟩) (R_types HO277.out BK280.out (by decide)) (fun _ hk => hk.2) (.slice Ao142 t275.length co142)) (fun _ hk => hk.2) (.int .i64 t278)) (fun _ h_ => h_.1))) hb);have n8_ := Aside0.mk (blk_below (g := gb212) (o := .cells #[.slice A0_0 l0_0.length c0_0, .slice A0_1 l0_1.length c0_1] 34 (0, 0)) (by (with_reducible repeat (first|refine blk_drewN ?_ _|refine blk_drew ?_|refine blk_alloc ?_ _));refine blk_far ?_ NB212_280.out _;(with_reducible repeat (first|refine blk_drewN ?_ _|refine blk_drew ?_|refine blk_alloc ?_ _));refine blk_far ?_ NB212_280.out _;(with_reducible repeat (first|refine blk_drewN ?_ _|refine blk_drew ?_|refine blk_alloc ?_ _));exact BK212.out) hb);have n9_ := Aside0.mk (blk_below (g := gb228) (o := .cells #[.slice Ao28 t223.length co28, .int .i64 t226] 54 (0, 0)) (by (with_reducible repeat (first|refine blk_drewN ?_ _|refine blk_drew ?_|refine blk_alloc ?_ _));refine blk_far ?_ NB228_280.out _;(with_reducible repeat (first|refine blk_drewN ?_ _|refine blk_drew ?_|refine blk_alloc ?_ _));refine blk_far ?_ NB228_280.out _;(with_reducible repeat (first|refine blk_drewN ?_ _|refine blk_drew ?_|refine blk_alloc ?_ _));exact BK228.out) hb);have n10_ := Aside0.mk (blk_below (g := gb235) (o := .cells #[.slice Ao34 t258.length co34, .slice Ao38 t259.length co38] 38 (0, 0)) (by (with_reducible repeat (first|refine blk_drewN ?_ _|refine blk_drew ?_|refine blk_alloc ?_ _));refine blk_far ?_ NB235_280.out _;(with_reducible repeat (first|refine blk_drewN ?_ _|refine blk_drew ?_|refine blk_alloc ?_ _));refine blk_far ?_ NB235_280.out _;(with_reducible repeat (first|refine blk_drewN ?_ _|refine blk_drew ?_|refine blk_alloc ?_ _));exact BK235.out) hb);have n11_ := Aside0.mk (blk_below (g := gb244) (o := .cells #[.slice Ao44 t239.length co44, .int .i64 t242] 54 (0, 0)) (by (with_reducible repeat (first|refine blk_drewN ?_ _|refine blk_drew ?_|refine blk_alloc ?_ _));refine blk_far ?_ NB244_280.out _;(with_reducible repeat (first|refine blk_drewN ?_ _|refine blk_drew ?_|refine blk_alloc ?_ _));refine blk_far ?_ NB244_280.out _;(with_reducible repeat (first|refine blk_drewN ?_ _|refine blk_drew ?_|refine blk_alloc ?_ _));exact BK244.out) hb);have n12_ := Aside0.mk (blk_below (g := gb280) (o := .cells #[.slice Ao142 t275.length co142, .int .i64 t278] 54 (0, 0)) (by (with_reducible repeat (first|refine blk_drewN ?_ _|refine blk_drew ?_|refine blk_alloc ?_ _));refine blk_put (cs := #[.slice Ao142 t275.length co142, .int .i64 0]) ?_ 1 _ rfl;(with_reducible repeat (first|refine blk_drewN ?_ _|refine blk_drew ?_|refine blk_alloc ?_ _));refine blk_put (cs := #[.slice none 0 0, .int .i64 0]) ?_ 0 _ rfl;(with_reducible repeat (first|refine blk_drewN ?_ _|refine blk_drew ?_|refine blk_alloc ?_ _));exact BK280.out) hb);have n13_ := Aside0.mk (below_step (by repeat (first|(with_reducible first|exact HB.out|apply below_alloc|apply pw_below_drewN|apply below_drew1|refine below_set ?_ GE212.out|refine below_set ?_ GE228.out|refine below_set ?_ GE235.out|refine below_set ?_ GE244.out|refine below_set ?_ GE280.out)|exact HB.out)) hb);clear HO_229000;clear HO_236000;clear HO_236001;clear HO_245000;clear HO268;clear HO271;clear HO274;clear HO277;clear BK212;clear BK228;clear BK235;clear BK244;clear BK280;clear HB;have HO_229000 := n0_;have HO_236000 := n1_;have HO_236001 := n2_;have HO_245000 := n3_;have HO268 := n4_;have HO271 := n5_;have HO274 := n6_;have HO277 := n7_;have BK212 := n8_;have BK228 := n9_;have BK235 := n10_;have BK244 := n11_;have BK280 := n12_;have HB := n13_;clear n0_ n1_ n2_ n3_ n4_ n5_ n6_ n7_ n8_ n9_ n10_ n11_ n12_ n13_;(try clear hb);(try clear hb2);(try clear hk);(try clear hi)))
               go_meet
               case rel => exact ⟨_, (true), (by first|rfl|(simp;done)|(simp [*];done)), H', ⟨by have := HJ15.out;have := HJ75.out;first|omega|exact Nat.le_refl _⟩, ⟨by (try simp only [hl236000_75]);(try simp only [hl236001_75]);(with_reducible repeat (first|apply R_alloc|apply R_drewN|apply R_drew));exact R_mono HO_229000.out (fun _ hk => by first|exact ⟨hk.1.1.1.1, ⟨hk.1.1.1.2, hk.2⟩⟩|grind)⟩, ⟨by (try simp only [hl236000_75]);(try simp only [hl236001_75]);(with_reducible repeat (first|apply S_alloc|apply S_drewN|apply S_drew));exact S_mono HO_236000.out (fun _ hk => by first|exact ⟨hk.1.1.1.1.1, ⟨hk.1.1.1.1.2.1, ⟨hk.1.1.1.1.2.2, hk.2⟩⟩⟩|grind)⟩, ⟨by (try simp only [hl236000_75]);(try simp only [hl236001_75]);(with_reducible repeat (first|apply R_alloc|apply R_drewN|apply R_drew));exact R_mono HO_236001.out (fun _ hk => by first|exact ⟨hk.1.1.1.1, ⟨hk.1.1.1.2, hk.2⟩⟩|grind)⟩, ⟨by (try simp only [hl236000_75]);(try simp only [hl236001_75]);(with_reducible repeat (first|apply R_alloc|apply R_drewN|apply R_drew));exact R_mono HO_245000.out (fun _ hk => by first|exact ⟨hk.1.1.1.1, ⟨hk.1.1.1.2, hk.2⟩⟩|grind)⟩, ⟨by (try simp only [hl236000_75]);(try simp only [hl236001_75]);(with_reducible repeat (first|apply R_alloc|apply R_drewN|apply R_drew));exact R_mono HO277.out (fun _ hk => by first|exact ⟨hk.1.1.1.1.2, ⟨hk.1.1.1.2, hk.1.1.2⟩⟩|grind)⟩, ⟨by (try simp only [hl236000_75]);(try simp only [hl236001_75]);(with_reducible repeat (first|refine blk_drewN ?_ _|refine blk_drew ?_|refine blk_alloc ?_ _));exact BK212.out⟩, ⟨by (try simp only [hl236000_75]);(try simp only [hl236001_75]);(with_reducible repeat (first|refine blk_drewN ?_ _|refine blk_drew ?_|refine blk_alloc ?_ _));exact BK228.out⟩, ⟨by (try simp only [hl236000_75]);(try simp only [hl236001_75]);(with_reducible repeat (first|refine blk_drewN ?_ _|refine blk_drew ?_|refine blk_alloc ?_ _));exact BK235.out⟩, ⟨by (try simp only [hl236000_75]);(try simp only [hl236001_75]);(with_reducible repeat (first|refine blk_drewN ?_ _|refine blk_drew ?_|refine blk_alloc ?_ _));exact BK244.out⟩, ⟨by (try simp only [hl236000_75]);(try simp only [hl236001_75]);(with_reducible repeat (first|refine blk_drewN ?_ _|refine blk_drew ?_|refine blk_alloc ?_ _));exact BK280.out⟩, ⟨by repeat (first|(with_reducible first|exact HB.out|apply below_alloc|apply pw_below_drewN|apply below_drew1|refine below_set ?_ GE212.out|refine below_set ?_ GE228.out|refine below_set ?_ GE235.out|refine below_set ?_ GE244.out|refine below_set ?_ GE280.out)|exact HB.out)⟩⟩
             case rest =>
              clear HC124
              try clear c1
              try clear c2
              try clear p2
              try clear c3
              try clear c3b0
              try clear c3b1
              try clear c4
              try clear c5
              try clear c6
              try clear c6b0
              try clear c7
              try clear c8
              try clear c9
              try clear c10
              try clear c11
              try clear c12
              try clear c13
              try clear c14
              try clear c15
              try clear c16
              try clear c18
              try clear c20
              try clear c23
              try clear c25
              try clear c27
              try clear c29
              try clear c32
              try clear c35
              try clear c36
              try clear c41
              try clear c45
              try clear c46
              try clear c47
              try clear c48
              try clear c49
              try clear c50
              try clear c51
              try clear c52
              try clear c53
              try clear c55
              try clear c56
              try clear c59
              try clear c60
              try clear c61
              try clear c63
              try clear c64
              try clear c67
              try clear c70
              try clear c73
              try clear c84
              try clear c85
              try clear c86
              try clear c90
              try clear c90b0
              try clear c92
              try clear c93
              try clear c94
              try clear c95
              try clear c97
              try clear c98
              try clear c101
              try clear c102
              try clear c103
              try clear c105
              try clear c106
              try clear c109
              try clear c112
              try clear c112b0
              try clear c113
              try clear c114
              try clear c115
              try clear c120
              try clear c120b0
              try clear c120b1
              try clear c125
              try clear c126
              try clear c127
              try clear c132
              try clear c133
              try clear c143
              try clear c144
              try clear c145
              try clear c146
              try clear c149
              try clear c150
              try clear c151
              try clear c152
              try clear c153
              try clear c155
              try clear c156
              try clear c157
              try clear c160
              try clear c161
              try clear c162
              try clear c163
              try clear c165
              try clear c166
              try clear c167
              try clear hcz104_0
              try clear hcz104_1
              try clear hcz107_0
              try clear hcz107_1
              try clear hcz116_0
              try clear hcz116_1
              try clear hcz118_0
              try clear hcz118_1
              try clear hcz128_0
              try clear hcz128_1
              try clear hcz130_0
              try clear hcz130_1
              try clear hcz134_0
              try clear hcz134_1
              try clear hcz147_0
              try clear hcz147_1
              try clear hcz154_0
              try clear hcz154_1
              try clear hcz158_0
              try clear hcz158_1
              try clear hcz164_0
              try clear hcz164_1
              try clear hcz168_0
              try clear hcz168_1
              try clear hcz18_0
              try clear hcz18_1
              try clear hcz20_0
              try clear hcz20_1
              try clear hcz30_0
              try clear hcz30_1
              try clear hcz31_0
              try clear hcz31_1
              try clear hcz37_0
              try clear hcz37_1
              try clear hcz40_0
              try clear hcz40_1
              try clear hcz48_0
              try clear hcz48_1
              try clear hcz54_0
              try clear hcz54_1
              try clear hcz57_0
              try clear hcz57_1
              try clear hcz62_0
              try clear hcz62_1
              try clear hcz65_0
              try clear hcz65_1
              try clear hcz87_0
              try clear hcz87_1
              try clear hcz8_0
              try clear hcz8_1
              try clear hcz96_0
              try clear hcz96_1
              try clear hcz99_0
              try clear hcz99_1
              try clear hfz104_0
              try clear hfz104_1
              try clear hfz107_0
              try clear hfz107_1
              try clear hfz116_0
              try clear hfz116_1
              try clear hfz118_0
              try clear hfz118_1
              try clear hfz128_0
              try clear hfz128_1
              try clear hfz130_0
              try clear hfz130_1
              try clear hfz134_0
              try clear hfz134_1
              try clear hfz147_0
              try clear hfz147_1
              try clear hfz154_0
              try clear hfz154_1
              try clear hfz158_0
              try clear hfz158_1
              try clear hfz164_0
              try clear hfz164_1
              try clear hfz168_0
              try clear hfz168_1
              try clear hfz18_0
              try clear hfz18_1
              try clear hfz20_0
              try clear hfz20_1
              try clear hfz30_0
              try clear hfz30_1
              try clear hfz31_0
              try clear hfz31_1
              try clear hfz37_0
              try clear hfz37_1
              try clear hfz40_0
              try clear hfz40_1
              try clear hfz48_0
              try clear hfz48_1
              try clear hfz54_0
              try clear hfz54_1
              try clear hfz57_0
              try clear hfz57_1
              try clear hfz62_0
              try clear hfz62_1
              try clear hfz65_0
              try clear hfz65_1
              try clear hfz87_0
              try clear hfz87_1
              try clear hfz8_0
              try clear hfz8_1
              try clear hfz96_0
              try clear hfz96_1
              try clear hfz99_0
              try clear hfz99_1
              try clear p2
              obtain ⟨kq, x108_123, rfl, HA, HJ123, HO_229000, HO_236000, HO_236001, HO_245000, HO_281000, BK212, BK228, BK235, BK244, BK280, HB⟩ := hcut
              have hl245000_123 := (R_reads' HO_245000.out).1
              rw [hl245000_123] at HO_245000
              (try simp only [hl245000_123])
              (try simp only [hl245000_123] at BK212)
              (try simp only [hl245000_123] at BK228)
              (try simp only [hl245000_123] at BK235)
              (try simp only [hl245000_123] at BK244)
              (try simp only [hl245000_123] at BK280)
              (try simp only [hl245000_123] at HO_229000)
              (try simp only [hl245000_123] at HO_236000)
              (try simp only [hl245000_123] at HO_236001)
              (try simp only [hl245000_123] at HO_281000)
              cases kq with
             |zero => exact absurd HA.out (by simp [laws_FnExactPlaneOfCounts.j2])
             |succ kj123 =>
               have H := HA.out
               clear HA
               simp only [laws_FnExactPlaneOfCounts.j2] at H
               by_cases c170 : x108_123 = true
               ·subst c170
                have H1 : (some false) = some r := by rw [if_pos rfl] at H;exact H
                clear H
                have H := H1
                clear H1
                obtain rfl := Option.some.inj H
                go_wp2
                go_ret
                exact ⟨by first|rfl|(simp [errW_none, errW_some] <;> rfl)|(simp [*, errW_none, errW_some] <;> rfl), by repeat (first|(with_reducible first|exact HB.out|apply below_alloc|apply pw_below_drewN|apply below_drew1|refine below_set ?_ GE212.out|refine below_set ?_ GE228.out|refine below_set ?_ GE235.out|refine below_set ?_ GE244.out|refine below_set ?_ GE280.out)|exact HB.out)⟩
               ·replace c170 := Bool.eq_false_iff.mpr c170
                subst c170
                have H1 : ((laws_heldPlane.f kj123 t264 t242 1).bind fun t282 => (if t282 < 0 then (some false) else (if t282 = t263 then (some true) else (some false)))) = some r := by rw [if_neg (show ¬ (false = true) by decide)] at H;exact H
                clear H
                have H := H1
                clear H1
                replace H := Option.bind_eq_some_iff.mp H
                obtain ⟨t282, A1710, H⟩ := H
                replace H : (if t282 < 0 then (some false) else (if t282 = t263 then (some true) else (some false))) = some r := H
                have A171 := Aside0.mk A1710
                clear A1710
                by_cases c172 : t282 < 0
                ·rw [if_pos c172] at H
                 have c172b0 : decide (t282 < 0) = true := decide_eq_true c172
                 clear c172
                 obtain rfl := Option.some.inj H
                 have hnb173 := NB244_212.out
                 have hnc173 := NB212_244.out
                 have hnb174 := NB244_228.out
                 have hnc174 := NB228_244.out
                 have hnb175 := NB244_235.out
                 have hnc175 := NB235_244.out
                 have hnb176 := NB244_280.out
                 have hnc176 := NB280_244.out
                 have hcz177_0 : wc.cell? ⟨gb244, 0, none⟩ = some (.slice Ao44 t264.length co44) := (blk_cell BK244.out 0).trans rfl
                 have hcz177_1 : wc.cell? ⟨gb244, 1, none⟩ = some (.int .i64 t242) := (blk_cell BK244.out 1).trans rfl
                 have hfz177_0 := blk_frozen BK244.out 0
                 have hfz177_1 := blk_frozen BK244.out 1
                 go_wp2_with (first|((with_reducible refine gate_callee (f := 49) rfl ?_);refine goesL_ (some 111) rfl rfl Try.func49 (by kernel_rfl) rfl #[.agg #[.slice Ao44 t264.length co44, .int .i64 t242], .int .i64 1] rfl (by (try simp only [List.map_toArray, List.map_cons, List.map_nil]);first|done|rfl|(simp only [List.length_drop, List.length_take];rfl)) ?_;(with_reducible refine (laws_heldPlane.calls kj123 _ _ t264 t242 1 t282 _ ?side1 ?side2 A171.out).mono ?_);(case side1 => repeat (first|exact (R_reads' HO_245000.out).2.2|(with_reducible refine C_alloc ?_ _)|(with_reducible refine C_drewN ?_ _)|(with_reducible refine C_drew ?_)));(case side2 => exact (R_reads' HO_245000.out).2.1);rintro e w178 ⟨rfl, hb⟩;refine ⟨_, rfl, ?_⟩;have n0_ := Aside0.mk (R_below (by (with_reducible repeat (first|apply R_alloc|apply R_drewN|apply R_drew));exact HO_229000.out) hb);have n1_ := Aside0.mk (S_below (by (with_reducible repeat (first|apply S_alloc|apply S_drewN|apply S_drew));exact HO_236000.out) hb);have n2_ := Aside0.mk (R_below (by (with_reducible repeat (first|apply R_alloc|apply R_drewN|apply R_drew));exact HO_236001.out) hb);have n3_ := Aside0.mk (R_below (by (with_reducible repeat (first|apply R_alloc|apply R_drewN|apply R_drew));exact HO_245000.out) hb);have n4_ := Aside0.mk (R_below (by (with_reducible repeat (first|apply R_alloc|apply R_drewN|apply R_drew));exact HO_281000.out) hb);have n5_ := Aside0.mk (blk_below (g := gb212) (o := .cells #[.slice A0_0 l0_0.length c0_0, .slice A0_1 l0_1.length c0_1] 34 (0, 0)) (by (with_reducible repeat (first|refine blk_drewN ?_ _|refine blk_drew ?_|refine blk_alloc ?_ _));exact BK212.out) hb);have n6_ := Aside0.mk (blk_below (g := gb228) (o := .cells #[.slice Ao28 t223.length co28, .int .i64 t226] 54 (0, 0)) (by (with_reducible repeat (first|refine blk_drewN ?_ _|refine blk_drew ?_|refine blk_alloc ?_ _));exact BK228.out) hb);have n7_ := Aside0.mk (blk_below (g := gb235) (o := .cells #[.slice Ao34 t258.length co34, .slice Ao38 t259.length co38] 38 (0, 0)) (by (with_reducible repeat (first|refine blk_drewN ?_ _|refine blk_drew ?_|refine blk_alloc ?_ _));exact BK235.out) hb);have n8_ := Aside0.mk (blk_below (g := gb244) (o := .cells #[.slice Ao44 t264.length co44, .int .i64 t242] 54 (0, 0)) (by (with_reducible repeat (first|refine blk_drewN ?_ _|refine blk_drew ?_|refine blk_alloc ?_ _));exact BK244.out) hb);have n9_ := Aside0.mk (blk_below (g := gb280) (o := .cells #[.slice Ao142 t275.length co142, .int .i64 t278] 54 (0, 0)) (by (with_reducible repeat (first|refine blk_drewN ?_ _|refine blk_drew ?_|refine blk_alloc ?_ _));exact BK280.out) hb);have n10_ := Aside0.mk (below_step (by repeat (first|(with_reducible first|exact HB.out|apply below_alloc|apply pw_below_drewN|apply below_drew1|refine below_set ?_ GE212.out|refine below_set ?_ GE228.out|refine below_set ?_ GE235.out|refine below_set ?_ GE244.out|refine below_set ?_ GE280.out)|exact HB.out)) hb);clear HO_229000;clear HO_236000;clear HO_236001;clear HO_245000;clear HO_281000;clear BK212;clear BK228;clear BK235;clear BK244;clear BK280;clear HB;have HO_229000 := n0_;have HO_236000 := n1_;have HO_236001 := n2_;have HO_245000 := n3_;have HO_281000 := n4_;have BK212 := n5_;have BK228 := n6_;have BK235 := n7_;have BK244 := n8_;have BK280 := n9_;have HB := n10_;clear n0_ n1_ n2_ n3_ n4_ n5_ n6_ n7_ n8_ n9_ n10_;(try clear hb);(try clear hb2);(try clear hk);(try clear hi)))
                 go_ret
                 exact ⟨by first|rfl|(simp [errW_none, errW_some] <;> rfl)|(simp [*, errW_none, errW_some] <;> rfl), by repeat (first|(with_reducible first|exact HB.out|apply below_alloc|apply pw_below_drewN|apply below_drew1|refine below_set ?_ GE212.out|refine below_set ?_ GE228.out|refine below_set ?_ GE235.out|refine below_set ?_ GE244.out|refine below_set ?_ GE280.out)|exact HB.out)⟩
                ·rw [if_neg c172] at H
                 have c172b0 : decide (t282 < 0) = false := decide_eq_false c172
                 clear c172
                 by_cases c179 : t282 = t263
                 ·rw [if_pos c179] at H
                  have c179b0 : (t282 == t263) = true := beq_iff_eq.mpr c179
                  have c179b1 : (t282 != t263) = false := bne_eq_false_iff_eq.mpr c179
                  clear c179
                  obtain rfl := Option.some.inj H
                  have hnb180 := NB244_212.out
                  have hnc180 := NB212_244.out
                  have hnb181 := NB244_228.out
                  have hnc181 := NB228_244.out
                  have hnb182 := NB244_235.out
                  have hnc182 := NB235_244.out
                  have hnb183 := NB244_280.out
                  have hnc183 := NB280_244.out
                  have hcz184_0 : wc.cell? ⟨gb244, 0, none⟩ = some (.slice Ao44 t264.length co44) := (blk_cell BK244.out 0).trans rfl
                  have hcz184_1 : wc.cell? ⟨gb244, 1, none⟩ = some (.int .i64 t242) := (blk_cell BK244.out 1).trans rfl
                  have hfz184_0 := blk_frozen BK244.out 0
                  have hfz184_1 := blk_frozen BK244.out 1
                  go_wp2_with (first|((with_reducible refine gate_callee (f := 49) rfl ?_);refine goesL_ (some 111) rfl rfl Try.func49 (by kernel_rfl) rfl #[.agg #[.slice Ao44 t264.length co44, .int .i64 t242], .int .i64 1] rfl (by (try simp only [List.map_toArray, List.map_cons, List.map_nil]);first|done|rfl|(simp only [List.length_drop, List.length_take];rfl)) ?_;(with_reducible refine (laws_heldPlane.calls kj123 _ _ t264 t242 1 t282 _ ?side1 ?side2 A171.out).mono ?_);(case side1 => repeat (first|exact (R_reads' HO_245000.out).2.2|(with_reducible refine C_alloc ?_ _)|(with_reducible refine C_drewN ?_ _)|(with_reducible refine C_drew ?_)));(case side2 => exact (R_reads' HO_245000.out).2.1);rintro e w185 ⟨rfl, hb⟩;refine ⟨_, rfl, ?_⟩;have n0_ := Aside0.mk (R_below (by (with_reducible repeat (first|apply R_alloc|apply R_drewN|apply R_drew));exact HO_229000.out) hb);have n1_ := Aside0.mk (S_below (by (with_reducible repeat (first|apply S_alloc|apply S_drewN|apply S_drew));exact HO_236000.out) hb);have n2_ := Aside0.mk (R_below (by (with_reducible repeat (first|apply R_alloc|apply R_drewN|apply R_drew));exact HO_236001.out) hb);have n3_ := Aside0.mk (R_below (by (with_reducible repeat (first|apply R_alloc|apply R_drewN|apply R_drew));exact HO_245000.out) hb);have n4_ := Aside0.mk (R_below (by (with_reducible repeat (first|apply R_alloc|apply R_drewN|apply R_drew));exact HO_281000.out) hb);have n5_ := Aside0.mk (blk_below (g := gb212) (o := .cells #[.slice A0_0 l0_0.length c0_0, .slice A0_1 l0_1.length c0_1] 34 (0, 0)) (by (with_reducible repeat (first|refine blk_drewN ?_ _|refine blk_drew ?_|refine blk_alloc ?_ _));exact BK212.out) hb);have n6_ := Aside0.mk (blk_below (g := gb228) (o := .cells #[.slice Ao28 t223.length co28, .int .i64 t226] 54 (0, 0)) (by (with_reducible repeat (first|refine blk_drewN ?_ _|refine blk_drew ?_|refine blk_alloc ?_ _));exact BK228.out) hb);have n7_ := Aside0.mk (blk_below (g := gb235) (o := .cells #[.slice Ao34 t258.length co34, .slice Ao38 t259.length co38] 38 (0, 0)) (by (with_reducible repeat (first|refine blk_drewN ?_ _|refine blk_drew ?_|refine blk_alloc ?_ _));exact BK235.out) hb);have n8_ := Aside0.mk (blk_below (g := gb244) (o := .cells #[.slice Ao44 t264.length co44, .int .i64 t242] 54 (0, 0)) (by (with_reducible repeat (first|refine blk_drewN ?_ _|refine blk_drew ?_|refine blk_alloc ?_ _));exact BK244.out) hb);have n9_ := Aside0.mk (blk_below (g := gb280) (o := .cells #[.slice Ao142 t275.length co142, .int .i64 t278] 54 (0, 0)) (by (with_reducible repeat (first|refine blk_drewN ?_ _|refine blk_drew ?_|refine blk_alloc ?_ _));exact BK280.out) hb);have n10_ := Aside0.mk (below_step (by repeat (first|(with_reducible first|exact HB.out|apply below_alloc|apply pw_below_drewN|apply below_drew1|refine below_set ?_ GE212.out|refine below_set ?_ GE228.out|refine below_set ?_ GE235.out|refine below_set ?_ GE244.out|refine below_set ?_ GE280.out)|exact HB.out)) hb);clear HO_229000;clear HO_236000;clear HO_236001;clear HO_245000;clear HO_281000;clear BK212;clear BK228;clear BK235;clear BK244;clear BK280;clear HB;have HO_229000 := n0_;have HO_236000 := n1_;have HO_236001 := n2_;have HO_245000 := n3_;have HO_281000 := n4_;have BK212 := n5_;have BK228 := n6_;have BK235 := n7_;have BK244 := n8_;have BK280 := n9_;have HB := n10_;clear n0_ n1_ n2_ n3_ n4_ n5_ n6_ n7_ n8_ n9_ n10_;(try clear hb);(try clear hb2);(try clear hk);(try clear hi)))
                  go_ret
                  exact ⟨by first|rfl|(simp [errW_none, errW_some] <;> rfl)|(simp [*, errW_none, errW_some] <;> rfl), by repeat (first|(with_reducible first|exact HB.out|apply below_alloc|apply pw_below_drewN|apply below_drew1|refine below_set ?_ GE212.out|refine below_set ?_ GE228.out|refine below_set ?_ GE235.out|refine below_set ?_ GE244.out|refine below_set ?_ GE280.out)|exact HB.out)⟩
                 ·rw [if_neg c179] at H
                  have c179b0 : (t282 == t263) = false := beq_eq_false_iff_ne.mpr c179
                  have c179b1 : (t282 != t263) = true := bne_iff_ne.mpr c179
                  obtain rfl := Option.some.inj H
                  have hnb186 := NB244_212.out
                  have hnc186 := NB212_244.out
                  have hnb187 := NB244_228.out
                  have hnc187 := NB228_244.out
                  have hnb188 := NB244_235.out
                  have hnc188 := NB235_244.out
                  have hnb189 := NB244_280.out
                  have hnc189 := NB280_244.out
                  have hcz190_0 : wc.cell? ⟨gb244, 0, none⟩ = some (.slice Ao44 t264.length co44) := (blk_cell BK244.out 0).trans rfl
                  have hcz190_1 : wc.cell? ⟨gb244, 1, none⟩ = some (.int .i64 t242) := (blk_cell BK244.out 1).trans rfl
                  have hfz190_0 := blk_frozen BK244.out 0
                  have hfz190_1 := blk_frozen BK244.out 1
                  go_wp2_with (first|((with_reducible refine gate_callee (f := 49) rfl ?_);refine goesL_ (some 111) rfl rfl Try.func49 (by kernel_rfl) rfl #[.agg #[.slice Ao44 t264.length co44, .int .i64 t242], .int .i64 1] rfl (by (try simp only [List.map_toArray, List.map_cons, List.map_nil]);first|done|rfl|(simp only [List.length_drop, List.length_take];rfl)) ?_;(with_reducible refine (laws_heldPlane.calls kj123 _ _ t264 t242 1 t282 _ ?side1 ?side2 A171.out).mono ?_);(case side1 => repeat (first|exact (R_reads' HO_245000.out).2.2|(with_reducible refine C_alloc ?_ _)|(with_reducible refine C_drewN ?_ _)|(with_reducible refine C_drew ?_)));(case side2 => exact (R_reads' HO_245000.out).2.1);rintro e w191 ⟨rfl, hb⟩;refine ⟨_, rfl, ?_⟩;have n0_ := Aside0.mk (R_below (by (with_reducible repeat (first|apply R_alloc|apply R_drewN|apply R_drew));exact HO_229000.out) hb);have n1_ := Aside0.mk (S_below (by (with_reducible repeat (first|apply S_alloc|apply S_drewN|apply S_drew));exact HO_236000.out) hb);have n2_ := Aside0.mk (R_below (by (with_reducible repeat (first|apply R_alloc|apply R_drewN|apply R_drew));exact HO_236001.out) hb);have n3_ := Aside0.mk (R_below (by (with_reducible repeat (first|apply R_alloc|apply R_drewN|apply R_drew));exact HO_245000.out) hb);have n4_ := Aside0.mk (R_below (by (with_reducible repeat (first|apply R_alloc|apply R_drewN|apply R_drew));exact HO_281000.out) hb);have n5_ := Aside0.mk (blk_below (g := gb212) (o := .cells #[.slice A0_0 l0_0.length c0_0, .slice A0_1 l0_1.length c0_1] 34 (0, 0)) (by (with_reducible repeat (first|refine blk_drewN ?_ _|refine blk_drew ?_|refine blk_alloc ?_ _));exact BK212.out) hb);have n6_ := Aside0.mk (blk_below (g := gb228) (o := .cells #[.slice Ao28 t223.length co28, .int .i64 t226] 54 (0, 0)) (by (with_reducible repeat (first|refine blk_drewN ?_ _|refine blk_drew ?_|refine blk_alloc ?_ _));exact BK228.out) hb);have n7_ := Aside0.mk (blk_below (g := gb235) (o := .cells #[.slice Ao34 t258.length co34, .slice Ao38 t259.length co38] 38 (0, 0)) (by (with_reducible repeat (first|refine blk_drewN ?_ _|refine blk_drew ?_|refine blk_alloc ?_ _));exact BK235.out) hb);have n8_ := Aside0.mk (blk_below (g := gb244) (o := .cells #[.slice Ao44 t264.length co44, .int .i64 t242] 54 (0, 0)) (by (with_reducible repeat (first|refine blk_drewN ?_ _|refine blk_drew ?_|refine blk_alloc ?_ _));exact BK244.out) hb);have n9_ := Aside0.mk (blk_below (g := gb280) (o := .cells #[.slice Ao142 t275.length co142, .int .i64 t278] 54 (0, 0)) (by (with_reducible repeat (first|refine blk_drewN ?_ _|refine blk_drew ?_|refine blk_alloc ?_ _));exact BK280.out) hb);have n10_ := Aside0.mk (below_step (by repeat (first|(with_reducible first|exact HB.out|apply below_alloc|apply pw_below_drewN|apply below_drew1|refine below_set ?_ GE212.out|refine below_set ?_ GE228.out|refine below_set ?_ GE235.out|refine below_set ?_ GE244.out|refine below_set ?_ GE280.out)|exact HB.out)) hb);clear HO_229000;clear HO_236000;clear HO_236001;clear HO_245000;clear HO_281000;clear BK212;clear BK228;clear BK235;clear BK244;clear BK280;clear HB;have HO_229000 := n0_;have HO_236000 := n1_;have HO_236001 := n2_;have HO_245000 := n3_;have HO_281000 := n4_;have BK212 := n5_;have BK228 := n6_;have BK235 := n7_;have BK244 := n8_;have BK280 := n9_;have HB := n10_;clear n0_ n1_ n2_ n3_ n4_ n5_ n6_ n7_ n8_ n9_ n10_;(try clear hb);(try clear hb2);(try clear hk);(try clear hi)))
                  go_ret
                  exact ⟨by first|rfl|(simp [errW_none, errW_some] <;> rfl)|(simp [*, errW_none, errW_some] <;> rfl), by repeat (first|(with_reducible first|exact HB.out|apply below_alloc|apply pw_below_drewN|apply below_drew1|refine below_set ?_ GE212.out|refine below_set ?_ GE228.out|refine below_set ?_ GE235.out|refine below_set ?_ GE244.out|refine below_set ?_ GE280.out)|exact HB.out)⟩
            ·rw [if_neg c120] at H
             have c120b0 : (t265 == t263) = false := beq_eq_false_iff_ne.mpr c120
             have c120b1 : (t265 != t263) = true := bne_iff_ne.mpr c120
             obtain rfl := Option.some.inj H
             have hnb192 := NB244_212.out
             have hnc192 := NB212_244.out
             have hnb193 := NB244_228.out
             have hnc193 := NB228_244.out
             have hnb194 := NB244_235.out
             have hnc194 := NB235_244.out
             have hcz195_0 : wc.cell? ⟨gb244, 0, none⟩ = some (.slice Ao44 t239.length co44) := (blk_cell BK244.out 0).trans rfl
             have hcz195_1 : wc.cell? ⟨gb244, 1, none⟩ = some (.int .i64 t242) := (blk_cell BK244.out 1).trans rfl
             have hfz195_0 := blk_frozen BK244.out 0
             have hfz195_1 := blk_frozen BK244.out 1
             go_wp2_with (first|((with_reducible refine gate_callee (f := 48) rfl ?_);refine goesL_ (some 83) rfl rfl Try.func48 (by kernel_rfl) rfl #[.agg #[.slice Ao44 t239.length co44, .int .i64 t242], .int .i64 1] rfl (by (try simp only [List.map_toArray, List.map_cons, List.map_nil]);first|done|rfl|(simp only [List.length_drop, List.length_take];rfl)) ?_;(with_reducible refine (laws_markPlane.calls kj75 (fun k_ => some k_ = (.slice Ao44 t239.length co44 : Value).ownBlock) (.slice Ao44 t239.length co44) t239 t242 1 t263 t264 w _ ?side1 ?side2 A110.out).mono ?_);(case side1 => repeat (first|(with_reducible first|exact HB.out|apply below_alloc|apply pw_below_drewN|apply below_drew1|refine below_set ?_ GE212.out|refine below_set ?_ GE228.out|refine below_set ?_ GE235.out|refine below_set ?_ GE244.out)|exact HB.out));(case side2 => exact R_tight rfl HO_245000.out);rintro e w196 ⟨rfl, hy0, hb, hkp⟩;refine ⟨_, rfl, ?_⟩;have n0_ := Aside0.mk (R_mono (ok' := fun k_ => some k_ ≠ (.slice Ao38 t259.length co38 : Value).ownBlock ∧ some k_ ≠ (.slice Ao44 t239.length co44 : Value).ownBlock) (R_keptB (HO_229000.out) hkp (fun k_ hk_ hs_ => (hk_.2) hs_)) (fun k_ hk_ => by first|exact ⟨hk_.1.1, hk_.1.2⟩|grind));have n1_ := Aside0.mk (S_mono (ok' := fun k_ => some k_ ≠ (.slice Ao28 t223.length co28 : Value).ownBlock ∧ some k_ ≠ (.slice Ao38 t259.length co38 : Value).ownBlock ∧ some k_ ≠ (.slice Ao44 t239.length co44 : Value).ownBlock) (S_keptB (HO_236000.out) hkp (fun k_ hk_ hs_ => (hk_.2.2) hs_)) (fun k_ hk_ => by first|exact ⟨hk_.1.1, hk_.1.2.1, hk_.1.2.2⟩|grind));have n2_ := Aside0.mk (R_mono (ok' := fun k_ => some k_ ≠ (.slice Ao28 t223.length co28 : Value).ownBlock ∧ some k_ ≠ (.slice Ao44 t239.length co44 : Value).ownBlock) (R_keptB (HO_236001.out) hkp (fun k_ hk_ hs_ => (hk_.2) hs_)) (fun k_ hk_ => by first|exact ⟨hk_.1.1, hk_.1.2⟩|grind));have n3_ := Aside0.mk (R_reok rfl hy0 (fun k_ e_ => HO_245000.out.1 k_ e_));have n4_ := Aside0.mk (blk_kept (by (with_reducible repeat (first|refine blk_drewN ?_ _|refine blk_drew ?_|refine blk_alloc ?_ _));exact BK212.out) hkp (fun hs_ => (fun e_ => (R_ne HO_245000.out BK212.out (by decide)) e_) hs_));have n5_ := Aside0.mk (blk_kept (by (with_reducible repeat (first|refine blk_drewN ?_ _|refine blk_drew ?_|refine blk_alloc ?_ _));exact BK228.out) hkp (fun hs_ => (fun e_ => (R_ne HO_245000.out BK228.out (by decide)) e_) hs_));have n6_ := Aside0.mk (blk_kept (by (with_reducible repeat (first|refine blk_drewN ?_ _|refine blk_drew ?_|refine blk_alloc ?_ _));exact BK235.out) hkp (fun hs_ => (fun e_ => (R_ne HO_245000.out BK235.out (by decide)) e_) hs_));have n7_ := Aside0.mk (blk_kept (by (with_reducible repeat (first|refine blk_drewN ?_ _|refine blk_drew ?_|refine blk_alloc ?_ _));exact BK244.out) hkp (fun hs_ => (fun e_ => (R_ne HO_245000.out BK244.out (by decide)) e_) hs_));have n8_ := Aside0.mk (hb);clear HO_229000;clear HO_236000;clear HO_236001;clear HO_245000;clear BK212;clear BK228;clear BK235;clear BK244;clear HB;have HO_229000 := n0_;have HO_236000 := n1_;have HO_236001 := n2_;have HO_245000 := n3_;have BK212 := n4_;have BK228 := n5_;have BK235 := n6_;have BK244 := n7_;have HB := n8_;clear n0_ n1_ n2_ n3_ n4_ n5_ n6_ n7_ n8_;(try clear hb);(try clear hkp);(try clear hy0);have hcz197_0 : w196.cell? ⟨gb244, 0, none⟩ = some (.slice Ao44 t239.length co44) := (blk_cell BK244.out 0).trans rfl;have hcz197_1 : w196.cell? ⟨gb244, 1, none⟩ = some (.int .i64 t242) := (blk_cell BK244.out 1).trans rfl;have hfz197_0 := blk_frozen BK244.out 0;have hfz197_1 := blk_frozen BK244.out 1)|((with_reducible refine gate_callee (f := 49) rfl ?_);refine goesL_ (some 86) rfl rfl Try.func49 (by kernel_rfl) rfl #[.agg #[.slice Ao44 t264.length co44, .int .i64 t242], .int .i64 1] rfl (by (try simp only [List.map_toArray, List.map_cons, List.map_nil]);first|done|(rw [show t264.length = t239.length from (R_reads' HO_245000.out).1.symm] <;> rfl)|rfl|(simp only [List.length_drop, List.length_take];rfl)) ?_;(with_reducible refine (laws_heldPlane.calls kj75 _ _ t264 t242 1 t265 _ ?side1 ?side2 A111.out).mono ?_);(case side1 => repeat (first|exact (R_reads' HO_245000.out).2.2|(with_reducible refine C_alloc ?_ _)|(with_reducible refine C_drewN ?_ _)|(with_reducible refine C_drew ?_)));(case side2 => rw [show t264.length = t239.length from (R_reads' HO_245000.out).1.symm];exact (R_reads' HO_245000.out).2.1);rintro e w198 ⟨rfl, hb⟩;refine ⟨_, rfl, ?_⟩;have n0_ := Aside0.mk (R_below (by (with_reducible repeat (first|apply R_alloc|apply R_drewN|apply R_drew));exact HO_229000.out) hb);have n1_ := Aside0.mk (S_below (by (with_reducible repeat (first|apply S_alloc|apply S_drewN|apply S_drew));exact HO_236000.out) hb);have n2_ := Aside0.mk (R_below (by (with_reducible repeat (first|apply R_alloc|apply R_drewN|apply R_drew));exact HO_236001.out) hb);have n3_ := Aside0.mk (R_below (by (with_reducible repeat (first|apply R_alloc|apply R_drewN|apply R_drew));exact HO_245000.out) hb);have n4_ := Aside0.mk (blk_below (g := gb212) (o := .cells #[.slice A0_0 l0_0.length c0_0, .slice A0_1 l0_1.length c0_1] 34 (0, 0)) (by (with_reducible repeat (first|refine blk_drewN ?_ _|refine blk_drew ?_|refine blk_alloc ?_ _));exact BK212.out) hb);have n5_ := Aside0.mk (blk_below (g := gb228) (o := .cells #[.slice Ao28 t223.length co28, .int .i64 t226] 54 (0, 0)) (by (with_reducible repeat (first|refine blk_drewN ?_ _|refine blk_drew ?_|refine blk_alloc ?_ _));exact BK228.out) hb);have n6_ := Aside0.mk (blk_below (g := gb235) (o := .cells #[.slice Ao34 t258.length co34, .slice Ao38 t259.length co38] 38 (0, 0)) (by (with_reducible repeat (first|refine blk_drewN ?_ _|refine blk_drew ?_|refine blk_alloc ?_ _));exact BK235.out) hb);have n7_ := Aside0.mk (blk_below (g := gb244) (o := .cells #[.slice Ao44 t239.length co44, .int .i64 t242] 54 (0, 0)) (by (with_reducible repeat (first|refine blk_drewN ?_ _|refine blk_drew ?_|refine blk_alloc ?_ _));exact BK244.out) hb);have n8_ := Aside0.mk (below_step (by repeat (first|(with_reducible first|exact HB.out|apply below_alloc|apply pw_below_drewN|apply below_drew1|refine below_set ?_ GE212.out|refine below_set ?_ GE228.out|refine below_set ?_ GE235.out|refine below_set ?_ GE244.out)|exact HB.out)) hb);clear HO_229000;clear HO_236000;clear HO_236001;clear HO_245000;clear BK212;clear BK228;clear BK235;clear BK244;clear HB;have HO_229000 := n0_;have HO_236000 := n1_;have HO_236001 := n2_;have HO_245000 := n3_;have BK212 := n4_;have BK228 := n5_;have BK235 := n6_;have BK244 := n7_;have HB := n8_;clear n0_ n1_ n2_ n3_ n4_ n5_ n6_ n7_ n8_;(try clear hb);(try clear hb2);(try clear hk);(try clear hi)))
             go_ret
             exact ⟨by first|rfl|(simp [errW_none, errW_some] <;> rfl)|(simp [*, errW_none, errW_some] <;> rfl), by repeat (first|(with_reducible first|exact HB.out|apply below_alloc|apply pw_below_drewN|apply below_drew1|refine below_set ?_ GE212.out|refine below_set ?_ GE228.out|refine below_set ?_ GE235.out|refine below_set ?_ GE244.out)|exact HB.out)⟩
       ·replace c73 := Bool.eq_false_iff.mpr c73
        subst c73
        have H1 : (some false) = some r := by rw [if_neg (show ¬ (false = true) by decide)] at H;exact H
        clear H
        have H := H1
        clear H1
        obtain rfl := Option.some.inj H
        try go_wp2
        have n0_ := Aside0.mk (R_drew HO_9.out)
        have n1_ := Aside0.mk (R_drew HO_229000.out)
        have n2_ := Aside0.mk (S_drew HO_236000.out)
        have n3_ := Aside0.mk (R_drew HO_236001.out)
        have n4_ := Aside0.mk (R_drew HO_245000.out)
        have n5_ := Aside0.mk (blk_drew BK212.out)
        have n6_ := Aside0.mk (blk_drew BK228.out)
        have n7_ := Aside0.mk (blk_drew BK235.out)
        have n8_ := Aside0.mk (blk_drew BK244.out)
        have n9_ := Aside0.mk (below_drew1 HB.out)
        clear HO_9
        clear HO_229000
        clear HO_236000
        clear HO_236001
        clear HO_245000
        clear BK212
        clear BK228
        clear BK235
        clear BK244
        clear HB
        have HO_9 := n0_
        have HO_229000 := n1_
        have HO_236000 := n2_
        have HO_236001 := n3_
        have HO_245000 := n4_
        have BK212 := n5_
        have BK228 := n6_
        have BK235 := n7_
        have BK244 := n8_
        have HB := n9_
        clear n0_ n1_ n2_ n3_ n4_ n5_ n6_ n7_ n8_ n9_
        refine start_ (n := 5) (S := fun w' => w'.cell? ⟨gb235, 0, none⟩ = some (.slice Ao34 t229.length co34) ∧ w'.cell? ⟨gb235, 1, none⟩ = some (.slice Ao38 t232.length co38) ∧ w'.cell? ⟨gb212, 0, none⟩ = some (.slice A0_0 l0_0.length c0_0) ∧ w'.cell? ⟨gb212, 1, none⟩ = some (.slice A0_1 l0_1.length c0_1)) (ds := []) #[false, false, false, false, false] (by kernel_rfl) rfl rfl ⟨(blk_cell BK235.out 0).trans rfl, (blk_cell BK235.out 1).trans rfl, (blk_cell BK212.out 0).trans rfl, (blk_cell BK212.out 1).trans rfl⟩ (fun hHeld => ?_)
        generalize wc.drew = w199 at HO_9 HO_229000 HO_236000 HO_236001 HO_245000 BK212 BK228 BK235 BK244 HB hHeld ⊢
        refine take_ (i := 0) (N := some 52) (v := ?_) (a' := ?_) #[true, false, false, false, false] rfl rfl (by kernel_rfl) (fun _ _ _ h => h) (Or.inl ⟨by rfl, ?_⟩) hHeld ?_ ?_
        rotate_left
        ·rintro w' ⟨s0, s1, s2, s3⟩
         go_simp
         with_reducible rfl
        rotate_left
        ·simp only [Act.put, List.setIfInBounds_toArray, List.set_cons_zero, List.set_cons_succ, i64_w, i32_w]
         rfl
        refine take_ (i := 1) (N := some 53) (v := ?_) (a' := ?_) #[true, true, false, false, false] rfl rfl (by kernel_rfl) (fun _ _ _ h => h) (Or.inl ⟨by rfl, ?_⟩) hHeld ?_ ?_
        rotate_left
        ·rintro w' ⟨s0, s1, s2, s3⟩
         go_simp
         with_reducible rfl
        rotate_left
        ·simp only [Act.put, List.setIfInBounds_toArray, List.set_cons_zero, List.set_cons_succ, i64_w, i32_w]
         rfl
        refine one_ (i := 2) (N := some 54) #[true, true, true, false, false] rfl rfl (by kernel_rfl) (by decide) (fun K hK => ?_)
        refine goes_ Try.func27 (by kernel_rfl) rfl #[.agg #[.slice A0_0 l0_0.length c0_0, .slice A0_1 l0_1.length c0_1]] (by rfl) rfl rfl (by (try simp only [List.map_toArray, List.map_cons, List.map_nil]);first|done|rfl|(simp only [List.length_drop, List.length_take];rfl)) ?_
        with_reducible refine (laws_toSample.calls kj15 _ _ l0_0 _ _ l0_1 t246 t249 _ ?side1 ?side2 ?side3 ?side4 A68.out).mono ?_
        (case side1 => repeat (first|exact (C_below HR0_0.out HB.out)|(with_reducible refine C_alloc ?_ _)|(with_reducible refine C_drewN ?_ _)|(with_reducible refine C_drew ?_)))
        (case side2 => exact HC0_0.out)
        (case side3 => repeat (first|exact (C_below HR0_1.out HB.out)|(with_reducible refine C_alloc ?_ _)|(with_reducible refine C_drewN ?_ _)|(with_reducible refine C_drew ?_)))
        (case side4 => exact HC0_1.out)
        rintro e w200 ⟨v247, v250, rfl, ho0, ho1, hb⟩
        refine ⟨_, rfl, ?_⟩
        have n0_ := Aside0.mk (R_elder' (by (with_reducible repeat (first|apply R_alloc|apply R_drewN|apply R_drew));exact HO_9.out) (R_base ho1) hb)
        have n1_ := Aside0.mk (R_elder' (by (with_reducible repeat (first|apply R_alloc|apply R_drewN|apply R_drew));exact HO_229000.out) (R_base ho1) hb)
        have n2_ := Aside0.mk (S_mono (S_told (S_told (S_old (by (with_reducible repeat (first|apply S_alloc|apply S_drewN|apply S_drew));exact HO_236000.out) hb) (S_base ho0)) (R_base ho1)) (fun _ h_ => h_.1))
        have n3_ := Aside0.mk (R_elder' (by (with_reducible repeat (first|apply R_alloc|apply R_drewN|apply R_drew));exact HO_236001.out) (R_base ho1) hb)
        have n4_ := Aside0.mk (R_elder' (by (with_reducible repeat (first|apply R_alloc|apply R_drewN|apply R_drew));exact HO_245000.out) (R_base ho1) hb)
        have n5_ := Aside0.mk (S_lower (S_new' (S_new' (S_new' (S_new' (S_new' ho0 (R_lt (by (with_reducible repeat (first|apply R_alloc|apply R_drewN|apply R_drew));exact HO_9.out))) (R_lt (by (with_reducible repeat (first|apply R_alloc|apply R_drewN|apply R_drew));exact HO_229000.out))) (S_lt (by (with_reducible repeat (first|apply S_alloc|apply S_drewN|apply S_drew));exact HO_236000.out))) (R_lt (by (with_reducible repeat (first|apply R_alloc|apply R_drewN|apply R_drew));exact HO_236001.out))) (R_lt (by (with_reducible repeat (first|apply R_alloc|apply R_drewN|apply R_drew));exact HO_245000.out))) (below_size (by repeat (first|(with_reducible first|exact HB.out|apply below_alloc|apply pw_below_drewN|apply below_drew1|refine below_set ?_ GE212.out|refine below_set ?_ GE228.out|refine below_set ?_ GE235.out|refine below_set ?_ GE244.out)|exact HB.out))))
        have n6_ := Aside0.mk (R_lower (R_new' (R_new' (R_new' (R_new' ho1 (R_lt (by (with_reducible repeat (first|apply R_alloc|apply R_drewN|apply R_drew));exact HO_9.out))) (R_lt (by (with_reducible repeat (first|apply R_alloc|apply R_drewN|apply R_drew));exact HO_229000.out))) (R_lt (by (with_reducible repeat (first|apply R_alloc|apply R_drewN|apply R_drew));exact HO_236001.out))) (R_lt (by (with_reducible repeat (first|apply R_alloc|apply R_drewN|apply R_drew));exact HO_245000.out))) (below_size (by repeat (first|(with_reducible first|exact HB.out|apply below_alloc|apply pw_below_drewN|apply below_drew1|refine below_set ?_ GE212.out|refine below_set ?_ GE228.out|refine below_set ?_ GE235.out|refine below_set ?_ GE244.out)|exact HB.out))))
        have n7_ := Aside0.mk (blk_below (g := gb212) (o := .cells #[.slice A0_0 l0_0.length c0_0, .slice A0_1 l0_1.length c0_1] 34 (0, 0)) (by (with_reducible repeat (first|refine blk_drewN ?_ _|refine blk_drew ?_|refine blk_alloc ?_ _));exact BK212.out) hb)
        have n8_ := Aside0.mk (blk_below (g := gb228) (o := .cells #[.slice Ao28 t223.length co28, .int .i64 t226] 54 (0, 0)) (by (with_reducible repeat (first|refine blk_drewN ?_ _|refine blk_drew ?_|refine blk_alloc ?_ _));exact BK228.out) hb)
        have n9_ := Aside0.mk (blk_below (g := gb235) (o := .cells #[.slice Ao34 t229.length co34, .slice Ao38 t232.length co38] 38 (0, 0)) (by (with_reducible repeat (first|refine blk_drewN ?_ _|refine blk_drew ?_|refine blk_alloc ?_ _));exact BK235.out) hb)
        have n10_ := Aside0.mk (blk_below (g := gb244) (o := .cells #[.slice Ao44 t239.length co44, .int .i64 t242] 54 (0, 0)) (by (with_reducible repeat (first|refine blk_drewN ?_ _|refine blk_drew ?_|refine blk_alloc ?_ _));exact BK244.out) hb)
        have n11_ := Aside0.mk (below_step (by repeat (first|(with_reducible first|exact HB.out|apply below_alloc|apply pw_below_drewN|apply below_drew1|refine below_set ?_ GE212.out|refine below_set ?_ GE228.out|refine below_set ?_ GE235.out|refine below_set ?_ GE244.out)|exact HB.out)) hb)
        clear HO_9
        clear HO_229000
        clear HO_236000
        clear HO_236001
        clear HO_245000
        clear BK212
        clear BK228
        clear BK235
        clear BK244
        clear HB
        have HO_9 := n0_
        have HO_229000 := n1_
        have HO_236000 := n2_
        have HO_236001 := n3_
        have HO_245000 := n4_
        have HO248 := n5_
        have HO251 := n6_
        have BK212 := n7_
        have BK228 := n8_
        have BK235 := n9_
        have BK244 := n10_
        have HB := n11_
        clear n0_ n1_ n2_ n3_ n4_ n5_ n6_ n7_ n8_ n9_ n10_ n11_
        (try clear hb)
        (try clear hb2)
        (try clear hk)
        (try clear hi)
        (try clear ho0)
        (try clear ho1)
        obtain ⟨Ao201, co201, eo201⟩ := S_slice HO248.out
        (first|subst eo201|(injection eo201 with f1_ f2_ f3_;have f4_ := f1_.symm;have f5_ := f3_.symm;clear f1_ f2_ f3_;subst f4_;subst f5_))
        obtain ⟨Ao202, co202, eo202⟩ := R_slice HO251.out
        (first|subst eo202|(injection eo202 with f1_ f2_ f3_;have f4_ := f1_.symm;have f5_ := f3_.symm;clear f1_ f2_ f3_;subst f4_;subst f5_))
        refine hK.out _ _ ⟨(blk_cell BK235.out 0).trans rfl, (blk_cell BK235.out 1).trans rfl, (blk_cell BK212.out 0).trans rfl, (blk_cell BK212.out 1).trans rfl⟩ (fun hHeld => ?_)
        clear hK K
        refine norm_ (a' := ?_) ?_ ?_
        rotate_left
        ·show Act.put _ (some 54) _ = _
         simp only [Act.put, List.setIfInBounds_toArray, List.set_cons_zero, List.set_cons_succ, i64_w, i32_w]
         rfl
        refine one_ (i := 3) (N := some 55) #[true, true, true, true, false] rfl rfl (by kernel_rfl) (by decide) (fun K hK => ?_)
        refine goes_ Try.func29 (by kernel_rfl) rfl #[.agg #[.slice Ao34 t229.length co34, .slice Ao38 t232.length co38], .agg #[.slice Ao201 t246.length co201, .slice Ao202 t249.length co202]] (by rfl) rfl rfl (by (try simp only [List.map_toArray, List.map_cons, List.map_nil]);first|done|rfl|(simp only [List.length_drop, List.length_take];rfl)) ?_
        with_reducible refine (laws_eqSample.calls kj15 _ _ t229 _ _ t232 _ _ t246 _ _ t249 true _ ?side1 ?side2 ?side3 ?side4 ?side5 ?side6 ?side7 ?side8 A69.out).mono ?_
        (case side1 => repeat (first|exact (S_reads' HO_236000.out).2.2|(with_reducible refine C_alloc ?_ _)|(with_reducible refine C_drewN ?_ _)|(with_reducible refine C_drew ?_)))
        (case side2 => exact (S_reads' HO_236000.out).2.1)
        (case side3 => repeat (first|exact (R_reads' HO_236001.out).2.2|(with_reducible refine C_alloc ?_ _)|(with_reducible refine C_drewN ?_ _)|(with_reducible refine C_drew ?_)))
        (case side4 => exact (R_reads' HO_236001.out).2.1)
        (case side5 => repeat (first|exact (S_reads' HO248.out).2.2|(with_reducible refine C_alloc ?_ _)|(with_reducible refine C_drewN ?_ _)|(with_reducible refine C_drew ?_)))
        (case side6 => exact (S_reads' HO248.out).2.1)
        (case side7 => repeat (first|exact (R_reads' HO251.out).2.2|(with_reducible refine C_alloc ?_ _)|(with_reducible refine C_drewN ?_ _)|(with_reducible refine C_drew ?_)))
        (case side8 => exact (R_reads' HO251.out).2.1)
        rintro e w203 ⟨rfl, hb⟩
        refine ⟨_, rfl, ?_⟩
        have n0_ := Aside0.mk (R_below (by (with_reducible repeat (first|apply R_alloc|apply R_drewN|apply R_drew));exact HO_9.out) hb)
        have n1_ := Aside0.mk (R_below (by (with_reducible repeat (first|apply R_alloc|apply R_drewN|apply R_drew));exact HO_229000.out) hb)
        have n2_ := Aside0.mk (S_below (by (with_reducible repeat (first|apply S_alloc|apply S_drewN|apply S_drew));exact HO_236000.out) hb)
        have n3_ := Aside0.mk (R_below (by (with_reducible repeat (first|apply R_alloc|apply R_drewN|apply R_drew));exact HO_236001.out) hb)
        have n4_ := Aside0.mk (R_below (by (with_reducible repeat (first|apply R_alloc|apply R_drewN|apply R_drew));exact HO_245000.out) hb)
        have n5_ := Aside0.mk (S_below (by (with_reducible repeat (first|apply S_alloc|apply S_drewN|apply S_drew));exact HO248.out) hb)
        have n6_ := Aside0.mk (R_below (by (with_reducible repeat (first|apply R_alloc|apply R_drewN|apply R_drew));exact HO251.out) hb)
        have n7_ := Aside0.mk (blk_below (g := gb212) (o := .cells #[.slice A0_0 l0_0.length c0_0, .slice A0_1 l0_1.length c0_1] 34 (0, 0)) (by (with_reducible repeat (first|refine blk_drewN ?_ _|refine blk_drew ?_|refine blk_alloc ?_ _));exact BK212.out) hb)
        have n8_ := Aside0.mk (blk_below (g := gb228) (o := .cells #[.slice Ao28 t223.length co28, .int .i64 t226] 54 (0, 0)) (by (with_reducible repeat (first|refine blk_drewN ?_ _|refine blk_drew ?_|refine blk_alloc ?_ _));exact BK228.out) hb)
        have n9_ := Aside0.mk (blk_below (g := gb235) (o := .cells #[.slice Ao34 t229.length co34, .slice Ao38 t232.length co38] 38 (0, 0)) (by (with_reducible repeat (first|refine blk_drewN ?_ _|refine blk_drew ?_|refine blk_alloc ?_ _));exact BK235.out) hb)
        have n10_ := Aside0.mk (blk_below (g := gb244) (o := .cells #[.slice Ao44 t239.length co44, .int .i64 t242] 54 (0, 0)) (by (with_reducible repeat (first|refine blk_drewN ?_ _|refine blk_drew ?_|refine blk_alloc ?_ _));exact BK244.out) hb)
        have n11_ := Aside0.mk (below_step (by repeat (first|(with_reducible first|exact HB.out|apply below_alloc|apply pw_below_drewN|apply below_drew1|refine below_set ?_ GE212.out|refine below_set ?_ GE228.out|refine below_set ?_ GE235.out|refine below_set ?_ GE244.out)|exact HB.out)) hb)
        clear HO_9
        clear HO_229000
        clear HO_236000
        clear HO_236001
        clear HO_245000
        clear HO248
        clear HO251
        clear BK212
        clear BK228
        clear BK235
        clear BK244
        clear HB
        have HO_9 := n0_
        have HO_229000 := n1_
        have HO_236000 := n2_
        have HO_236001 := n3_
        have HO_245000 := n4_
        have HO248 := n5_
        have HO251 := n6_
        have BK212 := n7_
        have BK228 := n8_
        have BK235 := n9_
        have BK244 := n10_
        have HB := n11_
        clear n0_ n1_ n2_ n3_ n4_ n5_ n6_ n7_ n8_ n9_ n10_ n11_
        (try clear hb)
        (try clear hb2)
        (try clear hk)
        (try clear hi)
        refine hK.out _ _ ⟨(blk_cell BK235.out 0).trans rfl, (blk_cell BK235.out 1).trans rfl, (blk_cell BK212.out 0).trans rfl, (blk_cell BK212.out 1).trans rfl⟩ (fun hHeld => ?_)
        clear hK K
        refine norm_ (a' := ?_) ?_ ?_
        rotate_left
        ·show Act.put _ (some 55) _ = _
         simp only [Act.put, List.setIfInBounds_toArray, List.set_cons_zero, List.set_cons_succ, i64_w, i32_w]
         rfl
        refine pure_ (i := 4) (N := some 56) (v := ?_) (a' := ?_) #[true, true, true, true, true] rfl rfl (by kernel_rfl) (fun _ _ _ h => h) (Or.inl ⟨by rfl, ?_⟩) ?_ ?_
        rotate_left
        ·intro w'
         go_simp
         with_reducible rfl
        rotate_left
        ·simp only [Act.put, List.setIfInBounds_toArray, List.set_cons_zero, List.set_cons_succ, i64_w, i32_w]
         rfl
        refine done_ (by kernel_rfl) ?_
        try go_wp2_with (first|((with_reducible refine gate_callee (f := 18) rfl ?_);refine goesL_ (some 59) rfl rfl Try.func18 (by kernel_rfl) rfl #[.slice A1 l1.length c1] rfl (by (try simp only [List.map_toArray, List.map_cons, List.map_nil]);first|done|rfl|(simp only [List.length_drop, List.length_take];rfl)) ?_;(with_reducible refine (laws_toIntS.calls kj15 _ _ l1 t253 _ ?side1 ?side2 A71.out).mono ?_);(case side1 => repeat (first|exact (C_below HR1.out HB.out)|(with_reducible refine C_alloc ?_ _)|(with_reducible refine C_drewN ?_ _)|(with_reducible refine C_drew ?_)));(case side2 => exact HC1.out);rintro e w204 ⟨v254, rfl, ho0, hb⟩;refine ⟨_, rfl, ?_⟩;have n0_ := Aside0.mk (R_elder' (by (with_reducible repeat (first|apply R_alloc|apply R_drewN|apply R_drew));exact HO_9.out) (R_base ho0) hb);have n1_ := Aside0.mk (R_elder' (by (with_reducible repeat (first|apply R_alloc|apply R_drewN|apply R_drew));exact HO_229000.out) (R_base ho0) hb);have n2_ := Aside0.mk (S_elder' (by (with_reducible repeat (first|apply S_alloc|apply S_drewN|apply S_drew));exact HO_236000.out) (R_base ho0) hb);have n3_ := Aside0.mk (R_elder' (by (with_reducible repeat (first|apply R_alloc|apply R_drewN|apply R_drew));exact HO_236001.out) (R_base ho0) hb);have n4_ := Aside0.mk (R_elder' (by (with_reducible repeat (first|apply R_alloc|apply R_drewN|apply R_drew));exact HO_245000.out) (R_base ho0) hb);have n5_ := Aside0.mk (S_elder' (by (with_reducible repeat (first|apply S_alloc|apply S_drewN|apply S_drew));exact HO248.out) (R_base ho0) hb);have n6_ := Aside0.mk (R_elder' (by (with_reducible repeat (first|apply R_alloc|apply R_drewN|apply R_drew));exact HO251.out) (R_base ho0) hb);have n7_ := Aside0.mk (R_lower (R_new' (R_new' (R_new' (R_new' (R_new' ho0 (R_lt (by (with_reducible repeat (first|apply R_alloc|apply R_drewN|apply R_drew));exact HO_9.out))) (R_lt (by (with_reducible repeat (first|apply R_alloc|apply R_drewN|apply R_drew));exact HO_229000.out))) (R_lt (by (with_reducible repeat (first|apply R_alloc|apply R_drewN|apply R_drew));exact HO_236001.out))) (R_lt (by (with_reducible repeat (first|apply R_alloc|apply R_drewN|apply R_drew));exact HO_245000.out))) (R_lt (by (with_reducible repeat (first|apply R_alloc|apply R_drewN|apply R_drew));exact HO251.out))) (below_size (by repeat (first|(with_reducible first|exact HB.out|apply below_alloc|apply pw_below_drewN|apply below_drew1|refine below_set ?_ GE212.out|refine below_set ?_ GE228.out|refine below_set ?_ GE235.out|refine below_set ?_ GE244.out)|exact HB.out))));have n8_ := Aside0.mk (blk_below (g := gb212) (o := .cells #[.slice A0_0 l0_0.length c0_0, .slice A0_1 l0_1.length c0_1] 34 (0, 0)) (by (with_reducible repeat (first|refine blk_drewN ?_ _|refine blk_drew ?_|refine blk_alloc ?_ _));exact BK212.out) hb);have n9_ := Aside0.mk (blk_below (g := gb228) (o := .cells #[.slice Ao28 t223.length co28, .int .i64 t226] 54 (0, 0)) (by (with_reducible repeat (first|refine blk_drewN ?_ _|refine blk_drew ?_|refine blk_alloc ?_ _));exact BK228.out) hb);have n10_ := Aside0.mk (blk_below (g := gb235) (o := .cells #[.slice Ao34 t229.length co34, .slice Ao38 t232.length co38] 38 (0, 0)) (by (with_reducible repeat (first|refine blk_drewN ?_ _|refine blk_drew ?_|refine blk_alloc ?_ _));exact BK235.out) hb);have n11_ := Aside0.mk (blk_below (g := gb244) (o := .cells #[.slice Ao44 t239.length co44, .int .i64 t242] 54 (0, 0)) (by (with_reducible repeat (first|refine blk_drewN ?_ _|refine blk_drew ?_|refine blk_alloc ?_ _));exact BK244.out) hb);have n12_ := Aside0.mk (below_step (by repeat (first|(with_reducible first|exact HB.out|apply below_alloc|apply pw_below_drewN|apply below_drew1|refine below_set ?_ GE212.out|refine below_set ?_ GE228.out|refine below_set ?_ GE235.out|refine below_set ?_ GE244.out)|exact HB.out)) hb);clear HO_9;clear HO_229000;clear HO_236000;clear HO_236001;clear HO_245000;clear HO248;clear HO251;clear BK212;clear BK228;clear BK235;clear BK244;clear HB;have HO_9 := n0_;have HO_229000 := n1_;have HO_236000 := n2_;have HO_236001 := n3_;have HO_245000 := n4_;have HO248 := n5_;have HO251 := n6_;have HO255 := n7_;have BK212 := n8_;have BK228 := n9_;have BK235 := n10_;have BK244 := n11_;have HB := n12_;clear n0_ n1_ n2_ n3_ n4_ n5_ n6_ n7_ n8_ n9_ n10_ n11_ n12_;(try clear hb);(try clear hb2);(try clear hk);(try clear hi);(try clear ho0);obtain ⟨Ao205, co205, eo205⟩ := R_slice HO255.out;subst eo205)|((with_reducible refine gate_callee (f := 20) rfl ?_);refine goesL_ (some 60) rfl rfl Try.func20 (by kernel_rfl) rfl #[.slice Ao41 t236.length co41, .slice Ao205 t253.length co205] rfl (by (try simp only [List.map_toArray, List.map_cons, List.map_nil]);first|done|rfl|(simp only [List.length_drop, List.length_take];rfl)) ?_;(with_reducible refine (laws_eqIntS.calls kj15 _ _ t236 _ _ t253 false _ ?side1 ?side2 ?side3 ?side4 A72.out).mono ?_);(case side1 => repeat (first|exact (R_reads' HO_9.out).2.2|(with_reducible refine C_alloc ?_ _)|(with_reducible refine C_drewN ?_ _)|(with_reducible refine C_drew ?_)));(case side2 => exact (R_reads' HO_9.out).2.1);(case side3 => repeat (first|exact (R_reads' HO255.out).2.2|(with_reducible refine C_alloc ?_ _)|(with_reducible refine C_drewN ?_ _)|(with_reducible refine C_drew ?_)));(case side4 => exact (R_reads' HO255.out).2.1);rintro e w' ⟨rfl, ⟨nd, rfl⟩⟩;refine ⟨_, rfl, ?_⟩))
        go_ret
        exact ⟨by first|rfl|(simp [errW_none, errW_some] <;> rfl)|(simp [*, errW_none, errW_some] <;> rfl), by repeat (first|(with_reducible first|exact HB.out|apply below_alloc|apply pw_below_drewN|apply below_drew1|refine below_set ?_ GE212.out|refine below_set ?_ GE228.out|refine below_set ?_ GE235.out|refine below_set ?_ GE244.out)|exact HB.out)⟩
      ·replace c70 := Bool.eq_false_iff.mpr c70
       subst c70
       have H1 : (some false) = some r := by rw [if_neg (show ¬ (false = true) by decide)] at H;exact H
       clear H
       have H := H1
       clear H1
       obtain rfl := Option.some.inj H
       try go_wp2
       have n0_ := Aside0.mk (R_drew HO_9.out)
       have n1_ := Aside0.mk (R_drew HO_229000.out)
       have n2_ := Aside0.mk (S_drew HO_236000.out)
       have n3_ := Aside0.mk (R_drew HO_236001.out)
       have n4_ := Aside0.mk (R_drew HO_245000.out)
       have n5_ := Aside0.mk (blk_drew BK212.out)
       have n6_ := Aside0.mk (blk_drew BK228.out)
       have n7_ := Aside0.mk (blk_drew BK235.out)
       have n8_ := Aside0.mk (blk_drew BK244.out)
       have n9_ := Aside0.mk (below_drew1 HB.out)
       clear HO_9
       clear HO_229000
       clear HO_236000
       clear HO_236001
       clear HO_245000
       clear BK212
       clear BK228
       clear BK235
       clear BK244
       clear HB
       have HO_9 := n0_
       have HO_229000 := n1_
       have HO_236000 := n2_
       have HO_236001 := n3_
       have HO_245000 := n4_
       have BK212 := n5_
       have BK228 := n6_
       have BK235 := n7_
       have BK244 := n8_
       have HB := n9_
       clear n0_ n1_ n2_ n3_ n4_ n5_ n6_ n7_ n8_ n9_
       refine start_ (n := 5) (S := fun w' => w'.cell? ⟨gb235, 0, none⟩ = some (.slice Ao34 t229.length co34) ∧ w'.cell? ⟨gb235, 1, none⟩ = some (.slice Ao38 t232.length co38) ∧ w'.cell? ⟨gb212, 0, none⟩ = some (.slice A0_0 l0_0.length c0_0) ∧ w'.cell? ⟨gb212, 1, none⟩ = some (.slice A0_1 l0_1.length c0_1)) (ds := []) #[false, false, false, false, false] (by kernel_rfl) rfl rfl ⟨(blk_cell BK235.out 0).trans rfl, (blk_cell BK235.out 1).trans rfl, (blk_cell BK212.out 0).trans rfl, (blk_cell BK212.out 1).trans rfl⟩ (fun hHeld => ?_)
       generalize wc.drew = w206 at HO_9 HO_229000 HO_236000 HO_236001 HO_245000 BK212 BK228 BK235 BK244 HB hHeld ⊢
       refine take_ (i := 0) (N := some 52) (v := ?_) (a' := ?_) #[true, false, false, false, false] rfl rfl (by kernel_rfl) (fun _ _ _ h => h) (Or.inl ⟨by rfl, ?_⟩) hHeld ?_ ?_
       rotate_left
       ·rintro w' ⟨s0, s1, s2, s3⟩
        go_simp
        with_reducible rfl
       rotate_left
       ·simp only [Act.put, List.setIfInBounds_toArray, List.set_cons_zero, List.set_cons_succ, i64_w, i32_w]
        rfl
       refine take_ (i := 1) (N := some 53) (v := ?_) (a' := ?_) #[true, true, false, false, false] rfl rfl (by kernel_rfl) (fun _ _ _ h => h) (Or.inl ⟨by rfl, ?_⟩) hHeld ?_ ?_
       rotate_left
       ·rintro w' ⟨s0, s1, s2, s3⟩
        go_simp
        with_reducible rfl
       rotate_left
       ·simp only [Act.put, List.setIfInBounds_toArray, List.set_cons_zero, List.set_cons_succ, i64_w, i32_w]
        rfl
       refine one_ (i := 2) (N := some 54) #[true, true, true, false, false] rfl rfl (by kernel_rfl) (by decide) (fun K hK => ?_)
       refine goes_ Try.func27 (by kernel_rfl) rfl #[.agg #[.slice A0_0 l0_0.length c0_0, .slice A0_1 l0_1.length c0_1]] (by rfl) rfl rfl (by (try simp only [List.map_toArray, List.map_cons, List.map_nil]);first|done|rfl|(simp only [List.length_drop, List.length_take];rfl)) ?_
       with_reducible refine (laws_toSample.calls kj15 _ _ l0_0 _ _ l0_1 t246 t249 _ ?side1 ?side2 ?side3 ?side4 A68.out).mono ?_
       (case side1 => repeat (first|exact (C_below HR0_0.out HB.out)|(with_reducible refine C_alloc ?_ _)|(with_reducible refine C_drewN ?_ _)|(with_reducible refine C_drew ?_)))
       (case side2 => exact HC0_0.out)
       (case side3 => repeat (first|exact (C_below HR0_1.out HB.out)|(with_reducible refine C_alloc ?_ _)|(with_reducible refine C_drewN ?_ _)|(with_reducible refine C_drew ?_)))
       (case side4 => exact HC0_1.out)
       rintro e w207 ⟨v247, v250, rfl, ho0, ho1, hb⟩
       refine ⟨_, rfl, ?_⟩
       have n0_ := Aside0.mk (R_elder' (by (with_reducible repeat (first|apply R_alloc|apply R_drewN|apply R_drew));exact HO_9.out) (R_base ho1) hb)
       have n1_ := Aside0.mk (R_elder' (by (with_reducible repeat (first|apply R_alloc|apply R_drewN|apply R_drew));exact HO_229000.out) (R_base ho1) hb)
       have n2_ := Aside0.mk (S_mono (S_told (S_told (S_old (by (with_reducible repeat (first|apply S_alloc|apply S_drewN|apply S_drew));exact HO_236000.out) hb) (S_base ho0)) (R_base ho1)) (fun _ h_ => h_.1))
       have n3_ := Aside0.mk (R_elder' (by (with_reducible repeat (first|apply R_alloc|apply R_drewN|apply R_drew));exact HO_236001.out) (R_base ho1) hb)
       have n4_ := Aside0.mk (R_elder' (by (with_reducible repeat (first|apply R_alloc|apply R_drewN|apply R_drew));exact HO_245000.out) (R_base ho1) hb)
       have n5_ := Aside0.mk (S_lower (S_new' (S_new' (S_new' (S_new' (S_new' ho0 (R_lt (by (with_reducible repeat (first|apply R_alloc|apply R_drewN|apply R_drew));exact HO_9.out))) (R_lt (by (with_reducible repeat (first|apply R_alloc|apply R_drewN|apply R_drew));exact HO_229000.out))) (S_lt (by (with_reducible repeat (first|apply S_alloc|apply S_drewN|apply S_drew));exact HO_236000.out))) (R_lt (by (with_reducible repeat (first|apply R_alloc|apply R_drewN|apply R_drew));exact HO_236001.out))) (R_lt (by (with_reducible repeat (first|apply R_alloc|apply R_drewN|apply R_drew));exact HO_245000.out))) (below_size (by repeat (first|(with_reducible first|exact HB.out|apply below_alloc|apply pw_below_drewN|apply below_drew1|refine below_set ?_ GE212.out|refine below_set ?_ GE228.out|refine below_set ?_ GE235.out|refine below_set ?_ GE244.out)|exact HB.out))))
       have n6_ := Aside0.mk (R_lower (R_new' (R_new' (R_new' (R_new' ho1 (R_lt (by (with_reducible repeat (first|apply R_alloc|apply R_drewN|apply R_drew));exact HO_9.out))) (R_lt (by (with_reducible repeat (first|apply R_alloc|apply R_drewN|apply R_drew));exact HO_229000.out))) (R_lt (by (with_reducible repeat (first|apply R_alloc|apply R_drewN|apply R_drew));exact HO_236001.out))) (R_lt (by (with_reducible repeat (first|apply R_alloc|apply R_drewN|apply R_drew));exact HO_245000.out))) (below_size (by repeat (first|(with_reducible first|exact HB.out|apply below_alloc|apply pw_below_drewN|apply below_drew1|refine below_set ?_ GE212.out|refine below_set ?_ GE228.out|refine below_set ?_ GE235.out|refine below_set ?_ GE244.out)|exact HB.out))))
       have n7_ := Aside0.mk (blk_below (g := gb212) (o := .cells #[.slice A0_0 l0_0.length c0_0, .slice A0_1 l0_1.length c0_1] 34 (0, 0)) (by (with_reducible repeat (first|refine blk_drewN ?_ _|refine blk_drew ?_|refine blk_alloc ?_ _));exact BK212.out) hb)
       have n8_ := Aside0.mk (blk_below (g := gb228) (o := .cells #[.slice Ao28 t223.length co28, .int .i64 t226] 54 (0, 0)) (by (with_reducible repeat (first|refine blk_drewN ?_ _|refine blk_drew ?_|refine blk_alloc ?_ _));exact BK228.out) hb)
       have n9_ := Aside0.mk (blk_below (g := gb235) (o := .cells #[.slice Ao34 t229.length co34, .slice Ao38 t232.length co38] 38 (0, 0)) (by (with_reducible repeat (first|refine blk_drewN ?_ _|refine blk_drew ?_|refine blk_alloc ?_ _));exact BK235.out) hb)
       have n10_ := Aside0.mk (blk_below (g := gb244) (o := .cells #[.slice Ao44 t239.length co44, .int .i64 t242] 54 (0, 0)) (by (with_reducible repeat (first|refine blk_drewN ?_ _|refine blk_drew ?_|refine blk_alloc ?_ _));exact BK244.out) hb)
       have n11_ := Aside0.mk (below_step (by repeat (first|(with_reducible first|exact HB.out|apply below_alloc|apply pw_below_drewN|apply below_drew1|refine below_set ?_ GE212.out|refine below_set ?_ GE228.out|refine below_set ?_ GE235.out|refine below_set ?_ GE244.out)|exact HB.out)) hb)
       clear HO_9
       clear HO_229000
       clear HO_236000
       clear HO_236001
       clear HO_245000
       clear BK212
       clear BK228
       clear BK235
       clear BK244
       clear HB
       have HO_9 := n0_
       have HO_229000 := n1_
       have HO_236000 := n2_
       have HO_236001 := n3_
       have HO_245000 := n4_
       have HO248 := n5_
       have HO251 := n6_
       have BK212 := n7_
       have BK228 := n8_
       have BK235 := n9_
       have BK244 := n10_
       have HB := n11_
       clear n0_ n1_ n2_ n3_ n4_ n5_ n6_ n7_ n8_ n9_ n10_ n11_
       (try clear hb)
       (try clear hb2)
       (try clear hk)
       (try clear hi)
       (try clear ho0)
       (try clear ho1)
       obtain ⟨Ao208, co208, eo208⟩ := S_slice HO248.out
       (first|subst eo208|(injection eo208 with f1_ f2_ f3_;have f4_ := f1_.symm;have f5_ := f3_.symm;clear f1_ f2_ f3_;subst f4_;subst f5_))
       obtain ⟨Ao209, co209, eo209⟩ := R_slice HO251.out
       (first|subst eo209|(injection eo209 with f1_ f2_ f3_;have f4_ := f1_.symm;have f5_ := f3_.symm;clear f1_ f2_ f3_;subst f4_;subst f5_))
       refine hK.out _ _ ⟨(blk_cell BK235.out 0).trans rfl, (blk_cell BK235.out 1).trans rfl, (blk_cell BK212.out 0).trans rfl, (blk_cell BK212.out 1).trans rfl⟩ (fun hHeld => ?_)
       clear hK K
       refine norm_ (a' := ?_) ?_ ?_
       rotate_left
       ·show Act.put _ (some 54) _ = _
        simp only [Act.put, List.setIfInBounds_toArray, List.set_cons_zero, List.set_cons_succ, i64_w, i32_w]
        rfl
       refine one_ (i := 3) (N := some 55) #[true, true, true, true, false] rfl rfl (by kernel_rfl) (by decide) (fun K hK => ?_)
       refine goes_ Try.func29 (by kernel_rfl) rfl #[.agg #[.slice Ao34 t229.length co34, .slice Ao38 t232.length co38], .agg #[.slice Ao208 t246.length co208, .slice Ao209 t249.length co209]] (by rfl) rfl rfl (by (try simp only [List.map_toArray, List.map_cons, List.map_nil]);first|done|rfl|(simp only [List.length_drop, List.length_take];rfl)) ?_
       with_reducible refine (laws_eqSample.calls kj15 _ _ t229 _ _ t232 _ _ t246 _ _ t249 false _ ?side1 ?side2 ?side3 ?side4 ?side5 ?side6 ?side7 ?side8 A69.out).mono ?_
       (case side1 => repeat (first|exact (S_reads' HO_236000.out).2.2|(with_reducible refine C_alloc ?_ _)|(with_reducible refine C_drewN ?_ _)|(with_reducible refine C_drew ?_)))
       (case side2 => exact (S_reads' HO_236000.out).2.1)
       (case side3 => repeat (first|exact (R_reads' HO_236001.out).2.2|(with_reducible refine C_alloc ?_ _)|(with_reducible refine C_drewN ?_ _)|(with_reducible refine C_drew ?_)))
       (case side4 => exact (R_reads' HO_236001.out).2.1)
       (case side5 => repeat (first|exact (S_reads' HO248.out).2.2|(with_reducible refine C_alloc ?_ _)|(with_reducible refine C_drewN ?_ _)|(with_reducible refine C_drew ?_)))
       (case side6 => exact (S_reads' HO248.out).2.1)
       (case side7 => repeat (first|exact (R_reads' HO251.out).2.2|(with_reducible refine C_alloc ?_ _)|(with_reducible refine C_drewN ?_ _)|(with_reducible refine C_drew ?_)))
       (case side8 => exact (R_reads' HO251.out).2.1)
       rintro e w210 ⟨rfl, hb⟩
       refine ⟨_, rfl, ?_⟩
       have n0_ := Aside0.mk (R_below (by (with_reducible repeat (first|apply R_alloc|apply R_drewN|apply R_drew));exact HO_9.out) hb)
       have n1_ := Aside0.mk (R_below (by (with_reducible repeat (first|apply R_alloc|apply R_drewN|apply R_drew));exact HO_229000.out) hb)
       have n2_ := Aside0.mk (S_below (by (with_reducible repeat (first|apply S_alloc|apply S_drewN|apply S_drew));exact HO_236000.out) hb)
       have n3_ := Aside0.mk (R_below (by (with_reducible repeat (first|apply R_alloc|apply R_drewN|apply R_drew));exact HO_236001.out) hb)
       have n4_ := Aside0.mk (R_below (by (with_reducible repeat (first|apply R_alloc|apply R_drewN|apply R_drew));exact HO_245000.out) hb)
       have n5_ := Aside0.mk (S_below (by (with_reducible repeat (first|apply S_alloc|apply S_drewN|apply S_drew));exact HO248.out) hb)
       have n6_ := Aside0.mk (R_below (by (with_reducible repeat (first|apply R_alloc|apply R_drewN|apply R_drew));exact HO251.out) hb)
       have n7_ := Aside0.mk (blk_below (g := gb212) (o := .cells #[.slice A0_0 l0_0.length c0_0, .slice A0_1 l0_1.length c0_1] 34 (0, 0)) (by (with_reducible repeat (first|refine blk_drewN ?_ _|refine blk_drew ?_|refine blk_alloc ?_ _));exact BK212.out) hb)
       have n8_ := Aside0.mk (blk_below (g := gb228) (o := .cells #[.slice Ao28 t223.length co28, .int .i64 t226] 54 (0, 0)) (by (with_reducible repeat (first|refine blk_drewN ?_ _|refine blk_drew ?_|refine blk_alloc ?_ _));exact BK228.out) hb)
       have n9_ := Aside0.mk (blk_below (g := gb235) (o := .cells #[.slice Ao34 t229.length co34, .slice Ao38 t232.length co38] 38 (0, 0)) (by (with_reducible repeat (first|refine blk_drewN ?_ _|refine blk_drew ?_|refine blk_alloc ?_ _));exact BK235.out) hb)
       have n10_ := Aside0.mk (blk_below (g := gb244) (o := .cells #[.slice Ao44 t239.length co44, .int .i64 t242] 54 (0, 0)) (by (with_reducible repeat (first|refine blk_drewN ?_ _|refine blk_drew ?_|refine blk_alloc ?_ _));exact BK244.out) hb)
       have n11_ := Aside0.mk (below_step (by repeat (first|(with_reducible first|exact HB.out|apply below_alloc|apply pw_below_drewN|apply below_drew1|refine below_set ?_ GE212.out|refine below_set ?_ GE228.out|refine below_set ?_ GE235.out|refine below_set ?_ GE244.out)|exact HB.out)) hb)
       clear HO_9
       clear HO_229000
       clear HO_236000
       clear HO_236001
       clear HO_245000
       clear HO248
       clear HO251
       clear BK212
       clear BK228
       clear BK235
       clear BK244
       clear HB
       have HO_9 := n0_
       have HO_229000 := n1_
       have HO_236000 := n2_
       have HO_236001 := n3_
       have HO_245000 := n4_
       have HO248 := n5_
       have HO251 := n6_
       have BK212 := n7_
       have BK228 := n8_
       have BK235 := n9_
       have BK244 := n10_
       have HB := n11_
       clear n0_ n1_ n2_ n3_ n4_ n5_ n6_ n7_ n8_ n9_ n10_ n11_
       (try clear hb)
       (try clear hb2)
       (try clear hk)
       (try clear hi)
       refine hK.out _ _ ⟨(blk_cell BK235.out 0).trans rfl, (blk_cell BK235.out 1).trans rfl, (blk_cell BK212.out 0).trans rfl, (blk_cell BK212.out 1).trans rfl⟩ (fun hHeld => ?_)
       clear hK K
       refine norm_ (a' := ?_) ?_ ?_
       rotate_left
       ·show Act.put _ (some 55) _ = _
        simp only [Act.put, List.setIfInBounds_toArray, List.set_cons_zero, List.set_cons_succ, i64_w, i32_w]
        rfl
       refine pure_ (i := 4) (N := some 56) (v := ?_) (a' := ?_) #[true, true, true, true, true] rfl rfl (by kernel_rfl) (fun _ _ _ h => h) (Or.inl ⟨by rfl, ?_⟩) ?_ ?_
       rotate_left
       ·intro w'
        go_simp
        with_reducible rfl
       rotate_left
       ·simp only [Act.put, List.setIfInBounds_toArray, List.set_cons_zero, List.set_cons_succ, i64_w, i32_w]
        rfl
       refine done_ (by kernel_rfl) ?_
       try go_wp2
       go_ret
       exact ⟨by first|rfl|(simp [errW_none, errW_some] <;> rfl)|(simp [*, errW_none, errW_some] <;> rfl), by repeat (first|(with_reducible first|exact HB.out|apply below_alloc|apply pw_below_drewN|apply below_drew1|refine below_set ?_ GE212.out|refine below_set ?_ GE228.out|refine below_set ?_ GE235.out|refine below_set ?_ GE244.out)|exact HB.out)⟩

end Go.Proofs.Ytgbgkifddjeabaa.QFnExactPlaneOfCounts
